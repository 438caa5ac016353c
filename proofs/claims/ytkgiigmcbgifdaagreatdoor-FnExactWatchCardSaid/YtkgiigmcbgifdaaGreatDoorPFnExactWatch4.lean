/-
  Parts of the proof, put together by program.
-/
import Derived.Test.YtkgiigmcbgifdaaGreatDoorPFnExactWatch3
set_option maxRecDepth 20000
set_option linter.defProp false
set_option linter.unusedVariables false
set_option linter.unusedSimpArgs false
set_option linter.unusedSectionVars false
open Go renaming Value→vL,World→wD,Program→pG
namespace Go.Proofs.YtkgiigmcbgifdaaGreatDoor
open Go Go.Sh Go.Proofs
open Rep (rep)
variable {W w:wD} {g hi i k lo q:Nat} {s:ByteArray} {v:vL}
def zrj (L:List DSign) (e:Int) (room:Nat) (st:RSt) (t:DTerm) (st':RSt):Prop:=
 match st with
 | .error f=>st'=.error f
 | .ok (i,q)=>match zej L e room i with
   | .error f=>st'=.error f
   | .ok (x,j)=>x=t/\st'=.ok (j,q)
def zgJ (W:wD) (g:Nat) (L:List DSign) (v:vL) (e:Int) (w:wD) (R:DTerm->RSt->Prop) (r:vL) (w':wD):Prop:=
 ChgI g (g+1) w w'/\∃ t st',RdG W g L v e st' w'/\OwnI w.heap.size w'.heap.size w' r t/\R t st'
def zB8 (room:Nat):Prop:=∀ {W w:wD} {g:Nat} {L:List DSign} {v:vL} {e:Int} {st:RSt} {d:Int},RdG W g L v e st w->(∀ i q,st=.ok (i,q)->d=(room:Int)) ->
 CALL tp 195 [.pointer (some ⟨g,0,none⟩),.int .i64 d] w (zgJ W g L v e w (zrj L e room st))
def tmC (k:Int) (vk:vL):List vL:=[.int .i64 k,.int .i64 0,.string nO,vk]
def zA6 (L:List DSign) (e:Int):Nat->Nat->Rd DTerm
 | 0=>λi=>.error (ftA L e 4 i)
 | r+1=>λi=>pIn L e (zej L e r) (i+1)
def zhI {L:List DSign} {e:Int} (room i:Nat):zej L e room i=zry L e (zA6 L e room) i:=by cases room<;>rfl
def zun (hk:k<10):CALL tp 185 [.int .i64 (k:Int)] w λr w'=>Ext w w'/\r=.string (signs9[k]'(by simpa [signs9] using hk)):=by
 refine co (g:=kf [] [] []) Tryz.func185 ?_;refine zA5 (l:=signs9) (vs:=signs9.map Value.string) u26 ty9 zlM dD kK rfl (λw=>zjJ dD) λ_ _ g0 g1=>zac (i:=k) u26 ty9 g1.is (by simpa [signs9] using hk) λ_ _ hA=>zaq ty9 hA (xrf _) λ_=>⟨g0,rfl⟩
def kS (L:List DSign) (st:RSt):Nat:=match st with | .ok (i,_)=>opN (sgT L i) | .error _=>0
def zA7:∀ (k:Nat) (hk:k<10),3<=k->k≠8->∀ t:ByteArray,(t=signs9[k]'(by simpa [signs9] using hk)↔opN t=k):=by
 intro k hk _ _ t;have hc:k=3\/k=4\/k=5\/k=6\/k=7\/k=9:=oo;rcases hc with rfl | rfl | rfl | rfl | rfl | rfl
 all_goals
   constructor
   . intro h;rw [h];simp only [signs9,qbR,qbF];decide
   intro h;unfold opN at h;repeat' split at h
   all_goals first | (simp only [signs9,qbR,qbF];assumption) | (exfalso;omega)
theorem zEO {L:List DSign} {st:RSt} (hk:k<10) (h3:3<=k) (h8:k≠8):isS L st (signs9[k]'(by simpa [signs9] using hk))=decide (kS L st=k):=by
 cases st with
 | ok p=>obtain ⟨i,_⟩:=p;show decide (sgT L i=_)=decide (opN (sgT L i)=k);rw [decide_eq_decide];exact zA7 k hk h3 h8 _
 | error f=>show false=decide (0=k);rw [decide_eq_false oo]
theorem zFq {L:List DSign} {st:RSt}:kS L st≠8/\kS L st<=9/\(kS L st=0\/3<=kS L st):=by
 cases st with
 | ok p=>obtain ⟨i,_⟩:=p;have:=zs6 (sgT L i);show opN (sgT L i)≠8/\opN (sgT L i)<=9/\(opN (sgT L i)=0\/3<=opN (sgT L i));omega
 | error f=>exact ⟨by show (0:Nat)≠8;omega,by show (0:Nat)<=9;omega,.inl rfl⟩
def zB9 (hk:k<10) (h3:3<=k):signs9[k]'(by simpa [signs9] using hk)≠ByteArray.mk #[]:=by
 have g0:∀ a:Fin 10,3<=a.1->(signs9[a.1]'(by simp [signs9]))≠ByteArray.mk #[]:=by decide +kernel
 exact g0 ⟨k,hk⟩ h3
def zDT (L:List DSign) (e:Int) (m q0:Nat) (st1:RSt) (t:DTerm) (st':RSt):Prop:=
 match st1 with
 | .error f=>st'=.error f
 | .ok (i,_)=>match pIn L e (zej L e m) i with
   | .error f=>st'=.error f
   | .ok (x,j)=>x=t/\st'=.ok (j,q0)
theorem zkm {room:Nat} (hr6:room<=6) (ih:∀ m,m+1=room->zB8 m) (ib:∀ {W w:wD} {g:Nat} {L:List DSign} {v:vL} {e:Int} {f:DFault} {d:Int},RdG W g L v e (.error f) w ->
   CALL tp 195 [.pointer (some ⟨g,0,none⟩),.int .i64 d] w (zgJ W g L v e w λt st'=>st'=.error f)):zB8 room:=by
 intro W w g L v e st d h hd;have hg:=h.lt;refine co (g:=⟨extL,[(10,1180591620717407109312,[]),(13,603282318186597176049664,[])],[(22,85065399433376081038215121361612833024,[8])],[(6,[0,1,2,3,4,5,6,7,8,9,10,11,12,13,14,15,16,17,18,19,20,21,22,23],0),(7,[0,1,2,3,4,5,6,7,8,9,10,11,12,13,14,15,16],0),(17,[0,1,2,3,4,5,6,7,8,9],96),(20,[0,1,2,3,4,5,6,7,8,9],96),(30,[0,1,2,3,4,5,6,7,8,9],96)],[],[17,20,30],[]⟩) Tryz.func195 ?_;refine za1 zri λw1 hq j3=>?_;have gl:=hq.size;have ji:=j3.lt;refine zas (cells:=(tmC 0 (.slice none 0 0)).toArray) kK<|za1 zri λw2 j4 j5=>?_;have hs2:=j4.size;have hb2:=j5.lt;refine za3 (α:=DTerm) (lo:=0) (hi:=0) zcD rfl j5 rfl (zcM (lo:=0) (hi:=0)) λw3 j6 gT=>?_;have hs3:=j6.size;have gI:Ext w1 w3:=j4.chgI j6 (lr _);have ht:=hq.t gI;have gT:Blk w1.heap.size 67 w3 (tmC 0 (.slice none 0 0)):=gT;have h3:=h.step ht;have j7:UpG g w1.heap.size w1 w3:=gI.upG
 have g5:∀ {w4:wD} {st':RSt} {us:Array vL} {t:DTerm} {lo hi:Nat},UpG g w1.heap.size w1 w4->RdG W g L v e st' w4->OwnI lo hi w4 (.agg us) t->w2.heap.size<=lo->hi<=w4.heap.size->zrj L e room st t st' ->
     OPU tp (Instr.storeAt 67 (.pointer (some ⟨w.heap.size,0,none⟩)) (.agg us)) w4 λw5=>RD tp (zbr 67 (.pointer (some ⟨w.heap.size,0,none⟩))) w5 λr=>zgJ W g L v e w (zrj L e room st) r w5:=by
   intro w4 st' us t lo hi hu hr ho j8 hw hR;refine za3 (α:=DTerm) zcD rfl (j3.upG hu ji oo) rfl ho λw5 gx gU=>?_;have hx:=gx.size;have jj:=hu.size
   have hy:us.toList.length=4:=by
     obtain ⟨_,⟨⟨_,jk,hv⟩,_⟩,_⟩:=ho;have hl:=Rep.len jk;simp only [mkv,Rep.agg,cond_true,Value.agg.injEq] at hv;rw [hv];exact hl
   refine zcL gU (by rw [hy];exact zcD)<|⟨?_,t,st',hr.chg gx oo (by have:=h.ext.size;omega),?_,hR⟩
   . exact ChgI.out (UpG.toI (hq.upG.trans hu) oo) gx oo
   exact (ho.chg gx oo).mono oo oo
 have g9:∀ {w4:wD} {st':RSt} {k:Int} {vk:vL} {l:List DTerm} {lo hi:Nat},UpG g w1.heap.size w1 w4->RdG W g L v e st' w4->Blk w1.heap.size 67 w4 (tmC k vk)->OwnI lo hi w4 vk l->w2.heap.size<=lo->hi<=w4.heap.size->I64 k->zrj L e room st (.mk k 0 nO l) st' ->
     RD tp (Instr.loadAt 67 (.pointer (some ⟨w1.heap.size,0,none⟩))) w4 λx=>OPU tp (Instr.storeAt 67 (.pointer (some ⟨w.heap.size,0,none⟩)) x) w4 λw5=>RD tp (zbr 67 (.pointer (some ⟨w.heap.size,0,none⟩))) w5 λr=>zgJ W g L v e w (zrj L e room st) r w5:=by
   intro w4 st' k vk l lo hi hu hr hB ho j8 hw hk hR;refine zfg hB zcD<|g5 hu hr (zc0 hk zcS zdm ho) j8 hw hR
 have gn:∀ w4:wD,OwnI (α:=List DTerm) w2.heap.size w2.heap.size w4 (.slice none 0 0) []:=λw4=>za8;obtain ⟨i0,f0,q0,gt,_,_,jl,jm,hC⟩:=h3.blk;refine NIL.mk rfl<|zaa zg1<|zaa ze9<|zaj ty3 gt rfl<|zaJ<|br (λhn=>?_) (λh0=>?_)
 . have gV:=zhi hC hn;exact g9 j7 h3 gT (gn _) (lr _) oo zcS (by rw [gV];rfl)
 obtain ⟨gV,-,_⟩:=zfC hC (qaf.1 h0);clear gt jl jm hC h0 f0;have jn:=hd _ _ gV;subst jn;subst gV;have gW:∀ t st',zrj L e room (.ok (i0,q0)) t st'↔(match zry L e (zA6 L e room) i0 with | .error f=>st'=.error f | .ok (x,j)=>x=t/\st'=.ok (j,q0)):=λt st'=>by rw [<-zhI];exact Iff.rfl
 refine (zfh h3).mono ?_;rintro _ w4 ⟨gX,rfl⟩;have h4:=h3.step gX;have hD:=j7.trans (gX.upG (g:=g) (lo:=w1.heap.size));have jj:=gX.size;refine zaN (λhn=>?_) (λhn=>?_)
 . have gG:zaz (sgT L i0)=true:=hn;refine (zf9 h4).mono ?_;rintro _ w5 ⟨gx,h5,rfl⟩;have hx:=gx.size;have j9:=zf8 (st:=.ok (i0,q0)) h4;have e1:zft L (.ok (i0,q0))=sgT L i0:=by show (if zaz (sgT L i0)=true then sgT L i0 else _)=_;rw [qah gG]
   have e2:zgH L e (.ok (i0,q0))=.ok (i0+1,q0):=by unfold zgH;rw [qah hn];rfl
   rw [e1] at j9 ⊢;rw [e2] at h5;refine zas (cells:=#[.int .i64 2,.int .i64 0,.string (sgT L i0),.slice none 0 0]) kK<|g5 (hD.trans gx.upG1) h5 (zc0 io zcS j9 (gn w5)) (lr _) oo ?_;rw [gW];unfold zry;rw [qah gG];exact ⟨rfl,rfl⟩
 have gG:¬zaz (sgT L i0)=true:=by have hn:zaz (sgT L i0)=false:=hn;rw [hn];decide
 refine JOIN.mk (λus w'=>us=[]/\Ext w4 w'/\¬sgK L i0=2) ?_ ?_
 . have gh:=zai w4;have h5:=h4.step gh;have gY:=hD.trans (gh.upG (g:=g) (lo:=w1.heap.size));have hx:=gh.size;generalize World.drew1 w4=w5 at *;obtain ⟨i',_,_,gt,_,_,_,_,jo⟩:=h5.blk;obtain ⟨rfl,rfl,rfl,_⟩:=jo;refine NIL.mk rfl<|zaa zfy<|zaj ty3 gt rfl<|NIL.mk rfl<|zaa zg0<|zaj zpG gt rfl<|zae u92 h.is_<|zah<|br (λ_=>?_) (λ_=>⟨rfl,gh,by rw [zoo oo];decide⟩);have hi:i'<L.length:=oo;refine NIL.mk rfl<|zaa zg0<|zaj zpG gt rfl<|NIL.mk rfl<|zaa zfy<|zaj ty3 gt rfl<|zac u92 zef h.is_ hi λb o hA=>zaa zlg<|zad ty3 (zng hA) h5.ext λ_=>?_;rw [zol hi];refine zag<|br (λhk=>?_) (λhk=>⟨rfl,gh,hk⟩);have g1:=zai w5;have h6:=h5.step g1;have hF:=gY.trans (g1.upG (g:=g) (lo:=w1.heap.size));have ja:=g1.size;have gJ:=gt.ext g1;generalize World.drew1 w5=w6 at *;refine NIL.mk rfl<|zaa zg0<|zaj zpG gJ rfl<|NIL.mk rfl<|zaa zfy<|zaj ty3 gJ rfl<|zac u92 zef h.is_ hi λb o hA=>zaa zfb<|zaq ty9 (zf2 hA) h6.ext λ_=>?_;rw [zfS hi];have gK:=zwF h.sg hk;have hin:=zrH gK;refine specReadDecimal_ok.mono ?_;rintro _ w7 ⟨hG,rfl⟩;have jb:=hG.size;rw [gK];refine zal rfl<|zal rfl<|zip (h6.step hG) rfl hi λw8 jc h8=>?_;have jd:=jc.size;refine zas (cells:=#[.int .i64 1,.int .i64 (zlp (bts (sgT L i'))),.string nO,.slice none 0 0]) kK<|g5 ((hF.trans hG.upG).trans jc.upG1) h8 (zc0 io io zdm (gn w8)) (lr _) oo ?_;rw [gW];unfold zry;rw [qad gG,qah hk];exact ⟨rfl,rfl⟩
 rintro _ w5 ⟨-,gh,je⟩;have h5:=h4.step gh;have gY:=hD.trans (gh.upG (g:=g) (lo:=w1.heap.size));have hx:=gh.size;have gU:=(gT.ext gX).ext gh;refine JOIN.mk (λus w'=>us=[]/\Ext w5 w'/\¬(atT L i0 zpQ/\room=0)) ?_ ?_
 . refine (zcu h5 dD).mono ?_;rintro _ w6 ⟨g1,rfl⟩;have ja:=g1.size;refine zaN (λhb=>?_) (λhb=>⟨rfl,g1,λhh=>by have:=of_decide_eq_false hb;exact this hh.1⟩);have gb:atT L i0 zpQ:=of_decide_eq_true hb;refine zag<|br (λhr=>?_) (λhr=>⟨rfl,g1,λhh=>hr (by rw [hh.2];rfl)⟩);have jp:room=0:=oo;refine (zdY (c:=4) (h5.step g1) dD io).mono ?_;rintro _ w7 ⟨gy,h7⟩;have jb:=gy.size;refine g9 ((gY.trans g1.upG).trans gy.upG1) h7 ((gU.ext g1).chgI gy oo) (gn _) (lr _) oo zcS ?_;rw [gW];unfold zry;rw [qad gG,qad je,qah gb,jp];rfl
 rintro _ w6 ⟨-,g1,jq⟩;have h6:=h5.step g1;have hF:=gY.trans (g1.upG (g:=g) (lo:=w1.heap.size));have ja:=g1.size;have jr:=gU.ext g1;have hn1:=h.ext.size;have gL:I64 ((room:Int)-1):=by unfold I64;omega
 have gc:∀ {w7:wD} {st1:RSt} {k:Int} {vk:vL} {l:List DTerm} {hi:Nat} {R:DTerm->RSt->Prop} {K:wD->Prop},UpG g w1.heap.size w1 w7->RdG W g L v e st1 w7->Blk w1.heap.size 67 w7 (tmC k vk)->RowI w2.heap.size hi 67 w7 vk l->hi<=w7.heap.size->w2.heap.size<=w7.heap.size->l.length<=2 ->
     CALL tp 195 [.pointer (some ⟨g,0,none⟩),.int .i64 ((room:Int)-1)] (World.drew1 w7) (zgJ W g L v e (World.drew1 w7) R) ->
     (∀ w8 st2 t gi,UpG g w1.heap.size w1 w8->w2.heap.size<=w8.heap.size->RdG W g L v e st2 w8->R t st2->Blk w1.heap.size 67 w8 (tmC k gi)->RowI w2.heap.size w8.heap.size 67 w8 gi (l++[t])->K w8) ->
     XR λX=>RDX tp X (Instr.fieldAt 67 (.pointer (some ⟨w1.heap.size,0,none⟩)) 3) (World.drew1 w7) λa=>RDX tp X (Instr.loadAt 65 a) (World.drew1 w7) λb=>RDX tp X (bin BinOp.sub 3 (Operand.tmp 0) (Operand.const undef) (.int .i64 (room:Int)) (.int .i64 1)) (World.drew1 w7) λc=>
       CALL tp 195 [.pointer (some ⟨g,0,none⟩),c] (World.drew1 w7) λr w8=>ExtX X (World.drew1 w7) w8/\OP tp (Instr.buildSlice 65 1 #[(0,r)]) w8 λs w9=>ExtX X w8 w9/\OP tp (Builtin.append_ #[65,65] 65 #[b,s]) w9 λx w9=>
         RDX tp X (Instr.fieldAt 67 (.pointer (some ⟨w1.heap.size,0,none⟩)) 3) w9 λa=>OPU tp (Instr.storeAt 65 a x) w9 λw9=>K w9:=by
   intro w7 st1 k vk l hi R K hH h7 hI js hw _ hl V hK;have gj:=zai w7;have gM:=hI.ext gj;have jt:=js.ext gj;have h8:=h7.step gj;have gZ:=hH.trans (gj.upG (g:=g) (lo:=w1.heap.size));have jd:=gj.size;generalize World.drew1 w7=w8 at *;refine XR.mk (λc=>c=g)<|zdy zcr<|zeW ziM (u:=vk) (λj u hj=>?_) oo ?_
   . match j,hj with
     | 0,hj=>simp only [List.getElem?_cons_zero,qaq] at hj;subst hj;exact gM.range 3 vk rfl
     | j+1,hj=>simp at hj
   refine zlL (w0:=W) (λb hb=>by rw [hb];exact h.lo) h8.ext (zbp gL ?_);refine V.mono ?_;rintro r w9 ⟨gp,t,st2,h9,o9,ha⟩;have ju:=gp.size;refine ⟨gp.toC.toX λc hc=>by simpa using hc,?_⟩;have hJ:=jt.chg gp (.inr oo);have hL:=gM.chgI gp (.inr oo);have hM:=gZ.trans (gp.upG1 (lo:=w1.heap.size));refine zos (lo2:=w8.heap.size) (hi2:=w9.heap.size) u65 zcD z67 zEE dD hJ oo o9 oo oo (by rw [zak];omega) oo (λjv gN Z g0=>?_) λs gN hN jw=>⟨hN.toX,jw⟩;have hO:=Z.size;have D:=hL.chgI Z (.inl oo);refine zdy zcr<|zaW (α:=List DTerm) ziM rfl rfl D (by simp [tmC]) g0.own λU M gz=>?_;have gO:=M.size;refine hK U st2 t jv ((hM.trans (Z.upG oo)).trans (M.upG oo)) oo ((h9.chg Z oo oo).chg M oo oo) ha gz ?_;exact (g0.chg M (.inr oo)).mono (lr _) oo
 refine (zbA h6 dD).mono ?_;rintro _ w7 ⟨gy,h7⟩;have jb:=gy.size;have hH:=hF.trans (gy.upG1 (lo:=w1.heap.size));have hI:=jr.chgI gy (.inr oo);obtain ⟨st1,gA⟩:∃ x,x=zbP L e (ByteArray.mk #[40]) (.ok (i0,q0)):=⟨_,rfl⟩;rw [<-gA] at h7
 have g3:(atT L i0 zpQ/\st1=.ok (i0+1,q0)/\∃ m,room=m+1)\/(¬atT L i0 zpQ/\st1=.error (ftA L e 3 i0)):=by
   by_cases gb:atT L i0 zpQ
   . refine .inl ⟨gb,?_,room-1,by have:room≠0:=λh0=>jq ⟨gb,h0⟩;omega⟩;rw [gA];exact zbQ gb
   refine .inr ⟨gb,?_⟩;rw [gA];exact zcN gb
 have gd:∀ t st',zrj L e room (.ok (i0,q0)) t st'↔zDT L e (room-1) q0 st1 t st':=λt st'=>by
   rw [gW];unfold zry;rw [qad gG,qad je];rcases g3 with ⟨gb,hs,m,hm⟩ | ⟨gb,hs⟩
   . rw [qah gb,hs,hm];exact Iff.rfl
   rw [qad gb,hs];exact Iff.rfl
 have V:∀ {w8:wD} {st2:RSt},RdG W g L v e st2 w8->(∀ p,st2=.ok p->∃ m,room=m+1)->CALL tp 195 [.pointer (some ⟨g,0,none⟩),.int .i64 ((room:Int)-1)] w8 (zgJ W g L v e w8 (zrj L e (room-1) st2)):=by
   intro w8 st2 h8 hp;cases st2 with
   | error f=>exact ib h8
   | ok p=>
     obtain ⟨m,hm⟩:=hp p rfl;exact ih (room-1) oo h8 λi q _=>oo
 have hP:∀ p,st1=.ok p->∃ m,room=m+1:=λp hp=>by
   rcases g3 with ⟨_,_,hm⟩ | ⟨_,hs⟩
   . exact hm
   rw [hs] at hp;cases hp
 refine (zcu h7 dD).mono ?_;rintro _ w8 ⟨gj,rfl⟩;have h8:=h7.step gj;have gZ:=hH.trans (gj.upG (g:=g) (lo:=w1.heap.size));have jd:=gj.size;have gM:=hI.ext gj;refine zaN (λhb=>?_) (λhb=>?_)
 . obtain ⟨i1,q1,gl,gP⟩:=zoJ hb;obtain ⟨m,hm⟩:=hP _ gl
   have jx:q1=q0:=by
     rcases g3 with ⟨_,hs,_⟩ | ⟨_,hs⟩
     . rw [hs] at gl;simp only [Except.ok.injEq,qaB] at gl;exact gl.2.symm
     rw [hs] at gl;cases gl
   subst jx;refine zip h8 gl (zg2 gP dD) λw9 gp h9=>?_;have ju:=gp.size;refine zaa zfw<|zaW (α:=Int) (lo:=0) (hi:=0) ty3 rfl rfl (gM.chgI gp (.inr oo)) (by simp [tmC]) (ownI_int io) λgN Z D=>?_;have hO:=Z.size;have D:Blk w1.heap.size 67 gN (tmC 8 (.slice none 0 0)):=D;have gq:=h9.chg Z oo oo;have g2:=(gZ.trans (gp.upG1 (lo:=w1.heap.size))).trans (Z.upG (g:=g) (lo:=w1.heap.size) (lr _));refine gc g2 gq D (zbL w2.heap.size w2.heap.size _ _) oo oo ss (V (gq.step (zai gN)) λ_ _=>⟨m,hm⟩) λU st2 t gi gB _ gH gC gz gD=>?_;refine (zbA gH dD).mono ?_;rintro _ jf ⟨gr,hQ⟩;have hS:=gr.size;refine g9 (gB.trans gr.upG1) hQ (gz.chgI gr (.inr oo)) (gD.chg gr (.inr oo)).own (lr _) oo io ?_;rw [gd,gl];unfold zDT;simp only;unfold pIn;rw [qah (show atT L i1 zBT from gP)];unfold zrj at gC;simp only at gC
   match gE:zej L e (room-1) (i1+1),gC with
   | .error f,hR=>rw [hR];rfl
   | .ok (x,j),hR=>
     obtain ⟨rfl,rfl⟩:=hR;simp only [Rd.go];by_cases hsh:atT L j zpR
     . rw [zci hsh];exact ⟨rfl,zbQ hsh⟩
     rw [zcW hsh];exact zcN hsh
 have gQ:∀ i q,st1=.ok (i,q)->¬atT L i zBT:=λi q hs=>by rw [hs] at hb;exact of_decide_eq_false hb
 refine gc gZ h8 gM (zbL w2.heap.size w2.heap.size _ _) oo oo ss (V (h8.step (zai w8)) hP) λw9 st2 ta gi hM _ h9 ha hL hJ=>?_;have hk8:=zFq (L:=L) (st:=st2);refine zar 10 (λk us w'=>us=[.int .i64 (k:Int)]/\3<=k/\UpG g w1.heap.size w1 w'/\w9.heap.size<=w'.heap.size/\RdG W g L v e st2 w'/\Blk w1.heap.size 67 w' (tmC (if kS L st2<k then kS L st2 else 0:Nat) gi)/\RowI w2.heap.size w9.heap.size 67 w' gi [ta]) 3 oo ⟨rfl,lr _,hM,lr _,h9,by rw [show (if kS L st2<3 then kS L st2 else 0:Nat)=0 by split<;>omega];exact hL,hJ⟩ ?_;rintro k m u gN _ ⟨hu,jg,g2,hT,gq,D,g0⟩;try replace hu:=zbv hu
 rw [hu]
 have gf:∀ {U:wD},UpG g w1.heap.size w1 U->w9.heap.size<=U.heap.size->RdG W g L v e st2 U->k<10->Blk w1.heap.size 67 U (tmC (if kS L st2<k+1 then kS L st2 else 0:Nat) gi)->RowI w2.heap.size w9.heap.size 67 U gi [ta] ->
     RD tp (bin .add 3 (.tmp 0) (.const undef) (.int .i64 (k:Int)) (Value.int .i64 1)) U λx=>∃ m',m'<m/\∃ k',k'+m'=10/\[x]=[.int .i64 (k':Int)]/\3<=k'/\UpG g w1.heap.size w1 U/\w9.heap.size<=U.heap.size/\RdG W g L v e st2 U/\Blk w1.heap.size 67 U (tmC (if kS L st2<k' then kS L st2 else 0:Nat) gi)/\RowI w2.heap.size w9.heap.size 67 U gi [ta]:=
   λa1 a2 a3 _ a5 a6=>zsA oo ⟨m-1,oo,k+1,oo,rfl,oo,a1,a2,a3,a5,a6⟩
 refine zdJ<|br (λ_=>?_) (λ_=>?_)
 . have g4:k<10:=oo;refine zaJ<|br (λhU=>?_) (λhU=>gf g2 hT gq g4 (by rw [show (if kS L st2<k+1 then kS L st2 else 0:Nat)=if kS L st2<k then kS L st2 else 0 by split<;>split<;>omega];exact D) g0);refine (zun g4).mono ?_;rintro _ U ⟨gR,rfl⟩;refine (zcu (gq.step gR) (zB9 g4 jg)).mono ?_;rintro _ jf ⟨hV,rfl⟩;have C:=gR.t hV;have hS:=C.size;rw [zEO g4 jg oo];refine br (λhe=>?_) (λhe=>gf (g2.trans C.upG) oo (gq.step C) g4 (by rw [show (if kS L st2<k+1 then kS L st2 else 0:Nat)=if kS L st2<k then kS L st2 else 0 by split<;>split<;>omega];exact D.ext C) (g0.ext C));refine zaa zfw<|zaW (α:=Int) (lo:=0) (hi:=0) ty3 rfl rfl (D.ext C) (by simp [tmC]) (ownI_int io) λjy O hW=>?_;have hX:=O.size;refine gf ((g2.trans C.upG).trans (O.upG (lr _))) oo ((gq.step C).chg O oo oo) g4 ?_ ((g0.ext C).chg O (.inr oo));rw [show (if kS L st2<k+1 then kS L st2 else 0:Nat)=k by rw [qah oo];exact he];exact hW
 have he:(if kS L st2<k then kS L st2 else 0:Nat)=kS L st2:=by rw [qah oo]
 rw [he] at D;refine zaa zfw<|zaj ty3 D rfl<|zag ?_
 have gS:(∃ f,st2=.error f/\∀ t st',st'=.error f->zrj L e room (.ok (i0,q0)) t st')\/(∃ i1 j,st1=.ok (i1,q0)/\st2=.ok (j,q0)/\¬atT L i1 zBT/\zej L e (room-1) i1=.ok (ta,j)):=by
   rcases g3 with ⟨_,hs,_⟩ | ⟨_,hs⟩
   . have hR:=ha;rw [hs] at hR;unfold zrj at hR;simp only at hR
     match gE:zej L e (room-1) (i0+1),hR with
     | .error f,hR=>
       refine .inl ⟨f,hR,λt st' h'=>?_⟩;rw [gd,hs];unfold zDT;simp only;unfold pIn;rw [qad (gQ _ _ hs),gE];exact h'
     | .ok (x,j),hR=>exact .inr ⟨i0+1,j,hs,hR.2,gQ _ _ hs,by rw [gE,hR.1]⟩
   have hR:=ha;rw [hs] at hR;exact .inl ⟨_,hR,λt st' h'=>by rw [gd,hs];exact h'⟩
 refine br (λhz=>?_) (λhz=>?_)
 . have hz:kS L st2=0:=oo;refine (zdY (c:=3) gq dD io).mono ?_;rintro _ U ⟨M,gH⟩;have gO:=M.size;rw [hz] at D;refine g9 (g2.trans M.upG1) gH (D.chgI M (.inr oo)) (g0.chg M (.inr oo)).own (lr _) oo zcS ?_;rcases gS with ⟨f,hs,hf⟩ | ⟨i1,j,gs,gg,hY,gE⟩
   . exact hf _ _ (by rw [hs];rfl)
   rw [gd,gs];unfold zDT;simp only;unfold pIn;rw [qad hY,gE];simp only [Rd.go];have jz:opN (sgT L j)=0:=by rw [gg] at hz;exact hz
   rw [qah jz,gg];rfl
 have hz:kS L st2≠0:=oo
 obtain ⟨i1,j,gs,gg,hY,gE⟩:∃ i1 j,st1=.ok (i1,q0)/\st2=.ok (j,q0)/\¬atT L i1 zBT/\zej L e (room-1) i1=.ok (ta,j):=by
   rcases gS with ⟨f,hs,hf⟩ | hh
   . rw [hs] at hz;exact absurd rfl hz
   exact hh
 have jh:kS L st2=opN (sgT L j):=by rw [gg];rfl
 have jA:j<L.length:=by
   rcases qaw j L.length with h1 | h1
   . exact h1
   rw [jh,zgE h1] at hz;exact absurd dD hz
 refine zip gq gg jA λU M gH=>?_;have gO:=M.size;have gB:=g2.trans (M.upG1 (lo:=w1.heap.size));have gD:=g0.chg M (.inr oo);refine gc gB gH (D.chgI M (.inr oo)) gD oo oo ss (V (gH.step (zai U)) λ_ _=>hP _ gs) λjf _ _ _ hZ _ hQ gF j0 j1=>?_;refine (zbA hQ dD).mono ?_;rintro _ jy ⟨O,jB⟩;have hX:=O.size;refine g9 (hZ.trans O.upG1) jB (j0.chgI O (.inr oo)) (j1.chg O (.inr oo)).own (lr _) oo io ?_;rw [gd,gs];unfold zDT;simp only;unfold pIn;rw [qad hY,gE];simp only [Rd.go];rw [<-jh,qad hz];unfold zrj at gF;simp only at gF
 match hpt2:zej L e (room-1) (j+1),gF with
 | .error f,hR=>rw [hR];rfl
 | .ok (x,j2),hR=>
   obtain ⟨rfl,rfl⟩:=hR;simp only;by_cases hsh:atT L j2 zpR
   . rw [zci hsh];exact ⟨rfl,zbQ hsh⟩
   rw [zcW hsh];exact zcN hsh
def zlO {L:List DSign} {e:Int} {f:DFault} {d:Int} (h:RdG W g L v e (.error f) w) :
   CALL tp 195 [.pointer (some ⟨g,0,none⟩),.int .i64 d] w (zgJ W g L v e w λ_ st'=>st'=.error f):=by
 have:=h.lt;refine co (g:=⟨extL,[(10,1180591620717407109312,[]),(13,603282318186597176049664,[])],[(22,85065399433376081038215121361612833024,[8])],[(6,[0,1,2,3,4,5,6,7,8,9,10,11,12,13,14,15,16,17,18,19,20,21,22,23],0),(7,[0,1,2,3,4,5,6,7,8,9,10,11,12,13,14,15,16],0),(17,[0,1,2,3,4,5,6,7,8,9],96),(20,[0,1,2,3,4,5,6,7,8,9],96),(30,[0,1,2,3,4,5,6,7,8,9],96)],[],[17,20,30],[]⟩) Tryz.func195 ?_;refine za1 zri λ_ g4 g5=>?_;have:=g4.size;have:=g5.lt;refine zas (cells:=(tmC 0 (.slice none 0 0)).toArray) kK<|za1 zri λ_ g2 g9=>?_;have:=g2.size;have:=g9.lt;refine za3 (α:=DTerm) (lo:=0) (hi:=0) zcD rfl g9 rfl (zcM (lo:=0) (hi:=0)) λw3 g3 gb=>?_;have:=g3.size;have g0:Ext w w3:=g4.t (g2.chgI g3 (lr _));have h3:=h.step g0;have:=h.ext.size;have:=h.lo;obtain ⟨_,f0,_,gc,_,_,_,_,gd⟩:=h3.blk;obtain ⟨rfl,gf⟩:=gd;refine NIL.mk rfl<|zaa zg1<|zaa ze9<|zaj ty3 gc rfl<|zaJ<|br (λ_=>?_) (λh0=>absurd gf h0);refine zfg gb zcD ?_;have ho:OwnI w3.heap.size w3.heap.size w3 (.agg (tmC 0 (.slice none 0 0)).toArray) (DTerm.mk 0 0 nO []):=zc0 zcS zcS zdm za8;refine za3 (α:=DTerm) zcD rfl ((g5.ext g2).chgI g3 (.inl oo)) rfl ho λ_ g1 gg=>?_;have:=g1.size;refine zcL gg zcD<|⟨(g0.chgI g1 oo).toI,_,.error f0,h3.chg g1 oo oo,(ho.chg g1 (.inr oo)).mono oo oo,rfl⟩
theorem zjK:∀ (room:Nat),room<=6->zB8 room
 | 0,h6=>zkm h6 (λm h=>absurd h oo) zlO
 | n + 1, h6 => zkm h6 (λm h => by
     obtain rfl:m=n:=oo;exact zjK m oo) zlO
def RdB {α:Type} (r:Rd α) (st:RSt) (ok:α->Nat->Prop):Prop:=match r with | .error f=>st=.error f | .ok (x,j)=>ok x j
theorem zdx {α β:Type} {r:Rd α} {k:α->Nat->Rd β} {okA:α->Nat->Prop} {g0:β->Nat->Prop} {st1 st2:RSt} (h:RdB r st1 okA) (he:∀ f,st1=.error f->st2=.error f) (hk:∀ x j,okA x j->RdB (k x j) st2 g0):RdB (r.go k) st2 g0:=by
 match r,h with
 | .error f,h=>exact he f h
 | .ok (x,j),h=>exact hk x j h
def zdZ {L:List DSign} {e:Int} {t:ByteArray}:RdB (zeJ L e t i) (zbP L e t (.ok (i,q))) (λ_ j=>zbP L e t (.ok (i,q))=.ok (j,q)):=by
 by_cases h:atT L i t
 . rw [zci h];exact zbQ h
 rw [zcW h];exact zcN h
theorem ztb {L:List DSign} {e:Int} {room i q:Nat} {t:DTerm} {st:RSt} (h:zrj L e room (.ok (i,q)) t st):RdB (zej L e room i) st (λx j=>x=t/\st=.ok (j,q)):=by
 unfold zrj at h;simp only at h;cases hp:zej L e room i with
 | error f=>rw [hp] at h;exact h
 | ok p=>obtain ⟨x,j⟩:=p;rw [hp] at h;exact h
def zDU (st:RSt) (l:List DStmt) (r:Rd (List DStmt×Nat)):Prop:=RdB r st (λx j=>x.1=l/\st=.ok (j,x.2))
def zuo (L:List DSign) (e:Int):Nat->Blk9
 | 0=>λ_ i=>.error (ftA L e 4 i)
 | r+1=>zlq L e (zbV L e r)
def zgc {L:List DSign} {e:Int} (room q i:Nat):zbV L e room q i=zii L e (decide (room=0)) (zuo L e room) (q+1) q i:=by cases room<;>rfl
theorem zgd {L:List DSign} {e:Int}:∀ room,zyX (zuo L e room)
 | 0=>λ_ _ _ _ _ h=>by cases h
 | r+1=>zpS (zls r)
structure SvS (W:wD) (g:Nat) (L:List DSign) (v:vL) (e:Int) (n1 n2:Nat) (w1:wD) (st:RSt) (x:DStmt) (w:wD):Prop where
 up:UpG g n1 w1 w
 rd:RdG W g L v e st w
 var:∃ hi,VarI n2 hi w n1 x/\hi<=w.heap.size
 n:n2<=w.heap.size/\g<n1/\n1<n2/\W.heap.size<=g
section
variable {W w w0 w1 w':wD} {g n1 n2:Nat} {L:List DSign} {v:vL} {e:Int} {st st':RSt} {x x':DStmt}
def SvS.step (h:SvS W g L v e n1 n2 w1 st x w) (hx:Ext w w'):SvS W g L v e n1 n2 w1 st x w':=by
 obtain ⟨hi,hv,_⟩:=h.var;have:=hx.size;exact ⟨h.up.trans hx.upG,h.rd.step hx,⟨hi,hv.ext hx,oo⟩,by have:=h.n;omega,h.n.2⟩
def SvS.call (h:SvS W g L v e n1 n2 w1 st x w) (hc:ChgI g (g+1) w w') (hr:RdG W g L v e st' w'):SvS W g L v e n1 n2 w1 st' x w':=by
 obtain ⟨hi,hv,_⟩:=h.var;have:=hc.size;have:=h.n;exact ⟨h.up.trans hc.upG1,hr,⟨hi,hv.chg hc (.inr oo) (.inr oo),oo⟩,oo,h.n.2⟩
def SvS.put {β:Type} [Rep β] {t by_ off:Nat} {u:vL} {y:β} {K:wD->Prop} (h:SvS W g L v e n1 n2 w1 st x w0) (ht:tyI tp t=some (Rep.size β,by_,Rep.agg β)) (hc:ChgI g (g+1) w0 w) (hr:RdG W g L v e st' w) (hu:OwnI w0.heap.size w.heap.size w u y)
   (hl:∀ {F:List Nat},OAt F w n1 0 x->∃ (G:List Nat) (y0:β) (upd:β->DStmt),Lens (VH n1) (n1 :: F) w n1 (0+off) G y0 upd/\upd y=x') (k:∀ w',ChgI n1 (n1+1) w w'->SvS W g L v e n1 n2 w1 st' x' w'->K w'):OPU tp (Instr.storeAt t (.pointer (some ⟨n1,0+off,none⟩)) u) w K:=by
 have h2:=h.call hc hr;obtain ⟨_,hv,_⟩:=h.var;have:=hc.size;have:=h.n;obtain ⟨F,hO,hF⟩:=hv.chg hc (.inr oo) (.inr oo);obtain ⟨G,y0,upd,hL,rfl⟩:=hl hO;refine zsP ht hL hF hu oo oo λw' g0 hk=>?_;have:=g0.size;refine k w' g0 ⟨h2.up.trans (g0.upG (lr _)),hr.chg g0 oo oo,⟨w'.heap.size,hk n2 (lr _) oo w'.heap.size oo oo,qaE _⟩,oo,h.n.2⟩
def SvS.kind {k:Int} {K:wD->Prop} (h:SvS W g L v e n1 n2 w1 st x w) (hk:I64 k) (kk:∀ w',ChgI n1 (n1+1) w w'->SvS W g L v e n1 n2 w1 st (.mk k x.name x.term x.body x.els) w'->K w'):OPU tp (Instr.storeAt 3 (.pointer (some ⟨n1,0+0,none⟩)) (.int .i64 k)) w K:=
 h.put (β:=Int) ty3 (ChgI.refl _) h.rd (ownI_int hk) (λhO=>by obtain ⟨G,hL⟩:=zpP (Lens.var hO);exact ⟨G,_,_,hL,rfl⟩) kk
def SvS.name {s:ByteArray} {K:wD->Prop} (h:SvS W g L v e n1 n2 w1 st x w) (hk:s.size<=maxLen) (kk:∀ w',ChgI n1 (n1+1) w w'->SvS W g L v e n1 n2 w1 st (.mk x.kind s x.term x.body x.els) w'->K w'):OPU tp (Instr.storeAt 9 (.pointer (some ⟨n1,0+1,none⟩)) (.string s)) w K:=
 h.put (β:=ByteArray) ty9 (ChgI.refl _) h.rd (zgC hk) (λhO=>by obtain ⟨G,hL⟩:=zkg (Lens.var hO);exact ⟨G,_,_,hL,rfl⟩) kk
def SvS.term {u:vL} {t:DTerm} {K:wD->Prop} (h:SvS W g L v e n1 n2 w1 st x w0) (hc:ChgI g (g+1) w0 w) (hr:RdG W g L v e st' w) (hu:OwnI w0.heap.size w.heap.size w u t) (kk:∀ w',ChgI n1 (n1+1) w w'->SvS W g L v e n1 n2 w1 st' (.mk x.kind x.name t x.body x.els) w'->K w'):OPU tp (Instr.storeAt 67 (.pointer (some ⟨n1,0+2,none⟩)) u) w K:=
 h.put (β:=DTerm) zcD hc hr hu (λhO=>by obtain ⟨G,hL⟩:=zkh (Lens.var hO);exact ⟨G,_,_,hL,rfl⟩) kk
def SvS.body {u:vL} {t:List DStmt} {K:wD->Prop} (h:SvS W g L v e n1 n2 w1 st x w0) (hc:ChgI g (g+1) w0 w) (hr:RdG W g L v e st' w) (hu:OwnI w0.heap.size w.heap.size w u t) (kk:∀ w',ChgI n1 (n1+1) w w'->SvS W g L v e n1 n2 w1 st' (.mk x.kind x.name x.term t x.els) w'->K w'):OPU tp (Instr.storeAt 60 (.pointer (some ⟨n1,0+6,none⟩)) u) w K:=
 h.put (β:=List DStmt) zed hc hr hu (λhO=>by obtain ⟨G,hL⟩:=zki (Lens.var hO);exact ⟨G,_,_,hL,rfl⟩) kk
def SvS.els {u:vL} {t:List DStmt} {K:wD->Prop} (h:SvS W g L v e n1 n2 w1 st x w0) (hc:ChgI g (g+1) w0 w) (hr:RdG W g L v e st' w) (hu:OwnI w0.heap.size w.heap.size w u t) (kk:∀ w',ChgI n1 (n1+1) w w'->SvS W g L v e n1 n2 w1 st' (.mk x.kind x.name x.term x.body t) w'->K w'):OPU tp (Instr.storeAt 60 (.pointer (some ⟨n1,0+7,none⟩)) u) w K:=
 h.put (β:=List DStmt) zed hc hr hu (λhO=>by obtain ⟨G,hL⟩:=zkj (Lens.var hO);exact ⟨G,_,_,hL,rfl⟩) kk
def SvS.ofKind {K:vL->Prop} (h:SvS W g L v e n1 n2 w1 st x w) (k:K (.int .i64 x.kind)):RD tp (Instr.loadAt 3 (.pointer (some ⟨n1,0+0,none⟩))) w K:=by
 obtain ⟨_,hv,_⟩:=h.var;exact zad ty3 (zb2 hv.at) (xrf _) λ_=>k
end
def stC (k:Int) (s:ByteArray):List vL:=[.int .i64 k,.string s,.int .i64 0,.int .i64 0,.string nO,.slice none 0 0,.slice none 0 0,.slice none 0 0]
def zoK {k:Int} (hl:lo<=hi) (hk:I64 k) (hs:s.size<=maxLen):OwnI lo hi w (.agg (stC k s).toArray) (DStmt.mk k s term0 [] []):=
 mkS (l0:=lo) (h0:=lo) (l1:=lo) (h1:=lo) (l2:=lo) (h2:=lo) hk hs zcM za8 za8 oo oo oo oo oo oo
def zup (hk:k<9):CALL tp 105 [.int .i64 (k:Int)] w λr w'=>Ext w w'/\r=.string (words9[k]'(by simpa [words9] using hk)):=by
 refine co (g:=kf [] [] []) Tryz.func105 ?_;refine zA5 (l:=words9) (vs:=words9.map Value.string) u26 ty9 zlM dD kK rfl (λw=>zjJ dD) λ_ _ g0 g1=>zac (i:=k) u26 ty9 g1.is (by simpa [words9] using hk) λ_ _ hA=>zaq ty9 hA (xrf _) λ_=>⟨g0,rfl⟩
def zCa (hk:k<9) (h2:2<=k):words9[k]'(by simpa [words9] using hk)≠ByteArray.mk #[]:=by
 have g0:∀ a:Fin 9,2<=a.1->(words9[a.1]'(by simp [words9]))≠ByteArray.mk #[]:=by decide +kernel
 exact g0 ⟨k,hk⟩ h2
def zDV:∀ (k:Nat) (hk:k<9),2<=k->∀ t:ByteArray,(t=words9[k]'(by simpa [words9] using hk)↔wkK t=k):=by
 intro k hk _ t;have hc:k=2\/k=3\/k=4\/k=5\/k=6\/k=7\/k=8:=oo;rcases hc with rfl | rfl | rfl | rfl | rfl | rfl | rfl
 all_goals
   constructor
   . intro h;rw [h];simp only [words9,qbR,qbF];decide
   intro h;unfold wkK at h;repeat' split at h
   all_goals first | (simp only [words9,qbR,qbF];assumption) | (exfalso;omega)
def zrJ {L:List DSign} (hk:k<9) (h2:2<=k):isS L (.ok (i,q)) (words9[k]'(by simpa [words9] using hk))=decide (wkK (sgT L i)=k):=by
 show decide (sgT L i=_)=_;rw [decide_eq_decide];exact zDV k hk h2 _
def zwN {t:ByteArray}:zaz t=true↔wkK t=1:=by
 constructor
 . intro h
   have hk:t∉kw:=by
     unfold zaz at h;simp only [qap,qaT,decide_eq_false_iff_not] at h;exact h.2
   simp only [kw,qaa,qag,qaz,not_or] at hk;unfold wkK;simp only [hk,if_false,h,if_true]
 exact λh=>(zs7 t).2 h
def zjL (L:List DSign) (e:Int) (room i q:Nat) (s:DStmt) (st:RSt):Prop:=
 if (wkK (sgT L i)=2\/wkK (sgT L i)=3)/\room=0 then st=.error (ftA L e 4 i)
 else if q=0 then st=.error (ftA L e 5 i)
 else RdB (zd6 L e (zuo L e room) (wkK (sgT L i)) (q-1) i) st (λx j=>x.1=s/\st=.ok (j,x.2))
def zwO (room:Nat):Prop:=∀ {W w:wD} {g:Nat} {L:List DSign} {v:vL} {e:Int} {i q:Nat} {d:Int},RdG W g L v e (.ok (i,q)) w->wkK (sgT L i)≠0->d=(room:Int) ->
 CALL tp 118 [.pointer (some ⟨g,0,none⟩),.int .i64 d] w λr w'=>ChgI g (g+1) w w'/\∃ s st',RdG W g L v e st' w'/\OwnI w.heap.size w'.heap.size w' r s/\zjL L e room i q s st'
def zDW (L:List DSign) (e:Int) (room:Nat) (st:RSt) (l:List DStmt) (st':RSt):Prop:=
 match st with
 | .error f=>st'=.error f
 | .ok (i,q)=>zDU st' l (zbV L e room q i)
def ztc (room:Nat):Prop:=∀ {W w:wD} {g:Nat} {L:List DSign} {v:vL} {e:Int} {st:RSt} {d:Int},RdG W g L v e st w->(∀ i q,st=.ok (i,q)->d=(room:Int)) ->
 CALL tp 51 [.pointer (some ⟨g,0,none⟩),.int .i64 d] w λr w'=>ChgI g (g+1) w w'/\∃ l st',RdG W g L v e st' w'/\RowI w.heap.size w'.heap.size 117 w' r l/\l.length<=61/\zDW L e room st l st'
def StI (L:List DSign) (e:Int) (room:Nat) (st:RSt) (l:List DStmt) (st':RSt):Prop:=
 match st with
 | .error f=>st'=.error f/\l=[]
 | .ok (i0,q0)=>match st' with
   | .error f=>l.length<=q0+1/\zbV L e room q0 i0=.error f
   | .ok (i,q)=>q+l.length<=q0/\zbV L e room q0 i0=pre l (zbV L e room q i)
section
variable {L:List DSign} {e:Int} {room:Nat}
theorem zCb (st:RSt):StI L e room st [] st:=by
 cases st with
 | error f=>exact ⟨rfl,rfl⟩
 | ok p=>obtain ⟨_,_⟩:=p;exact ⟨qaE _,(zwk _).symm⟩
theorem zy8 {st g0:RSt} {l:List DStmt} {s:DStmt} {i q:Nat} (h:StI L e room st l (.ok (i,q))) (g3:wkK (sgT L i)≠0) (hS:zjL L e room i q s g0):StI L e room st (l++[s]) g0:=by
 cases st with
 | error f=>cases h.1
 | ok p0=>
   obtain ⟨i0,q0⟩:=p0;obtain ⟨_,g1⟩:=h;have C:=zhE (L:=L) (e:=e) (deep:=decide (room=0)) (zgd (L:=L) (e:=e) room) q i;rw [<-zgc,qad g3] at C
   have D:∀ f,g0=.error f->zbV L e room q i=.error f->StI L e room (.ok (i0,q0)) (l++[s]) g0:=λf h1 h2=>by
     rw [h1];refine ⟨by rw [qab,qaC];omega,?_⟩;rw [g1,h2];rfl
   unfold zjL at hS;by_cases h1:(wkK (sgT L i)=2\/wkK (sgT L i)=3)/\room=0
   . rw [qah h1] at hS;rw [qah ⟨h1.1,decide_eq_true h1.2⟩] at C;exact D _ hS C
   rw [qad h1] at hS;rw [qad (by rw [qau];exact h1)] at C;by_cases h2:q=0
   . rw [qah h2] at hS C;exact D _ hS C
   rw [qad h2] at hS C;cases hp:zd6 L e (zuo L e room) (wkK (sgT L i)) (q-1) i with
   | error f=>
     rw [hp] at hS C;exact D f hS C
   | ok p=>
     obtain ⟨⟨_,_⟩,_⟩:=p;have:=zf3 (zgd room) hp;rw [hp] at hS C;obtain ⟨hx,g2⟩:=hS;simp only at hx g2;rw [g2];refine ⟨by rw [qab,qaC];omega,?_⟩;simp only [Rd.go] at C;rw [g1,C,<-zgc,<-hx];exact zAX (β:=Unit) _
theorem zCc {st st':RSt} {l:List DStmt} (h:StI L e room st l st') (hb:bgS L st'=false):zDW L e room st l st':=by
 cases st with
 | error f=>exact h.1
 | ok p0=>
   obtain ⟨i0,q0⟩:=p0;cases st' with
   | error f=>
     show RdB (zbV L e room q0 i0) _ _;rw [h.2];rfl
   | ok p=>
     obtain ⟨i,q⟩:=p;have g0:wkK (sgT L i)=0:=by have:=of_decide_eq_false hb;omega
     have C:=zhE (L:=L) (e:=e) (deep:=decide (room=0)) (zgd (L:=L) (e:=e) room) q i;rw [<-zgc,qah g0] at C;show RdB (zbV L e room q0 i0) _ _;rw [h.2,C];exact ⟨ss,rfl⟩
theorem zwP {st st':RSt} {l:List DStmt} (h:StI L e room st l st') (hq:∀ i q,st=.ok (i,q)->q<=60):l.length<=61:=by
 cases st with
 | error f=>rw [h.2];simp
 | ok p0=>
   obtain ⟨i0,q0⟩:=p0;have:=hq i0 q0 rfl;cases st' with
   | error f=>have:=h.1;omega
   | ok p=>obtain ⟨i,q⟩:=p;have:=h.1;omega
end
def zi1 {room:Nat} (ih:zwO room):ztc room:=by
 intro W w g L v e st _ h hd;have:=h.lt;refine co (g:=kf [] [(2,32672,[5])] []) Tryz.func51 ?_;refine zaI (α:=DStmt) u60 zda λ_ w1 g1 _=>?_;have:=g1.size;have:=h.lo
 have g5:∀ i q,st=.ok (i,q)->q<=60:=λi q hs=>by
   obtain ⟨_,f,_,_,_,h6,_,_,g9⟩:=h.blk;rw [hs] at g9;obtain ⟨_,_,rfl,_⟩:=g9;exact h6
 refine zar 62 (λn us w'=>∃ out l st',us=[out]/\ChgI g (g+1) w w'/\w1.heap.size<=w'.heap.size/\RdG W g L v e st' w'/\RowI w1.heap.size w'.heap.size 117 w' out l/\l.length=n/\StI L e room st l st') 0 oo
     ⟨_,[],st,rfl,g1.toI,lr _,h.step g1,zcg _ _ _ _ _,rfl,zCb st⟩ ?_
 rintro n _ _ _ _ ⟨out,l,st2,hu,gb,_,h2,gc,gg,hI⟩;try replace hu:=zbv hu
 rw [hu];have g2:=zwP hI g5;refine (zkl h2).mono ?_;rintro _ w3 ⟨C,rfl⟩;have:=C.size;have h3:=h2.step C;refine zaN (λhb=>?_) (λhb=>?_)
 . cases st2 with
   | error f=>cases hb
   | ok p=>
     obtain ⟨i,q⟩:=p;have gd:wkK (sgT L i)≠0:=of_decide_eq_true hb;cases st with
     | error f=>cases hI.1
     | ok p0=>
       obtain ⟨i0,q0⟩:=p0;refine (ih h3 gd (hd i0 q0 rfl)).mono ?_;rintro _ w4 ⟨g3,_,gh,h4,o4,hS⟩;have:=g3.size;have gi:=(gc.ext C).chg g3 (.inr oo);refine zbs (lo2:=w3.heap.size) (hi2:=w4.heap.size) u60 zda zE2 zDt dD gi oo o4 oo oo (by rw [zak];omega) oo λv5 _ g4 gj=>?_;have:=g4.size;have gf:=zy8 hI gd hS;have g0:=zwP gf g5;rw [qab,qaC] at g0;exact ⟨62-(n+1),oo,n+1,oo,v5,_,gh,rfl,ChgI.out ((gb.trans C.toI).trans g3) g4 oo,oo,h4.chg g4 oo oo,gj,by simp [gg],gf⟩
 exact ⟨gb.trans C.toI,l,st2,h3,(gc.ext C).mono oo oo,g2,zCc hI hb⟩
def zfE {L:List DSign} {e:Int} (h:zaz (sgT L i)=true):zgH L e (.ok (i,q))=.ok (i+1,q):=by
 have h1:nmS L (.ok (i,q))=true:=h;unfold zgH;rw [h1];rfl
def zjM {L:List DSign} {e:Int} (h:¬zaz (sgT L i)=true):zgH L e (.ok (i,q))=.error (ftA L e 3 i):=by
 have h1:nmS L (.ok (i,q))=false:=by show zaz (sgT L i)=false;simpa using h
 unfold zgH;rw [h1];rfl
def zfi {L:List DSign} (h:zaz (sgT L i)=true):zft L (.ok (i,q))=sgT L i:=by
 show (if zaz (sgT L i)=true then sgT L i else _)=_;rw [qah h]
def zoL {L:List DSign} {e:Int}:RdB (zhe L e i) (zgH L e (.ok (i,q))) (λx j=>x=zft L (.ok (i,q))/\zgH L e (.ok (i,q))=.ok (j,q)):=by
 unfold zhe;by_cases h:zaz (sgT L i)=true
 . rw [qah h];exact ⟨(zfi h).symm,zfE h⟩
 rw [qad h];exact zjM h
def zwQ {α:Type} [Rep α] {a b g lo v0:Nat} {w w':wD} {x:α} (h:VarI a b w v0 x) (hu:UpG g lo w w') (h1:b<=lo) (h2:v0<lo) (h3:v0≠g) (h4:g<a\/b<=g):VarI a b w' v0 x:=by
 obtain ⟨F,hO,hF⟩:=h;refine ⟨F,hO.keep λc hc=>?_,hF⟩;have g0:=hO.lts c hc;rcases qaa.1 hc with rfl | hc
 . exact hu.block c g0 h2 h3
 have:=hF c hc;exact hu.block c g0 oo oo
def zrK {L:List DSign} {e:Int} {room j q:Nat} {l:List DStmt} {st2:RSt} (h:zDW L e room (zbP L e zop (.ok (j,q))) l st2):RdB (zlq L e (zbV L e room) q j) (zbP L e ziQ st2) (λx j'=>x.1=l/\zbP L e ziQ st2=.ok (j',x.2)):=by
 unfold zlq;refine zdx (zdZ (q:=q)) (λf hf=>?_) λ_ j1 g0=>?_
 . rw [hf] at h;have h:st2=.error f:=h;rw [h];rfl
 rw [g0] at h;have h:zDU st2 l (zbV L e room q j1):=h;refine zdx h (λf hf=>by rw [hf];rfl) λ_ _ hb=>?_;obtain ⟨g1,g2⟩:=hb;rw [g2];refine zdx zdZ (λf hf=>hf) λ_ _ g3=>⟨g1,g3⟩
def zDX {L:List DSign} {e:Int} {room i q:Nat} {s:DStmt} {st:RSt} (h1:¬((wkK (sgT L i)=2\/wkK (sgT L i)=3)/\room=0)) (h2:¬q=0) (h:RdB (zd6 L e (zuo L e room) (wkK (sgT L i)) (q-1) i) st (λx j=>x.1=s/\st=.ok (j,x.2))):zjL L e room i q s st:=by
 unfold zjL;rw [qad h1,qad h2];exact h
def zkn {room:Nat} (hr6:room<=6) (ih:∀ m,m+1=room->ztc m):zwO room:=by
 intro W w g L v e i q _ h j7 hd;subst hd;have hg:=h.lt;have gZ:=h.lo;have h4:=zs7 (sgT L i);have j8:=zBU j7;refine co (g:=kf [(3,32320,[6]),(6,8355840,[]),(33,5191663033234713513829747977617408,[])] [(18,4607182418800017536,[7])] []) Tryz.func118 ?_;refine zck (α:=DStmt) zjy λw1 h6 hT=>?_;have hs1:=h6.size;have j9:=hT.lt;refine zas (cells:=(stC 0 nO).toArray) kK<|zck (α:=DStmt) zjy λw2 hU hV=>?_;have hs2:=hU.size;have hb2:=hV.lt;refine zb0 (lo:=w2.heap.size) (hi:=w2.heap.size) zda hV (zoK (lr _) zcS zdm) (.inl oo) λw3 hW ja=>?_;have hs3:=hW.size;have gE:Ext w1 w3:=hU.chgI hW (lr _);have ha:SvS W g L v e w1.heap.size w2.heap.size w1 (.ok (i,q)) (DStmt.mk 0 nO term0 [] []) w3:=⟨gE.upG,h.step (h6.t gE),⟨_,ja,oo⟩,oo,oo,oo,gZ⟩
 have O:∀ {w4:wD} {st':RSt} {x:DStmt},SvS W g L v e w1.heap.size w2.heap.size w1 st' x w4->zjL L e room i q x st' ->
     RD tp (Instr.loadAt 117 (.pointer (some ⟨w1.heap.size,0,none⟩))) w4 λy=>OPU tp (Instr.storeAt 117 (.pointer (some ⟨w.heap.size,0,none⟩)) y) w4 λw5=>RD tp (zbr 117 (.pointer (some ⟨w.heap.size,0,none⟩))) w5 λr=>
       ChgI g (g+1) w w5/\∃ s st',RdG W g L v e st' w5/\OwnI w.heap.size w5.heap.size w5 r s/\zjL L e room i q s st':=by
   intro w4 st' x hS hR;obtain ⟨hi,hv,hh⟩:=hS.var;have hs4:=hS.up.size;have hn4:=hS.n;refine zdG zda hv (xrf _) λy ho=>?_;have hl:VarI w1.heap.size w1.heap.size w4 w.heap.size (RepZ.zv:DStmt):=zwQ hT hS.up (lr _) j9 oo (.inl oo);refine zb0 zda hl ho (.inl oo) λw5 gg jb=>?_;have hs5:=gg.size;refine zhA zda jb (xrf _) λr hr=>⟨ChgI.out (UpG.toI (h6.upG.trans hS.up) oo) gg oo,x,st',hS.rd.chg gg oo oo,hr.mono oo oo,hR⟩
 have gF:∀ {t:ByteArray} {k:Nat},(t=sgT L i↔True)->True:=λ_=>trivial;clear gF;have e2:isS L (.ok (i,q)) (ByteArray.mk #[105,102])=decide (wkK (sgT L i)=2):=zrJ (k:=2) oo oo;have e3:isS L (.ok (i,q)) (ByteArray.mk #[119,104,105,108,101])=decide (wkK (sgT L i)=3):=zrJ (k:=3) oo oo;obtain ⟨kd,gh⟩:∃ k,k=wkK (sgT L i):=⟨_,rfl⟩;have hq:∀ {s:DStmt} {st:RSt},zjL L e room i q s st↔zjL L e room i q s st:=Iff.rfl;clear hq;refine JOIN.mk (λus w'=>us=[.bool (decide (kd=2\/kd=3))]/\Ext w3 w') ?_ ?_
 . refine (zcu ha.rd dD).mono ?_;rintro _ w4 ⟨gG,rfl⟩;rw [e2,<-gh];refine br (λh2=>⟨by rw [decide_eq_true (.inl h2)],gG⟩) (λh2=>?_);refine (zcu (ha.rd.step gG) dD).mono ?_;rintro _ w5 ⟨jc,rfl⟩;rw [e3,<-gh];exact ⟨by simp [h2],gG.t jc⟩
 rintro _ w4 ⟨hu,gG⟩;try replace hu:=zbv hu
 rw [hu];have gx:=ha.step gG;refine JOIN.mk (λus w'=>us=[]/\w'=w4/\¬((kd=2\/kd=3)/\room=0)) ?_ ?_
 . refine br (λhm=>?_) (λhm=>⟨rfl,rfl,λhh=>hm hh.1⟩);refine zag<|br (λh0=>?_) (λh0=>⟨rfl,rfl,λhh=>h0 (by rw [hh.2];rfl)⟩);refine (zdY (c:=4) gx.rd dD io).mono ?_;rintro _ w5 ⟨gg,h5⟩;refine O (gx.call gg h5) ?_;unfold zjL;rw [qah ⟨by rw [<-gh];exact hm,oo⟩];rfl
 rintro _ _ ⟨-,rfl,gV⟩;rw [gh] at gV;obtain ⟨i',_,q',gW,_,_,jd,je,jf⟩:=gx.rd.blk;obtain ⟨rfl,rfl,rfl,jg⟩:=jf;refine NIL.mk rfl<|zaa zsN<|zaj ty3 gW rfl<|zag<|br (λhs=>?_) (λhs=>?_)
 . refine (zdY (c:=5) gx.rd dD io).mono ?_;rintro _ w5 ⟨gg,h5⟩;refine O (gx.call gg h5) ?_;unfold zjL;rw [qad gV,qah oo];rfl
 have hs:¬q'=0:=oo;refine NIL.mk rfl<|zaa zsN<|zaj ty3 gW rfl<|zbp io<|NIL.mk rfl<|zaa zsN<|zaW (α:=Int) (lo:=0) (hi:=0) ty3 rfl rfl gW (by simp [rdC]) (ownI_int io) λw5 gg ht=>?_
 have h5:RdG W g L v e (.ok (i',q'-1)) w5:=⟨h.is_,gx.rd.ext.chgI gg gZ,gZ,h.many,h.sg,h.e0,i',⟨0,0⟩,q'-1,by
   have e1:((q':Int)-1)=((q'-1:Nat):Int):=oo;rw [e1] at ht;exact ht,oo,oo,jd,je,rfl,rfl,rfl,jg⟩
 have jh:=gx.call gg h5;clear gW ht;have g2:∀ {s:DStmt} {st:RSt},RdB (zd6 L e (zuo L e room) kd (q'-1) i') st (λx j=>x.1=s/\st=.ok (j,x.2))->zjL L e room i' q' s st:=λhh=>zDX gV hs (by rw [<-gh];exact hh);refine (zfh h5).mono ?_;rintro _ _ ⟨ji,rfl⟩;have hX:=jh.step ji;refine zaN (λhn=>?_) (λhn=>?_)
 . have hn:zaz (sgT L i')=true:=hn;have hY:kd=1:=by rw [gh];exact zwN.1 hn
   refine zaa zdl<|hX.kind io λw7 _ gi=>?_;refine (zf9 gi.rd).mono ?_;rintro _ w8 ⟨hw,h8,rfl⟩;have g3:=gi.call hw h8;have gX:=zf8 gi.rd;rw [zfi hn] at gX ⊢;rw [zfE hn] at g3;refine zaa zbo<|g3.name gX λw9 _ gy=>?_;refine (zbA gy.rd dD).mono ?_;rintro _ hx ⟨hy,hZ⟩;have C:=gy.call hy hZ;refine (zjK 6 oo hZ (λ_ _ _=>rfl)).mono ?_;rintro _ hA ⟨U,t,gz,gA,jj,gH⟩;refine zaa zce<|C.term U gA jj λjk _ gI=>?_;refine (zbA gI.rd dD).mono ?_;rintro _ jl ⟨hC,jm⟩;refine O (gI.call hC jm) (g2 ?_);unfold zd6;rw [qah hY]
   refine zdx zdZ (λf hf=>by
     have hD:zrj L e 6 (.error f) t gz:=by rw [<-hf];exact gH
     have hD:gz=.error f:=hD;rw [hD];rfl) λ_ j hj=>?_
   have hj:zbP L e zDC (.ok (i'+1,q'-1))=.ok (j,q'-1):=hj;have hR:zrj L e 6 (.ok (j,q'-1)) t gz:=by rw [<-hj];exact gH
   refine zdx (ztb hR) (λf hf=>by rw [hf];rfl) λt' _ jn=>?_;obtain ⟨rfl,rfl⟩:=jn;refine zdx zdZ (λf hf=>hf) λ_ j3 gJ=>⟨rfl,gJ⟩
 have jo:¬zaz (sgT L i')=true:=by have hn:zaz (sgT L i')=false:=hn;rw [hn];decide
 have hY:kd≠1:=λhk=>jo (zwN.2 (by rw [<-gh];exact hk));refine zar 9 (λk us w'=>us=[.int .i64 (k:Int)]/\2<=k/\SvS W g L v e w1.heap.size w2.heap.size w1 (.ok (i',q'-1)) (DStmt.mk (if kd<k then kd else 0:Nat) nO term0 [] []) w') 2 oo ⟨rfl,lr _,by rw [show (if kd<2 then kd else 0:Nat)=0 by split<;>omega];exact hX⟩ ?_;rintro k m _ w7 _ ⟨hu,gj,gi⟩;try replace hu:=zbv hu
 rw [hu]
 have gp:∀ {w8:wD},k<9->SvS W g L v e w1.heap.size w2.heap.size w1 (.ok (i',q'-1)) (DStmt.mk (if kd<k+1 then kd else 0:Nat) nO term0 [] []) w8->RD tp (bin .add 3 (.tmp 0) (.const undef) (.int .i64 (k:Int)) (Value.int .i64 1)) w8 λx=>∃ m',m'<m/\∃ k',k'+m'=9/\[x]=[.int .i64 (k':Int)]/\2<=k'/\SvS W g L v e w1.heap.size w2.heap.size w1 (.ok (i',q'-1)) (DStmt.mk (if kd<k' then kd else 0:Nat) nO term0 [] []) w8:=
   λ_ a2=>zsA oo ⟨m-1,oo,k+1,oo,rfl,oo,a2⟩
 refine zdJ<|br (λ_=>?_) (λ_=>?_)
 . have gK:k<9:=oo;refine (zup gK).mono ?_;rintro _ w8 ⟨j0,rfl⟩;refine (zcu (gi.rd.step j0) (zCa gK gj)).mono ?_;rintro _ w9 ⟨jp,rfl⟩;rw [zrJ gK gj,<-gh];have gy:=(gi.step j0).step jp;refine br (λj1=>?_) (λj1=>gp gK (by rw [show (if kd<k+1 then kd else 0:Nat)=if kd<k then kd else 0 by split<;>split<;>omega];exact gy));refine zaa zdl<|gy.kind io λhx _ C=>gp gK ?_;rw [show (if kd<k+1 then kd else 0:Nat)=k by rw [qah oo];exact j1];exact C
 rw [show (if kd<k then kd else 0:Nat)=kd by rw [qah (by rw [gh];omega)]] at gi;refine zip gi.rd rfl j8 λw8 hw h8=>?_;have g3:=gi.call hw h8;refine br (λhm=>?_) (λhm=>?_)
 rotate_left
 . -- a word, a name; or a word alone
   have hkr:kd=8\/(4<=kd/\kd<=7):=by have:=h4.1;omega
   refine zaa zdl<|g3.ofKind<|zaJ<|br (λgq=>?_) (λgq=>?_)
   . have jq:4<=kd/\kd<=7:=by
       have gq:¬(kd:Int)=8:=gq;omega
     refine (zf9 g3.rd).mono ?_;rintro _ w9 ⟨hF,h9,rfl⟩;have gy:=g3.call hF h9;have gX:=zf8 g3.rd;refine zaa zbo<|gy.name gX λhx _ C=>?_;refine (zbA C.rd dD).mono ?_;rintro _ hA ⟨U,gA⟩;refine O (C.call U gA) (g2 ?_);unfold zd6;rw [qad oo,qad oo,qad oo];refine zdx zoL (λf hf=>by rw [hf];rfl) λs j hj=>?_;obtain ⟨rfl,hj⟩:=hj;rw [hj];refine zdx zdZ (λf hf=>hf) λ_ j3 gJ=>⟨rfl,gJ⟩
   have gq:kd=8:=by have gq:¬((kd:Int)≠8):=gq;omega
   refine (zbA g3.rd dD).mono ?_;rintro _ hA ⟨U,gA⟩;refine O (g3.call U gA) (g2 ?_);unfold zd6;rw [qad oo,qah gq];refine zdx zdZ (λf hf=>hf) λ_ j3 gJ=>⟨by rw [gq];rfl,gJ⟩
 obtain ⟨m',rfl⟩:∃ m',room=m'+1:=⟨room-1,by have:room≠0:=λh0=>gV ⟨by rw [<-gh];exact hm,h0⟩;omega⟩;have j2:ztc m':=ih m' rfl;have j4:((m'+1:Nat):Int)-1=(m':Int):=oo;refine (zjK 6 oo g3.rd (λ_ _ _=>rfl)).mono ?_;rintro _ w9 ⟨hF,t,_,h9,o9,jr⟩;refine zaa zce<|g3.term hF h9 o9 λhx _ C=>?_;refine (zbA C.rd dD).mono ?_;rintro _ hA ⟨U,gA⟩;have gL:=C.call U gA;refine zbp io ?_;refine (j2 gL.rd (λ_ _ _=>j4)).mono ?_;rintro _ jk ⟨hG,lb,gB,js,jt,-,V⟩;refine zaa zcf<|gL.body hG js jt.own λjl _ gM=>?_;refine (zbA gM.rd dD).mono ?_;rintro _ ju ⟨hH,jv⟩;have g4:=gM.call hH jv;obtain ⟨g5,g9⟩:∃ x,x=zbP L e (ByteArray.mk #[125]) gB:=⟨_,rfl⟩;rw [<-g9] at g4
 have gr:∀ {s:DStmt} {gD:RSt},(∀ f,g5=.error f->gD=.error f)->(∀ (b:List DStmt×Nat) (j:Nat),b.1=lb->g5=.ok (j,b.2) ->
     RdB (if kd=3\/¬atT L j zug then .ok ((.mk (kd:Int) tmE t b.1 [],b.2),j) else if atT L (j+1) zop/\atT L (j+2) ziQ then .error (ftA L e 3 (j+2)) else (zuo L e (m'+1) b.2 (j+1)).go λc j=>.ok ((.mk (kd:Int) tmE t b.1 c.1,c.2),j)) gD (λx j=>x.1=s/\gD=.ok (j,x.2))) ->
     RdB (zd6 L e (zuo L e (m'+1)) kd (q'-1) i') gD (λx j=>x.1=s/\gD=.ok (j,x.2)):=by
   intro s gD he hk;unfold zd6;rw [qad oo,qad oo,qah hm];refine zdx (ztb jr) (λf hf=>he f ?_) λt' j hj=>?_
   . rw [hf] at V;have V:gB=.error f:=V;rw [g9,V];rfl
   obtain ⟨rfl,hj⟩:=hj;rw [hj] at V;have hB:=zrK (e:=e) (l:=lb) (st2:=gB) (j:=j) (q:=q'-1) (room:=m') (L:=L) V;refine zdx (okA:=λb j'=>b.1=lb/\g5=.ok (j',b.2)) (st1:=g5) ?_ he λb j' hb=>hk b j' hb.1 hb.2;rw [g9];exact hB
 have gs:∀ {gN:wD},Ext ju gN->(kd=3\/isS L g5 zug=false)->RD tp (Instr.loadAt 117 (.pointer (some ⟨w1.heap.size,0,none⟩))) gN λy=>OPU tp (Instr.storeAt 117 (.pointer (some ⟨w.heap.size,0,none⟩)) y) gN λw5=>RD tp (zbr 117 (.pointer (some ⟨w.heap.size,0,none⟩))) w5 λr=>
       ChgI g (g+1) w w5/\∃ s st',RdG W g L v e st' w5/\OwnI w.heap.size w5.heap.size w5 r s/\zjL L e (m'+1) i' q' s st':=by
   intro gN gl hI;refine O (g4.step gl) (g2 (gr (λf hf=>hf) λb j hb hj=>?_))
   rw [qah (by
     rcases hI with h3 | h3
     . exact .inl h3
     rw [hj] at h3;exact .inr (of_decide_eq_false h3))]
   exact ⟨by rw [hb];rfl,hj⟩
 refine zaa zdl<|g4.ofKind<|zag<|br (λgj=>?_) (λgj=>gs (xrf _) (.inl (by have gj:¬(kd:Int)=2:=gj;omega)));have gj:kd=2:=by have gj:(kd:Int)=2:=gj;omega
 refine (zcu g4.rd dD).mono ?_;rintro _ gN ⟨gl,rfl⟩;have gO:=g4.step gl;refine zaN (λhJ=>?_) (λhJ=>gs gl (.inr hJ));obtain ⟨j,qj,Z,j5⟩:=zoJ hJ;refine zip gO.rd Z (zg2 j5 dD) λ_ hK jw=>?_;have gP:=gO.call hK jw;refine (zbA gP.rd dD).mono ?_;rintro _ _ ⟨hL,jx⟩;have gb:=gP.call hL jx;obtain ⟨D,M⟩:∃ x,x=zbP L e (ByteArray.mk #[123]) (.ok (j+1,qj)):=⟨_,rfl⟩;rw [<-M] at gb;refine JOIN.mk (λus w'=>us=[]/\∃ gn,SvS W g L v e w1.heap.size w2.heap.size w1 gn (DStmt.mk kd nO t lb []) w'/\((gn=D/\∀ a b,D=.ok (a,b)->wkK (sgT L a)≠0)\/∃ a b,D=.ok (a,b)/\wkK (sgT L a)=0/\gn=.error (ftA L e 3 a))) ?_ ?_
 . obtain ⟨j6,_,jy,hM,_,_,_,_,gQ⟩:=gb.rd.blk;refine NIL.mk rfl<|zaa zg1<|zaa ze9<|zaj ty3 hM rfl<|zag<|br (λh0=>?_) (λh0=>⟨rfl,D,gb,.inl ⟨rfl,λa b gY=>by rw [zhi gQ h0] at gY;cases gY⟩⟩);obtain ⟨gc,-,-⟩:=zfC gQ h0;refine (zkl gb.rd).mono ?_;rintro _ jz ⟨hN,rfl⟩;have g0:=gb.step hN;refine zau<|zaN (λhb=>?_) (λhb=>⟨rfl,D,g0,.inl ⟨rfl,λa b gY=>?_⟩⟩)
   . refine (zdY (c:=3) g0.rd dD io).mono ?_;rintro _ jA ⟨gC,hO⟩;refine ⟨rfl,_,g0.call gC hO,.inr ⟨j6,jy,gc,?_,by rw [gc];rfl⟩⟩;rw [gc] at hb;have hb:(!decide (wkK (sgT L j6)≠0))=true:=hb;simpa using hb
   rw [gY] at hb;have hb:(!decide (wkK (sgT L a)≠0))=false:=hb;simpa using hb
 rintro _ jz ⟨-,gn,g0,gR⟩;refine zbp io ?_;refine (j2 g0.rd (λ_ _ _=>j4)).mono ?_;rintro _ jA ⟨gC,le,gS,hO,jB,-,g1⟩;refine zaa zca<|g0.els gC hO jB.own λ_ _ gT=>?_;refine (zbA gT.rd dD).mono ?_;rintro _ _ ⟨hP,jC⟩;have hQ:=gT.call hP jC;refine O hQ (g2 (gr (λf hf=>by rw [hf] at Z;cases Z) λb j' hb jD=>?_));rw [jD] at Z;simp only [Except.ok.injEq,qaB] at Z;obtain ⟨rfl,jE⟩:=Z
 rw [qad (by
   rintro (h3 | h3)
   . omega
   exact h3 j5)]
 rcases gR with ⟨gR,jF⟩ | ⟨a,_,gd,hz,gR⟩
 . rw [qad (λhh=>by
     have gU:D=.ok (j'+1+1,qj):=M.trans (zbQ hh.1);have:=jF _ _ gU;rw [show sgT L (j'+1+1)=ByteArray.mk #[125] from hh.2] at this;exact this dD)]
   rw [gR,M,<-jE] at g1;have hB:=zrK (e:=e) (l:=le) (st2:=gS) (j:=j'+1) (q:=b.2) (room:=m') (L:=L) g1;refine zdx hB (λf hf=>hf) λc j3 hc=>⟨by rw [hb,hc.1];rfl,hc.2⟩
 . -- nothing begins behind the opening sign
   have gf:atT L (j'+1) zop:=by
     apply qbd;intro hI;have gU:D=.error (ftA L e 3 (j'+1)):=M.trans (zcN hI);rw [gU] at gd;cases gd
   have gU:D=.ok (j'+1+1,qj):=M.trans (zbQ gf);rw [gU] at gd;simp only [Except.ok.injEq,qaB] at gd;obtain ⟨rfl,rfl⟩:=gd;rw [gR] at g1;have g1:gS=.error _:=g1;rw [g1];by_cases hsh:atT L (j'+2) ziQ
   . rw [qah ⟨gf,hsh⟩];rfl
   rw [qad (λhh=>hsh hh.2)]
   have jG:zbV L e m' b.2 (j'+1+1)=.ok (([],b.2),j'+1+1):=by
     have gt:=zhE (L:=L) (e:=e) (deep:=decide (m'=0)) (zgd (L:=L) (e:=e) m') b.2 (j'+1+1);rw [<-zgc,qah hz] at gt;exact gt
   show RdB ((zlq L e (zbV L e m') b.2 (j'+1)).go _) _ _;unfold zlq;rw [zci gf];simp only [Rd.go];rw [jG];simp only;rw [zcW hsh];rfl
theorem ztd:∀ (room:Nat),room<=6->zwO room/\ztc room
 | 0,h6=>by
   have h1:zwO 0:=zkn h6 λm hm=>absurd hm oo;exact ⟨h1,zi1 h1⟩
 | n+1,h6=>by
   have ih:=ztd n oo
   have h1:zwO (n+1):=zkn h6 λm hm=>by
     obtain rfl:m=n:=oo;exact ih.2
   exact ⟨h1,zi1 h1⟩
end Go.Proofs.YtkgiigmcbgifdaaGreatDoor
namespace Go.Sh
open Rep (rep)
open Go.Sort Go.Proofs
section
variable {α:Type} [Inhabited α] {enc:α->List vL} {k:Nat}
theorem zte (hk:∀ x,(enc x).length=k):∀ (l:List α),(l.flatMap enc).length=l.length*k
 | []=>by simp
 | x :: l=>by rw [qbG,qab,hk,zte hk l,qam,qbu];omega
theorem ztf (hk:∀ x,(enc x).length=k) (h0:0<k):∀ {l:List α} {t:Nat},t<l.length*k->(l.flatMap enc)[t]?=some ((enc l[t / k]!)[t%k]!)
 | [],t,h=>by simp at h
 | x :: l,t,h=>by
   rw [qbG];rcases qaw t k with ht | ht
   . rw [List.getElem?_append_left (by rw [hk];exact ht),qci ht,qbs ht];have:t<(enc x).length:=by rw [hk];exact ht
     rw [List.getElem?_eq_getElem this];simp [this]
   rw [List.getElem?_append_right (by rw [hk];exact ht),hk];have h':t-k<l.length*k:=by rw [qam,qbu] at h;omega
   rw [ztf hk h0 h']
   have e1:t / k=(t-k) / k+1:=by
     have:t=(t-k)+k:=oo
     conv=>lhs;rw [this]
     rw [Nat.add_div_right _ h0]
   have e2:t%k=(t-k)%k:=by
     have:t=(t-k)+k:=oo
     conv=>lhs;rw [this]
     rw [Nat.add_mod_right]
   rw [e1,e2];simp
def zp6 (hk:∀ x,(enc x).length=k) (h0:0<k) {l:List α} {t:Nat} (h:t<l.length*k):(l.flatMap enc)[t]?=some (flatK enc k l.toArray)[t]!:=by
 rw [ztf hk h0 h,get_flatK enc k l.toArray t (by simpa using h)];simp
end
section
variable {α:Type} [Rep α] [Flat α] [Inhabited α] {w:wD} {enc:α->List vL} {b o n cap:Nat} {l:List α}
theorem zp7 (henc:∀ {F w cs} {x:α},rep F w cs x->cs=enc x):∀ {l:List α} {F:List Nat} {xs:List vL},Cells F w xs l->xs=l.flatMap enc
 | [],_,_,⟨_,h⟩=>by simp [h]
 | y :: ys,_,_,⟨F1,F2,c1,c2,_,h,h1,h2⟩=>by rw [h,henc h1,zp7 henc h2,qbG]
theorem zp8 {w':wD} (henc:∀ {F w cs} {x:α},rep F w cs x->cs=enc x):∀ {l:List α},(∀ x∈l,∃ F cs,rep F w cs x)->Cells [] w' (l.flatMap enc) l
 | [],_=>⟨rfl,rfl⟩
 | y :: ys,h=>by
   obtain ⟨F,cs,hr⟩:=h y ss;have hF:=Flat.flat hr;subst hF;have hc:=henc hr;subst hc;exact ⟨[],[],enc y,ys.flatMap enc,rfl,rfl,Rep.keep hr ss,zp8 henc λx hx=>h x (by simp [hx])⟩
theorem zp9:∀ {l:List α} {F:List Nat} {xs:List vL},Cells F w xs l->∀ x∈l,∃ F cs,rep F w cs x
 | y :: ys,_,_,⟨F1,F2,c1,c2,_,h,h1,h2⟩,x,hx=>by
   rcases qaa.1 hx with rfl | hx
   . exact ⟨_,_,h1⟩
   exact zp9 h2 x hx
def zlP (g0:∀ {F w cs} {x:α},rep F w cs x->cs=enc x) (hk:∀ x,(enc x).length=Rep.size α) (hw:∃ c e,w.heap[b]?=some (.cells c e (0,0))) {xs:List vL} (hc:Cells [] w xs l) (hr:w.rangeAt b o xs):HoldsK enc (Rep.size α) w b o l.toArray:=by
 intro j hj;rw [size_flatK] at hj;have g1:j<l.length*Rep.size α:=by simpa using hj
 have:=zp7 g0 hc;subst this;have h1:=hr j _ (zp6 hk Rep.pos g1);refine ⟨h1,?_⟩;obtain ⟨c,e,he⟩:=hw;simp [World.frozen?,he]
def zlQ (g0:∀ {F w cs} {x:α},rep F w cs x->cs=enc x) (hk:∀ x,(enc x).length=Rep.size α) {d':Array α} {m:Nat} {os:Array Obj} {w3:wD} (g4:w3=sortWorldK enc (Rep.size α) w b o m d' os) (hw:∃ c e,w.heap[b]?=some (.cells c e (0,0))) {xs:List vL} (hc:Cells [] w xs l) (hr:w.rangeAt b o xs)
   (h1:l.length<=cap) (h2:cap<=maxLen) (hl:d'.size=l.length) (hp:∀ x∈d'.toList,x∈l):Chg [b] w w3/\Mine [b] w3 (.slice (some ⟨b,o,none⟩) l.length cap) d'.toList:=by
 subst g4;have hH:=zlP g0 hk hw hc hr;obtain ⟨c,e,he⟩:=hw;have hb:b<w.heap.size:=(Array.getElem?_eq_some_iff.1 he).1;have g1:(putRowK enc (Rep.size α) (Sort.ahead w m) b o d').heap.size=w.heap.size:=by simp [putRowK,putRow,mapBlock,Sort.ahead]
 have g2:∀ i,i<w.heap.size->i≠b->(sortWorldK enc (Rep.size α) w b o m d' os).heap[i]?=w.heap[i]?:=λi hi g5=>by
   unfold sortWorldK;rw [heap_grow_old _ _ (by rw [g1];exact hi)];simp [putRowK,putRow,mapBlock,Sort.ahead,Array.getElem?_modify,g5.symm]
 have g9:∃ c',(sortWorldK enc (Rep.size α) w b o m d' os).heap[b]?=some (.cells c' e (0,0)):=by
   unfold sortWorldK;rw [heap_grow_old _ _ (by rw [g1];exact hb)];exact ⟨_,by simp [putRowK,putRow,mapBlock,Sort.ahead,Array.getElem?_modify,he,onCells];rfl⟩
 have g3:w.heap.size<=(sortWorldK enc (Rep.size α) w b o m d' os).heap.size:=by
   unfold sortWorldK grow;rw [Array.size_append,g1];omega
 refine ⟨⟨rfl,rfl,rfl,g3,λi hi hm=>g2 i hi λe=>hm (by simp [e])⟩,⟨⟨_,⟨some ⟨b,o,none⟩,cap,[],d'.toList.flatMap enc,rfl,by simpa [hl] using h1,h2,?_,.inr ⟨b,o,rfl,rfl,?_,oo⟩⟩,by simp [mkv,Rep.agg,hl]⟩,ss,λi hi=>?_⟩⟩
 . exact zp8 (w:=w) g0 λx hx=>zp9 hc x (hp x hx)
 . intro j _ hv
   have hj:j<d'.toList.length*Rep.size α:=by
     have:=(List.getElem?_eq_some_iff.1 hv).1;rwa [zte hk] at this
   rw [zp6 hk Rep.pos hj,qaq] at hv;have gb:j<(flatK enc (Rep.size α) d').size:=by rw [size_flatK];simpa using hj
   have:=cell?_putRow id (Sort.ahead w m) b o (flatK enc (Rep.size α) l.toArray) (flatK enc (Rep.size α) d') hH (by simp [hl]) j gb;unfold sortWorldK;rw [cell?_grow _ _ _ (by rw [g1];exact hb)];show (putRow id (Sort.ahead w m) b o (flatK enc (Rep.size α) d')).cell? _=_;rw [this,<-hv];simp
 simp only [qaa,qag,qaz] at hi;subst hi;obtain ⟨c',gc⟩:=g9;exact ⟨c',e,gc⟩
end
end Go.Sh
namespace Go.Proofs.YtkgiigmcbgifdaaGreatDoor
open Go Go.Sh Go.Proofs
open Rep (rep)
variable {F:List Nat} {K:vL->Prop} {P:pG} {W W0 w w1 w4:wD} {a:Int} {cs:List vL} {e g hi i j k lo m n q:Nat} {s:ByteArray} {t:TypeId} {u v:vL}
def zEx:zcq tp 3=some [.int .i64 0]:=by kernel_rfl
def ztg (x y:Int):Int:=if x<y then -1 else if y<x then 1 else 0
def zwR:List Int->List Int->Int
 | [],[]=>0
 | [],_ :: _=>-1
 | _ :: _,[]=>1
 | x :: l,y :: m=>if ztg x y≠0 then ztg x y else zwR l m
def isNaN_ok {x:Int}:CALL tp 283 [.int .i64 x] w λr w'=>w'=w/\r=.bool false:=by
 refine co (g:=kf [] [] []) Tryz.func283 ?_;exact zaJ ⟨rfl,ss⟩
def compareI_ok {x y:Int}:CALL tp 219 [.int .i64 x,.int .i64 y] w λr w'=>w'=w/\r=.int .i64 (ztg x y):=by
 refine co (g:=kf [] [] []) Tryz.func219 ?_;refine isNaN_ok.mono ?_;rintro _ _ ⟨rfl,rfl⟩;refine isNaN_ok.mono ?_;rintro _ _ ⟨rfl,rfl⟩;refine zaN (λh=>by cases h) (λ_=>?_);refine zaN (λh=>by cases h) (λ_=>?_);refine zah<|br (λh=>⟨rfl,by rw [ztg,qah h]⟩) (λh=>?_);refine zbZ<|br (λh2=>⟨rfl,by rw [ztg,qad h,qah h2]⟩) (λh2=>⟨rfl,by rw [ztg,qad h,qad h2]⟩)
def zoM {t ty e:TypeId} {a:Option Addr} {n c:Nat} (ht:P.underlying t=some (.slice e)) (k:K (.int .i64 (n:Int))) :
   RD P (Builtin.len_ #[t] ty [Value.slice a n c].toArray) w K:=za9 (λw' _=>by simp [Builtin.len_,run_underlying ht];rfl) k
def vI (l:List Int):List vL:=l.map λx=>.int .i64 x
def zA8 {l:List Int} (h:k<l.length):(vI l)[k]?=some (.int .i64 l[k]):=by simp [vI,h]
def zwS {l m:List Int} (h1:k<l.length) (h2:k<m.length):zwR (l.drop k) (m.drop k)=if ztg l[k] m[k]≠0 then ztg l[k] m[k] else zwR (l.drop (k+1)) (m.drop (k+1)):=by
 rw [qax h1,qax h2,zwR]
def zlR {g1 g2 e1 e2 c1 c2:Nat} {l m:List Int} (h1:Blk g1 e1 w (vI l)) (h2:Blk g2 e2 w (vI m)) (hl:l.length<=1000) (hm:m.length<=1000) :
   CALL tp 164 [.slice (some ⟨g1,0,none⟩) l.length c1,.slice (some ⟨g2,0,none⟩) m.length c2] w λr w'=>w'=w/\r=.int .i64 (zwR l m):=by
 refine co (g:=kf [] [(2,2147482096,[11])] []) Tryz.func164 ?_;refine zoM u31<|zar l.length (λk us w'=>us=[.int .i64 (k:Int)]/\w'=w/\k<=m.length/\zwR l m=zwR (l.drop k) (m.drop k)) 0 (z0 _) ⟨rfl,rfl,z0 _,rfl⟩ ?_;rintro k mk _ _ _ ⟨hu,rfl,_,hc⟩;try replace hu:=zbv hu
 rw [hu];refine zah<|br (λ_=>?_) (λg9=>?_)
 . have g0:k<l.length:=oo;refine zk9 u31 ty3 g0 ?_;rw [qcW];refine zaj ty3 h1 (zA8 g0)<|zoM u31<|zcH<|br (λg9=>?_) (λg3=>?_)
   . refine ⟨rfl,?_⟩;have e0:m.drop k=[]:=qb5 oo;rw [hc,qax g0,e0];rfl
   have g4:k<m.length:=oo;refine zk9 u31 ty3 g4 ?_;rw [qcW];refine zaj ty3 h2 (zA8 g4)<|compareI_ok.mono ?_;rintro _ _ ⟨rfl,rfl⟩;have g5:=zwS g0 g4;refine zaJ<|br (λgb=>?_) (λgc=>?_)
   . exact ⟨rfl,by rw [hc,g5,qah gb]⟩
   refine zaw<|⟨mk-1,oo,k+1,oo,rfl,rfl,oo,by rw [hc,g5,qad gc]⟩
 have hk:k=l.length:=oo;subst hk;refine zoM u31<|zoM u31<|zah ?_;rw [qbk] at hc;refine br (λg3=>⟨rfl,?_⟩) (λ_=>⟨rfl,?_⟩)
 . rw [hc,qax oo];rfl
 rw [hc,qb5 oo];rfl
section
variable {P:pG} {w:wD} {K:VW}
def zjN {t:TypeId} {cs:Array vL} (k:K (.pointer (some ⟨w.heap.size,0,none⟩)) (w.alloc (.cells cs t))):OP P (Instr.box t (.agg cs)) w K:=
 ⟨_,w.alloc (.cells cs t),by simp [Instr.box,newVar,newRow,Value.cells],k⟩
theorem zhJ {t e:TypeId} {by_:Nat} {x y z:Int} (ht:P.underlying t=some (.slice e)) (he:tyI P e=some (1,by_,false)) (hz:zcq P e=some [.int .i64 0])
   (k:K (.slice (some ⟨w.heap.size,0,none⟩) 3 3) (w.alloc (.cells (vI [x,y,z]).toArray e))):OP P (Instr.buildSlice t 3 #[(0,.int .i64 x),(1,.int .i64 y),(2,.int .i64 z)]) w K:=by
 unfold zcq at hz;cases hi:P.info? e with
 | none=>simp [hi] at hz
 | some i=>
   simp only [hi] at hz;obtain ⟨v,hv,g1⟩:=qaS.1 hz;refine ⟨_,w.alloc (.cells (vI [x,y,z]).toArray e),?_,k⟩;have g0:v.cells=#[.int .i64 0]:=qcc (by simpa using g1);have e1:∀ n:Int,(Value.int .i64 n).cells=#[.int .i64 n]:=λ_=>rfl;simp only [Instr.buildSlice,Sem.run_bind,run_underlying ht,Result.andThen_ok,za6 he];have e2:Array.range 3=#[0,1,2]:=by decide
   simp [zeroValue,typeInfo,hi,hv,newRow,Instr.fill,g0,vI,e1,e2]
end
def zwT:Blk w.heap.size e (w.alloc (.cells cs.toArray e)) cs:=heap_alloc_new w _
def i3 (a b c:Int):Array vL:=#[.int .i64 a,.int .i64 b,.int .i64 c]
def ziq (w w':wD):Prop:=∃ q os,w'=Go.Sort.grow (w.drewN q) os
def zko (o1 o2 o3 o4:Obj):ziq w ((((w.alloc o1).alloc o2).alloc o3).alloc o4):=
 ⟨0,#[o1]++#[o2]++#[o3]++#[o4],by
   rw [Go.Sort.alloc_eq_grow,Go.Sort.alloc_eq_grow,Go.Sort.alloc_eq_grow,Go.Sort.alloc_eq_grow,Go.Sort.grow_grow,Go.Sort.grow_grow,Go.Sort.grow_grow];rfl⟩
def zlS (x:DRace):List Int:=[x.g,x.a,x.b]
def zy9 (x y:DRace):Int:=zwR (zlS x) (zlS y)
def zlT {x y:DRace}:CALL tp 155 [.agg (i3 x.g x.a x.b),.agg (i3 y.g y.a y.b)] w λr w'=>r=.int .i64 (zy9 x y)/\ziq w w':=by
 refine co (g:=kf [] [] []) Tryz.func155 ?_;refine zjN ?_;have g0:Blk w.heap.size 46 (w.alloc (.cells (i3 x.g x.a x.b) 46)) (vI (zlS x)):=heap_alloc_new w _;refine zjN ?_;generalize hw1:w.alloc (.cells (i3 x.g x.a x.b) 46)=w1 at *;have g1:Blk w1.heap.size 46 (w1.alloc (.cells (i3 y.g y.a y.b) 46)) (vI (zlS y)):=heap_alloc_new w1 _;have g2:=zaU w1 (.cells (i3 y.g y.a y.b) 46);generalize hw2:w1.alloc (.cells (i3 y.g y.a y.b) 46)=w2 at *;have C:=g0.ext g2;refine zaa ziK<|zaj ty3 C rfl<|zaa zkf<|zaj ty3 C rfl<|zaa znb<|zaj ty3 C rfl<|zhJ u31 ty3 zEx ?_;have g3:=zaU w2 (.cells (vI [x.g,x.a,x.b]).toArray 3);have g4:Blk w2.heap.size 3 (w2.alloc (.cells (vI [x.g,x.a,x.b]).toArray 3)) (vI (zlS x)):=heap_alloc_new w2 _;generalize hw3:w2.alloc (.cells (vI [x.g,x.a,x.b]).toArray 3)=w3 at *;have D:=g1.ext g3;refine zaa ziK<|zaj ty3 D rfl<|zaa zkf<|zaj ty3 D rfl<|zaa znb<|zaj ty3 D rfl<|zhJ u31 ty3 zEx ?_;have g5:=zaU w3 (.cells (vI [y.g,y.a,y.b]).toArray 3);have g9:Blk w3.heap.size 3 (w3.alloc (.cells (vI [y.g,y.a,y.b]).toArray 3)) (vI (zlS y)):=heap_alloc_new w3 _;have hg:ziq w (w3.alloc (.cells (vI [y.g,y.a,y.b]).toArray 3)):=by rw [<-hw3,<-hw2,<-hw1];exact zko _ _ _ _
 refine (zlR (l:=zlS x) (m:=zlS y) (g4.ext g5) g9 (by simp [zlS]) (by simp [zlS])).mono ?_;rintro _ _ ⟨rfl,rfl⟩;exact ⟨rfl,hg⟩
def ltR (x y:DRace):Prop:=x.g<y.g\/(x.g=y.g/\(x.a<y.a\/(x.a=y.a/\x.b<y.b)))
def zjO {x y:Int} (h:x<y):ztg x y=-1:=by rw [ztg,qah h]
def zjP {x y:Int} (h:y<x):ztg x y=1:=by rw [ztg,qad oo,qah h]
def zjQ {x y:Int} (h:x=y):ztg x y=0:=by rw [ztg,qad oo,qad oo]
def zCd {x y:DRace}:zy9 x y<0↔ltR x y:=by
 unfold zy9 zlS ltR;simp only [zwR];rcases qbU x.g y.g with h | h | h
 . rw [zjO h];simp;omega
 . rw [zjQ h];rcases qbU x.a y.a with h2 | h2 | h2
   . rw [zjO h2];simp;omega
   . rw [zjQ h2];rcases qbU x.b y.b with h3 | h3 | h3
     . rw [zjO h3];simp;omega
     . rw [zjQ h3];simp;omega
     rw [zjP h3];simp;omega
   rw [zjP h2];simp;omega
 rw [zjP h];simp;omega
def zeC (ht:P.underlying t=some .string) (h1:i<=j) (h2:j<=s.size) (k:K (.string (s.extract i j))):RD P (Instr.sliceAt t (.string s) (some (.int .i64 (i:Int))) (some (.int .i64 (j:Int))) none) w K:=
 za9 (λw' _=>by
   have h:=run_slice_string (P:=P) (w:=w') t s .i64 .i64 (i:Int) (j:Int) ht oo oo oo;simp only [qaF] at h;simp only [Instr.sliceAt,Sem.run_bind,run_underlying ht,Result.andThen_ok];exact h) k
def zqa (h:RunTo s i e) (hm:s.size<=1000000):CALL tp 191 [.string s,.int .i64 (i:Int)] w λr w'=>Ext w w'/\r=.int .i64 (e:Int):=by
 have g4:=h.le;have hlt:=h.lt;refine co (g:=kf [] [(1,8388578,[1])] []) Tryz.func191 ?_;refine zar e (λk us w'=>us=[.int .i64 (k:Int)]/\i<=k/\Ext w w') i g4 ⟨rfl,lr _,xrf _⟩ ?_;rintro k m _ _ _ ⟨hu,g5,g0⟩;try replace hu:=zbv hu
 rw [hu];refine zb8 u9<|zah<|br (λhk=>?_) (λhk=>?_)
 . have hk:k<s.size:=oo
   have g2:(zeK s k || zf4 s k)=true->k<e:=λhh=>by
     rcases qaw k e with h1 | h1
     . exact h1
     have:=h.stop oo;rw [show e=k by omega,hh] at this;cases this
   refine zba u9 hk<|l02Letter_ok.mono ?_;rintro _ _ ⟨g1,rfl⟩;rw [<-zlz hk];refine zub (λhl=>?_) (λhl=>?_)
   . have:=g2 (by rw [hl];rfl);refine zaw<|⟨m-1,oo,k+1,oo,rfl,oo,g0.t g1⟩
   refine zba u9 hk<|l02Figure_ok.mono ?_;rintro _ _ ⟨g3,rfl⟩;rw [<-zou hk];refine zaN (λhf=>?_) (λhf=>?_)
   . have:=g2 (by rw [hl,hf];rfl);refine zaw<|⟨m-1,oo,k+1,oo,rfl,oo,g0.t (g1.t g3)⟩
   have:k=e:=by
     rcases qaw k e with h1 | h1
     . have:=h.all k g5 h1;rw [hl,hf] at this;cases this
     omega
   rw [this];exact ⟨g0.t (g1.t g3),rfl⟩
 have:k=e:=oo;rw [this];exact ⟨g0,rfl⟩
def isMark_ok    :
   CALL tp 194 [.string s] w λr w'=>Ext w w'/\(r=.bool (decide (s∈zaV))):=by
 refine co (g:=kf [] [] []) Tryz.func194 ?_;refine zat<|br (λc1=>?_) (λc1=>?_)
 . refine ⟨xrf w,?_⟩;have hm:s∈zaV:=by simp [zaV, *]
   simp [hm]
 refine zat<|br (λc2=>?_) (λc2=>?_)
 . refine ⟨xrf w,?_⟩;have hm:s∈zaV:=by simp [zaV, *]
   simp [hm]
 refine zat<|br (λc3=>?_) (λc3=>?_)
 . refine ⟨xrf w,?_⟩;have hm:s∈zaV:=by simp [zaV, *]
   simp [hm]
 refine zat<|br (λc4=>?_) (λc4=>?_)
 . refine ⟨xrf w,?_⟩;have hm:s∈zaV:=by simp [zaV, *]
   simp [hm]
 refine zat<|br (λc5=>?_) (λc5=>?_)
 . refine ⟨xrf w,?_⟩;have hm:s∈zaV:=by simp [zaV, *]
   simp [hm]
 refine zat<|br (λc6=>?_) (λc6=>?_)
 . refine ⟨xrf w,?_⟩;have hm:s∈zaV:=by simp [zaV, *]
   simp [hm]
 refine zat<|br (λc7=>?_) (λc7=>?_)
 . refine ⟨xrf w,?_⟩;have hm:s∈zaV:=by simp [zaV, *]
   simp [hm]
 refine zat<|br (λc8=>?_) (λc8=>?_)
 . refine ⟨xrf w,?_⟩;have hm:s∈zaV:=by simp [zaV, *]
   simp [hm]
 refine zat<|br (λc9=>?_) (λc9=>?_)
 . refine ⟨xrf w,?_⟩;have hm:s∈zaV:=by simp [zaV, *]
   simp [hm]
 refine zat<|br (λg0=>?_) (λg0=>?_)
 . refine ⟨xrf w,?_⟩;have hm:s∈zaV:=by simp [zaV, *]
   simp [hm]
 refine zat<|br (λg1=>?_) (λg1=>?_)
 . refine ⟨xrf w,?_⟩;have hm:s∈zaV:=by simp [zaV, *]
   simp [hm]
 refine zat<|br (λg2=>?_) (λg2=>?_)
 . refine ⟨xrf w,?_⟩;have hm:s∈zaV:=by simp [zaV, *]
   simp [hm]
 refine ⟨xrf w,?_⟩;have hm:s∉zaV:=by simp [zaV, *]
 simp [hm]
def zDY:zcq tp 165=some [.int .i64 0,.string nO,.int .i64 0]:=by kernel_rfl
def zA9:zcq tp 49=some [.int .i64 0,.int .i64 0]:=by kernel_rfl
def zfF {k:Int} {t:ByteArray} (hk:I64 k) (ht:t.size<=maxLen) (ha:I64 a):OwnI lo hi w (.agg #[.int .i64 k,.string t,.int .i64 a]) (⟨k,t,a⟩:DSign):=⟨[],zyW (x:=⟨k,t,a⟩) hk ht ha,ss⟩
def zh6 {c a:Int} (hc:I64 c) (ha:I64 a):OwnI lo hi w (.agg #[.int .i64 c,.int .i64 a]) (⟨c,a⟩:DFault):=⟨[],zwi (x:=⟨c,a⟩) hc ha,ss⟩
def zth (h:zeK s k=true):zch s k=(decide (zcK s k-k<=12),⟨1,s.extract k (zcK s k),k⟩):=by unfold zch;rw [qah h]
def zti (h:zeK s k=false) (h2:zf4 s k=true):zch s k=((zky (s.extract k (zcK s k))).isSome,⟨2,s.extract k (zcK s k),k⟩):=by unfold zch;rw [qad (by rw [h];decide),qah h2]
def zwU (h:zeK s k=false) (h2:zf4 s k=false) (h3:k+2<=s.size/\s.extract k (k+2)=ByteArray.mk #[61,61]):zch s k=(true,⟨3,s.extract k (k+2),k⟩):=by
 unfold zch;rw [qad (by rw [h];decide),qad (by rw [h2];decide),qah h3]
def zrL (h:zeK s k=false) (h2:zf4 s k=false) (h3:¬(k+2<=s.size/\s.extract k (k+2)=ByteArray.mk #[61,61])):zch s k=(decide (s.extract k (k+1)∈zaV),⟨3,s.extract k (k+1),k⟩):=by
 unfold zch;rw [qad (by rw [h];decide),qad (by rw [h2];decide),qad h3]
def zqb:ByteArray.mk #[61,61]∈zaV:=by simp [zaV]
theorem ztj {dn:List DSign} (hn:s.size<n+k) (hk:s.size<=k):zjv s n k dn=(dn,⟨0,0⟩):=by
 cases n with
 | zero=>rw [zjv]
 | succ n=>rw [zjv,qad oo]
theorem zwV {dn:List DSign} (hn:s.size<n+k) (hk:k<s.size):∃ m,s.size<m+k+1/\zjv s n k dn=if zrA s k then zjv s m (k+1) dn else if (zch s k).1=true then zjv s m (k+(zch s k).2.text.size) (dn++[(zch s k).2]) else ([],⟨2,(k:Int)⟩):=by
 cases n with
 | zero=>omega
 | succ n=>exact ⟨n,oo,by rw [zjv,qah hk]⟩
def zoN (w:wD) (s:ByteArray) (r:vL) (w':wD):Prop:=Ext w w'/\∃ a,r=.tuple #[a,.agg #[.int .i64 (zdk s).2.code,.int .i64 (zdk s).2.at_]]/\Own w.heap.size w' a (zdk s).1
def specLex_ok:CALL tp 115 [.string s] w (zoN w s):=by
 refine co (g:=kf [(23,1237940039285371478806102656,[7,9])] [(5,40564819207303340847894502507508,[4,5])] []) Tryz.func115 ?_;refine za1 zA9 λw1 gr gs=>?_;have hs1:=gr.size;have hb1:=gs.lt
 have Z:∀ {w2:wD} {a:vL} {l:List DSign} {f:DFault} {lo hi:Nat},Ext w1 w2->zdk s=(l,f)->OwnI lo hi w2 a l->w1.heap.size<=lo->I64 f.code->I64 f.at_ ->
     OPU tp (Instr.storeAt 49 (.pointer (some ⟨w.heap.size,0,none⟩)) (.agg #[.int .i64 f.code,.int .i64 f.at_])) w2 λw3=>RD tp (zbr 49 (.pointer (some ⟨w.heap.size,0,none⟩))) w3 λv=>zoN w s (.tuple [a,v].toArray) w3:=by
   intro w2 a l f lo hi V hl ho _ hc ha;refine za3 (α:=DFault) (lo:=0) (hi:=0) zmR rfl (gs.ext V) rfl (zh6 hc ha) λw3 gt gI=>zcL gI zmR<|⟨(gr.t V).chgI gt (lr _),a,by rw [hl],?_⟩;rw [hl];exact (ho.chg gt (.inr oo)).own.mono oo
 refine zb8 u9<|zbZ<|br (λ_=>?_) (λ_=>?_)
 . refine zaI (α:=DSign) u92 zef λa2 w2 V gx=>?_;refine zas (cells:=#[.int .i64 1,.int .i64 0]) kK<|Z (f:=⟨1,0⟩) V (by unfold zdk;rw [qah oo]) gx.own V.size (by unfold I64;simp only;omega) (by unfold I64;simp only;omega)
 have hm:s.size<=6000:=oo;have hD:zdk s=zjv s (s.size+1) 0 []:=by unfold zdk;rw [qad oo]
 refine zaI (α:=DSign) u92 zef λa2 w2 V gx=>?_;have hs2:=V.size;refine zar s.size (λk us w'=>∃ (out:vL) (dn:List DSign) (n:Nat),us=[out,.int .i64 (k:Int)]/\k<=s.size/\s.size<n+k/\zdk s=zjv s n k dn/\dn.length<=k/\Ext w1 w'/\RowI w1.heap.size w'.heap.size 165 w' out dn) 0 (z0 _) ⟨_,[],s.size+1,rfl,z0 _,oo,hD,ss,V,zcg _ _ _ _ _⟩ ?_;rintro k m _ w3 _ ⟨out,dn,n,hu,_,hn,hL,_,g4,gg⟩;obtain ⟨gJ,gK⟩:=zcv hu;rw [gJ,gK];have hs3:=g4.size;refine zb8 u9<|zah<|br (λ_=>?_) (λ_=>?_)
 case refine_2=>rw [ztj hn oo] at hL;refine zas (cells:=#[.int .i64 0,.int .i64 0]) kK<|Z (f:=⟨0,0⟩) g4 hL gg.own (lr _) (by unfold I64;simp only;omega) (by unfold I64;simp only;omega)
 have hk:k<s.size:=oo;obtain ⟨n',_,gy⟩:=zwV (dn:=dn) hn hk;rw [gy] at hL;refine zba u9 hk ?_;rw [zfA hk]
 have C:zrA s k->RD tp (bin .add 3 (.tmp 0) (.const undef) (.int .i64 (k:Int)) (Value.int .i64 1)) w3 λgL=>∃ m',m'<m/\∃ k',k'+m'=s.size/\∃ (out':vL) (dn:List DSign) (n:Nat),[out,gL]=[out',.int .i64 (k':Int)]/\k'<=s.size/\s.size<n+k'/\zdk s=zjv s n k' dn/\dn.length<=k'/\Ext w1 w3/\RowI w1.heap.size w3.heap.size 165 w3 out' dn:=λhb=>by
   rw [qah hb] at hL;refine zaw<|⟨m-1,oo,k+1,oo,out,dn,n',rfl,oo,oo,hL,oo,g4,gg⟩
 refine zag<|br (λhb=>C (.inl hb)) (λ_=>?_);refine zag<|br (λhb=>C (.inr (.inl hb))) (λ_=>?_);refine zag<|br (λhb=>C (.inr (.inr (.inl hb)))) (λ_=>?_);refine zag<|br (λhb=>C (.inr (.inr (.inr hb)))) (λ_=>?_);have gM:¬zrA s k:=λhb=>by rcases hb with h | h | h | h<;>contradiction
 rw [qad gM] at hL;clear C gy;refine zaw<|zas (cells:=#[.int .i64 3,.string nO,.int .i64 (k:Int)]) kK<|za1 zDY λ_ gz gA=>?_;have hs4:=gz.size;have hb4:=gA.lt;refine za3 (α:=DSign) (lo:=0) (hi:=0) zef rfl gA rfl (zfF io zdm io) λw5 gB gh=>?_;have hs5:=gB.size;have g0:Ext w3 w5:=gz.chgI gB (lr _);obtain ⟨X,hX⟩:∃ X,X=zch s k:=⟨_,rfl⟩;rw [<-hX] at hL;refine JOIN.mk (λus w'=>∃ e:Nat,us=[.int .i64 (e:Int),.bool X.1]/\k<e/\e<=s.size/\X.2.text=s.extract k e/\X.2.at_=(k:Int)/\(1<=X.2.kind/\X.2.kind<=3)/\Ext w3 w'/\Blk w3.heap.size 165 w' [.int .i64 X.2.kind,.string nO,.int .i64 (k:Int)]) ?_ ?_
 . rw [<-zfA hk];refine l02Letter_ok.mono ?_;rintro _ w6 ⟨gi,rfl⟩;rw [<-zlz hk];have M:=ziS (s:=s) (i:=k) oo;refine zaN (λhl=>?_) (λhl=>?_)
   . have D:X=_:=hX.trans (zth hl);have g5:=zeB (s:=s) (i:=k) (by rw [hl];rfl);refine (zqa M oo).mono ?_;rintro _ w7 ⟨g1,rfl⟩;refine zaa zlg<|zaW (α:=Int) (lo:=0) (hi:=0) ty3 rfl rfl (gh.ext (gi.t g1)) ss (ownI_int io) λw8 gj gN=>?_;have gl:Ext w3 w8:=(g0.t (gi.t g1)).chgI gj (lr _);refine zeC u9 oo M.lt<|l02Word_ok.mono ?_;rintro _ w9 ⟨g9,rfl⟩;refine ⟨zcK s k,by rw [zy1 hl M g5,D],g5,M.lt,by rw [D],by rw [D],by rw [D];simp only;omega,gl.t g9,?_⟩;rw [D];exact gN.ext g9
   rw [show ((((bts s)[k]'(by rw [zaB];exact hk)).toNat:Int))=_ from rfl];refine l02Figure_ok.mono ?_;rintro _ w7 ⟨g1,rfl⟩;rw [<-zou hk];have U:=gi.t g1;refine zaN (λhf=>?_) (λhf=>?_)
   . have D:X=_:=hX.trans (zti hl hf);have g5:=zeB (s:=s) (i:=k) (by rw [hf];simp);refine (zqa M oo).mono ?_;rintro _ w8 ⟨gb,rfl⟩;refine zaa zlg<|zaW (α:=Int) (lo:=0) (hi:=0) ty3 rfl rfl (gh.ext (U.t gb)) ss (ownI_int io) λw9 gO gP=>?_;have gn:Ext w3 w9:=(g0.t (U.t gb)).chgI gO (lr _);refine zeC u9 oo M.lt<|specReadDecimal_ok.mono ?_;rintro _ _ ⟨gc,rfl⟩;refine zal rfl<|zal rfl<|⟨zcK s k,by rw [D];rfl,g5,M.lt,by rw [D],by rw [D],by rw [D];simp only;omega,gn.t gc,?_⟩;rw [D];exact gP.ext gc
   have O:∀ {e:Nat} {w8:wD},k<e->e<=s.size->Ext w7 w8->X=(decide (s.extract k e∈zaV),⟨3,s.extract k e,k⟩)->RD tp (Instr.sliceAt 9 (.string s) (some (.int .i64 (k:Int))) (some (.int .i64 (e:Int))) none) w8 λgQ=>CALL tp 194 [gQ] w8 λgR w'=>∃ e':Nat,[Value.int .i64 (e:Int),gR]=[.int .i64 (e':Int),.bool X.1]/\k<e'/\e'<=s.size/\X.2.text=s.extract k e'/\X.2.at_=(k:Int)/\(1<=X.2.kind/\X.2.kind<=3)/\Ext w3 w'/\Blk w3.heap.size 165 w' [.int .i64 X.2.kind,.string nO,.int .i64 (k:Int)]:=λ{e w8} h1 h2 gb D=>by
     refine zeC u9 oo h2<|isMark_ok.mono ?_;rintro _ w9 ⟨g9,rfl⟩;refine ⟨e,by rw [D],h1,h2,by rw [D],by rw [D],by rw [D];simp only;omega,g0.t (U.t (gb.t g9)),?_⟩;rw [D];exact gh.ext (U.t (gb.t g9))
   refine zdK io<|zb8 u9<|zdJ<|br (λgC=>?_) (λgC=>O (e:=k+1) oo oo (xrf w7) (hX.trans (zrL hl hf λh=>gC (by have:=h.1;omega))));refine zdK io ?_;rw [show (k:Int)+2=((k+2:Nat):Int) by omega];refine zeC u9 oo oo<|zat<|br (λgf=>?_) (λgf=>O (e:=k+1) oo oo (xrf w7) (hX.trans (zrL hl hf λh=>gf h.2)));refine zdK io ?_;rw [show (k:Int)+2=((k+2:Nat):Int) by omega];refine O (e:=k+2) oo oo (xrf w7) ?_;rw [hX,zwU hl hf ⟨oo,gf⟩,decide_eq_true (by rw [gf];exact zqb)]
 rintro _ w6 ⟨e,gS,g5,gD,gE,gT,_,g2,gF⟩;obtain ⟨gU,gV⟩:=zcv gS;rw [gU,gV];have hs6:=g2.size;have hb6:=gF.lt;have gG:(s.extract k e).size=e-k:=by rw [qbg];omega
 refine zau<|zaN (λgp=>?_) (λgq=>?_)
 . have gp:X.1=false:=by simpa using gp
   rw [qad (by rw [gp];decide)] at hL;refine zaI (α:=DSign) u92 zef λ_ w7 g1 gW=>zas (cells:=#[.int .i64 2,.int .i64 (k:Int)]) kK<|Z (f:=⟨2,(k:Int)⟩) ((g4.t g2).trans g1) hL gW.own (by have:=g1.size;omega) (by unfold I64;simp only;omega) (by unfold I64;simp only;omega)
 have gq:X.1=true:=by simpa using gq
 rw [qah gq,gE,gG,show k+(e-k)=e by omega] at hL;refine zeC u9 oo gD<|zaa zfb ?_;have gd:(s.extract k e).size<=maxLen:=by rw [gG,zak];omega
 refine zaW (α:=ByteArray) (lo:=0) (hi:=0) ty9 rfl rfl gF ss (zgC gd) λw7 gH gX=>?_;have hs7:=gH.size;have g3:Ext w3 w7:=g2.chgI gH (lr _);refine zfg gX zef ?_;have gY:X.2=⟨X.2.kind,s.extract k e,(k:Int)⟩:=by rw [<-gE,<-gT]
 rw [gY] at hL;refine zbs (lo2:=w7.heap.size) (hi2:=w7.heap.size) (x:=(⟨X.2.kind,s.extract k e,(k:Int)⟩:DSign)) u92 zef zE3 zDu dD ((gg.ext g3).mono (lr _) g3.size) oo (zfF io gd io) (lr _) oo (by rw [zak];omega) oo λv8 w8 gj gZ=>⟨s.size-e,oo,e,oo,v8,_,n',rfl,gD,oo,hL,by rw [qab,qaC];omega,(g4.t g3).chgI gj (lr _),gZ⟩
def ztk {α:Type} (dn:List α) (r:Rd (List α)):Rd (List α):=r.go λl j=>.ok (dn++l,j)
theorem zkJ {α:Type} (r:Rd (List α)):ztk [] r=r:=by
 match r with
 | .error f=>rfl
 | .ok (l,j)=>rfl
theorem zoO {α:Type} {dn:List α} {s:α} (r:Rd (List α)):ztk dn (r.go λl j=>.ok (s :: l,j))=ztk (dn++[s]) r:=by
 match r with
 | .error f=>rfl
 | .ok (l,j)=>simp [ztk,Rd.go]
def zza (L:List DSign) (e:Int) (d j:Nat):Rd (List ByteArray):=if atT L j zni then zlr L e d (j+1) else (zeJ L e zdV j).go λ_ j=>.ok ([],j)
theorem zoP {L:List DSign} {e:Int} (d i:Nat):zlr L e (d+1) i=(zhe L e i).go λs j=>(zza L e d j).go λl j=>.ok (s :: l,j):=by
 rw [zlr];congr 1;funext s j;unfold zza;split
 . rfl
 cases zeJ L e zdV j with
 | error f=>rfl
 | ok p=>rfl
def NI (L:List DSign) (e:Int) (i1 q:Nat) (l:List ByteArray) (st':RSt):Prop:=
 match st' with
 | .error f=>¬atT L i1 zdV/\zlr L e 6 i1=.error f
 | .ok (j,q')=>q'=q/\l.length<=6/\((l=[]/\j=i1)\/(l≠[]/\¬atT L i1 zdV/\zlr L e 6 i1=ztk l (zza L e (6-l.length) j)))
def NJ (L:List DSign) (e:Int) (i1 q:Nat) (l:List ByteArray) (st':RSt):Prop:=
 match st' with
 | .error f=>¬atT L i1 zdV/\zlr L e 6 i1=.error f
 | .ok (j,q')=>q'=q/\l.length<=6/\¬atT L i1 zdV/\zlr L e 6 i1=ztk l (zlr L e (6-l.length) j)
section
variable {L:List DSign} {e:Int} {i1 q:Nat} {l:List ByteArray}
def zzb {j q':Nat} (h:NI L e i1 q l (.ok (j,q'))) (h0:l=[]) (hs:¬atT L j zdV):NJ L e i1 q l (.ok (j,q')):=by
 obtain ⟨h1,h2,h3⟩:=h;rcases h3 with ⟨_,rfl⟩ | ⟨h3,_⟩
 . exact ⟨h1,h2,hs,by rw [h0,zkJ];rfl⟩
 exact absurd h0 h3
def zzc {j q':Nat} (h:NI L e i1 q l (.ok (j,q'))) (h0:l≠[]) (hs:¬atT L j zdV):NJ L e i1 q l (zbP L e zni (.ok (j,q'))):=by
 obtain ⟨h1,h2,h3⟩:=h;rcases h3 with ⟨h3,_⟩ | ⟨_,h4,h5⟩
 . exact absurd h3 h0
 by_cases hc:atT L j zni
 . rw [zbQ hc];refine ⟨h1,h2,h4,?_⟩;rw [h5];unfold zza;rw [qah hc]
 rw [zcN hc];refine ⟨h4,?_⟩;rw [h5];unfold zza;rw [qad hc,zcW hs];rfl
def zCe {j q':Nat} (h:NJ L e i1 q l (.ok (j,q'))) (h6:l.length=6) (hn:zaz (sgT L j)=true):NJ L e i1 q l (zDL L e 5 (.ok (j,q'))):=by
 obtain ⟨_,_,h4,h5⟩:=h;refine ⟨h4,?_⟩;rw [h5,h6];show ztk l (zlr L e 0 j)=_;rw [zlr,qah hn];rfl
theorem zCf {st':RSt} (h:NJ L e i1 q l st') (hm:∀ j q',st'=.ok (j,q')->¬(l.length=6/\zaz (sgT L j)=true)):NI L e i1 q (l++[zft L st']) (zgH L e st'):=by
 cases st' with
 | error f=>exact h
 | ok p=>
   obtain ⟨j,q'⟩:=p;obtain ⟨h1,_,h4,h5⟩:=h;have hm:=hm j q' rfl;by_cases hn:zaz (sgT L j)=true
   . rw [zfE hn,zfi hn];have h6:l.length≠6:=λh6=>hm ⟨h6,hn⟩;refine ⟨h1,by rw [qab,qaC];omega,.inr ⟨ss,h4,?_⟩⟩;obtain ⟨d,hd⟩:∃ d,6-l.length=d+1:=⟨6-l.length-1,oo⟩;rw [h5,hd,zoP];unfold zhe;rw [qah hn];simp only [Rd.go];rw [qab,qaC,show 6-(l.length+1)=d by omega];exact zoO _
   rw [zjM hn];refine ⟨h4,?_⟩;rw [h5];cases hd:6-l.length with
   | zero=>rw [zlr,qad hn];rfl
   | succ d=>
     rw [zoP];unfold zhe;rw [qad hn];rfl
def NW (L:List DSign) (e:Int) (l:List ByteArray) (st1 st2:RSt):Prop:=match st1 with | .error f=>st2=.error f | .ok (i1,q1)=>NI L e i1 q1 l st2
def zDZ (L:List DSign) (e:Int) (word:ByteArray) (st:RSt) (l:List ByteArray) (st':RSt):Prop:=
 match st with
 | .error f=>st'=.error f
 | .ok (i,q)=>RdB (zd8 L e word i) st' (λx j=>x=l/\st'=.ok (j,q))
theorem zCg {word:ByteArray} {i q:Nat} {st1 st2 st':RSt} (h1:st1=zbP L e word (.ok (i,q))) (hN:NW L e l st1 st2) (g0:∀ j q',st2=.ok (j,q')->atT L j zdV) (h':st'=zbP L e zdV st2):zDZ L e word (.ok (i,q)) l st':=by
 show RdB (zd8 L e word i) st' _;unfold zd8;refine zdx (zdZ (q:=q)) (λf hf=>?_) λ_ i1 g1=>?_
 . rw [hf] at h1;subst h1;have hN:st2=.error f:=hN;rw [h',hN];rfl
 rw [g1] at h1;subst h1;have hN:NI L e i1 q l st2:=hN;cases st2 with
 | error f=>
   obtain ⟨h3,h4⟩:=hN;rw [qad h3,h4,h'];rfl
 | ok p=>
   obtain ⟨j,q'⟩:=p;have hs:=g0 j q' rfl;obtain ⟨rfl,_,h3⟩:=hN;rw [zbQ hs] at h';rcases h3 with ⟨rfl,rfl⟩ | ⟨h3,h4,h5⟩
   . rw [qah hs];exact ⟨rfl,h'⟩
   rw [qad h4,h5];unfold zza;rw [qad (λhc=>by have:=hc.symm.trans hs;exact absurd this dD),zci hs];exact ⟨ss,h'⟩
end
def zqc {L:List DSign} {e:Int} {st:RSt} (h:RdG W g L v e st w):∃ i f q,Blk g 94 w (rdC v e i f q)/\(f.code=0->st=.ok (i,q))/\(f.code≠0->st=.error f):=by
 obtain ⟨i,f,q,hB,_,_,_,_,hs⟩:=h.blk;exact ⟨i,f,q,hB,λh0=>(zfC hs h0).1,λh0=>zhi hs h0⟩
def znr {L:List DSign} {e:Int} {st:RSt} {word:ByteArray} (h:RdG W g L v e st w) (hw:word≠ByteArray.mk #[]) :
   CALL tp 46 [.pointer (some ⟨g,0,none⟩),.string word,.int .i64 6] w λr w'=>ChgI g (g+1) w w'/\∃ l st',RdG W g L v e st' w'/\RowI w.heap.size w'.heap.size 9 w' r l/\zDZ L e word st l st':=by
 have hg:=h.lt;have hlo:=h.lo;refine co (g:=kf [(6,260046848,[])] [(3,8796093018240,[7])] []) Tryz.func46 ?_;refine zaI (α:=ByteArray) u26 ty9 λ_ w1 g9 _=>?_;have hs1:=g9.size;refine (zbA (h.step g9) hw).mono ?_;rintro _ _ ⟨gh,h2⟩;have gs:=gh.size;obtain ⟨st1,U⟩:∃ x,x=zbP L e word st:=⟨_,rfl⟩;rw [<-U] at h2
 refine zar 8 (λn us w'=>∃ out l st',us=[out]/\ChgI g (g+1) w w'/\w1.heap.size<=w'.heap.size/\RdG W g L v e st' w'/\RowI w1.heap.size w'.heap.size 9 w' out l/\l.length=n/\(∀ p,st'=.ok p->n<=6)/\n<=7 /\
     NW L e l st1 st') 0 oo
     ⟨_,[],st1,rfl,g9.toI.trans gh,gs,h2,zcg _ _ _ _ _,rfl,λ_ _=>oo,oo,?_⟩ ?_
 . cases st1 with
   | error f=>rfl
   | ok p=>obtain ⟨i1,q⟩:=p;exact ⟨rfl,ss,.inl ⟨rfl,rfl⟩⟩
 rintro n m _ w3 V ⟨out,l,gi,hu,gj,_,h3,gl,gt,gn,_,hN⟩;try replace hu:=zbv hu
 rw [hu];obtain ⟨i3,_,q3,gx,g0,gb⟩:=zqc h3
 have g1:∀ {w4:wD},Ext w3 w4->(∀ j q',gi=.ok (j,q')->atT L j zdV)->CALL tp 49 [.pointer (some ⟨g,0,none⟩),.string (ByteArray.mk #[59])] w4 λx w'=>ChgI g (g+1) w w'/\∃ l st',RdG W g L v e st' w'/\RowI w.heap.size w'.heap.size 9 w' out l/\zDZ L e word st l st':=by
   intro w4 C gy;refine (zbA (h3.step C) dD).mono ?_;rintro _ w5 ⟨D,h5⟩;have gp:=C.size;have gz:=D.size;refine ⟨(gj.trans C.toI).trans D,l,_,h5,((gl.ext C).chg D (.inr oo)).mono oo oo,?_⟩;cases st with
   | error f=>
     rw [U] at hN;have hN:gi=.error f:=hN;rw [hN];rfl
   | ok p=>obtain ⟨_,q⟩:=p;exact zCg U hN gy rfl
 refine NIL.mk rfl<|zaa zg1<|zaa ze9<|zaj ty3 gx rfl<|zag<|br (λh0=>?_) (λh0=>g1 (xrf _) λj q' hj=>by rw [gb h0] at hj;cases hj);have g2:=g0 h0;refine (zcu h3 dD).mono ?_;rintro _ w4 ⟨C,rfl⟩;have gp:=C.size;have h4:=h3.step C;refine zau ?_
 refine zaN (λM=>?_) (λM=>g1 C λj q' hj=>by
   rw [hj] at M;have M:(!decide (atT L j zdV))=false:=M;simpa using M)
 have gq:=(gl.ext C).mono (lr _) gp
 have O:¬atT L i3 zdV:=by
   rw [g2] at M;have M:(!decide (atT L i3 zdV))=true:=M;simpa using M
 subst g2;have gn:=gn _ rfl
 obtain ⟨i1,q,rfl,hN⟩:∃ i1 q,st1=.ok (i1,q)/\NI L e i1 q l (.ok (i3,q3)):=by
   cases st1 with
   | error f=>cases hN
   | ok p=>obtain ⟨i1,q⟩:=p;exact ⟨i1,q,rfl,hN⟩
 refine JOIN.mk (λus w'=>us=[]/\ChgI g (g+1) w4 w'/\∃ st',RdG W g L v e st' w'/\NJ L e i1 q l st') ?_ ?_
 . refine zae u26 gq.is ?_;refine zbZ<|br (λhp=>?_) (λ_=>?_)
   . refine (zbA h4 dD).mono ?_;rintro _ w5 ⟨D,h5⟩;exact ⟨rfl,D,_,h5,zzc hN (λh0=>by rw [h0] at hp;simp at hp) O⟩
   have gA:l=[]:=qaj oo;exact ⟨rfl,ChgI.refl _,_,h4,zzb hN gA O⟩
 rintro _ w5 ⟨-,D,_,h5,g4⟩;have gz:=D.size;have gr:=gq.chg D (.inr oo);refine zae u26 gr.is<|zag ?_
 have gc:∀ {w6:wD} {Z:RSt},ChgI g (g+1) w5 w6->RdG W g L v e Z w6->NJ L e i1 q l Z->(∀ j q',Z=.ok (j,q')->¬(l.length=6/\zaz (sgT L j)=true)) ->
     CALL tp 50 [.pointer (some ⟨g,0,none⟩)] w6 λr w7=>OP tp (Instr.buildSlice 26 1 #[(0,r)]) w7 λs w8=>OP tp (Builtin.append_ #[26,26] 26 #[out,s]) w8 λx w'=>∃ m',m'<m/\∃ k',k'+m'=8/\∃ out' l' st',[x]=[out']/\ChgI g (g+1) w w'/\w1.heap.size<=w'.heap.size/\RdG W g L v e st' w'/\RowI w1.heap.size w'.heap.size 9 w' out' l'/\l'.length=k'/\(∀ p,st'=.ok p->k'<=6)/\k'<=7/\NI L e i1 q l' st':=by
   intro w6 Z gd h6 gB gC;have hs6:=gd.size;refine (zf9 h6).mono ?_;rintro _ w7 ⟨g3,h7,rfl⟩;have hs7:=g3.size;have gD:=((gr.chg gd (.inr oo)).chg g3 (.inr oo)).mono (lr _) (show w4.heap.size<=w7.heap.size by omega);refine zbs (lo2:=w7.heap.size) (hi2:=w7.heap.size) (x:=zft L Z) u26 ty9 z9 zc9 dD gD oo (zgC (zf8 h6)) (lr _) oo (by rw [zak];omega) oo λv8 w8 gf gE=>?_;have hs8:=gf.size;have gg:=zCf gB gC;refine ⟨8-(n+1),oo,n+1,oo,v8,_,_,rfl,ChgI.out ((((gj.trans C.toI).trans D).trans gd).trans g3) gf oo,oo,h7.chg gf oo (by have:=h.ext.size;omega),gE,by simp [gt],λp hp=>?_,oo,gg⟩;rw [hp] at gg;obtain ⟨_,_⟩:=p;have:=gg.2.1;rw [qab,qaC] at this;omega
 refine br (λhe=>?_) (λhe=>gc (ChgI.refl _) h5 g4 λj q' hj hh=>he (by rw [hh.1];rfl));have gF:l.length=6:=oo;refine (zfh h5).mono ?_;rintro _ w6 ⟨g5,rfl⟩;refine zaN (λV=>?_) (λV=>gc g5.toI (h5.step g5) g4 λj q' hj hh=>by rw [hj] at V;have V:zaz (sgT L j)=false:=V;rw [V] at hh;cases hh.2);refine (zdY (c:=5) (h5.step g5) dD io).mono ?_;rintro _ w7 ⟨g3,h7⟩;obtain ⟨_,_,gG,gH,-⟩:=zs8 V;rw [gG] at h7 g4;refine gc (g5.toI.trans g3) h7 (zCe g4 gF gH) λj q' hj=>by cases hj
def isMarkI_ok    :
   CALL tp 254 [.string s] w λr w'=>Ext w w'/\(r=.bool (decide (s∈zaV))):=by
 refine co (g:=kf [] [] []) Tryz.func254 ?_;refine zat<|br (λc1=>?_) (λc1=>?_)
 . refine ⟨xrf w,?_⟩;have hm:s∈zaV:=by simp [zaV, *]
   simp [hm]
 refine zat<|br (λc2=>?_) (λc2=>?_)
 . refine ⟨xrf w,?_⟩;have hm:s∈zaV:=by simp [zaV, *]
   simp [hm]
 refine zat<|br (λc3=>?_) (λc3=>?_)
 . refine ⟨xrf w,?_⟩;have hm:s∈zaV:=by simp [zaV, *]
   simp [hm]
 refine zat<|br (λc4=>?_) (λc4=>?_)
 . refine ⟨xrf w,?_⟩;have hm:s∈zaV:=by simp [zaV, *]
   simp [hm]
 refine zat<|br (λc5=>?_) (λc5=>?_)
 . refine ⟨xrf w,?_⟩;have hm:s∈zaV:=by simp [zaV, *]
   simp [hm]
 refine zat<|br (λc6=>?_) (λc6=>?_)
 . refine ⟨xrf w,?_⟩;have hm:s∈zaV:=by simp [zaV, *]
   simp [hm]
 refine zat<|br (λc7=>?_) (λc7=>?_)
 . refine ⟨xrf w,?_⟩;have hm:s∈zaV:=by simp [zaV, *]
   simp [hm]
 refine zat<|br (λc8=>?_) (λc8=>?_)
 . refine ⟨xrf w,?_⟩;have hm:s∈zaV:=by simp [zaV, *]
   simp [hm]
 refine zat<|br (λc9=>?_) (λc9=>?_)
 . refine ⟨xrf w,?_⟩;have hm:s∈zaV:=by simp [zaV, *]
   simp [hm]
 refine zat<|br (λg0=>?_) (λg0=>?_)
 . refine ⟨xrf w,?_⟩;have hm:s∈zaV:=by simp [zaV, *]
   simp [hm]
 refine zat<|br (λg1=>?_) (λg1=>?_)
 . refine ⟨xrf w,?_⟩;have hm:s∈zaV:=by simp [zaV, *]
   simp [hm]
 refine zat<|br (λg2=>?_) (λg2=>?_)
 . refine ⟨xrf w,?_⟩;have hm:s∈zaV:=by simp [zaV, *]
   simp [hm]
 refine ⟨xrf w,?_⟩;have hm:s∉zaV:=by simp [zaV, *]
 simp [hm]
def zrM (h:k+2<=s.size):s.extract k (k+2)=ByteArray.mk #[61,61]↔zeR s k=61/\zeR s (k+1)=61:=by
 have h0:k<(bts s).length:=by rw [zaB];omega
 have h1:k+1<(bts s).length:=by rw [zaB];omega
 have e:bts (s.extract k (k+2))=[(bts s)[k],(bts s)[k+1]]:=by
   rw [zgF,List.drop_take,show k+2-k=2 by omega,qax h0,qax h1];rfl
 have b0:zeR s k=(((bts s)[k]).toNat:Int):=by unfold zeR;rw [List.getElem?_eq_getElem h0]
 have b1:zeR s (k+1)=(((bts s)[k+1]).toNat:Int):=by unfold zeR;rw [List.getElem?_eq_getElem h1]
 rw [b0,b1]
 have u:∀ x:UInt8,((x.toNat:Int)=61↔x=61):=λx=>by
   constructor
   . intro hx;apply UInt8.toNat_inj.1;have:x.toNat=61:=oo;rw [this];rfl
   intro hx;rw [hx];rfl
 rw [u,u];constructor
 . intro hh;rw [hh] at e;have e2:bts (ByteArray.mk #[61,61])=[61,61]:=rfl;rw [e2] at e;simp only [qa8,and_true] at e;exact ⟨e.1.symm,e.2.symm⟩
 rintro ⟨h2,h3⟩;rw [h2,h3] at e;exact zoc (e.trans rfl)
def zwW (hT:PowT W0) (e0:Ext W0 w) (hm:s.size<=6000) (hk:k<s.size) :
   CALL tp 197 [.string s,.int .i64 (k:Int)] w λr w'=>Ext w w'/\r=.tuple #[.agg #[.int .i64 (zch s k).2.kind,.string (zch s k).2.text,.int .i64 (k:Int)],.bool (zch s k).1]:=by
 refine co (g:=kf [(5,1099507433536,[6]),(12,2417842415857221494636608,[6])] [(3,1099507433536,[6])] [(12,[0,1,2,3,4,5,6,7,8,9,10,11,12],1024)]) Tryz.func197 ?_;refine za1 zDY λw1 g1 g4=>?_;have hs1:=g1.size;have hb1:=g4.lt;have D:=ziS (s:=s) (i:=k) oo;have g2:∀ e,(s.extract k e).size<=maxLen:=λe=>by rw [qbg,zak];omega
 have U:∀ {w2:wD} {kd:Int} {t:ByteArray} {ok:Bool} , Ext w1 w2->zch s k=(ok,⟨kd,t,(k:Int)⟩)->I64 kd->t.size<=maxLen ->
     OPU tp (Instr.storeAt 165 (.pointer (some ⟨w.heap.size,0,none⟩)) (.agg #[.int .i64 kd,.string t,.int .i64 (k:Int)])) w2 λw3=>RD tp (zbr 165 (.pointer (some ⟨w.heap.size,0,none⟩))) w3 λv=>Ext w w3/\Value.tuple [v,.bool ok].toArray=.tuple #[.agg #[.int .i64 (zch s k).2.kind,.string (zch s k).2.text,.int .i64 (k:Int)],.bool (zch s k).1]:=by
   intro w2 kd t ok Z hq gg ht;refine za3 (α:=DSign) (lo:=0) (hi:=0) zef rfl (g4.ext Z) rfl (zfF gg ht io) λw3 gh gi=>zcL gi zef<|⟨(g1.t Z).chgI gh (lr _),by rw [hq]⟩
 refine zaw<|zba u9 hk<|isSmall_ok.mono ?_;rintro _ w2 ⟨Z,rfl⟩;rw [<-zlz hk]
 have g3:(zeK s k || zf4 s k)=true->∀ {w3:wD},Ext w1 w3->LOOPI [6] [.int .i64 ((k+1:Nat):Int)] w3 λu w' next=>
     RD tp (Builtin.len_ #[9] 3 #[Value.string s]) w' λv=>RD tp (bin BinOp.lss 3 (Operand.tmp 0) (Operand.tmp 0) (u 6) v) w' λv=>BR v
       (RD tp (Instr.index 9 (Value.string s) (u 6)) w' λv=>CALL tp 202 [v] w' λv w'=>GBR v
         (RD tp (bin BinOp.add 3 (Operand.tmp 0) (Operand.const undef) (u 6) (Value.int IntKind.i64 1)) w' λv=>next [v] w')
         (RD tp (Instr.index 9 (Value.string s) (u 6)) w' λv=>CALL tp 203 [v] w' λv w'=>BR v
           (RD tp (bin BinOp.add 3 (Operand.tmp 0) (Operand.const undef) (u 6) (Value.int IntKind.i64 1)) w' λv=>next [v] w')
           ((λus w'=>us=[Value.int .i64 (zcK s k:Int)]/\Ext w1 w') [u 6] w')) False)
       ((λus w'=>us=[Value.int .i64 (zcK s k:Int)]/\Ext w1 w') [u 6] w'):=by
   intro hq w3 M;have g5:=zeB hq;have g9:=D.lt;refine zar (zcK s k) (λj us w'=>us=[.int .i64 (j:Int)]/\k<=j/\Ext w1 w') (k+1) g5 ⟨rfl,oo,M⟩ ?_;rintro j m u w4 _ ⟨hu,gj,C⟩;try replace hu:=zbv hu
   rw [hu];refine zb8 u9<|zah<|br (λhj=>?_) (λhj=>⟨by rw [show j=zcK s k by omega],C⟩);have hj:j<s.size:=oo
   have gb:(zeK s j || zf4 s j)=true->j<zcK s k:=λhh=>by
     rcases qaw j (zcK s k) with h1 | h1
     . exact h1
     have:=D.stop oo;rw [show zcK s k=j by omega,hh] at this;cases this
   refine zba u9 hj<|isSmall_ok.mono ?_;rintro _ w5 ⟨O,rfl⟩;rw [<-zlz hj];refine zub (λhl=>?_) (λhl=>?_)
   . have:=gb (by rw [hl];rfl);refine zaw<|⟨m-1,oo,j+1,oo,rfl,oo,C.t O⟩
   refine zba u9 hj<|isFigure_ok.mono ?_;rintro _ _ ⟨gc,rfl⟩;rw [<-zou hj];refine zaN (λhf=>?_) (λhf=>?_)
   . have:=gb (by rw [hl,hf];rfl);refine zaw<|⟨m-1,oo,j+1,oo,rfl,oo,C.t (O.t gc)⟩
   have:j=zcK s k:=by
     rcases qaw j (zcK s k) with h1 | h1
     . have:=D.all j gj h1;rw [hl,hf] at this;cases this
     omega
   exact ⟨by rw [this],C.t (O.t gc)⟩
 have g0:∀ (u:Env) {w3:wD},(zeK s k || zf4 s k)=true->Ext w1 w3->u 6=Value.int .i64 (zcK s k:Int)->RD tp (Instr.sliceAt 9 (Value.string s) (some (Value.int IntKind.i64 ↑k)) (some (u 6)) none) w3 λv=>RD tp (Instr.index 9 (Value.string s) (Value.int IntKind.i64 ↑k)) w3 λv_1=>CALL tp 202 [v_1] w3 λv_2 w'=>BR v_2
     (RD tp (Instr.build 165 #[(0,Value.int IntKind.i64 1),(1,v),(2,Value.int IntKind.i64 ↑k)]) w' λv_3=>RD tp (Builtin.len_ #[9] 3 #[v]) w' λv=>RD tp (bin BinOp.leq 3 (Operand.tmp 0) (Operand.const undef) v (Value.int IntKind.i64 12)) w' λv=>
       OPU tp (Instr.storeAt 165 (Value.pointer (some ⟨w.heap.size,0,none⟩)) v_3) w' λw'=>RD tp (zbr 165 (Value.pointer (some ⟨w.heap.size,0,none⟩))) w' λv_4=>Ext w w'/\Value.tuple [v_4,v].toArray=.tuple #[.agg #[.int .i64 (zch s k).2.kind,.string (zch s k).2.text,.int .i64 (k:Int)],.bool (zch s k).1])
     (CALL tp 253 [v] w' λv_3 w'=>RD tp (Instr.extract v_3 0) w' λv_4=>RD tp (Instr.extract v_3 1) w' λv_5=>RD tp (Instr.build 165 #[(0,Value.int IntKind.i64 2),(1,v),(2,Value.int IntKind.i64 ↑k)]) w' λv_6=>
       OPU tp (Instr.storeAt 165 (Value.pointer (some ⟨w.heap.size,0,none⟩)) v_6) w' λw'=>RD tp (zbr 165 (Value.pointer (some ⟨w.heap.size,0,none⟩))) w' λv_7=>Ext w w'/\Value.tuple [v_7,v_5].toArray=.tuple #[.agg #[.int .i64 (zch s k).2.kind,.string (zch s k).2.text,.int .i64 (k:Int)],.bool (zch s k).1]):=by
   intro u w3 hq M hu;rw [hu];have g5:=zeB hq;have g9:=D.lt;refine zeC u9 oo g9<|zba u9 hk<|isSmall_ok.mono ?_;rintro _ w4 ⟨C,rfl⟩;rw [<-zlz hk];refine zaN (λhl=>?_) (λhl=>?_)
   . refine zas (cells:=#[.int .i64 1,.string (s.extract k (zcK s k)),.int .i64 (k:Int)]) kK ?_;refine zb8 u9<|zdJ<|U (M.t C) ?_ io (g2 _);rw [zth hl];congr 1;rw [decide_eq_decide,qbg];omega
   have hf:zf4 s k=true:=by rw [hl] at hq;simpa using hq
   refine (zfD hT (e0.t (g1.t (M.t C)))).mono ?_;rintro _ w5 ⟨O,rfl⟩;refine zal rfl<|zal rfl<|zas (cells:=#[.int .i64 2,.string (s.extract k (zcK s k)),.int .i64 (k:Int)]) kK<|U (M.t (C.t O)) (zti hl hf) io (g2 _)
 have hJ:∀ {w3:wD},Ext w1 w3->(zeK s k || zf4 s k)=true->_:=λ{w3} M hq=>And.intro (g3 hq M) (λ(u:Env) (w':wD) (hu:[u 6]=[Value.int .i64 (zcK s k:Int)]/\Ext w1 w')=>g0 u hq hu.2 (by simpa using hu.1));refine zaN (λhl=>JOIN.mk (λus w'=>us=[.int .i64 (zcK s k:Int)]/\Ext w1 w') (hJ Z (by rw [hl];rfl)).1 (λu w' hu=>(hJ Z (by rw [hl];rfl)).2 u w' hu)) (λhl=>?_);refine zba u9 hk<|isFigure_ok.mono ?_;rintro _ w3 ⟨M,rfl⟩;rw [<-zou hk];have V:=Z.t M;refine zaN (λhf=>JOIN.mk (λus w'=>us=[.int .i64 (zcK s k:Int)]/\Ext w1 w') (hJ V (by rw [hf];simp)).1 (λu w' hu=>(hJ V (by rw [hf];simp)).2 u w' hu)) (λhf=>?_);refine JOIN.mk (λus w'=>w'=w3/\∃ e:Nat,us=[.int .i64 (e:Int)]/\((e=k+2/\k+2<=s.size/\s.extract k (k+2)=ByteArray.mk #[61,61])\/(e=k+1/\¬(k+2<=s.size/\s.extract k (k+2)=ByteArray.mk #[61,61])))) ?_ ?_
 . refine zba u9 hk ?_;rw [zfA hk];refine zag<|br (λh1=>?_) (λh1=>⟨rfl,k+1,rfl,.inr ⟨rfl,λh=>h1 ((zrM h.1).1 h.2).1⟩⟩);refine zb8 u9<|zah<|br (λh2=>?_) (λh2=>⟨rfl,k+1,rfl,.inr ⟨rfl,λh=>h2 (by have:=h.1;omega)⟩⟩);have gd:k+1<s.size:=oo;refine zba u9 gd ?_;rw [zfA gd];refine zag<|br (λh3=>?_) (λh3=>⟨rfl,k+1,rfl,.inr ⟨rfl,λh=>h3 ((zrM h.1).1 h.2).2⟩⟩);refine zaw<|⟨rfl,k+2,rfl,.inl ⟨rfl,oo,(zrM oo).2 ⟨h1,h3⟩⟩⟩
 rintro u w4 ⟨rfl,e,hu,he⟩;try replace hu:=zbv hu
 rw [hu];have gf:k<e/\e<=s.size:=oo
 have hq:zch s k=(decide (s.extract k e∈zaV),⟨3,s.extract k e,(k:Int)⟩):=by
   rcases he with ⟨rfl,h1,h2⟩ | ⟨rfl,h1⟩
   . rw [zwU hl hf ⟨h1,h2⟩,decide_eq_true (by rw [h2];exact zqb)]
   exact zrL hl hf h1
 have C:=zai w4;refine zeC u9 oo gf.2<|zas (cells:=#[.int .i64 3,.string (s.extract k e),.int .i64 (k:Int)]) kK<|zeC u9 oo gf.2<|isMarkI_ok.mono ?_;rintro _ w5 ⟨O,rfl⟩;refine ⟨O,?_⟩;exact U (V.t (C.t O)) hq io (g2 _)
def zuq (hT:PowT W0) (e0:Ext W0 w):CALL tp 121 [.string s] w (zoN w s):=by
 refine co (g:=kf [] [(5,576460752303419636,[4,5])] []) Tryz.func121 ?_;refine za1 zA9 λw1 g2 gc=>?_;have hs1:=g2.size;have hb1:=gc.lt
 have D:∀ {w2:wD} {a:vL} {l:List DSign} {f:DFault} {lo hi:Nat},Ext w1 w2->zdk s=(l,f)->OwnI lo hi w2 a l->w1.heap.size<=lo->I64 f.code->I64 f.at_ ->
     OPU tp (Instr.storeAt 49 (.pointer (some ⟨w.heap.size,0,none⟩)) (.agg #[.int .i64 f.code,.int .i64 f.at_])) w2 λw3=>RD tp (zbr 49 (.pointer (some ⟨w.heap.size,0,none⟩))) w3 λv=>zoN w s (.tuple [a,v].toArray) w3:=by
   intro w2 a l f lo hi gd hl ho _ hc ha;refine za3 (α:=DFault) (lo:=0) (hi:=0) zmR rfl (gc.ext gd) rfl (zh6 hc ha) λw3 gf gl=>zcL gl zmR<|⟨(g2.t gd).chgI gf (lr _),a,by rw [hl],?_⟩;rw [hl];exact (ho.chg gf (.inr oo)).own.mono oo
 have g0:∀ w2:wD,OwnI (α:=List DSign) w1.heap.size w1.heap.size w2 (.slice none 0 0) []:=λw2=>za8;refine zb8 u9<|zbZ<|br (λ_=>?_) (λ_=>?_)
 . refine zas (cells:=#[.int .i64 1,.int .i64 0]) kK ?_;exact D (f:=⟨1,0⟩) (xrf _) (by unfold zdk;rw [qah oo]) (g0 _) (lr _) (by unfold I64;simp only;omega) (by unfold I64;simp only;omega)
 have hm:s.size<=6000:=oo;have hD:zdk s=zjv s (s.size+1) 0 []:=by unfold zdk;rw [qad oo]
 refine zar s.size (λk us w'=>∃ (out:vL) (dn:List DSign) (n:Nat),us=[out,.int .i64 (k:Int)]/\k<=s.size/\s.size<n+k/\zdk s=zjv s n k dn/\dn.length<=k/\Ext w1 w'/\RowI w1.heap.size w'.heap.size 165 w' out dn) 0 (z0 _) ⟨_,[],s.size+1,rfl,z0 _,oo,hD,ss,xrf _,zbL _ _ _ _⟩ ?_;rintro k m _ w3 _ ⟨out,dn,n,hu,_,hn,hL,_,O,g3⟩;obtain ⟨gn,gp⟩:=zcv hu;rw [gn,gp];have hs3:=O.size;refine zb8 u9<|zah<|br (λ_=>?_) (λ_=>?_)
 case refine_2=>rw [ztj hn oo] at hL;refine zas (cells:=#[.int .i64 0,.int .i64 0]) kK<|D (f:=⟨0,0⟩) O hL g3.own (lr _) (by unfold I64;simp only;omega) (by unfold I64;simp only;omega)
 have hk:k<s.size:=oo;obtain ⟨n',_,gg⟩:=zwV (dn:=dn) hn hk;rw [gg] at hL
 have C:zrA s k->RD tp (bin .add 3 (.tmp 0) (.const undef) (.int .i64 (k:Int)) (Value.int .i64 1)) w3 λgq=>∃ m',m'<m/\∃ k',k'+m'=s.size/\∃ (out':vL) (dn:List DSign) (n:Nat),[out,gq]=[out',.int .i64 (k':Int)]/\k'<=s.size/\s.size<n+k'/\zdk s=zjv s n k' dn/\dn.length<=k'/\Ext w1 w3/\RowI w1.heap.size w3.heap.size 165 w3 out' dn:=λhb=>by
   rw [qah hb] at hL;refine zaw<|⟨m-1,oo,k+1,oo,out,dn,n',rfl,oo,oo,hL,oo,O,g3⟩
 refine zba u9 hk ?_;rw [zfA hk];refine zag<|br (λhb=>C (.inl hb)) (λ_=>?_);refine zba u9 hk ?_;rw [zfA hk];refine zag<|br (λhb=>C (.inr (.inl hb))) (λ_=>?_);refine zba u9 hk ?_;rw [zfA hk];refine zag<|br (λhb=>C (.inr (.inr (.inl hb)))) (λ_=>?_);refine zba u9 hk ?_;rw [zfA hk];refine zag<|br (λhb=>C (.inr (.inr (.inr hb)))) (λ_=>?_);have gr:¬zrA s k:=λhb=>by rcases hb with h | h | h | h<;>contradiction
 rw [qad gr] at hL;clear C gg;have hz:=zjD hk
 have hkd:1<=(zch s k).2.kind/\(zch s k).2.kind<=3:=by
   unfold zch;split
   . simp only;omega
   split
   . simp only;omega
   split<;>(simp only;omega)
 have gs:(zch s k).2=⟨(zch s k).2.kind,(zch s k).2.text,(k:Int)⟩:=by
   unfold zch;split
   . rfl
   split
   . rfl
   split<;>rfl
 refine (zwW hT (e0.t (g2.t O)) hm hk).mono ?_;rintro _ _ ⟨g4,rfl⟩;have hs4:=g4.size;generalize zch s k=X at *;refine zal rfl<|zal rfl<|za1 zDY λ_ gh gt=>?_;have hs5:=gh.size;have g1:X.2.text.size<=maxLen:=by rw [zak];omega
 refine za3 (α:=DSign) (lo:=0) (hi:=0) zef rfl gt rfl (zfF io g1 io) λw6 gi gj=>?_;have hs6:=gi.size;have M:Ext w3 w6:=(g4.t gh).chgI gi g4.size;refine zau<|zaN (λg5=>?_) (λg9=>?_)
 . have g5:X.1=false:=by simpa using g5
   rw [qad (by rw [g5];decide)] at hL;refine zas (cells:=#[.int .i64 2,.int .i64 (k:Int)]) kK<|D (f:=⟨2,(k:Int)⟩) (O.t M) hL (g0 _) (lr _) (by unfold I64;simp only;omega) (by unfold I64;simp only;omega)
 have g9:X.1=true:=by simpa using g9
 rw [qah g9] at hL;refine zfg gj zef<|zbs (lo2:=w6.heap.size) (hi2:=w6.heap.size) (x:=(⟨X.2.kind,X.2.text,(k:Int)⟩:DSign)) u92 zef zE3 zDu dD (g3.ext M) oo (zfF io g1 io) oo oo (by rw [zak];omega) oo λv8 _ gb gx=>?_;have hs8:=gb.size;refine zaa zfb<|zaj ty9 (gj.chgI gb (.inr oo)) rfl<|zb8 u9<|zdK io ?_;rw [show (k:Int)+(X.2.text.size:Int)=((k+X.2.text.size:Nat):Int) by omega];rw [gs] at hL;exact ⟨s.size-(k+X.2.text.size),oo,k+X.2.text.size,oo,v8,_,n',rfl,hz.2,oo,hL,by rw [qab,qaC];omega,(O.t M).chgI gb oo,gx⟩
def wordKind_ok    :
   CALL tp 296 [.string s] w λr w'=>Ext w w'/\(r=.int .i64 (wkK s:Int)):=by
 refine co (g:=kf [] [] []) Tryz.func296 ?_;refine zat<|br (λc1=>?_) (λc1=>?_)
 . refine ⟨xrf w,?_⟩;simp [wkK, *]
 refine zat<|br (λc2=>?_) (λc2=>?_)
 . refine ⟨xrf w,?_⟩;simp [wkK, *]
 refine zat<|br (λc3=>?_) (λc3=>?_)
 . refine ⟨xrf w,?_⟩;simp [wkK, *]
 refine zat<|br (λc4=>?_) (λc4=>?_)
 . refine ⟨xrf w,?_⟩;simp [wkK, *]
 refine zat<|br (λc5=>?_) (λc5=>?_)
 . refine ⟨xrf w,?_⟩;simp [wkK, *]
 refine zat<|br (λc6=>?_) (λc6=>?_)
 . refine ⟨xrf w,?_⟩;simp [wkK, *]
 refine zat<|br (λc7=>?_) (λc7=>?_)
 . refine ⟨xrf w,?_⟩;simp [wkK, *]
 refine (implIsName_ok ).mono ?_;rintro _ _ ⟨y1,rfl⟩;refine zaN (λc8=>?_) (λc8=>?_)
 . refine ⟨y1,?_⟩;simp [wkK, *]
 refine ⟨y1,?_⟩;simp [wkK, *]
def zmW (k:Int):ByteArray:=if k=3 then .mk #[43] else if k=4 then .mk #[45] else if k=5 then .mk #[42] else if k=6 then .mk #[60] else if k=7 then .mk #[61,61] else if k=9 then .mk #[97,110,100] else .mk #[]
def zrN {k:Int}    :
   CALL tp 319 [.int .i64 k] w λr w'=>Ext w w'/\(r=.string (zmW k)):=by
 refine co (g:=kf [] [] []) Tryz.func319 ?_;refine zag<|br (λc1=>?_) (λc1=>?_)
 . refine ⟨xrf w,?_⟩;simp [zmW, *]
 refine zag<|br (λc2=>?_) (λc2=>?_)
 . refine ⟨xrf w,?_⟩;simp [zmW, *]
 refine zag<|br (λc3=>?_) (λc3=>?_)
 . refine ⟨xrf w,?_⟩;simp [zmW, *]
 refine zag<|br (λc4=>?_) (λc4=>?_)
 . refine ⟨xrf w,?_⟩;simp [zmW, *]
 refine zag<|br (λc5=>?_) (λc5=>?_)
 . refine ⟨xrf w,?_⟩;simp [zmW, *]
 refine zag<|br (λc6=>?_) (λc6=>?_)
 . refine ⟨xrf w,?_⟩;simp [zmW, *]
 refine ⟨xrf w,?_⟩;simp [zmW, *]
def zwX {t:ByteArray} (h3:3<=k) (h9:k<=9) (h8:k≠8):zmW (k:Int)=t↔opN t=k:=by
 have h:zmW (k:Int)=signs9[k]'(by simp [signs9];omega):=by
   have hc:k=3\/k=4\/k=5\/k=6\/k=7\/k=9:=oo;rcases hc with rfl | rfl | rfl | rfl | rfl | rfl<;>rfl
 rw [h,<-zA7 k oo h3 h8 t];exact eq_comm
def signKind_ok {t:ByteArray} :
   CALL tp 318 [.string t] w λr w'=>Ext w w'/\r=.int .i64 (opN t:Int):=by
 refine co (g:=kf [] [(2,131068,[3])] []) Tryz.func318 ?_;have g3:=zs6 t;refine zar 10 (λk us w'=>us=[.int .i64 (k:Int)]/\3<=k/\Ext w w'/\∀ k',3<=k'->k'<k->opN t≠k') 3 oo ⟨rfl,oo,xrf _,λk' h1 h2=>oo⟩ ?_;rintro k m _ _ _ ⟨hu,h3,hx,g0⟩;try replace hu:=zbv hu
 rw [hu];refine zdJ<|br (λ_=>?_) (λ_=>?_)
 rotate_left
 . refine ⟨hx,?_⟩;rcases g3 with h | h
   . rw [h];rfl
   exact absurd rfl (g0 (opN t) h.1 oo)
 have C:∀ {w2:wD},Ext w w2->opN t≠k->RD tp (bin BinOp.add 3 (Operand.tmp 0) (Operand.const undef) (Value.int IntKind.i64 (k:Int)) (Value.int IntKind.i64 1)) w2 λx=>∃ m',m'<m/\∃ k',k'+m'=10/\[x]=[Value.int IntKind.i64 (k':Int)]/\3<=k'/\Ext w w2/\∀ k2,3<=k2->k2<k'->opN t≠k2:=
   λh1 h2=>zsA oo ⟨m-1,oo,k+1,oo,rfl,oo,h1,λk2 h3 _=>by
     rcases qaw k2 k with h5 | h5
     . exact g0 k2 h3 h5
     rw [show k2=k by omega];exact h2⟩
 refine zaJ<|br (λh8=>?_) (λh8=>C hx oo);have g4:k≠8:=λhh=>h8 (by rw [hh];rfl);refine (zrN (k:=(k:Int))).mono ?_;rintro _ w2 ⟨g1,rfl⟩;refine zat ?_;have g2:=zwX (t:=t) h3 oo g4;refine zaN (λhb=>⟨hx.t g1,by rw [g2.1 (of_decide_eq_true hb)]⟩) (λhb=>C (hx.t g1) λhh=>of_decide_eq_false hb (g2.2 hh))
def zdE {k a:Int} {t:ByteArray} (k1:K (.string t)):RD tp (Instr.field 165 (.agg #[.int .i64 k,.string t,.int .i64 a]) 1) w K:=
 za9 (λw' _=>by kernel_rfl) k1
def zur {x:DSign} (h:rep F w cs x):cs=[.int .i64 x.kind,.string x.text,.int .i64 x.at_]/\I64 x.kind/\x.text.size<=maxLen/\I64 x.at_:=by
 obtain ⟨_,_,_,_,rfl,rfl,⟨-,rfl,h1⟩,_,_,_,_,rfl,rfl,⟨-,rfl,h2⟩,-,rfl,h3⟩:=h;exact ⟨rfl,h1,h2,h3⟩
def riC (v:vL) (e:Int) (i:Nat) (f:DFault):List vL:=[v,.int .i64 e,.int .i64 (i:Int),.int .i64 f.code,.int .i64 f.at_]
structure RiG (W:wD) (g:Nat) (L:List DSign) (v:vL) (e:Int) (st:RSt) (w:wD):Prop where
 is_:Is W v L
 ext:Ext W w
 lo:W.heap.size<=g
 many:L.length<=6000
 sg:∀ x∈L,SgOk x
 e0:I64 e
 pow:PowT W
 blk:∃ i f q,Blk g 107 w (riC v e i f)/\I64 f.code/\I64 f.at_/\stR L st i f q
section
variable {W w w':wD} {g:Nat} {L:List DSign} {v:vL} {e:Int} {st:RSt}
def RiG.step (h:RiG W g L v e st w) (hx:Ext w w'):RiG W g L v e st w':=by
 obtain ⟨i,f,q,hB,hr⟩:=h.blk;exact ⟨h.is_,h.ext.trans hx,h.lo,h.many,h.sg,h.e0,h.pow,i,f,q,hB.ext hx,hr⟩
def RiG.chg {a b:Nat} (h:RiG W g L v e st w) (hc:ChgI a b w w') (hg:g<a\/b<=g) (ha:W.heap.size<=a):RiG W g L v e st w':=by
 obtain ⟨i,f,q,hB,hr⟩:=h.blk;exact ⟨h.is_,h.ext.chgI hc ha,h.lo,h.many,h.sg,h.e0,h.pow,i,f,q,hB.keep (hc.block g hB.lt hg),hr⟩
def RiG.lt (h:RiG W g L v e st w):g<w.heap.size:=by
 obtain ⟨_,_,_,hB,_⟩:=h.blk;exact hB.lt
def RiG.at {i q:Nat} (h:RiG W g L v e (.ok (i,q)) w):Blk g 107 w (riC v e i ⟨0,0⟩)/\i<=L.length:=by
 obtain ⟨_,_,_,hB,_,_,rfl,rfl,_,hl⟩:=h.blk;exact ⟨hB,hl⟩
def RiG.of {i q:Nat} {st:RSt} (h:RiG W g L v e st w) (hx:Ext W w') (hB:Blk g 107 w' (riC v e i ⟨0,0⟩)) (hl:i<=L.length):RiG W g L v e (.ok (i,q)) w':=
 ⟨h.is_,hx,h.lo,h.many,h.sg,h.e0,h.pow,i,⟨0,0⟩,q,hB,zcS,zcS,rfl,rfl,rfl,hl⟩
def zkK {i:Nat} {f:DFault} (g1:Is W v L) (hB:Blk g 107 w (riC v e i f)) :
   CALL tp 123 [.pointer (some ⟨g,0,none⟩)] w λr w'=>Ext w w'/\r=.bool (decide (L.length<=i)):=by
 refine co (g:=kf [] [] [(1,[0,1,2,3,4,5,6,7,8,9,10],0)]) Tryz.func123 ?_;have g0:=zai w;have hB:=hB.ext g0;refine NIL.mk rfl<|zaa zic<|zaj ty3 hB rfl<|NIL.mk rfl<|zaa zld<|zaj zpG hB rfl<|zae u92 g1<|zcH<|⟨g0,by congr 1;rw [decide_eq_decide];omega⟩
def zds {i q:Nat} (h:RiG W g L v e (.ok (i,q)) w) :
   CALL tp 124 [.pointer (some ⟨g,0,none⟩)] w λr w'=>Ext w w'/\∃ a:Int,r=.agg #[.int .i64 (sgK L i),.string (sgT L i),.int .i64 a]/\I64 (sgK L i)/\(sgT L i).size<=maxLen/\I64 a:=by
 refine co (g:=kf [] [] [(3,[0,1,2,3,4,5,6,7,8,9,10],0)]) Tryz.func124 ?_;refine za1 zDY λ_ C g3=>?_;have:=C.size;refine (zkK h.is_ (h.step C).at.1).mono ?_;rintro _ w2 ⟨D,rfl⟩;refine br (λg4=>?_) (λ_=>?_)
 . rw [zoo g4,zgE g4];refine zas (cells:=#[.int .i64 0,.string nO,.int .i64 0]) kK<|za3 (α:=DSign) (lo:=0) (hi:=0) zef rfl (g3.ext D) rfl (zfF zcS zdm zcS) λw3 g5 g0=>zcL g0 zef<|⟨(C.t D).chgI g5 (lr _),0,rfl,zcS,zdm,zcS⟩
 have g1:=zai w2;have h3:=(h.step (C.t D)).step g1;have g0:=(g3.ext D).ext g1;have g2:=(C.t D).trans g1;generalize World.drew1 w2=w3 at *;obtain ⟨hB,hi⟩:=h3.at;have hi:i<L.length:=oo;refine NIL.mk rfl<|zaa zld<|zaj zpG hB rfl<|NIL.mk rfl<|zaa zic<|zaj ty3 hB rfl<|zac u92 zef h.is_ hi λ_ _ hA=>?_;obtain ⟨_,_,hr,hc⟩:=hA;obtain ⟨g9,k1,k2,k3⟩:=zur hr;refine zsB zef (zb7 hr h3.ext) (zbw hc h3.ext) ?_;rw [g9];refine za3 (α:=DSign) (lo:=0) (hi:=0) zef rfl g0 rfl (zfF k1 k2 k3) λ_ gb gc=>zcL gc zef ?_;rw [zol hi,zfS hi] at *;exact ⟨g2.chgI gb (lr _),_,rfl,k1,k2,k3⟩
def zCh {i0 q0:Nat} (h:RiG W g L v e (.ok (i0,q0)) w) {c:Int} {i:Nat}:I64 (ftA L e c i).at_:=by
 rcases qaw i L.length with hi | hi
 . rw [zom hi];have:=h.sg _ (qac hi);have h1:=this.at0;have h2:=this.at1;unfold I64;simp only;omega
 rw [zon hi];exact h.e0
def zeX {i q:Nat} {c:Int} (h:RiG W g L v e (.ok (i,q)) w) (gg:c≠0) (g4:I64 c) :
   CALL tp 125 [.pointer (some ⟨g,0,none⟩),.int .i64 c] w λr w'=>ChgI g (g+1) w w'/\RiG W g L v e (.error (ftA L e c i)) w'/\r=.bool false:=by
 refine co (g:=kf [] [] [(4,[0,1,2,3,4,5,6,7,8,9,10,11,12,13,14,15],0)]) Tryz.func125 ?_;obtain ⟨hB,hi⟩:=h.at;have gf:=zCh (c:=c) (i:=i) h;refine NIL.mk rfl<|zaa zle<|zaa ze9<|zaj ty3 hB rfl<|zag<|br (λ_=>?_) (λhn=>absurd rfl hn);refine NIL.mk rfl<|zaa zBQ<|zaj ty3 hB rfl<|zas (cells:=#[.int .i64 c,.int .i64 e]) kK<|NIL.mk rfl<|zaa zle ?_;have hm:rep (α:=DFault) [] w [.int .i64 c,.int .i64 e] ⟨c,e⟩:=⟨[],[],[.int .i64 c],[.int .i64 e],rfl,rfl,⟨rfl,rfl,g4⟩,rfl,rfl,h.e0⟩;refine zod (α:=DFault) zmR hB hm rfl (by simp [riC,Rep.size]) λw1 g2 g1=>?_;have g2:ChgI g (g+1) w w1:=g2.toI ss;have g1:Blk g 107 w1 (riC v e i ⟨c,e⟩):=g1;refine (zkK h.is_ g1).mono ?_;rintro _ w2 ⟨g5,rfl⟩;have g9:=g1.ext g5;have gb:=g2.trans g5.toI
 have g0:∀ {w3:wD} {f':DFault},ChgI g (g+1) w w3->f'=ftA L e c i->Blk g 107 w3 (riC v e i f')->ChgI g (g+1) w w3/\RiG W g L v e (.error (ftA L e c i)) w3/\Value.bool false=.bool false:=λ{w3 f'} h1 h2 h3=>
   ⟨h1,⟨h.is_,h.ext.chgI h1 h.lo,h.lo,h.many,h.sg,h.e0,h.pow,i,f',0,h3,by rw [h2];exact g4,by rw [h2];exact gf,h2,gg⟩,rfl⟩
 refine zau<|zaN (λhb=>?_) (λhb=>?_)
 rotate_left
 . refine g0 gb ?_ g9;have:L.length<=i:=by simpa using hb
   rw [zon this]
 have hi:i<L.length:=by simpa using hb
 have gc:=zai w2;have g3:=g9.ext gc;have gd:=gb.trans gc.toI;have gh:=h.ext.chgI gd h.lo;generalize World.drew1 w2=w3 at *;refine NIL.mk rfl<|zaa zld<|zaj zpG g3 rfl<|NIL.mk rfl<|zaa zic<|zaj ty3 g3 rfl<|zac u92 zef h.is_ hi λ_ _ hA=>zaa zv1<|zad ty3 (znh hA) gh λgi=>NIL.mk rfl<|zaa zle<|zaa zsL<|zaW (α:=Int) (lo:=0) (hi:=0) ty3 rfl rfl g3 (by simp [riC]) (ownI_int gi) λ_ gj gl=>g0 (f':=⟨c,L[i].at_⟩) (gd.trans gj) (by rw [zom hi]) gl
def zfG {i q:Nat} {K:wD->Prop} (h:RiG W g L v e (.ok (i,q)) w) (hi:i<L.length)
   (k:∀ w',ChgI g (g+1) w w'->RiG W g L v e (.ok (i+1,q)) w'->K w') :
   NIL (.pointer (some ⟨g,0,none⟩)) (RD tp (Instr.fieldAt 107 (.pointer (some ⟨g,0,none⟩)) 2) w λa=>RD tp (Instr.loadAt 3 a) w λb=>RD tp (bin .add 3 (.tmp 0) (.const undef) b (.int .i64 1)) w λc=>
     NIL (.pointer (some ⟨g,0,none⟩)) (RD tp (Instr.fieldAt 107 (.pointer (some ⟨g,0,none⟩)) 2) w λd=>OPU tp (Instr.storeAt 3 d c) w K)):=by
 obtain ⟨hB,_⟩:=h.at;have:=h.many;refine NIL.mk rfl<|zaa zic<|zaj ty3 hB rfl<|zaw<|NIL.mk rfl<|zaa zic<|zaW (α:=Int) (lo:=0) (hi:=0) ty3 rfl rfl hB (by simp [riC]) (ownI_int io) λw1 g0 g1=>k w1 g0 (h.of (h.ext.chgI g0 h.lo) g1 hi)
def okS (st:RSt):Bool:=match st with | .ok _=>true | .error _=>false
def zeY {i q:Nat} {t:ByteArray} (h:RiG W g L v e (.ok (i,q)) w) (ht:t≠ByteArray.mk #[]) :
   CALL tp 198 [.pointer (some ⟨g,0,none⟩),.string t] w λr w'=>ChgI g (g+1) w w'/\RiG W g L v e (zbP L e t (.ok (i,q))) w'/\r=.bool (okS (zbP L e t (.ok (i,q)))):=by
 refine co (g:=kf [] [] []) Tryz.func198 ?_;refine (zds h).mono ?_;rintro _ _ ⟨g0,_,rfl,-⟩;refine zdE<|ze7<|br (λhb=>?_) (λhb=>?_)
 . have hb:¬atT L i t:=hb;rw [zcN hb];refine (zeX (c:=3) (h.step g0) dD io).mono ?_;rintro _ w2 ⟨g1,h2,rfl⟩;exact ⟨g0.toI.trans g1,h2,rfl⟩
 have hb:atT L i t:=qaf.1 hb;rw [zbQ hb];refine zfG (h.step g0) (zg2 hb ht) λw2 g1 h2=>⟨g0.toI.trans g1,h2,rfl⟩
def zfH {i q:Nat} (h:RiG W g L v e (.ok (i,q)) w) :
   CALL tp 199 [.pointer (some ⟨g,0,none⟩)] w λr w'=>ChgI g (g+1) w w'/\RiG W g L v e (zgH L e (.ok (i,q))) w'/\r=.tuple #[.string (zft L (.ok (i,q))),.bool (okS (zgH L e (.ok (i,q))))]/\(zft L (.ok (i,q))).size<=maxLen:=by
 refine co (g:=kf [] [] []) Tryz.func199 ?_;refine (zds h).mono ?_;rintro _ _ ⟨g0,_,rfl,-,g3,-⟩;refine zdE<|implIsName_ok.mono ?_;rintro _ _ ⟨g1,rfl⟩;refine zau<|zaN (λhb=>?_) (λhb=>?_)
 . have hb:¬zaz (sgT L i)=true:=by simpa using hb
   rw [zjM hb];have e1:zft L (.ok (i,q))=nO:=by show (if zaz (sgT L i)=true then sgT L i else _)=_;rw [qad hb];rfl
   rw [e1];refine (zeX (c:=3) ((h.step g0).step g1) dD io).mono ?_;rintro _ w3 ⟨g2,h3,rfl⟩;exact ⟨(g0.t g1).toI.trans g2,h3,rfl,zdm⟩
 have hb:zaz (sgT L i)=true:=by simpa using hb
 have hi:=zoq hb;rw [zfE hb];have e1:zft L (.ok (i,q))=sgT L i:=zfi hb;rw [e1];refine zfG ((h.step g0).step g1) hi λw3 g2 h3=>⟨(g0.t g1).toI.trans g2,h3,rfl,g3⟩
end
def zge (W:wD) (g:Nat) (L:List DSign) (v:vL) (e:Int) (w:wD) (R:DTerm->RSt->Prop) (r:vL) (w':wD):Prop:=
 ChgI g (g+1) w w'/\∃ u t st',r=.tuple #[u,.bool (okS st')]/\RiG W g L v e st' w'/\OwnI w.heap.size w'.heap.size w' u t/\R t st'
def zwY (room:Nat):Prop:=∀ {W w:wD} {g:Nat} {L:List DSign} {v:vL} {e:Int} {i q:Nat} {d:Int},RiG W g L v e (.ok (i,q)) w->d+(room:Int)=6 ->
 CALL tp 312 [.pointer (some ⟨g,0,none⟩),.int .i64 d] w (zge W g L v e w λt st'=>RdB (zej L e room i) st' λx j=>x=t/\st'=.ok (j,q))
def zD0 (m:Nat):Prop:=∀ {W w:wD} {g:Nat} {L:List DSign} {v:vL} {e:Int} {i q:Nat} {d:Int},RiG W g L v e (.ok (i,q)) w->d+(m:Int)=6 ->
 CALL tp 317 [.pointer (some ⟨g,0,none⟩),.int .i64 d] w (zge W g L v e w λt st'=>RdB (pIn L e (zej L e m) i) st' λx j=>x=t/\st'=.ok (j,q))
theorem zhj {α:Type} {r:Rd α} {st:RSt} {x0:α} (h:RdB r st λx j=>x=x0/\st=.ok (j,q)) (ho:okS st=true):∃ j,st=.ok (j,q)/\r=.ok (x0,j):=by
 match r,h with
 | .error f,h=>rw [show st=.error f from h] at ho;cases ho
 | .ok (x,j),h=>exact ⟨j,h.2,by rw [h.1]⟩
theorem zd0 {α:Type} {r:Rd α} {st:RSt} {ok:α->Nat->Prop} (h:RdB r st ok) (hk:∀ x j,ok x j->∃ p,st=.ok p) (ho:okS st=false):∃ f,st=.error f/\r=.error f:=by
 match r,h with
 | .error f,h=>exact ⟨f,h,rfl⟩
 | .ok (x,j),h=>obtain ⟨p,hp⟩:=hk x j h;rw [hp] at ho;cases ho
def zwZ {α:Type} [Rep α] {t by_ n0 a b lo hi:Nat} {w:wD} {u:vL} {x x0:α} {K:VW} (ht:tyI tp t=some (Rep.size α,by_,Rep.agg α)) (hv:VarI a b w n0 x0) (hu:OwnI lo hi w u x) (hn:n0<lo\/hi<=n0)
   (k:∀ r w',ChgI n0 (n0+1) w w'->OwnI lo hi w' r x->K r w'):OPU tp (Instr.storeAt t (.pointer (some ⟨n0,0,none⟩)) u) w λw'=>RD tp (zbr t (.pointer (some ⟨n0,0,none⟩))) w' λr=>K r w':=
 zb0 ht hv hu hn λw' hc hv'=>zhA ht hv' (xrf _) λr hr=>k r w' hc hr
def zqd {L:List DSign} {e:Int} {R:DTerm->RSt->Prop} {st':RSt} {t:DTerm} {b:Bool} (g2:Ext w w1) (g1:VarI w1.heap.size w1.heap.size w1 w.heap.size (RepZ.zv:DTerm)) (hg:g<w.heap.size) (hW:W.heap.size<=w.heap.size)
   (hu:UpG g w1.heap.size w1 w4) (hr:RiG W g L v e st' w4) (ho:OwnI lo hi w4 u t) (hlo:w1.heap.size<=lo) (hhi:hi<=w4.heap.size) (hb:okS st'=b) (hR:R t st') :
   OPU tp (Instr.storeAt 67 (.pointer (some ⟨w.heap.size,0,none⟩)) u) w4 λw5=>RD tp (zbr 67 (.pointer (some ⟨w.heap.size,0,none⟩))) w5 λr=>zge W g L v e w R (.tuple [r,.bool b].toArray) w5:=by
 have g3:=g1.lt;have:=g2.size;have:=hu.size;refine zwZ zcD (zwQ g1 hu (lr _) g3 oo (.inl oo)) ho (.inl oo) λr w5 g0 g4=>?_;have:=g0.size;exact ⟨ChgI.out (UpG.toI (g2.upG.trans hu) oo) g0 oo,r,t,st',by rw [hb],hr.chg g0 oo oo,g4.mono oo oo,hR⟩
def zns {room:Nat} (hr6:room<=6) (ih:∀ m,m+1=room->zD0 m):zwY room:=by
 intro W w g L v e i q _ h _;have hg:=h.lt;have hW:=h.ext.size;have hlo:=h.lo;refine co (g:=kf [] [] []) Tryz.func312 ?_;refine zck (α:=DTerm) zri λw1 g2 gd=>?_;have hs1:=g2.size;have hb1:=gd.lt;refine (zds (h.step g2)).mono ?_;rintro _ w2 ⟨gf,a,rfl,kI,sI,aI⟩;have hs2:=gf.size;refine za1 zDY λ_ gg gl=>?_;have hs3:=gg.size;refine za3 (α:=DSign) (lo:=0) (hi:=0) zef rfl gl rfl (zfF kI sI aI) λw4 gh M=>?_;have hs4:=gh.size;have gn:=M.lt;have g0:Ext w1 w4:=(gf.t gg).chgI gh oo;have h4:=h.step (g2.t g0);have gi:UpG g w1.heap.size w1 w4:=g0.upG;have M:Blk w2.heap.size 165 w4 [.int .i64 (sgK L i),.string (sgT L i),.int .i64 a]:=M
 have D:∀ {w5:wD} {st':RSt} {u:vL} {t:DTerm} {lo hi:Nat} {b:Bool},UpG g w1.heap.size w1 w5->RiG W g L v e st' w5->OwnI lo hi w5 u t->w1.heap.size<=lo->hi<=w5.heap.size->okS st'=b->(RdB (zej L e room i) st' λx j=>x=t/\st'=.ok (j,q)) ->
     OPU tp (Instr.storeAt 67 (.pointer (some ⟨w.heap.size,0,none⟩)) u) w5 λw5=>RD tp (zbr 67 (.pointer (some ⟨w.heap.size,0,none⟩))) w5 λr=>zge W g L v e w (λt st'=>RdB (zej L e room i) st' λx j=>x=t/\st'=.ok (j,q)) (.tuple [r,.bool b].toArray) w5:=
   λa1 a2 a3 a4 a5 a6 a7=>zqd (R:=λt st'=>RdB (zej L e room i) st' λx j=>x=t/\st'=.ok (j,q)) g2 gd hg oo a1 a2 a3 a4 a5 a6 a7
 have gp:zaz (sgT L i)=true->sgK L i=1:=λhn=>by
   have hi:=zoq hn;have:=h.sg _ (qac hi);rw [<-zol hi];exact this.name (by rw [zfS hi];exact hn)
 refine zaa zlg<|zaj ty3 M rfl<|zag<|br (λhk=>?_) (λg9=>?_)
 . have hi:i<L.length:=by
     rcases qaw i L.length with h1 | h1
     . exact h1
     rw [zoo h1] at hk;cases hk
   have O:¬zaz (sgT L i)=true:=λhn=>by have:=gp hn;omega
   refine zfG h4 hi λw5 gb h5=>?_;have gq:=gb.size;have U:=M.keep (gb.block _ gn (.inr oo));refine zaa zfb<|zaj ty9 U rfl ?_;have g1:=zwF h.sg hk;have hin:=zrH g1;refine (zfD h.pow h5.ext).mono ?_;rintro _ w6 ⟨gc,rfl⟩;have g3:=gc.size;rw [g1];refine zal rfl<|zal rfl<|zas (cells:=#[.int .i64 1,.int .i64 (zlp (bts (sgT L i))),.string nO,.slice none 0 0]) kK<|D ((gi.trans gb.upG1).trans gc.upG) (h5.step gc) (zc0 io io zdm za8) (lr _) oo rfl ?_;rw [zhI];unfold zry;rw [qad O,qah hk];exact ⟨rfl,rfl⟩
 refine zaa zfb<|zaj ty9 M rfl<|implIsName_ok.mono ?_;rintro _ w5 ⟨g4,rfl⟩;have gq:=g4.size;have h5:=h4.step g4;have U:=M.ext g4;have g5:=gi.trans (g4.upG (g:=g) (lo:=w1.heap.size));refine zaN (λhn=>?_) (λhn=>?_)
 . have hi:=zoq hn;refine zfG h5 hi λw6 C h6=>?_;have g3:=C.size;have gr:=U.keep (C.block _ U.lt (.inr oo));refine zaa zfb<|zaj ty9 gr rfl<|zas (cells:=#[.int .i64 2,.int .i64 0,.string (sgT L i),.slice none 0 0]) kK<|D (g5.trans C.upG1) h6 (zc0 io zcS sI za8) (lr _) oo rfl ?_;rw [zhI];unfold zry;rw [qah hn];exact ⟨rfl,rfl⟩
 have O:¬zaz (sgT L i)=true:=by rw [hn];decide
 refine zaa zfb<|zaj ty9 U rfl<|ze7<|br (λhb=>?_) (λhb=>?_)
 . have hb:¬atT L i zpQ:=hb;refine zas (cells:=#[.int .i64 0,.int .i64 0,.string nO,.slice none 0 0]) kK ?_;refine (zeX (c:=3) h5 dD io).mono ?_;rintro _ w6 ⟨C,h6,rfl⟩;have g3:=C.size;refine D (g5.trans C.upG1) h6 zcM (lr _) oo rfl ?_;rw [zhI];unfold zry;rw [qad O,qad g9,qad hb];rfl
 have hb:atT L i zpQ:=qaf.1 hb;refine zag<|br (λh6=>?_) (λh6=>?_)
 . refine zas (cells:=#[.int .i64 0,.int .i64 0,.string nO,.slice none 0 0]) kK ?_;refine (zeX (c:=4) h5 dD io).mono ?_;rintro _ w6 ⟨C,h6,rfl⟩;have g3:=C.size;refine D (g5.trans C.upG1) h6 zcM (lr _) oo rfl ?_;have gs:room=0:=oo;rw [zhI];unfold zry;rw [qad O,qad g9,qah hb,gs];rfl
 obtain ⟨m,rfl⟩:∃ m,room=m+1:=⟨room-1,oo⟩;refine zfG h5 (zg2 hb dD) λw6 C h6=>?_;have g3:=C.size;refine zdK io ?_;refine (ih m rfl h6 oo).mono ?_;rintro _ _ ⟨gj,u,t,_,rfl,h7,o7,gt⟩;have hs7:=gj.size;refine zal rfl<|zal rfl<|D ((g5.trans C.upG1).trans gj.upG1) h7 o7 oo (lr _) rfl ?_;rw [zhI];unfold zry;rw [qad O,qad g9,qah hb];exact gt
def zw0 (hr6:m<=6) (ih:zwY m):zD0 m:=by
 intro W w g L v e i q _ h hd;have hg:=h.lt;have:=h.ext.size;have:=h.lo;refine co (g:=kf [] [] []) Tryz.func317 ?_;refine zck (α:=DTerm) zri λw1 gh gy=>?_;have:=gh.size;have:=gy.lt
 have D:∀ {w5:wD} {st':RSt} {u:vL} {t:DTerm} {lo hi:Nat} {b:Bool},UpG g w1.heap.size w1 w5->RiG W g L v e st' w5->OwnI lo hi w5 u t->w1.heap.size<=lo->hi<=w5.heap.size->okS st'=b->(RdB (pIn L e (zej L e m) i) st' λx j=>x=t/\st'=.ok (j,q)) ->
     OPU tp (Instr.storeAt 67 (.pointer (some ⟨w.heap.size,0,none⟩)) u) w5 λw5=>RD tp (zbr 67 (.pointer (some ⟨w.heap.size,0,none⟩))) w5 λr=>zge W g L v e w (λt st'=>RdB (pIn L e (zej L e m) i) st' λx j=>x=t/\st'=.ok (j,q)) (.tuple [r,.bool b].toArray) w5:=
   λa1 a2 a3 a4 a5 a6 a7=>zqd (R:=λt st'=>RdB (pIn L e (zej L e m) i) st' λx j=>x=t/\st'=.ok (j,q)) gh gy hg oo a1 a2 a3 a4 a5 a6 a7
 have hz:∀ {w5:wD} {st':RSt} {b:Bool},UpG g w1.heap.size w1 w5->RiG W g L v e st' w5->okS st'=b->(RdB (pIn L e (zej L e m) i) st' λx j=>x=term0/\st'=.ok (j,q)) ->
     RD tp (Instr.build 67 #[]) w5 λu=>OPU tp (Instr.storeAt 67 (.pointer (some ⟨w.heap.size,0,none⟩)) u) w5 λw5=>RD tp (zbr 67 (.pointer (some ⟨w.heap.size,0,none⟩))) w5 λr=>zge W g L v e w (λt st'=>RdB (pIn L e (zej L e m) i) st' λx j=>x=t/\st'=.ok (j,q)) (.tuple [r,.bool b].toArray) w5:=by
   intro w5 st' b a1 a2 a3 a4;refine zas (cells:=#[.int .i64 0,.int .i64 0,.string nO,.slice none 0 0]) kK<|D a1 a2 zcM (lr _) a1.size a3 a4
 refine (zds (h.step gh)).mono ?_;rintro _ w2 ⟨gp,_,rfl,_,_,_⟩;have:=gp.size;have h2:=(h.step gh).step gp;have gz:UpG g w1.heap.size w1 w2:=gp.upG;refine zdE<|zat<|br (λhn=>?_) (λhn=>?_)
 . have hn:atT L i zBT:=hn;refine zfG h2 (zg2 hn dD) λ_ gA h3=>?_;have:=gA.size;refine (ih h3 hd).mono ?_;rintro _ w4 ⟨g3,u,t,g4,rfl,h4,o4,g5⟩;have gF:=g3.size;refine zal rfl<|zal rfl<|zck (α:=DTerm) zri λw5 M gi=>?_;have gG:=M.size;refine zb0 zcD gi (o4.ext M) (.inr oo) λw6 Z gq=>?_;have gH:=Z.size;have h6:=(h4.step M).chg Z oo oo;have g9:UpG g w1.heap.size w1 w6:=(((gz.trans gA.upG1).trans g3.upG1).trans M.upG).trans (Z.upG oo);refine zau<|zaN (λho=>?_) (λho=>?_)
   . have ho:okS g4=false:=by simpa using ho
     obtain ⟨f,rfl,hp⟩:=zd0 g5 (λx j hh=>⟨_,hh.2⟩) ho;refine hz g9 h6 rfl ?_;unfold pIn;rw [qah hn,hp];rfl
   have ho:okS g4=true:=by simpa using ho
   obtain ⟨j,rfl,hp⟩:=zhj g5 ho;refine (zeY (t:=zpR) h6 dD).mono ?_;rintro _ w7 ⟨gr,h7,rfl⟩;have gI:=gr.size;have gB:=g9.trans (gr.upG1 (lo:=w1.heap.size));refine zau ?_;by_cases hs:atT L j zpR
   . rw [zbQ hs] at h7 ⊢;refine zaN (λho=>by cases ho) (λ_=>?_);refine zdG zcD (gq.chg gr (.inr oo) (.inr oo)) (xrf _) λ_ o8=>znk u65 zcD z67 dD o8 oo λ_ w8 V o9=>?_;have gJ:=V.size;obtain ⟨a8,c8,rfl⟩:=zf7 o9;refine zas (cells:=#[.int .i64 8,.int .i64 0,.string nO,.slice a8 [t].length c8]) kK<|D (gB.trans V.upG) (h7.step V) (zc0 io zcS zdm o9) oo (lr _) rfl ?_;unfold pIn;rw [qah hn,hp];simp only [Rd.go];rw [zci hs];exact ⟨rfl,rfl⟩
   rw [zcN hs] at h7 ⊢;refine zaN (λ_=>?_) (λho=>by cases ho);refine hz gB h7 rfl ?_;unfold pIn;rw [qah hn,hp];simp only [Rd.go];rw [zcW hs];rfl
 have hn:¬atT L i zBT:=hn;refine (ih h2 hd).mono ?_;rintro _ w4 ⟨g3,u,t,g4,rfl,h4,o4,g5⟩;have gF:=g3.size;refine zal rfl<|zal rfl<|zck (α:=DTerm) zri λw5 M gi=>?_;have gG:=M.size;have:=gi.lt;refine zb0 zcD gi (o4.ext M) (.inr oo) λw6 Z gq=>?_;have gH:=Z.size;have h6:=(h4.step M).chg Z oo oo;have g9:UpG g w1.heap.size w1 w6:=((gz.trans g3.upG1).trans M.upG).trans (Z.upG oo);refine zau<|zaN (λho=>?_) (λho=>?_)
 . have ho:okS g4=false:=by simpa using ho
   obtain ⟨f,rfl,hp⟩:=zd0 g5 (λx j hh=>⟨_,hh.2⟩) ho;refine hz g9 h6 rfl ?_;unfold pIn;rw [qad hn,hp];rfl
 have ho:okS g4=true:=by simpa using ho
 obtain ⟨j,rfl,hp⟩:=zhj g5 ho;refine (zds h6).mono ?_;rintro _ w7 ⟨gj,a7,rfl,-,-,-⟩;have gI:=gj.size;refine zdE<|signKind_ok.mono ?_;rintro _ w8 ⟨V,rfl⟩;have gJ:=V.size;have h8:=(h6.step gj).step V;have gC:UpG g w1.heap.size w1 w8:=(g9.trans gj.upG).trans V.upG;have gK:=(gq.ext gj).ext V;refine zag<|br (λhk=>?_) (λhk=>?_)
 . have hk:opN (sgT L j)=0:=oo;refine zas (cells:=#[.int .i64 0,.int .i64 0,.string nO,.slice none 0 0]) kK ?_;refine (zeX (c:=3) h8 dD io).mono ?_;rintro _ w9 ⟨g2,h9,rfl⟩;have gL:=g2.size;refine D (gC.trans g2.upG1) h9 zcM (lr _) oo rfl ?_;unfold pIn;rw [qad hn,hp];simp only [Rd.go];rw [qah hk];rfl
 have hk:¬opN (sgT L j)=0:=oo;have:=zs6 (sgT L j)
 have hj:j<L.length:=by
   rcases qaw j L.length with h1 | h1
   . exact h1
   rw [zgE h1] at hk;exact absurd dD hk
 refine zfG h8 hj λw9 g2 h9=>?_;have gL:=g2.size;refine (ih h9 hd).mono ?_;rintro _ _ ⟨g0,_,t2,gb,rfl,gM,gN,gc⟩;have:=g0.size;have gs:=(gK.chg g2 (.inr oo) (.inr oo)).chg g0 (.inr oo) (.inr oo);refine zal rfl<|zal rfl<|zck (α:=DTerm) zri λ_ C gt=>?_;have:=C.size;refine zb0 zcD gt (gN.ext C) (.inr oo) λgO O gx=>?_;have:=O.size;have gD:=(gM.step C).chg O oo oo;have gd:UpG g w1.heap.size w1 gO:=(((gC.trans g2.upG1).trans g0.upG1).trans C.upG).trans (O.upG oo);have gf:=(gs.ext C).chg O (.inl oo) (.inl oo);refine zau<|zaN (λho=>?_) (λho=>?_)
 . have ho:okS gb=false:=by simpa using ho
   obtain ⟨f,rfl,gl⟩:=zd0 gc (λx j hh=>⟨_,hh.2⟩) ho;refine hz gd gD rfl ?_;unfold pIn;rw [qad hn,hp];simp only [Rd.go];rw [qad hk,gl];rfl
 have ho:okS gb=true:=by simpa using ho
 obtain ⟨j2,rfl,gl⟩:=zhj gc ho;refine (zeY (t:=zpR) gD dD).mono ?_;rintro _ _ ⟨U,gn,rfl⟩;have:=U.size;have gg:=gd.trans (U.upG1 (lo:=w1.heap.size));refine zau ?_;by_cases hs:atT L j2 zpR
 . rw [zbQ hs] at gn ⊢;refine zaN (λho=>by cases ho) (λ_=>?_);refine zdG zcD (gf.chg U (.inr oo) (.inr oo)) (xrf _) λ_ oa=>zdG zcD (gx.chg U (.inr oo) (.inr oo)) (xrf _) λ_ ob=>zul (lo:=w1.heap.size) u65 zcD z67 dD oa ob (.inl oo) oo λ_ _ g1 gE=>?_;have:=g1.size;obtain ⟨a8,c8,rfl⟩:=zf7 gE;refine zas (cells:=#[.int .i64 (opN (sgT L j):Int),.int .i64 0,.string nO,.slice a8 [t,t2].length c8]) kK<|D (gg.trans g1.upG) (gn.step g1) (zc0 io zcS zdm gE) (lr _) (lr _) rfl ?_;unfold pIn;rw [qad hn,hp];simp only [Rd.go];rw [qad hk,gl];simp only [Rd.go];rw [zci hs];exact ⟨rfl,rfl⟩
 rw [zcN hs] at gn ⊢;refine zaN (λ_=>?_) (λho=>by cases ho);refine hz gg gn rfl ?_;unfold pIn;rw [qad hn,hp];simp only [Rd.go];rw [qad hk,gl];simp only [Rd.go];rw [zcW hs];rfl
theorem zoQ:∀ room,room<=6->zwY room
 | 0,h=>zns h λm hm=>oo
 | r + 1, h => zns h λm hm => zw0 oo (by
     have:m=r:=oo;subst this;exact @zoQ m oo)
end Go.Proofs.YtkgiigmcbgifdaaGreatDoor
namespace Go.Sh
structure Two (g m lo:Nat) (w w':wD):Prop where
 os:w'.os=w.os
 tape:w'.tape=w.tape
 output:w'.output=w.output
 size:w.heap.size<=w'.heap.size
 block:∀ b,b<w.heap.size->b<lo->b≠g->b≠m->w'.heap[b]?=w.heap[b]?
section
variable {g m lo:Nat} {w w' w2:wD} {α:Type} [Rep α]
def Two.refl (g m lo:Nat) (w:wD):Two g m lo w w:=⟨rfl,rfl,rfl,lr _,λ_ _ _ _ _=>rfl⟩
def Two.trans (h:Two g m lo w w') (k:Two g m lo w' w2):Two g m lo w w2:=
 ⟨k.os.trans h.os,k.tape.trans h.tape,k.output.trans h.output,qal h.size k.size,λb h1 h2 h3 h4=>(k.block b (qan h1 h.size) h2 h3 h4).trans (h.block b h1 h2 h3 h4)⟩
def Two.mono {lo2:Nat} (h:Two g m lo w w') (hl:lo2<=lo):Two g m lo2 w w':=⟨h.os,h.tape,h.output,h.size,λb h1 h2 h3 h4=>h.block b h1 oo h3 h4⟩
def Ext.two (h:Ext w w'):Two g m lo w w':=⟨h.os,h.tape,h.output,h.size,λb h1 _ _ _=>h.block b h1⟩
def ChgI.twoG (h:ChgI g (g+1) w w'):Two g m lo w w':=⟨h.os,h.tape,h.output,h.size,λb h1 _ h3 _=>h.block b h1 oo⟩
def ChgI.twoM (h:ChgI m (m+1) w w'):Two g m lo w w':=⟨h.os,h.tape,h.output,h.size,λb h1 _ _ h4=>h.block b h1 oo⟩
def ChgI.two {a b:Nat} (h:ChgI a b w w') (ha:lo<=a):Two g m lo w w':=⟨h.os,h.tape,h.output,h.size,λc h1 h2 _ _=>h.block c h1 oo⟩
def UpG.two (h:UpG g lo w w'):Two g m lo w w':=⟨h.os,h.tape,h.output,h.size,λb h1 h2 h3 _=>h.block b h1 h2 h3⟩
def Blk.two {b e:Nat} {cs:List vL} (h:Blk b e w cs) (hu:Two g m lo w w') (h1:b<lo) (h2:b≠g) (h3:b≠m):Blk b e w' cs:=h.keep (hu.block b h.lt h1 h2 h3)
def OwnI.two {a b:Nat} {v:vL} {x:α} (h:OwnI a b w v x) (hu:Two g m lo w w') (h1:b<=lo) (h2:g<a\/b<=g) (h3:m<a\/b<=m):OwnI a b w' v x:=by
 obtain ⟨F,hm,hF⟩:=h;exact ⟨F,hm.keep λc hc=>hu.block c (hm.lt c hc) (by have:=hF c hc;omega) (by have:=hF c hc;omega) (by have:=hF c hc;omega),hF⟩
def RowI.two {a b e:Nat} {v:vL} {l:List α} (h:RowI a b e w v l) (hu:Two g m lo w w') (h1:b<=lo) (h2:g<a\/b<=g) (h3:m<a\/b<=m):RowI a b e w' v l:=by
 obtain ⟨F,hm,hn,hF⟩:=zhH.1 h;exact zhH.2 ⟨F,hm.keep λc hc=>hu.block c (hm.lt c hc) (by have:=hF c hc;omega) (by have:=hF c hc;omega) (by have:=hF c hc;omega),hn,hF⟩
def VarI.two {a b v0:Nat} {x:α} (h:VarI a b w v0 x) (hu:Two g m lo w w') (h1:b<=lo) (h2:g<a\/b<=g) (h3:m<a\/b<=m) (h4:v0<lo) (h5:v0≠g) (h6:v0≠m):VarI a b w' v0 x:=by
 obtain ⟨F,hO,hF⟩:=h;refine ⟨F,hO.keep λc hc=>?_,hF⟩;have g0:=hO.lts c hc;rcases qaa.1 hc with rfl | hc
 . exact hu.block c g0 h4 h5 h6
 have:=hF c hc;exact hu.block c g0 oo oo oo
end
end Go.Sh
namespace Go.Proofs.YtkgiigmcbgifdaaGreatDoor
open Go Go.Sh Go.Proofs
open Rep (rep)
variable {hi i2 j lo q:Nat} {s:ByteArray} {w w0:wD}
def MB (m:Nat) (st:RSt) (w:wD):Prop:=∃ q:Nat,Blk m 3 w [.int .i64 (60-(q:Int))]/\q<=60/\∀ i q',st=.ok (i,q')->q'=q
structure RiM (W:wD) (g m:Nat) (L:List DSign) (v:vL) (e:Int) (st:RSt) (w:wD):Prop where
 rd:RiG W g L v e st w
 mb:MB m st w
 gm:g<m
section
variable {W w w':wD} {g m:Nat} {L:List DSign} {v:vL} {e:Int} {st st':RSt}
def RiM.step (h:RiM W g m L v e st w) (hx:Ext w w'):RiM W g m L v e st w':=by
 obtain ⟨q,hB,hr⟩:=h.mb;exact ⟨h.rd.step hx,⟨q,hB.ext hx,hr⟩,h.gm⟩
def RiM.chg {a b:Nat} (h:RiM W g m L v e st w) (hc:ChgI a b w w') (hg:m<a):RiM W g m L v e st w':=by
 obtain ⟨q,hB,hr⟩:=h.mb;have:=h.gm;have:=h.rd.lo;exact ⟨h.rd.chg hc oo oo,⟨q,hB.keep (hc.block m hB.lt oo),hr⟩,h.gm⟩
def RiM.one {i q:Nat} (h:RiM W g m L v e (.ok (i,q)) w) (hc:ChgI g (g+1) w w') (hr:RiG W g L v e st' w') (hq:∀ j q',st'=.ok (j,q')->q'=q):RiM W g m L v e st' w':=by
 obtain ⟨q1,hB,h6,g0⟩:=h.mb;have:=h.gm;exact ⟨hr,⟨q1,hB.keep (hc.block m hB.lt oo),h6,λj q' hj=>(hq j q' hj).trans (g0 i q rfl)⟩,h.gm⟩
def RiM.lt (h:RiM W g m L v e st w):m<w.heap.size:=by obtain ⟨_,hB,_⟩:=h.mb;exact hB.lt
def ztl {t:ByteArray} {i q j q':Nat} (h:zbP L e t (.ok (i,q))=.ok (j,q')):q'=q:=by
 by_cases ht:atT L i t
 . rw [zbQ ht] at h;cases h;rfl
 rw [zcN ht] at h;cases h
def zD1 {i q j q':Nat} (h:zgH L e (.ok (i,q))=.ok (j,q')):q'=q:=by
 by_cases ht:zaz (sgT L i)=true
 . rw [zfE ht] at h;cases h;rfl
 rw [zjM ht] at h;cases h
end
def zir (L:List DSign) (e:Int) (room q i:Nat):Rd (List DStmt×Nat):=(zbV L e room q i).go λx j=>if L.length<=j\/atT L j ziQ then .ok (x,j) else .error (ftA L e 3 j)
theorem zw1 {L:List DSign} {e:Int} {room q i:Nat}:zlq L e (zbV L e room) q i=(zeJ L e zop i).go λ_ j=>(zir L e room q j).go λb j=>(zeJ L e ziQ j).go λ_ j=>.ok (b,j):=by
 unfold zlq zir;congr 1;funext _ j
 match zbV L e room q j with
 | .error f=>rfl
 | .ok (x,k)=>
   show (zeJ L e ziQ k).go _=Rd.go (if L.length<=k\/atT L k ziQ then .ok (x,k) else .error (ftA L e 3 k)) _;by_cases h:L.length<=k\/atT L k ziQ
   . rw [qah h];rfl
   rw [qad h,zcW λhh=>h (.inr hh)];rfl
def zd1 (W:wD) (g m:Nat) (L:List DSign) (v:vL) (e:Int) (w:wD) (z:Rd (List DStmt×Nat)) (r:vL) (w':wD):Prop:=
 Two g m w.heap.size w w'/\∃ u l st',r=.tuple #[u,.bool (okS st')]/\RiM W g m L v e st' w'/\OwnI w.heap.size w'.heap.size w' u l/\RdB z st' λx j=>x.1=l/\st'=.ok (j,x.2)
def zhK (W:wD) (g m:Nat) (L:List DSign) (v:vL) (e:Int) (w:wD) (z:Rd (DStmt×Nat)) (r:vL) (w':wD):Prop:=
 Two g m w.heap.size w w'/\∃ u s st',r=.tuple #[u,.bool (okS st')]/\RiM W g m L v e st' w'/\OwnI w.heap.size w'.heap.size w' u s/\RdB z st' λx j=>x.1=s/\st'=.ok (j,x.2)
def zrO (room:Nat):Prop:=∀ {W w:wD} {g m:Nat} {L:List DSign} {v:vL} {e:Int} {i q:Nat} {d:Int},RiM W g m L v e (.ok (i,q)) w->d+(room:Int)=6 ->
 CALL tp 255 [.pointer (some ⟨g,0,none⟩),.int .i64 d,.pointer (some ⟨m,0,none⟩)] w (zd1 W g m L v e w (zir L e room q i))
def zCi (room:Nat):Prop:=∀ {W w:wD} {g m:Nat} {L:List DSign} {v:vL} {e:Int} {i q:Nat} {d:Int},RiM W g m L v e (.ok (i,q)) w->d+(room:Int)=6 ->
 CALL tp 200 [.pointer (some ⟨g,0,none⟩),.int .i64 d,.pointer (some ⟨m,0,none⟩)] w (zd1 W g m L v e w (zlq L e (zbV L e room) q i))
def zBa (room:Nat):Prop:=∀ {W w:wD} {g m:Nat} {L:List DSign} {v:vL} {e:Int} {i q k:Nat} {d:Int},RiM W g m L v e (.ok (i,q)) w->d+(room:Int)=6->k=wkK (sgT L i)->k≠0->¬((k=2\/k=3)/\room=0) ->
 CALL tp 297 [.pointer (some ⟨g,0,none⟩),.int .i64 (k:Int),.int .i64 d,.pointer (some ⟨m,0,none⟩)] w (zhK W g m L v e w (zd6 L e (zuo L e room) k q i))
def zBb (room:Nat):Prop:=∀ {W w:wD} {g m:Nat} {L:List DSign} {v:vL} {e:Int} {i q k:Nat} {d:Int},RiM W g m L v e (.ok (i,q)) w->d+(room:Int)=5->k=wkK (sgT L i)->k=2\/k=3 ->
 CALL tp 311 [.pointer (some ⟨g,0,none⟩),.int .i64 (k:Int),.int .i64 d,.pointer (some ⟨m,0,none⟩)] w (zhK W g m L v e w (zd6 L e (zlq L e (zbV L e room)) k q i))
def zlU {L:List DSign} {e:Int} (room q j:Nat):zbV L e room q j=if wkK (sgT L j)=0 then .ok (([],q),j) else if (wkK (sgT L j)=2\/wkK (sgT L j)=3)/\room=0 then .error (ftA L e 4 j) else if q=0 then .error (ftA L e 5 j)
   else (zd6 L e (zuo L e room) (wkK (sgT L j)) (q-1) j).go λs j=>(zbV L e room s.2 j).go λl j=>.ok ((s.1 :: l.1,l.2),j):=by
 have h:=zhE (L:=L) (e:=e) (deep:=decide (room=0)) (zgd (L:=L) (e:=e) room) q j;rw [<-zgc] at h;simp only [qau,<-zgc] at h;exact h
theorem zkL {α:Type} {r:Rd (α×Nat)} {st:RSt} {x0:α} (h:RdB r st λx j=>x.1=x0/\st=.ok (j,x.2)) (ho:okS st=true):∃ j q,st=.ok (j,q)/\r=.ok ((x0,q),j):=by
 match r,h with
 | .error f,h=>rw [show st=.error f from h] at ho;cases ho
 | .ok ((x,q),j),h=>exact ⟨j,q,h.2,by rw [<-show x=x0 from h.1]⟩
def zqe {room:Nat} (ih:zrO room):zCi room:=by
 intro W w g m L v e i _ _ h hd;have:=h.lt;have:=h.gm;refine co (g:=kf [] [] []) Tryz.func200 ?_;rw [zw1]
 have C:∀ {w':wD} {f:DFault} {z:Rd (List DStmt×Nat)},Two g m w.heap.size w w'->RiM W g m L v e (.error f) w'->z=.error f->zd1 W g m L v e w z (.tuple #[.slice none 0 0,.bool false]) w':=λh1 h2 h3=>
   ⟨h1,_,[],_,rfl,h2,za8,by rw [h3];rfl⟩
 refine (zeY (t:=zop) h.rd dD).mono ?_;rintro _ _ ⟨g2,h1,rfl⟩;have gd:=g2.size;have g3:=h.one g2 h1 λj q' hj=>ztl hj;refine zau ?_;by_cases hb:atT L i zop
 rotate_left
 . rw [zcN hb] at g3 ⊢;refine zaN (λ_=>?_) (λho=>by cases ho);exact C g2.twoG g3 (by rw [zcW hb];rfl)
 rw [zbQ hb] at g3 ⊢;refine zaN (λho=>by cases ho) (λ_=>?_);refine (ih g3 hd).mono ?_;rintro _ w2 ⟨gb,u,l,st2,rfl,g9,o2,gc⟩;have:=gb.size;have g0:Two g m w.heap.size w w2:=g2.twoG.trans (gb.mono gd);refine zal rfl<|zal rfl<|zau<|zaN (λho=>?_) (λho=>?_)
 . have ho:okS st2=false:=by simpa using ho
   obtain ⟨f,rfl,hp⟩:=zd0 gc (λ_ j hh=>⟨_,hh.2⟩) ho;exact C g0 g9 (by rw [zci hb];simp only [Rd.go];rw [hp])
 have ho:okS st2=true:=by simpa using ho
 obtain ⟨j,_,rfl,hp⟩:=zkL gc ho;refine (zeY (t:=ziQ) g9.rd dD).mono ?_;rintro _ _ ⟨g4,h3,rfl⟩;have:=g4.size;have g5:=g9.one g4 h3 λj q' hj=>ztl hj;have g1:=g0.trans (g4.twoG (m:=m));refine zau ?_;by_cases hb2:atT L j ziQ
 rotate_left
 . rw [zcN hb2] at g5 ⊢;refine zaN (λ_=>?_) (λho=>by cases ho);exact C g1 g5 (by rw [zci hb];simp only [Rd.go];rw [hp];simp only;rw [zcW hb2])
 rw [zbQ hb2] at g5 ⊢;refine zaN (λho=>by cases ho) (λ_=>?_);refine ⟨g1,u,l,_,rfl,g5,(o2.chg g4 (.inr oo)).mono oo oo,?_⟩;rw [zci hb];simp only [Rd.go];rw [hp];simp only;rw [zci hb2];exact ⟨rfl,rfl⟩
def zlV {room:Nat} (ih:zBa room):zrO room:=by
 intro W w g m L v e i q d h hd;have hm:=h.lt;have gG:=h.gm;refine co (g:=kf [(10,1125899873288384,[])] [(2,590295810358705651648,[8])] []) Tryz.func255 ?_
 have gH:q<=60:=by
   obtain ⟨q1,_,h6,hq⟩:=h.mb;have:=hq i q rfl;omega
 refine zar 62 (λn us w'=>∃ out l j q',us=[out]/\Two g m w.heap.size w w'/\RiM W g m L v e (.ok (j,q')) w'/\RowI w.heap.size w'.heap.size 117 w' out l/\l.length=n/\q'+l.length<=q/\zbV L e room q i=pre l (zbV L e room q' j)) 0 oo
     ⟨_,[],i,q,rfl,Two.refl _ _ _ _,h,zbL _ _ _ _,rfl,lr _,(zwk _).symm⟩ ?_
 rintro n k _ _ _ ⟨out,l,j,q2,hu,gt,h2,gI,gJ,_,hI⟩;try replace hu:=zbv hu
 rw [hu];have hs2:=gt.size
 have g4:∀ {w5:wD},Two g m w.heap.size w w5->RiM W g m L v e (.ok (j,q2)) w5->RowI w.heap.size w5.heap.size 117 w5 out l->L.length<=j\/atT L j ziQ->zd1 W g m L v e w (zir L e room q i) (.tuple #[out,.bool true]) w5:=by
   intro w5 a1 a2 a3 a4
   have D:wkK (sgT L j)=0:=by
     rcases a4 with h4 | h4
     . rw [zgE h4];decide
     rw [show sgT L j=ziQ from h4];decide
   refine ⟨a1,out,l,.ok (j,q2),rfl,a2,a3.own,?_⟩;unfold zir;rw [hI,zlU,qah D];simp only [pre,Rd.go,qaJ];rw [qah a4];exact ⟨rfl,rfl⟩
 have g5:=zlU (L:=L) (e:=e) room q2 j
 have g9:∀ {w5:wD} {f:DFault} {x:vL},Two g m w.heap.size w w5->RiM W g m L v e (.error f) w5->zir L e room q i=.error f->x=.bool false->zd1 W g m L v e w (zir L e room q i) (.tuple #[.slice none 0 0,x]) w5:=λa1 a2 a3 a4=>
   ⟨a1,_,[],_,by rw [a4];rfl,a2,za8,by rw [a3];rfl⟩
 have C:∀ {w5:wD} {c:Int},c≠0->I64 c->Two g m w.heap.size w w5->RiM W g m L v e (.ok (j,q2)) w5->zir L e room q i=.error (ftA L e c j) ->
     CALL tp 125 [.pointer (some ⟨g,0,none⟩),.int .i64 c] w5 λr w'=>zd1 W g m L v e w (zir L e room q i) (.tuple #[.slice none 0 0,r]) w':=by
   intro w5 c a1 a2 a3 a4 a5;refine (zeX a4.rd a1 a2).mono ?_;rintro _ w6 ⟨g0,h6,rfl⟩;exact g9 (a3.trans g0.twoG) (a4.one g0 h6 λ_ _ hh=>by cases hh) a5 rfl
 refine (zkK h.rd.is_ h2.rd.at.1).mono ?_;rintro _ _ ⟨gd,rfl⟩;have hs3:=gd.size;have h3:=h2.step gd;have gx:=gt.trans (gd.two (g:=g) (m:=m) (lo:=w.heap.size));have gy:=gI.ext gd;refine zau<|zaN (λhb=>?_) (λhb=>?_)
 rotate_left
 . have hb:L.length<=j:=by simpa using hb
   exact g4 gx h3 (gy.mono (lr _) oo) (.inl hb)
 have hjl:j<L.length:=by simpa using hb
 refine (zds h3.rd).mono ?_;rintro _ _ ⟨gf,a4,rfl,-,-,-⟩;have hs4:=gf.size;have h4:=h3.step gf;have gz:=gx.trans (gf.two (g:=g) (m:=m) (lo:=w.heap.size));have gA:=gy.ext gf;refine zdE<|ze7<|br (λg1=>?_) (λg1=>?_)
 rotate_left
 . have g1:atT L j ziQ:=qaf.1 g1;exact g4 gz h4 (gA.mono (lr _) oo) (.inr g1)
 have g1:¬atT L j ziQ:=g1;refine (zds h4.rd).mono ?_;rintro _ w5 ⟨gK,a5,rfl,-,-,-⟩;refine zdE<|wordKind_ok.mono ?_;rintro _ w6 ⟨gL,rfl⟩;have M:=gK.t gL;have hs6:=M.size;have h6:=h4.step M;have g0:=gz.trans (M.two (g:=g) (m:=m) (lo:=w.heap.size));have gM:=gA.ext M;have gi:∀ {f:DFault},zbV L e room q2 j=.error f->zir L e room q i=.error f:=λhf=>by unfold zir;rw [hI,hf];rfl
 obtain ⟨kd,gB⟩:∃ k,k=wkK (sgT L j):=⟨_,rfl⟩;rw [<-gB] at g5 ⊢;refine JOIN.mk (λus w'=>us=[]/\w'=w6/\kd≠0/\¬((kd=2\/kd=3)/\room=0)/\¬q2=0) ?_ ?_
 . have U:kd≠0->¬((kd=2\/kd=3)/\room=0) ->
       NIL (.pointer (some ⟨m,0,none⟩)) (RD tp (Instr.loadAt 3 (.pointer (some ⟨m,0,none⟩))) w6 λx=>RD tp (bin BinOp.eql 3 (Operand.tmp 0) (Operand.const undef) x (.int .i64 60)) w6 λb=>BR b
         (CALL tp 125 [.pointer (some ⟨g,0,none⟩),.int .i64 5] w6 λr w'=>zd1 W g m L v e w (zir L e room q i) (.tuple #[.slice none 0 0,r]) w')
         (([]:List vL)=[]/\w6=w6/\kd≠0/\¬((kd=2\/kd=3)/\room=0)/\¬q2=0)):=by
     intro D gb;obtain ⟨q1,hB,gN,gj⟩:=h6.mb;obtain rfl:=gj j q2 rfl;refine NIL.mk rfl<|zaj ty3 hB rfl<|zag<|br (λgO=>?_) (λgO=>⟨rfl,rfl,D,gb,oo⟩);refine C dD io g0 h6 (gi ?_);rw [g5,qad D,qad gb,qah oo]
   have V:kd=2\/kd=3->RD tp (bin BinOp.eql 3 (Operand.tmp 0) (Operand.const undef) (.int .i64 d) (.int .i64 6)) w6 λb=>BR b
         (CALL tp 125 [.pointer (some ⟨g,0,none⟩),.int .i64 4] w6 λr w'=>zd1 W g m L v e w (zir L e room q i) (.tuple #[.slice none 0 0,r]) w')
         (NIL (.pointer (some ⟨m,0,none⟩)) (RD tp (Instr.loadAt 3 (.pointer (some ⟨m,0,none⟩))) w6 λx=>RD tp (bin BinOp.eql 3 (Operand.tmp 0) (Operand.const undef) x (.int .i64 60)) w6 λb=>BR b
         (CALL tp 125 [.pointer (some ⟨g,0,none⟩),.int .i64 5] w6 λr w'=>zd1 W g m L v e w (zir L e room q i) (.tuple #[.slice none 0 0,r]) w')
         (([]:List vL)=[]/\w6=w6/\kd≠0/\¬((kd=2\/kd=3)/\room=0)/\¬q2=0))):=by
     intro hk;refine zag<|br (λgC=>?_) (λgC=>U oo (λhh=>gC oo));refine C dD io g0 h6 (gi ?_);rw [g5,qad oo,qah ⟨hk,oo⟩]
   refine zag<|br (λD=>?_) (λD=>?_)
   . refine C dD io g0 h6 ?_;unfold zir;rw [hI,g5,qah oo];simp only [pre,Rd.go];rw [qad (λhh=>by rcases hh with hh | hh;omega;exact g1 hh)]
   refine zag<|br (λgP=>V (.inl oo)) (λgP=>?_);refine zag<|br (λgQ=>V (.inr oo)) (λgQ=>U oo (λhh=>oo))
 rintro _ _ ⟨-,rfl,D,gb,gR⟩;obtain ⟨q1,hB,gN,gj⟩:=h6.mb;obtain rfl:=gj j q2 rfl;refine NIL.mk rfl<|zaj ty3 hB rfl<|zdK io<|NIL.mk rfl<|zaW (α:=Int) (lo:=0) (hi:=0) ty3 rfl rfl hB ss (ownI_int io) λw7 gg gh=>?_;have hs7:=gg.size;have gh:Blk m 3 w7 [.int .i64 (60-(q2:Int)+1)]:=gh;rw [show 60-(q2:Int)+1=60-((q2-1:Nat):Int) by omega] at gh
 have h7:RiM W g m L v e (.ok (j,q2-1)) w7:=by
   have hr:=h6.rd.chg gg oo (by have:=h.rd.lo;omega);have:=hr.at;exact ⟨hr.of hr.ext this.1 this.2,⟨q2-1,gh,oo,λ_ _ hh=>by cases hh;rfl⟩,gG⟩
 have gl:=g0.trans (gg.twoM (g:=g));have gS:=gM.chg gg (.inr oo);refine (ih h7 hd gB D gb).mono ?_;rintro _ w8 ⟨gn,_,s,gD,rfl,h8,o8,gE⟩;have hs8:=gn.size;have gp:Two g m w.heap.size w w8:=gl.trans (gn.mono oo);have gT:=gS.two gn oo (.inl oo) (.inl oo);refine zal rfl<|zal rfl<|zck (α:=DStmt) zjy λ_ gc gU=>?_;have hs9:=gc.size;refine zb0 zda gU (o8.ext gc) (.inr oo) λgV O gq=>?_;have gW:=O.size;have gF:=(h8.step gc).chg O (by have:=h8.lt;omega);have Z:Two g m w.heap.size w gV:=(gp.trans gc.two).trans (O.two oo);have gr:=(gT.ext gc).chg O (.inl oo);have g2:=g5;rw [qad D,qad gb,qad gR] at g2;refine zau<|zaN (λho=>?_) (λho=>?_)
 . have ho:okS gD=false:=by simpa using ho
   obtain ⟨f,rfl,hp⟩:=zd0 gE (λx j hh=>⟨_,hh.2⟩) ho;exact g9 Z gF (gi (by rw [g2,hp];rfl)) rfl
 have ho:okS gD=true:=by simpa using ho
 obtain ⟨j8,q8,rfl,hp⟩:=zkL gE ho;have hle:=zf3 (zgd room) hp;refine zdG zda gq (xrf _) λ_ gX=>zbs (lo2:=w7.heap.size) (hi2:=w8.heap.size) u60 zda zE2 zDt dD gr oo gX oo oo (by rw [zak];omega) oo λgY _ g3 gs=>?_;have gZ:=g3.size;refine ⟨62-(n+1),oo,n+1,oo,gY,l++[s],j8,q8,rfl,Z.trans (g3.two oo),gF.chg g3 oo,gs,by simp [gJ],by rw [qab,qaC];omega,?_⟩;rw [hI,g2,hp];simp only [Rd.go];exact zAX (β:=Unit) _
theorem zD2 {α:Type} {r:Rd α} {st:RSt} {x0:α} (h:RdB r st λx j=>x=x0/\st=.ok (j,q)) (j q':Nat) (hs:st=.ok (j,q')):q'=q:=by
 match r,h with
 | .error f,h=>rw [show st=.error f from h] at hs;cases hs
 | .ok (x,j),h=>rw [h.2] at hs;cases hs;rfl
structure SvI (W:wD) (g m:Nat) (L:List DSign) (v:vL) (e:Int) (n1 n2:Nat) (w1:wD) (st:RSt) (x:DStmt) (w:wD):Prop where
 up:Two g m n1 w1 w
 rm:RiM W g m L v e st w
 var:∃ hi,VarI n2 hi w n1 x/\hi<=w.heap.size
 n:n2<=w.heap.size/\m<n1/\n1<n2
section
variable {W w w0 w1 w':wD} {g m n1 n2:Nat} {L:List DSign} {v:vL} {e:Int} {st st':RSt} {x x':DStmt}
def SvI.call (h:SvI W g m L v e n1 n2 w1 st x w) (hc:Two g m w.heap.size w w') (hr:RiM W g m L v e st' w'):SvI W g m L v e n1 n2 w1 st' x w':=by
 obtain ⟨hi,hv,hh⟩:=h.var;have:=hc.size;have:=h.n;have:=h.rm.gm;exact ⟨h.up.trans (hc.mono oo),hr,⟨hi,hv.two hc hh (.inl oo) (.inl oo) oo oo oo,oo⟩,oo,h.n.2⟩
def SvI.step (h:SvI W g m L v e n1 n2 w1 st x w) (hx:Ext w w'):SvI W g m L v e n1 n2 w1 st x w':=h.call hx.two (h.rm.step hx)
def SvI.one {i q:Nat} (h:SvI W g m L v e n1 n2 w1 (.ok (i,q)) x w) (hc:ChgI g (g+1) w w') (hr:RiG W g L v e st' w') (hq:∀ j q',st'=.ok (j,q')->q'=q):SvI W g m L v e n1 n2 w1 st' x w':=h.call hc.twoG (h.rm.one hc hr hq)
def SvI.put {β:Type} [Rep β] {t by_ off:Nat} {u:vL} {y:β} {K:wD->Prop} (h:SvI W g m L v e n1 n2 w1 st x w0) (ht:tyI tp t=some (Rep.size β,by_,Rep.agg β)) (hc:Two g m w0.heap.size w0 w) (hr:RiM W g m L v e st' w) (hu:OwnI w0.heap.size w.heap.size w u y)
   (hl:∀ {F:List Nat},OAt F w n1 0 x->∃ (G:List Nat) (y0:β) (upd:β->DStmt),Lens (VH n1) (n1 :: F) w n1 (0+off) G y0 upd/\upd y=x') (k:∀ w',ChgI n1 (n1+1) w w'->SvI W g m L v e n1 n2 w1 st' x' w'->K w'):OPU tp (Instr.storeAt t (.pointer (some ⟨n1,0+off,none⟩)) u) w K:=by
 have h2:=h.call hc hr;obtain ⟨_,hv,hh⟩:=h.var;have:=hc.size;have:=h.n;have:=h.rm.gm;obtain ⟨F,hO,hF⟩:=hv.two hc hh (.inl oo) (.inl oo) oo oo oo;obtain ⟨G,y0,upd,hL,rfl⟩:=hl hO;refine zsP ht hL hF hu oo oo λw' g0 hk=>?_;have:=g0.size;refine k w' g0 ⟨h2.up.trans (g0.two (lr _)),hr.chg g0 oo,⟨w'.heap.size,hk n2 (lr _) oo w'.heap.size oo oo,qaE _⟩,oo,h.n.2⟩
def SvI.name {s:ByteArray} {K:wD->Prop} (h:SvI W g m L v e n1 n2 w1 st x w) (hk:s.size<=maxLen) (kk:∀ w',ChgI n1 (n1+1) w w'->SvI W g m L v e n1 n2 w1 st (.mk x.kind s x.term x.body x.els) w'->K w'):OPU tp (Instr.storeAt 9 (.pointer (some ⟨n1,0+1,none⟩)) (.string s)) w K:=
 h.put (β:=ByteArray) ty9 (Two.refl _ _ _ _) h.rm (zgC hk) (λhO=>by obtain ⟨G,hL⟩:=zkg (Lens.var hO);exact ⟨G,_,_,hL,rfl⟩) kk
def SvI.term {u:vL} {t:DTerm} {K:wD->Prop} (h:SvI W g m L v e n1 n2 w1 st x w0) (hc:Two g m w0.heap.size w0 w) (hr:RiM W g m L v e st' w) (hu:OwnI w0.heap.size w.heap.size w u t) (kk:∀ w',ChgI n1 (n1+1) w w'->SvI W g m L v e n1 n2 w1 st' (.mk x.kind x.name t x.body x.els) w'->K w'):OPU tp (Instr.storeAt 67 (.pointer (some ⟨n1,0+2,none⟩)) u) w K:=
 h.put (β:=DTerm) zcD hc hr hu (λhO=>by obtain ⟨G,hL⟩:=zkh (Lens.var hO);exact ⟨G,_,_,hL,rfl⟩) kk
def SvI.body {u:vL} {t:List DStmt} {K:wD->Prop} (h:SvI W g m L v e n1 n2 w1 st x w0) (hc:Two g m w0.heap.size w0 w) (hr:RiM W g m L v e st' w) (hu:OwnI w0.heap.size w.heap.size w u t) (kk:∀ w',ChgI n1 (n1+1) w w'->SvI W g m L v e n1 n2 w1 st' (.mk x.kind x.name x.term t x.els) w'->K w'):OPU tp (Instr.storeAt 60 (.pointer (some ⟨n1,0+6,none⟩)) u) w K:=
 h.put (β:=List DStmt) zed hc hr hu (λhO=>by obtain ⟨G,hL⟩:=zki (Lens.var hO);exact ⟨G,_,_,hL,rfl⟩) kk
def SvI.els {u:vL} {t:List DStmt} {K:wD->Prop} (h:SvI W g m L v e n1 n2 w1 st x w0) (hc:Two g m w0.heap.size w0 w) (hr:RiM W g m L v e st' w) (hu:OwnI w0.heap.size w.heap.size w u t) (kk:∀ w',ChgI n1 (n1+1) w w'->SvI W g m L v e n1 n2 w1 st' (.mk x.kind x.name x.term x.body t) w'->K w'):OPU tp (Instr.storeAt 60 (.pointer (some ⟨n1,0+7,none⟩)) u) w K:=
 h.put (β:=List DStmt) zed hc hr hu (λhO=>by obtain ⟨G,hL⟩:=zkj (Lens.var hO);exact ⟨G,_,_,hL,rfl⟩) kk
def zkM {w4:wD} {u:vL} {s:DStmt} {lo hi:Nat} {b:Bool} {z:Rd (DStmt×Nat)} (g2:Ext w w1) (g1:VarI w1.heap.size w1.heap.size w1 w.heap.size (RepZ.zv:DStmt)) (hm:m<w.heap.size)
   (hu:Two g m w1.heap.size w1 w4) (hr:RiM W g m L v e st' w4) (ho:OwnI lo hi w4 u s) (hlo:w1.heap.size<=lo) (hhi:hi<=w4.heap.size) (hb:okS st'=b) (hR:RdB z st' λx j=>x.1=s/\st'=.ok (j,x.2)) :
   OPU tp (Instr.storeAt 117 (.pointer (some ⟨w.heap.size,0,none⟩)) u) w4 λw5=>RD tp (zbr 117 (.pointer (some ⟨w.heap.size,0,none⟩))) w5 λr=>zhK W g m L v e w z (.tuple [r,.bool b].toArray) w5:=by
 have g3:=g1.lt;have g4:=g2.size;have:=hu.size;have:=hr.gm;refine zwZ zda (g1.two hu (lr _) (.inl oo) (.inl oo) g3 oo oo) ho (.inl oo) λr w5 g0 g5=>?_;have:=g0.size;exact ⟨(g2.two.trans (hu.mono g4)).trans (g0.two (lr _)),r,s,st',by rw [hb],hr.chg g0 oo,g5.mono oo oo,hR⟩
end
def zw2 (hl:lo<=hi):OwnI lo hi w (.agg #[.int .i64 0,.string nO,.int .i64 0,.int .i64 0,.string nO,.slice none 0 0,.slice none 0 0,.slice none 0 0]) (DStmt.mk 0 nO term0 [] []):=zoK hl zcS zdm
section
variable {W w w1:wD} {g m:Nat} {L:List DSign} {v:vL} {e:Int} {z:Rd (DStmt×Nat)}
def zqf (g0:Ext w w1) (g1:VarI w1.heap.size w1.heap.size w1 w.heap.size (RepZ.zv:DStmt)) (hm:m<w.heap.size) {n2:Nat} {w5:wD} {x:DStmt} {f:DFault} (S:SvI W g m L v e w1.heap.size n2 w1 (.error f) x w5) (hp:z=.error f) :
   RD tp (Instr.build 117 #[]) w5 λu=>OPU tp (Instr.storeAt 117 (.pointer (some ⟨w.heap.size,0,none⟩)) u) w5 λw5=>RD tp (zbr 117 (.pointer (some ⟨w.heap.size,0,none⟩))) w5 λr=>zhK W g m L v e w z (.tuple [r,.bool false].toArray) w5:=by
 refine zas (cells:=#[.int .i64 0,.string nO,.int .i64 0,.int .i64 0,.string nO,.slice none 0 0,.slice none 0 0,.slice none 0 0]) kK<|zkM g0 g1 hm S.up S.rm (zw2 (lo:=w1.heap.size) (hi:=w1.heap.size) (lr _)) (lr _) S.up.size rfl (by rw [hp];rfl)
def ztm (g0:Ext w w1) (g1:VarI w1.heap.size w1.heap.size w1 w.heap.size (RepZ.zv:DStmt)) (hm:m<w.heap.size) {n2:Nat} (hn:w1.heap.size<=n2) {w5:wD} {st:RSt} {x:DStmt} {b:Bool} (S:SvI W g m L v e w1.heap.size n2 w1 st x w5) (hb:okS st=b) (hR:RdB z st λy j=>y.1=x/\st=.ok (j,y.2)) :
   RD tp (Instr.loadAt 117 (.pointer (some ⟨w1.heap.size,0,none⟩))) w5 λu=>OPU tp (Instr.storeAt 117 (.pointer (some ⟨w.heap.size,0,none⟩)) u) w5 λw5=>RD tp (zbr 117 (.pointer (some ⟨w.heap.size,0,none⟩))) w5 λr=>zhK W g m L v e w z (.tuple [r,.bool b].toArray) w5:=by
 obtain ⟨_,hv,hh⟩:=S.var;refine zdG zda hv (xrf _) λu o=>zkM g0 g1 hm S.up S.rm o oo hh hb hR
end
def zus {room:Nat} (hr5:room<=5) (ih:zCi room):zBb room:=by
 intro W _ g m L v e i q k d h _ _ hk;have hm:=h.lt;have:=h.gm;have gp:i<L.length:=zBU oo;refine co (g:=kf [(16,1267650600227941171120551494144,[])] [] [(13,[0,1,2,3,4,5,6,7,8,9,10,11,12,13,14,15,16,17,18,19,20,21,22,23,24,25,26,27,28,29,30,31],0)]) Tryz.func311 ?_;refine zck (α:=DStmt) zjy λw1 M O=>?_;have:=M.size;have:=O.lt;refine zas (cells:=(stC (k:Int) nO).toArray) kK<|zck (α:=DStmt) zjy λw2 gb gc=>?_;have:=gb.size;have:=gc.lt;refine zb0 (lo:=w2.heap.size) (hi:=w2.heap.size) zda gc (zoK (lr _) io zdm) (.inl oo) λw3 gd gq=>?_;have:=gd.size;have g0:Ext w1 w3:=gb.chgI gd (lr _);have S3:SvI W g m L v e w1.heap.size w2.heap.size w1 (.ok (i,q)) (DStmt.mk (k:Int) nO term0 [] []) w3:=⟨g0.two,h.step (M.t g0),⟨_,gq,oo⟩,oo,oo,oo⟩
 have D:zd6 L e (zlq L e (zbV L e room)) k q i=(zej L e 6 (i+1)).go λt j=>(zlq L e (zbV L e room) q j).go λb j=>
   if k=3\/¬atT L j zug then .ok ((.mk (k:Int) tmE t b.1 [],b.2),j)
   else if atT L (j+1) zop/\atT L (j+2) ziQ then .error (ftA L e 3 (j+2))
   else (zlq L e (zbV L e room) b.2 (j+1)).go λc j=>.ok ((.mk (k:Int) tmE t b.1 c.1,c.2),j):=by
   unfold zd6;rw [qad oo,qad oo,qah hk]
 refine zfG S3.rm.rd gp λ_ gr h4=>?_;have S4:=S3.one gr h4 λ_ _ hh=>by cases hh;rfl
 refine (zoQ 6 oo (d:=0) h4 oo).mono ?_;rintro _ _ ⟨gf,_,t,gg,rfl,h5,o5,g1⟩;have M5:=S4.rm.one gf h5 (zD2 g1);refine zal rfl<|zal rfl<|zaa zce<|S4.term gf.twoG M5 o5 λ_ _ S6=>zau<|zaN (λho=>?_) (λho=>?_)
 . have ho:okS gg=false:=by simpa using ho
   obtain ⟨f,rfl,hp⟩:=zd0 g1 (λx j hh=>⟨_,hh.2⟩) ho;exact zqf M O hm S6 (by rw [D,hp];rfl)
 have ho:okS gg=true:=by simpa using ho
 obtain ⟨j,rfl,hp⟩:=zhj g1 ho;refine zdK io ?_;refine (ih S6.rm oo).mono ?_;rintro _ _ ⟨gs,_,_,gh,rfl,M7,o7,gi⟩;refine zal rfl<|zal rfl<|zaa zcf<|S6.body gs M7 o7 λ_ _ S8=>zau<|zaN (λho=>?_) (λho=>?_)
 . have ho:okS gh=false:=by simpa using ho
   obtain ⟨f,rfl,g2⟩:=zd0 gi (λx j hh=>⟨_,hh.2⟩) ho;exact zqf M O hm S8 (by rw [D,hp];simp only [Rd.go];rw [g2])
 have ho:okS gh=true:=by simpa using ho
 obtain ⟨j7,_,rfl,g2⟩:=zkL gi ho;rw [hp] at D;simp only [Rd.go] at D;rw [g2] at D;simp only at D;refine zag<|br (λgj=>?_) (λgj=>?_)
 . exact ztm M O hm oo S8 rfl (by rw [D,qah (.inl oo)];exact ⟨rfl,rfl⟩)
 refine (zds S8.rm.rd).mono ?_;rintro _ _ ⟨gt,_,rfl,-,-,-⟩;have S9:=S8.step gt;refine zdE<|ze7<|br (λV=>?_) (λV=>?_)
 . have V:¬atT L j7 zug:=V;exact ztm M O hm oo S9 rfl (by rw [D,qah (.inr V)];exact ⟨rfl,rfl⟩)
 have gl:atT L j7 zug:=qaf.1 V;rw [qad (λhh=>hh.elim (λh3=>gj (by rw [h3];rfl)) (λh3=>h3 gl))] at D;refine zfG S9.rm.rd (zg2 gl dD) λg3 g4 gx=>?_;have S10:=S9.one g4 gx λ_ _ hh=>by cases hh;rfl
 refine JOIN.mk (λus w'=>us=[]/\Ext g3 w'/\¬(atT L (j7+1) zop/\atT L (j7+2) ziQ)) ?_ ?_
 . refine (zds (S10.step (zai g3)).rm.rd).mono ?_;rintro _ gy ⟨C,_,rfl,-,-,-⟩;have C:=(zai g3).trans C;have S11:=S10.step C;have:=S11.rm.rd.many;obtain ⟨hB,_⟩:=S11.rm.rd.at;refine zdE<|zat<|br (λhb=>?_) (λhb=>⟨rfl,C,λhh=>hb hh.1⟩);have hb:atT L (j7+1) zop:=hb;have gz:=zg2 hb dD;refine NIL.mk rfl<|zaa zic<|zaj ty3 hB rfl<|zaw<|NIL.mk rfl<|zaa zld<|zaj zpG hB rfl<|zae u92 S11.rm.rd.is_<|zah<|br (λ_=>?_) (λ_=>⟨rfl,C,λhh=>by have:=zg2 hh.2 dD;omega⟩);have gn:j7+1+1<L.length:=oo;refine NIL.mk rfl<|zaa zld<|zaj zpG hB rfl<|NIL.mk rfl<|zaa zic<|zaj ty3 hB rfl<|zaw<|zac u92 zef S11.rm.rd.is_ gn λb _ hA=>zaa zfb<|zaq ty9 (zf2 hA) S11.rm.rd.ext λ_=>zat ?_;rw [zfS gn];refine br (λhe=>?_) (λhe=>⟨rfl,C,λhh=>he hh.2⟩);have he:atT L (j7+2) ziQ:=he;refine zfG S11.rm.rd gz λgA U gB=>?_;have S12:=S11.one U gB λ_ _ hh=>by cases hh;rfl
   refine zas (cells:=#[.int .i64 0,.string nO,.int .i64 0,.int .i64 0,.string nO,.slice none 0 0,.slice none 0 0,.slice none 0 0]) kK ?_;refine (zeX (c:=3) S12.rm.rd dD io).mono ?_;rintro _ gC ⟨g5,gD,rfl⟩;have S13:=S12.one g5 gD λ_ _ hh=>by cases hh
   refine zkM M O hm S13.up S13.rm (zw2 (lo:=w1.heap.size) (hi:=w1.heap.size) (lr _)) (lr _) S13.up.size rfl ?_;rw [D,qah ⟨hb,he⟩];rfl
 rintro _ gy ⟨-,C,gE⟩;have S11:=S10.step C;rw [qad gE] at D;refine zdK io ?_;refine (ih S11.rm oo).mono ?_;rintro _ gA ⟨U,_,_,_,rfl,gF,gG,g9⟩;refine zal rfl<|zal rfl<|zaa zca<|S11.els U gF gG λgC _ S13=>ztm M O hm oo S13 rfl ?_;rw [D];refine zdx g9 (λf hf=>hf) λc _ hj=>?_;obtain ⟨rfl,hj⟩:=hj;exact ⟨rfl,hj⟩
theorem znt {room:Nat} (ih:∀ m,m+1=room->zBb m):zBa room:=by
 intro W w g m L v e i q k d h _ g5 _ gi;have hm:=h.lt;have:=h.gm;have g9:i<L.length:=zBU oo;have g0:=zs7 (sgT L i);have:=g0.1;refine co (g:=kf [(16,36893488147419089408,[11])] [] []) Tryz.func297 ?_;refine zck (α:=DStmt) zjy λw1 M U=>?_;have:=M.size;have:=U.lt;refine zas (cells:=(stC (k:Int) nO).toArray) kK<|zck (α:=DStmt) zjy λw2 gb gc=>?_;have:=gb.size;have:=gc.lt;refine zb0 (lo:=w2.heap.size) (hi:=w2.heap.size) zda gc (zoK (lr _) io zdm) (.inl oo) λw3 gd gj=>?_;have:=gd.size;have g1:Ext w1 w3:=gb.chgI gd (lr _);have S3:SvI W g m L v e w1.heap.size w2.heap.size w1 (.ok (i,q)) (DStmt.mk (k:Int) nO term0 [] []) w3:=⟨g1.two,h.step (M.t g1),⟨_,gj,oo⟩,oo,oo,oo⟩
 have D:k=2\/k=3->CALL tp 311 [.pointer (some ⟨g,0,none⟩),.int .i64 (k:Int),.int .i64 d,.pointer (some ⟨m,0,none⟩)] w3 λr w'=>RD tp (Instr.extract r 0) w' λx=>RD tp (Instr.extract r 1) w' λy=>
     OPU tp (Instr.storeAt 117 (.pointer (some ⟨w.heap.size,0,none⟩)) x) w' λw5=>RD tp (zbr 117 (.pointer (some ⟨w.heap.size,0,none⟩))) w5 λr=>zhK W g m L v e w (zd6 L e (zuo L e room) k q i) (.tuple [r,y].toArray) w5:=by
   intro hk;obtain ⟨m',rfl⟩:∃ m',room=m'+1:=⟨room-1,by have:room≠0:=λh0=>gi ⟨hk,h0⟩;omega⟩;refine (ih m' rfl S3.rm oo g5 hk).mono ?_;rintro _ w4 ⟨O,u,s,_,rfl,M4,o4,gl⟩;refine zal rfl<|zal rfl<|zkM M U hm (S3.up.trans (O.mono oo)) M4 o4 oo (lr _) rfl gl
 refine JOIN.mk (λus w'=>∃ st x,us=[.bool (okS st)]/\SvI W g m L v e w1.heap.size w2.heap.size w1 st x w'/\RdB (zd6 L e (zuo L e room) k q i) (zbP L e zdV st) λy j=>y.1=x/\zbP L e zdV st=.ok (j,y.2)) ?_ ?_
 . refine zag ?_;refine br (λgn=>D (.inl oo)) (λgn=>?_);refine zag<|br (λgp=>D (.inr oo)) (λgp=>?_);have:¬(k=2\/k=3):=oo;refine zag<|br (λC=>?_) (λC=>?_)
   . have C:k=1:=oo;have hn:zaz (sgT L i)=true:=g0.2 (by rw [<-g5];exact C);refine (zfH S3.rm.rd).mono ?_;rintro _ w4 ⟨O,h4,rfl,g2⟩;rw [zfE hn] at h4 ⊢;have e1:zft L (.ok (i,q))=sgT L i:=zfi hn;rw [e1] at g2 ⊢;have S4:=S3.one O h4 λ_ _ hh=>by cases hh;rfl
     refine zal rfl<|zal rfl<|zaa zbo<|S4.name g2 λw5 _ S5=>?_;refine (zeY (t:=zDC) S5.rm.rd dD).mono ?_;rintro _ w6 ⟨gq,h6,rfl⟩;have S6:=S5.one gq h6 λ_ _ hh=>ztl hh
     have gf:zd6 L e (zuo L e room) k q i=(zeJ L e zDC (i+1)).go λ_ j=>(zej L e 6 j).go λt j=>(zeJ L e zdV j).go λ_ j=>.ok ((.mk 1 (sgT L i) t [] [],q),j):=by
       unfold zd6;rw [qah C]
     refine zau ?_;by_cases hb:atT L (i+1) zDC
     rotate_left
     . rw [zcN hb] at S6 ⊢;refine zaN (λ_=>?_) (λho=>by cases ho);exact zqf M U hm S6 (by rw [gf,zcW hb];rfl)
     rw [zbQ hb] at S6 ⊢;refine zaN (λho=>by cases ho) (λ_=>?_);refine (zoQ 6 oo (d:=0) S6.rm.rd oo).mono ?_;rintro _ _ ⟨gg,u,t,gr,rfl,h7,o7,gh⟩;have M7:=S6.rm.one gg h7 (zD2 gh);refine zal rfl<|zal rfl<|zaa zce<|S6.term gg.twoG M7 o7 λ_ _ S8=>⟨gr,_,rfl,S8,?_⟩;rw [gf,zci hb];simp only [Rd.go];refine zdx gh (λf hf=>by rw [hf];rfl) λ_ _ gs=>?_;obtain ⟨rfl,rfl⟩:=gs;refine zdx zdZ (λf hf=>hf) λ_ j3 V=>⟨by rw [C];rfl,V⟩
   refine zag<|br (λg3=>?_) (λg3=>?_)
   . have g3:k=8:=oo;refine zfG S3.rm.rd g9 λw4 O h4=>?_;have S4:=S3.one O h4 λ_ _ hh=>by cases hh;rfl
     refine ⟨.ok (i+1,q),_,rfl,S4,?_⟩;unfold zd6;rw [qad oo,qah g3];refine zdx zdZ (λf hf=>hf) λ_ j3 V=>⟨by rw [g3];rfl,V⟩
   refine zfG S3.rm.rd g9 λw4 O h4=>?_;have S4:=S3.one O h4 λ_ _ hh=>by cases hh;rfl
   refine (zfH S4.rm.rd).mono ?_;rintro _ w5 ⟨g4,h5,rfl,g2⟩;have S5:=S4.one g4 h5 λ_ _ hh=>zD1 hh;refine zal rfl<|zal rfl<|zaa zbo<|S5.name g2 λw6 _ S6=>⟨_,_,rfl,S6,?_⟩;unfold zd6;rw [qad oo,qad oo,qad oo];refine zdx zoL (λf hf=>by rw [hf];rfl) λs j hj=>?_;obtain ⟨rfl,hj⟩:=hj;rw [hj];refine zdx zdZ (λf hf=>hf) λ_ j3 V=>⟨rfl,V⟩
 rintro _ w4 ⟨st,x,hu,S4,hR⟩;try replace hu:=zbv hu
 rw [hu];refine zau<|zaN (λho=>?_) (λho=>?_)
 . have ho:okS st=false:=by simpa using ho
   cases st with
   | ok p=>cases ho
   | error f=>
     obtain ⟨f',hf,hp⟩:=zd0 (st:=.error f) hR (λx j hh=>⟨_,hh.2⟩) rfl;cases hf;exact zqf M U hm S4 hp
 have ho:okS st=true:=by simpa using ho
 cases st with
 | error f=>cases ho
 | ok p=>
   obtain ⟨j,_⟩:=p;refine (zeY (t:=zdV) S4.rm.rd dD).mono ?_;rintro _ w5 ⟨g4,h5,rfl⟩;have S5:=S4.one g4 h5 λ_ _ hh=>ztl hh;refine zau ?_;by_cases hb:atT L j zdV
   . rw [zbQ hb] at S5 hR ⊢;refine zaN (λho=>by cases ho) (λ_=>?_);exact ztm M U hm oo S5 rfl hR
   rw [zcN hb] at S5 hR ⊢;refine zaN (λ_=>?_) (λho=>by cases ho);obtain ⟨f',hf,hp⟩:=zd0 hR (λx j hh=>⟨_,hh.2⟩) rfl;cases hf;exact zqf M U hm S5 hp
theorem zw3:∀ room,room<=6->zrO room:=by
 intro room
 induction room with
 | zero=>intro h;exact @zlV 0 (@znt 0 λm hm=>oo)
 | succ r ih=>intro h;exact @zlV (r+1) (@znt (r+1) λm hm=>by
     have:m=r:=oo;subst this;exact @zus m oo (@zqe m (ih oo)))
def zCj:∀ room,room<=6->zCi room:=by
 intro room h;exact @zqe room (@zw3 room h)
def st0 (s:ByteArray):RSt:=if (zdk s).2.code=0 then .ok (0,60) else .error (zdk s).2
def zg6 (s:ByteArray):Except DFault DProg:=if (zdk s).2.code=0 then (match zij (zdk s).1 s.size with | .error f=>.error f | .ok (p,_)=>.ok p) else .error (zdk s).2
def zw4 (hs:s.size<=maxLen) :
   CALL tp 45 [.string s] w λr w'=>Ext w w'/\∃ g v W,r=.pointer (some ⟨g,0,none⟩)/\w.heap.size<=g/\g<w'.heap.size/\RdG W g (zdk s).1 v s.size (st0 s) w':=by
 rw [zak] at hs;obtain ⟨k1,k2,_,_,_,_,_⟩:=zrC s;have g5:(zdk s).2.code=0->(zdk s).2=⟨0,0⟩:=zpT;refine co (g:=kf [] [] []) Tryz.func45 ?_;refine specLex_ok.mono ?_;rintro _ w1 ⟨g1,_,rfl,oa⟩;refine zal rfl<|zal rfl ?_;have:=g1.size;refine za1 zA9 λ_ g2 g9=>?_;have:=g2.size;refine za3 (α:=DFault) (lo:=0) (hi:=0) zmR rfl g9 rfl (zh6 io io) λw3 g3 gb=>?_;have:=g3.size;have g0:Ext w1 w3:=g2.chgI g3 (lr _);refine zb8 u9<|zfg gb zmR ?_;obtain ⟨av,cap,rfl⟩:=zf7 oa.toI;refine zas (cells:=(rdC (.slice av (zdk s).1.length cap) s.size 0 (zdk s).2 60).toArray) kK<|zjN ?_;have g4:=zaU w3 (.cells (rdC (.slice av (zdk s).1.length cap) s.size 0 (zdk s).2 60).toArray 94);have hB:Blk w3.heap.size 94 (w3.alloc (.cells (rdC (.slice av (zdk s).1.length cap) s.size 0 (zdk s).2 60).toArray 94)) (rdC (.slice av (zdk s).1.length cap) s.size 0 (zdk s).2 60):=zwT;refine ⟨(g1.t g0).trans g4,w3.heap.size,_,w1,rfl,oo,hB.lt,oa.is,g0.t g4,oo,k2,k1,by unfold I64;omega,0,(zdk s).2,60,hB,oo,oo,by unfold I64;omega,by unfold I64;omega,?_⟩;unfold st0;split
 . rename_i h0;exact ⟨rfl,g5 h0,rfl,qbt _⟩
 rename_i h0;exact ⟨rfl,h0⟩
def zEy (st:RSt):RSt:=match st with | .ok (i,_)=>.ok (i,60) | .error f=>.error f
def zw5 {L:List DSign} {e:Int} {room j q:Nat} {l:List DStmt} {st2:RSt} (h:zDW L e room (zEy (zbP L e zop (.ok (j,q)))) l st2):RdB (zlq L e (zbV L e room) 60 j) (zbP L e ziQ st2) (λx j'=>x.1=l/\zbP L e ziQ st2=.ok (j',x.2)):=by
 refine zrK (q:=60) ?_
 have:zEy (zbP L e zop (.ok (j,q)))=zbP L e zop (.ok (j,60)):=by
   by_cases ht:atT L j zop
   . rw [zbQ ht,zbQ ht];rfl
   rw [zcN ht,zcN ht];rfl
 rw [<-this];exact h
def PI (L:List DSign) (e:Int) (i2:Nat) (ps:List DProc) (st':RSt):Prop:=
 match st' with
 | .error f=>zb4 L e 8 i2=.error f
 | .ok (j,_)=>ps.length<=8/\zb4 L e 8 i2=ztk ps (zb4 L e (8-ps.length) j)
def zpu (L:List DSign) (e:Int) (i:Nat):Rd DProc:=(zeJ L e zdW i).go λ_ j=>(zhe L e j).go λs j=>(zlq L e (zbV L e 6) 60 j).go λb j=>.ok (⟨s,b.1⟩,j)
theorem znu {L:List DSign} {e:Int} (d i:Nat):zb4 L e (d+1) i=if L.length<=i then .ok ([],i) else (zpu L e i).go λx j=>(zb4 L e d j).go λl j=>.ok (x :: l,j):=by
 rw [zb4];split
 . rfl
 unfold zpu;cases zeJ L e zdW i with
 | error f=>rfl
 | ok p1=>
   obtain ⟨_,j1⟩:=p1;simp only [Rd.go];cases zhe L e j1 with
   | error f=>rfl
   | ok p2=>
     obtain ⟨_,j2⟩:=p2;simp only [Rd.go];cases zlq L e (zbV L e 6) 60 j2 with
     | error f=>rfl
     | ok p3=>obtain ⟨_,_⟩:=p3;rfl
theorem zCk {L:List DSign} {e:Int} {ps:List DProc} {lb:List DStmt} {sa sf:RSt} (h:PI L e i2 ps (.ok (j,q))) (hj:j<L.length) (ha:(ps.length=8/\atT L j zdW/\sa=.error (ftA L e 5 j))\/(¬(ps.length=8/\atT L j zdW)/\sa=.ok (j,q)))
   (hf:zDW L e 6 (zEy (zbP L e zop (zgH L e (zbP L e zdW sa)))) lb sf):PI L e i2 (ps++[⟨zft L (zbP L e zdW sa),lb⟩]) (zbP L e ziQ sf):=by
 obtain ⟨_,h2⟩:=h
 have g0:∀ f,zbP L e zdW sa=.error f->zb4 L e (8-ps.length) j=.error f->PI L e i2 (ps++[⟨zft L (zbP L e zdW sa),lb⟩]) (zbP L e ziQ sf):=λf hs hp=>by
   rw [hs] at hf;have hf:sf=.error f:=hf;rw [hf];show zb4 L e 8 i2=.error f;rw [h2,hp];rfl
 rcases ha with ⟨h8,g1,rfl⟩ | ⟨g4,rfl⟩
 . refine g0 _ rfl ?_;rw [h8];show zb4 L e 0 j=_;rw [zb4,qad oo,qah g1]
 by_cases h8:ps.length=8
 . have g1:¬atT L j zdW:=λhh=>g4 ⟨h8,hh⟩;refine g0 _ (zcN g1) ?_;rw [h8];show zb4 L e 0 j=_;rw [zb4,qad oo,qad g1]
 obtain ⟨d,hd⟩:∃ d,8-ps.length=d+1:=⟨8-ps.length-1,oo⟩
 have C:RdB (zpu L e j) (zbP L e ziQ sf) (λx j'=>x=⟨zft L (zbP L e zdW (.ok (j,q))),lb⟩/\∃ q',zbP L e ziQ sf=.ok (j',q')):=by
   unfold zpu;refine zdx (zdZ (q:=q)) (λf hh=>?_) λ_ _ g5=>?_
   . rw [hh] at hf;have hf:sf=.error f:=hf;rw [hf];rfl
   rw [g5] at hf ⊢;refine zdx (zoL (q:=q)) (λf hh=>?_) λ_ _ g2=>?_
   . rw [hh] at hf;have hf:sf=.error f:=hf;rw [hf];rfl
   obtain ⟨hs,g2⟩:=g2;rw [g2] at hf;refine zdx (zw5 hf) (λf hh=>hh) λb _ hb=>⟨by rw [hs,hb.1],b.2,hb.2⟩
 have g3:=znu (L:=L) (e:=e) d j;rw [qad oo] at g3;rw [hd,g3] at h2;cases hp:zpu L e j with
 | error f=>
   rw [hp] at C h2;have C:zbP L e ziQ sf=.error f:=C;rw [C];show zb4 L e 8 i2=.error f;rw [h2];rfl
 | ok p=>
   obtain ⟨x,j'⟩:=p;rw [hp] at C h2;obtain ⟨rfl,q',g9⟩:=C;rw [g9];refine ⟨by rw [qab,qaC];omega,?_⟩;rw [qab,qaC,show 8-(ps.length+1)=d by omega,h2];simp only [Rd.go];exact zoO _
def zCl:zcq tp 62=some [.string nO,.slice none 0 0]:=by kernel_rfl
def zfj (s:ByteArray) (p:DProg) (f:DFault):Prop:=match zg6 s with | .error f'=>f=f'/\f.code≠0 | .ok p'=>f=⟨0,0⟩/\p=p'
def PW (L:List DSign) (e:Int) (st2:RSt) (ps:List DProc) (st':RSt):Prop:=match st2 with | .error f=>st'=.error f | .ok (i2,_)=>PI L e i2 ps st'
theorem zD3 {L:List DSign} {e:Int} (st2:RSt):PW L e st2 [] st2:=by
 cases st2 with
 | error f=>rfl
 | ok p=>obtain ⟨_,_⟩:=p;exact ⟨ss,(zkJ _).symm⟩
def zut {lg ll:List ByteArray} {ps:List DProc} {sa sb sc:RSt} (hg:zDZ (zdk s).1 s.size zwj (st0 s) lg sa) (hl:zDZ (zdk s).1 s.size zuh sa ll sb) (hp:PW (zdk s).1 s.size sb ps sc) (g4:∀ j q,sc=.ok (j,q)->(zdk s).1.length<=j) :
   (∀ f,sc=.error f->zg6 s=.error f)/\(∀ p,sc=.ok p->zg6 s=.ok ⟨lg,ll,ps⟩):=by
 unfold st0 at hg;unfold zg6;split at hg
 . rename_i h0;rw [qah h0];have g0:RdB (zd8 (zdk s).1 s.size zwj 0) sa (λx j=>x=lg/\sa=.ok (j,60)):=hg;clear hg;unfold zij;cases hpg:zd8 (zdk s).1 s.size zwj 0 with
   | error f=>
     rw [hpg] at g0;have g2:sa=.error f:=g0;rw [g2] at hl;have hl:sb=.error f:=hl;rw [hl] at hp;have hp:sc=.error f:=hp;rw [hp];exact ⟨λf' hf=>by cases hf;rfl,λp hh=>by cases hh⟩
   | ok p1=>
     obtain ⟨x,j1⟩:=p1;rw [hpg] at g0;obtain ⟨rfl,g2⟩:=g0;rw [g2] at hl;have g1:RdB (zd8 (zdk s).1 s.size zuh j1) sb (λx j=>x=ll/\sb=.ok (j,60)):=hl;clear hl;simp only [Rd.go];cases hpl:zd8 (zdk s).1 s.size zuh j1 with
     | error f=>
       rw [hpl] at g1;have g3:sb=.error f:=g1;rw [g3] at hp;have hp:sc=.error f:=hp;rw [hp];exact ⟨λf' hf=>by cases hf;rfl,λp hh=>by cases hh⟩
     | ok p2=>
       obtain ⟨_,j2⟩:=p2;rw [hpl] at g1;obtain ⟨rfl,g3⟩:=g1;rw [g3] at hp;have hp:PI (zdk s).1 s.size j2 ps sc:=hp;simp only;cases sc with
       | error f=>
         have hp:zb4 (zdk s).1 s.size 8 j2=.error f:=hp;rw [hp];exact ⟨λf' hf=>by cases hf;rfl,λp hh=>by cases hh⟩
       | ok p3=>
         obtain ⟨j,q⟩:=p3;have he:=g4 j q rfl;obtain ⟨_,hp⟩:=hp
         have h0:zb4 (zdk s).1 s.size (8-ps.length) j=.ok ([],j):=by
           cases 8-ps.length with
           | zero=>rw [zb4,qah he]
           | succ d=>rw [zb4,qah he]
         rw [hp,h0];exact ⟨(λf' hf=>by cases hf),λp hh=>by simp [ztk,Rd.go]⟩
 rename_i h0;rw [qad h0];have hg:sa=.error _:=hg;rw [hg] at hl;have hl:sb=.error _:=hl;rw [hl] at hp;have hp:sc=.error _:=hp;rw [hp];exact ⟨λf' hf=>by cases hf;rfl,λp hh=>by cases hh⟩
def zqg {α:Type} [Rep α] {P:pG} {w:wD} {X:Nat->Prop} {t by_ b o:Nat} {F:List Nat} {cs:List vL} {x:α} {K:vL->Prop} (ht:tyI P t=some (Rep.size α,by_,Rep.agg α)) (hr:rep F w cs x) (hc:w.rangeAt b o cs) (hb:¬X b) (hF:F=[]) (k:K (mkv α cs)):RDX P X (Instr.loadAt t (.pointer (some ⟨b,o,none⟩))) w K:=by
 refine ⟨mkv α cs,λ_ hx=>zeb ht (Rep.keep hr λ_ hm=>by rw [hF] at hm;cases hm) (zbx hc (hx.block b ?_ hb)),k⟩;exact zea hc (by rw [Rep.len hr];exact Rep.pos)
def zlW (hs:s.size<=maxLen) :
   CALL tp 18 [.string s] w0 λr w'=>Ext w0 w'/\∃ p f a,r=.tuple #[a,.agg #[.int .i64 f.code,.int .i64 f.at_]]/\OwnI w0.heap.size w'.heap.size w' a p/\(I64 f.code/\I64 f.at_)/\zfj s p f:=by
 refine co (g:=⟨extL,[(7,8787503087616,[]),(14,18446744073709518912,[])],[(4,18446744073709518912,[])],[(4,[0,1,2,3,4,5,6,7,8,9,10,11,12,13,14,15,16,17],0),(15,[0,1,2,3,4,5,6],32)],[],[15],[]⟩) Tryz.func18 ?_;refine za1 zAS λw1 hD hF=>?_;have hs1:=hD.size;have hb1:=hF.lt;refine za1 zA9 λ_ gX hG=>?_;have hs2:=gX.size;have hb2:=hG.lt;refine (zw4 hs).mono ?_;rintro _ w3 ⟨gQ,g,v,W,rfl,_,_,h3⟩;have hs3:=gQ.size;have hlo:=h3.lo;generalize hL:(zdk s).1=L at *;refine (znr h3 dD).mono ?_;rintro _ w4 ⟨hH,lg,_,h4,r4,hV⟩;have hs4:=hH.size;have o4:=r4.own;obtain ⟨a7,Z,rfl⟩:=zf7 o4;refine zas (cells:=#[.slice a7 lg.length Z,.slice none 0 0,.slice none 0 0]) kK<|za1 zAS λ_ gy hI=>?_;have hs5:=gy.size;have hb5:=hI.lt;refine za3 (x:=(⟨lg,[],[]⟩:DProg)) (lo:=w3.heap.size) (hi:=w4.heap.size) zfs rfl hI rfl (zgb (l0:=w3.heap.size) (h0:=w4.heap.size) (l1:=w4.heap.size) (h1:=w4.heap.size) (l2:=w4.heap.size) (h2:=w4.heap.size) (o4.ext gy) za8 za8 oo oo oo oo oo oo) λw6 gR hJ=>?_;have hs6:=gR.size;have o6:=(o4.ext gy).chg gR (.inl (lr _));have h6:=(h4.step gy).chg gR oo (by have:=h4.ext.size;omega);refine (znr h6 dD).mono ?_;rintro gS w7 ⟨gT,ll,sb,h7,r7,hW⟩;have hs7:=gT.size;have hX:=hJ.keep (gT.block _ hJ.lt (.inr oo));have hY:=o6.chg gT (.inr oo);refine zaa zhd<|zaW (α:=List ByteArray) zb9 rfl rfl hX ss r7.own λw8 gz gY=>?_;have hs8:=gz.size;have h8:=h7.chg gz oo (by have:=h4.ext.size;omega);have hZ:=hY.chg gz (.inl oo);have j0:=r7.own.chg gz (.inr oo);have gY:Blk w4.heap.size 29 w8 [.slice a7 lg.length Z,gS,.slice none 0 0]:=gY;have j1:w1.heap.size<g:=oo;have V:ChgI g (g+1) w3 w8:=ChgI.out ((ChgI.out (hH.trans gy.toI) gR oo).trans gT) gz oo;have j2:Blk w0.heap.size 29 w8 [.slice none 0 0,.slice none 0 0,.slice none 0 0]:=((hF.ext gX).ext gQ).keep (V.block _ oo (.inl oo));have j3:Blk w1.heap.size 49 w8 [.int .i64 0,.int .i64 0]:=(hG.ext gQ).keep (V.block _ oo (.inl oo));have gZ:Ext w0 w8:=(hD.t (gX.t gQ)).chgI V oo;have hW8:=h4.ext.size
 let INV:RSt->List DProc->wD->Prop:=λst ps w'=>RdG W g L v s.size st w'/\PW L s.size sb ps st/\Ext w0 w'/\w8.heap.size<=w'.heap.size/\Blk w0.heap.size 29 w' [.slice none 0 0,.slice none 0 0,.slice none 0 0]/\Blk w1.heap.size 49 w' [.int .i64 0,.int .i64 0] /\
   OwnI w3.heap.size w4.heap.size w' (.slice a7 lg.length Z) lg/\OwnI w6.heap.size w7.heap.size w' gS ll/\∃ vr hi,Blk w4.heap.size 29 w' [.slice a7 lg.length Z,gS,vr]/\RowI w8.heap.size hi 62 w' vr ps/\w8.heap.size<=hi/\hi<=w'.heap.size
 refine JOIN.mk (λus w'=>us=[]/\∃ st ps,INV st ps w'/\∀ j q,st=.ok (j,q)->L.length<=j) ?_ ?_
 . refine zar 10 (λk us w'=>us=[]/\∃ st ps,INV st ps w'/\ps.length=k/\k<=9/\∀ p,st=.ok p->k<=8) 0 (z0 _)
     ⟨rfl,sb,[],⟨h8,zD3 _,gZ,lr _,j2,j3,hZ,j0,_,w8.heap.size,gY,zbL _ _ _ _,lr _,qaE _⟩,rfl,oo,λ_ _=>oo⟩ ?_
   rintro k _ u w9 _ ⟨-,st,ps,⟨h9,gA,g0,h5,gr,gf,gU,gV,vr,hi,gs,gB,hK,j4⟩,j5,_,hM⟩;have gg:=zai w9;have ha:=gg.size;have hd:=h9.step gg
   have g1:∀ {gW:wD},Ext w9 gW->(∀ j q,st=.ok (j,q)->L.length<=j)->([]:List vL)=[]/\∃ st ps,INV st ps gW/\∀ j q,st=.ok (j,q)->L.length<=j:=λD hj=>
     ⟨rfl,st,ps,⟨h9.step D,gA,g0.t D,by have:=D.size;omega,gr.ext D,gf.ext D,gU.ext D,gV.ext D,vr,hi,gs.ext D,gB.ext D,hK,by have:=D.size;omega⟩,hj⟩
   obtain ⟨id,fd,qd,gt,gC,hf⟩:=zqc hd;refine NIL.mk rfl<|zaa zg1<|zaa ze9<|zaj ty3 gt rfl<|zag<|br (λh0=>?_) (λhn=>g1 gg λj q hj=>by rw [hf hn] at hj;cases hj);have gx:=gC h0;refine NIL.mk rfl<|zaa zfy<|zaj ty3 gt rfl<|NIL.mk rfl<|zaa zg0<|zaj zpG gt rfl<|zae u92 hd.is_<|zah<|br (λ_=>?_) (λ_=>g1 gg λj q hj=>by rw [gx] at hj;simp only [Except.ok.injEq,qaB] at hj;omega);subst gx;have hM:=hM _ rfl
   obtain ⟨i2,q2,rfl,j6⟩:∃ i2 q2,sb=.ok (i2,q2)/\PI L s.size i2 ps (.ok (id,qd)):=by
     cases sb with
     | error f=>cases gA
     | ok p=>obtain ⟨i2,q2⟩:=p;exact ⟨i2,q2,rfl,gA⟩
   have j7:=gB.ext gg;have hg:=gs.ext gg;generalize World.drew1 w9=wd at *;refine JOIN.mk (λus w'=>us=[]/\∃ sx,ChgI g (g+1) wd w'/\RdG W g L v s.size sx w'/\((ps.length=8/\atT L id zdW/\sx=.error (ftA L s.size 5 id))\/(¬(ps.length=8/\atT L id zdW)/\sx=.ok (id,qd)))) ?_ ?_
   . refine (zcu hd dD).mono ?_;rintro _ _ ⟨gb,rfl⟩;refine zaN (λhb=>?_) (λhb=>⟨rfl,_,gb.toI,hd.step gb,.inr ⟨λhh=>by have:=of_decide_eq_false hb;exact this hh.2,rfl⟩⟩);have j8:atT L id zdW:=of_decide_eq_true hb;refine zaa zde<|zaj zkD (hg.ext gb) rfl<|zae u27 (j7.ext gb).is<|zag<|br (λhe=>?_) (λhe=>⟨rfl,_,gb.toI,hd.step gb,.inr ⟨λhh=>he oo,rfl⟩⟩);refine (zdY (c:=5) (hd.step gb) dD io).mono ?_;rintro _ _ ⟨j9,ja⟩;exact ⟨rfl,_,gb.toI.trans j9,ja,.inl ⟨oo,j8,rfl⟩⟩
   rintro _ hN ⟨-,sx,C,jb,jc⟩;have gD:=C.size;refine (zbA jb dD).mono ?_;rintro _ _ ⟨gE,hO⟩;have jd:=gE.size;refine (zf9 hO).mono ?_;rintro _ je ⟨gF,jf,rfl⟩;have jg:=gF.size;have gG:=zf8 hO;refine zas (cells:=#[.string (zft L (zbP L s.size zdW sx)),.slice none 0 0]) kK<|za1 zCl λ_ gh gH=>?_;have jh:=gh.size;have ji:=gH.lt;refine za3 (x:=(⟨zft L (zbP L s.size zdW sx),[]⟩:DProc)) (lo:=0) (hi:=0) ziL rfl gH rfl (zga gG za8) λ_ gi gI=>?_;have jj:=gi.size;have jk:=(jf.step gh).chg gi oo oo;refine (zbA jk dD).mono ?_;rintro _ _ ⟨gj,gc⟩;have jl:=gj.size;have gJ:=gI.keep (gj.block _ gI.lt (.inr oo));obtain ⟨hP,hQ,jm,jn,jo,_,jp,jq,gK⟩:=gc.blk;refine NIL.mk rfl<|zaa zsN<|zaW (α:=Int) (lo:=0) (hi:=0) ty3 rfl rfl jn (by simp [rdC]) (ownI_int io) λhR g3 hk=>?_;have jr:=g3.size
   have js:RdG W g L v s.size (zEy (zbP L s.size zop (zgH L s.size (zbP L s.size zdW sx)))) hR:=by
     refine ⟨gc.is_,gc.ext.chgI g3 gc.lo,gc.lo,gc.many,gc.sg,gc.e0,hP,hQ,60,hk,jo,oo,jp,jq,?_⟩;have gK:stR L (zbP L s.size zop (zgH L s.size (zbP L s.size zdW sx))) hP hQ jm:=gK;generalize zbP L s.size zop (zgH L s.size (zbP L s.size zdW sx))=sy at gK;cases sy with
     | ok p=>obtain ⟨a,b⟩:=p;obtain ⟨z1,z2,_,z4⟩:=gK;exact ⟨z1,z2,rfl,z4⟩
     | error f=>exact gK
   have gL:=gJ.keep (g3.block _ gJ.lt (.inr oo));refine ((ztd 6 oo).2 js (λ_ _ _=>rfl)).mono ?_;rintro v18 jt ⟨gl,lb,sf,ju,hS,-,hl⟩;have jv:=gl.size;have hq:=gL.keep (gl.block _ gL.lt (.inr oo));refine zaa zlc<|zaW (α:=List DStmt) zed rfl rfl hq ss hS.own λjw g4 g5=>?_;have jx:=g4.size;have g5:Blk je.heap.size 62 jw [.string (zft L (zbP L s.size zdW sx)),v18]:=g5;have jy:=ju.chg g4 oo oo;have jz:=hS.own.chg g4 (.inr oo);refine (zbA jy dD).mono ?_;rintro _ jA ⟨g9,jB⟩;have jC:=g9.size;have ht:=g5.keep (g9.block _ g5.lt (.inr oo));have jD:=jz.chg g9 (.inr oo);have gd:ChgI g (g+1) w9 jA:=(ChgI.out (((ChgI.out ((((gg.toI.trans C).trans gE).trans gF).trans gh.toI) gi oo).trans gj).trans g3 |>.trans gl) g4 oo).trans g9;have hsA:=gd.size;have hu:=gs.keep (gd.block _ gs.lt (.inr oo));have jE:=gB.chg gd (.inr oo);refine zaa zde<|zaj zkD hu rfl<|zfg ht ziL<|zbs (lo2:=hR.heap.size) (hi2:=jt.heap.size) (x:=(⟨zft L (zbP L s.size zdW sx),lb⟩:DProc)) u27 ziL z62 zE1 dD jE oo (zga gG jD) oo oo (by rw [zak];omega) oo λjF jG O gM=>?_;have jH:=O.size;refine zaa zde ?_;have hv:=hu.keep (O.block _ hu.lt (.inl oo));refine zaW (α:=List DProc) zkD rfl rfl hv ss gM.own λ_ U hw=>?_;have jI:=U.size;have jJ:=(jB.chg O oo oo).chg U oo oo;have hx:=zCk (lb:=lb) (sf:=sf) j6 oo jc hl;refine ⟨10-(k+1),oo,k+1,oo,rfl,zbP L s.size ziQ sf,ps++[(⟨zft L (zbP L s.size zdW sx),lb⟩:DProc)],⟨jJ,hx,?_,oo,?_,?_,?_,?_,jF,jG.heap.size,hw,gM.chg U (.inr oo),oo,oo⟩,by simp [j5],oo,λp hp=>?_⟩
   . exact ((g0.chgI gd oo).chgI O oo).chgI U oo
   . exact ((gr.keep (gd.block _ gr.lt (.inl oo))).keep (O.block _ oo (.inl oo))).keep (U.block _ oo (.inl oo))
   . exact ((gf.keep (gd.block _ gf.lt (.inl oo))).keep (O.block _ oo (.inl oo))).keep (U.block _ oo (.inl oo))
   . exact ((gU.chg gd (.inr oo)).chg O (.inl oo)).chg U (.inl oo)
   . exact ((gV.chg gd (.inr oo)).chg O (.inl oo)).chg U (.inr oo)
   obtain ⟨a,b⟩:=p;have hp:zbP L s.size ziQ sf=.ok (a,b):=hp;rw [hp] at hx;have:=hx.1;rw [qab,qaC] at this;omega
 rintro _ w9 ⟨-,st,ps,⟨h9,gA,g0,h5,gr,gf,gU,gV,vr,hi,gs,gB,hK,j4⟩,hy⟩;have hT:=zut (s:=s) (by rw [hL];exact hV) (by rw [hL];exact hW) (by rw [hL];exact gA) (by rw [hL];exact hy);obtain ⟨id,fd,qd,gt,_,_,hz,hA,ha⟩:=h9.blk;refine NIL.mk rfl<|zaa zg1<|zaa ze9<|zaj ty3 gt rfl<|zaJ<|br (λhn=>?_) (λh0=>?_)
 . have gx:=zhi ha hn;have hB:=hT.1 _ gx;have gN:=zai w9;have jK:=gr.ext gN;have hU:=gf.ext gN;have jL:=gt.ext gN;have hse:=gN.size;have gO:=g0.t gN;generalize World.drew1 w9=we at *;refine XR.mk (λc=>c=w0.heap.size)<|zlL (w0:=w0) (λb hb=>by rw [hb];exact qaE _) gO (zas (cells:=#[.slice none 0 0,.slice none 0 0,.slice none 0 0]) kK ?_);refine NIL.mk rfl<|zdy zg1<|zqg (α:=DFault) (F:=[]) (cs:=[.int .i64 fd.code,.int .i64 fd.at_]) zmR ⟨[],[],[.int .i64 fd.code],[.int .i64 fd.at_],rfl,rfl,⟨rfl,rfl,hz⟩,rfl,rfl,hA⟩ (λj u hj=>?_) oo dD ?_
   . have hr:=jL.range
     match j,hj with
     | 0,hj=>simp only [List.getElem?_cons_zero,qaq] at hj;subst hj;exact hr 3 _ rfl
     | 1,hj=>simp only [List.getElem?_cons_succ,List.getElem?_cons_zero,qaq] at hj;subst hj;exact hr 4 _ rfl
     | j+2,hj=>simp at hj
   have gP:OwnI we.heap.size we.heap.size we (.agg #[.slice none 0 0,.slice none 0 0,.slice none 0 0]) (⟨[],[],[]⟩:DProg):=
     zgb (l0:=we.heap.size) (h0:=we.heap.size) (l1:=we.heap.size) (h1:=we.heap.size) (l2:=we.heap.size) (h2:=we.heap.size) za8 za8 za8 oo oo oo oo oo oo
   refine za3 zfs rfl jK rfl gP λgW M g2=>?_;have hC:=M.size;refine ⟨M.toC.toX λc hc=>by simpa using hc,?_⟩;have gn:=hU.keep (M.block _ hU.lt (.inr oo));refine za3 (α:=DFault) (lo:=0) (hi:=0) zmR rfl gn rfl (zh6 hz hA) λhN C gp=>?_;have gD:=C.size;have gq:=g2.keep (C.block _ g2.lt (.inl oo));refine zcL gq zfs<|zcL gp zmR<|⟨(gO.chgI M (lr _)).chgI C oo,⟨[],[],[]⟩,fd,_,rfl,((gP.chg M (.inr oo)).chg C (.inr oo)).mono oo oo,⟨hz,hA⟩,?_⟩;unfold zfj;rw [hB];exact ⟨rfl,hn⟩
 have h0:=qaf.1 h0;have gx:=(zfC ha h0).1;have hB:=hT.2 _ gx;refine zfg gs zfs<|zas (cells:=#[.int .i64 0,.int .i64 0]) kK ?_
 have gP:OwnI w3.heap.size w9.heap.size w9 (.agg #[.slice a7 lg.length Z,gS,vr]) (⟨lg,ll,ps⟩:DProg):=
   zgb (l0:=w3.heap.size) (h0:=w4.heap.size) (l1:=w6.heap.size) (h1:=w7.heap.size) (l2:=w8.heap.size) (h2:=hi) gU gV gB.own oo oo oo oo oo oo
 refine za3 zfs rfl gr rfl gP λgW M g2=>?_;have hC:=M.size;have gn:=gf.keep (M.block _ gf.lt (.inr oo));refine za3 (α:=DFault) (lo:=0) (hi:=0) zmR rfl gn rfl (zh6 zcS zcS) λhN C gp=>?_;have gD:=C.size;have gq:=g2.keep (C.block _ g2.lt (.inl oo));refine zcL gq zfs<|zcL gp zmR<|⟨(g0.chgI M (lr _)).chgI C oo,_,⟨0,0⟩,_,rfl,((gP.chg M (.inr oo)).chg C (.inr oo)).mono oo oo,⟨zcS,zcS⟩,?_⟩;unfold zfj;rw [hB];exact ⟨rfl,rfl⟩
end Go.Proofs.YtkgiigmcbgifdaaGreatDoor
