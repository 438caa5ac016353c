/-
  Parts of the proof, put together by program.
-/
import Derived.Test.YtkgiigmcbgifdaaGreatDoorPFnExactWatch4
set_option maxRecDepth 20000
set_option linter.defProp false
set_option linter.unusedVariables false
set_option linter.unusedSimpArgs false
set_option linter.unusedSectionVars false
open Go renaming Value→vL,World→wD,Program→pG
namespace Go.Proofs.YtkgiigmcbgifdaaGreatDoor
open Go Go.Sh Go.Proofs
open Rep (rep)
variable {F:List Nat} {W W0 w w0:wD} {g i n q:Nat} {s:ByteArray} {v v0 vk vo:vL}
def znv (W:wD) (g:Nat) (L:List DSign) (v:vL) (e:Int) (w:wD) (q:Nat) (z:Rd (List ByteArray)) (r:vL) (w':wD):Prop:=
 ChgI g (g+1) w w'/\∃ u l st',r=.tuple #[u,.bool (okS st')]/\RiG W g L v e st' w'/\OwnI w.heap.size w'.heap.size w' u l/\RdB z st' λx j=>x=l/\st'=.ok (j,q)
def zqh {L:List DSign} {e:Int} {word:ByteArray} (h:RiG W g L v e (.ok (i,q)) w) (hw:word≠ByteArray.mk #[]) :
   CALL tp 122 [.pointer (some ⟨g,0,none⟩),.string word,.int .i64 6] w (znv W g L v e w q (zd8 L e word i)):=by
 have hg:=h.lt;have:=h.lo;have:=h.ext.size;refine co (g:=kf [(9,274810798272,[])] [(7,9223372036787668928,[8])] []) Tryz.func122 ?_
 have D:∀ {w':wD} {f:DFault} {x:vL},ChgI g (g+1) w w'->RiG W g L v e (.error f) w'->zd8 L e word i=.error f->x=.bool false->znv W g L v e w q (zd8 L e word i) (.tuple #[.slice none 0 0,x]) w':=λh1 h2 h3 h4=>
   ⟨h1,_,[],_,by rw [h4];rfl,h2,za8,by rw [h3];rfl⟩
 refine (zeY h hw).mono ?_;rintro _ w1 ⟨g4,h1,rfl⟩;have:=g4.size;refine zau ?_;by_cases hb:atT L i word
 rotate_left
 . rw [zcN hb] at h1 ⊢;refine zaN (λ_=>?_) (λho=>by cases ho);exact D g4 h1 (by unfold zd8;rw [zcW hb];rfl) rfl
 rw [zbQ hb] at h1 ⊢;refine zaN (λho=>by cases ho) (λ_=>?_);have U:zd8 L e word i=if atT L (i+1) zdV then .ok ([],i+1+1) else zlr L e 6 (i+1):=by unfold zd8;rw [zci hb];rfl
 refine (zds h1).mono ?_;rintro _ _ ⟨g5,_,rfl,-,-,-⟩;have V:=g5.size;have h2:=h1.step g5;have gc:=g4.trans g5.toI;refine zdE<|zat<|br (λhs=>?_) (λhs=>?_)
 . have hs:atT L (i+1) zdV:=hs;refine zfG h2 (zg2 hs dD) λw3 g2 h3=>⟨gc.trans g2,_,[],_,rfl,h3,za8,by rw [U,qah hs];exact ⟨rfl,rfl⟩⟩
 have hs:¬atT L (i+1) zdV:=hs;rw [qad hs] at U
 refine zar 7 (λn us w'=>∃ out l j,us=[out]/\ChgI g (g+1) w w'/\w1.heap.size<=w'.heap.size/\RiG W g L v e (.ok (j,q)) w'/\RowI w.heap.size w'.heap.size 9 w' out l/\l.length=n/\l.length<=6/\zlr L e 6 (i+1)=ztk l (zlr L e (6-l.length) j)) 0 oo
     ⟨_,[],i+1,rfl,gc,oo,h2,zbL _ _ _ _,rfl,dD,(zkJ _).symm⟩ ?_
 rintro n _ _ w3 _ ⟨out,l,j,hu,g2,_,h3,gd,gh,_,hI⟩;try replace hu:=zbv hu
 rw [hu];have:g<w.heap.size:=hg;refine JOIN.mk (λus w'=>us=[]/\Ext w3 w'/\¬(zaz (sgT L j)=true/\l.length=6)) ?_ ?_
 . refine (zds h3).mono ?_;rintro _ _ ⟨gi,_,rfl,-,-,-⟩;refine zdE<|implIsName_ok.mono ?_;rintro _ w5 ⟨gj,rfl⟩;have C:=gi.t gj;refine zaN (λhn=>?_) (λhn=>⟨rfl,C,λhh=>by rw [hh.1] at hn;cases hn⟩);refine zae u26 (gd.ext C).is<|zag<|br (λh6=>?_) (λh6=>⟨rfl,C,λhh=>h6 (by rw [hh.2];rfl)⟩);refine (zeX (c:=5) (h3.step C) dD io).mono ?_;rintro _ w6 ⟨Z,gl,rfl⟩;refine D ((g2.trans C.toI).trans Z) gl ?_ rfl;rw [U,hI,show 6-l.length=0 by omega,zlr,qah hn];rfl
 rintro _ w5 ⟨-,C,gn⟩;have:=C.size;have h5:=h3.step C;have gp:=g2.trans C.toI;have gq:=gd.ext C;refine (zfH h5).mono ?_;rintro _ w6 ⟨Z,h6,rfl,gf⟩;have:=Z.size;have g0:=gp.trans Z;have gr:=gq.chg Z (.inr oo);refine zal rfl<|zal rfl<|zau ?_;by_cases hn:zaz (sgT L j)=true
 rotate_left
 . rw [zjM hn] at h6 ⊢;refine zaN (λ_=>?_) (λho=>by cases ho);refine D g0 h6 ?_ rfl;rw [U,hI];cases hd:6-l.length with
   | zero=>rw [zlr,qad hn];rfl
   | succ d=>rw [zlr];unfold zhe;rw [qad hn];rfl
 rw [zfE hn] at h6 ⊢;have e1:zft L (.ok (j,q))=sgT L j:=zfi hn;rw [e1] at gf ⊢;refine zaN (λho=>by cases ho) (λ_=>?_)
 have:l.length<6:=by
   have:l.length≠6:=λh6=>gn ⟨hn,h6⟩;omega
 obtain ⟨dd,gs⟩:∃ d,6-l.length=d+1:=⟨6-l.length-1,oo⟩
 have O:zlr L e 6 (i+1)=ztk (l++[sgT L j]) (zza L e dd (j+1)):=by
   rw [hI,gs,zoP];unfold zhe;rw [qah hn];simp only [Rd.go];exact zoO _
 refine zbs (lo2:=w6.heap.size) (hi2:=w6.heap.size) u26 ty9 z9 zc9 dD gr oo (zgC gf) oo oo (by rw [zak];omega) oo λv7 w7 g9 gt=>?_;have:=g9.size;have h7:=h6.chg g9 oo oo;have gb:ChgI g (g+1) w w7:=ChgI.out g0 g9 (lr _);refine (zds h7).mono ?_;rintro _ _ ⟨g3,_,rfl,-,-,-⟩;have:=g3.size;have h8:=h7.step g3;have g1:=gb.trans g3.toI;have gg:=gt.ext g3;refine zdE<|ze7<|br (λhc=>?_) (λhc=>?_)
 . have hc:¬atT L (j+1) zni:=hc;unfold zza at O;rw [qad hc] at O;refine (zeY (t:=zdV) h8 dD).mono ?_;rintro _ w9 ⟨M,h9,rfl⟩;have gx:=M.size;refine ⟨g1.trans M,v7,l++[sgT L j],_,rfl,h9,((gg.chg M (.inr oo)).mono (lr _) oo).own,?_⟩;rw [U,O];by_cases V:atT L (j+1) zdV
   . rw [zci V,zbQ V];simp only [Rd.go,ztk,qaJ];exact ⟨rfl,rfl⟩
   rw [zcW V,zcN V];rfl
 have hc:atT L (j+1) zni:=qaf.1 hc;unfold zza at O;rw [qah hc] at O;refine zfG h8 (zg2 hc dD) λw9 M h9=>?_;have gx:=M.size;refine ⟨7-(n+1),oo,n+1,oo,v7,l++[sgT L j],j+1+1,rfl,g1.trans M,oo,h9,(gg.chg M (.inr oo)).mono (lr _) oo,by simp [gh],by rw [qab,qaC];omega,?_⟩;rw [O,qab,qaC,show 6-(l.length+1)=dd by omega]
def zlX (W:wD) (g:Nat) (L:List DSign) (v:vL) (e:Int) (w:wD) (q:Nat) (z:Rd DProc) (r:vL) (w':wD):Prop:=
 ChgI g (g+1) w w'/\∃ u p st',r=.tuple #[u,.bool (okS st')]/\RiG W g L v e st' w'/\OwnI w.heap.size w'.heap.size w' u p/\RdB z st' λx j=>x=p/\st'=.ok (j,q)
theorem zzd {L:List DSign} {e:Int} (h:RiG W g L v e (.ok (i,q)) w) :
   CALL tp 126 [.pointer (some ⟨g,0,none⟩)] w (zlX W g L v e w q (zpu L e i)):=by
 have:=h.lt;have:=h.lo;have:=h.ext.size;refine co (g:=kf [] [] []) Tryz.func126 ?_;refine za1 zCl λw1 g1 g2=>?_;have:=g1.size;have gc:=g2.lt
 have g0:∀ {w5:wD} {st':RSt} {n:ByteArray} {u:vL} {p:List DStmt} {lo hi:Nat} {b:Bool},UpG g w1.heap.size w1 w5->RiG W g L v e st' w5->n.size<=maxLen->OwnI lo hi w5 u p->w1.heap.size<=lo->hi<=w5.heap.size->okS st'=b->(RdB (zpu L e i) st' λx j=>x=⟨n,p⟩/\st'=.ok (j,q)) ->
     RD tp (Instr.build 62 #[(0,.string n),(1,u)]) w5 λu=>OPU tp (Instr.storeAt 62 (.pointer (some ⟨w.heap.size,0,none⟩)) u) w5 λw5=>RD tp (zbr 62 (.pointer (some ⟨w.heap.size,0,none⟩))) w5 λr=>zlX W g L v e w q (zpu L e i) (.tuple [r,.bool b].toArray) w5:=by
   intro w5 st' n u p lo hi b hu hr hn ho _ _ hb hR;have gd:=hu.size;obtain ⟨a,c,rfl⟩:=zf7 ho;refine zas (cells:=#[.string n,.slice a p.length c]) kK<|za3 (x:=(⟨n,p⟩:DProc)) (lo:=lo) (hi:=hi) ziL rfl (g2.upG hu gc oo) rfl (zga hn ho) λw6 C g3=>?_;have gf:=C.size;refine zcL g3 ziL<|⟨ChgI.out (UpG.toI (g1.upG.trans hu) oo) C oo,_,⟨n,p⟩,st',by rw [hb],hr.chg C oo oo,((zga hn ho).chg C (.inr oo)).mono oo oo,hR⟩
 have hz:∀ {w5:wD} {f:DFault},UpG g w1.heap.size w1 w5->RiG W g L v e (.error f) w5->zpu L e i=.error f ->
     RD tp (Instr.build 62 #[]) w5 λu=>OPU tp (Instr.storeAt 62 (.pointer (some ⟨w.heap.size,0,none⟩)) u) w5 λw5=>RD tp (zbr 62 (.pointer (some ⟨w.heap.size,0,none⟩))) w5 λr=>zlX W g L v e w q (zpu L e i) (.tuple [r,.bool false].toArray) w5:=by
   intro w5 f hu hr hp;have gd:=hu.size;refine zas (cells:=#[.string nO,.slice none 0 0]) kK<|za3 (x:=(⟨nO,[]⟩:DProc)) (lo:=0) (hi:=0) ziL rfl (g2.upG hu gc oo) rfl (zga zdm za8) λw6 C g3=>?_;have gf:=C.size;refine zcL g3 ziL<|⟨ChgI.out (UpG.toI (g1.upG.trans hu) oo) C oo,_,⟨nO,[]⟩,_,rfl,hr.chg C oo oo,zga zdm za8,by rw [hp];rfl⟩
 have gg:∀ {z:Rd ByteArray},z=zhe L e (i+1)->atT L i zdW->zpu L e i=z.go λs j=>(zlq L e (zbV L e 6) 60 j).go λb j=>.ok (⟨s,b.1⟩,j):=λhz hb=>by unfold zpu;rw [zci hb,hz];rfl
 refine (zeY (t:=zdW) (h.step g1) dD).mono ?_;rintro _ w2 ⟨gh,h2,rfl⟩;have:=gh.size;have u2:UpG g w1.heap.size w1 w2:=gh.upG1;refine zau ?_;by_cases hb:atT L i zdW
 rotate_left
 . rw [zcN hb] at h2 ⊢;refine zaN (λ_=>?_) (λho=>by cases ho);exact hz u2 h2 (by unfold zpu;rw [zcW hb];rfl)
 rw [zbQ hb] at h2 ⊢;refine zaN (λho=>by cases ho) (λ_=>?_);refine (zfH h2).mono ?_;rintro _ w3 ⟨gi,h3,rfl,g4⟩;have:=gi.size;have u3:=u2.trans (gi.upG1 (lo:=w1.heap.size));refine zal rfl<|zal rfl<|zau ?_;by_cases hn:zaz (sgT L (i+1))=true
 rotate_left
 . rw [zjM hn] at h3 ⊢;refine zaN (λ_=>?_) (λho=>by cases ho);exact hz u3 h3 (by rw [gg rfl hb];unfold zhe;rw [qad hn];rfl)
 rw [zfE hn] at h3 ⊢;have e1:zft L (.ok (i+1,q))=sgT L (i+1):=zfi hn;rw [e1] at g4 ⊢;refine zaN (λho=>by cases ho) (λ_=>?_);have gj:zpu L e i=(zlq L e (zbV L e 6) 60 (i+1+1)).go λb j=>.ok (⟨sgT L (i+1),b.1⟩,j):=by rw [gg rfl hb];unfold zhe;rw [qah hn];rfl
 refine za1 (zs:=[.int .i64 0]) kK λ_ g5 gl=>?_;have:=g5.size;have:=gl.lt;refine zaW (α:=Int) (lo:=0) (hi:=0) ty3 rfl rfl gl ss (ownI_int zcS) λw5 g9 gb=>?_;have gd:=g9.size;have gb:Blk w3.heap.size 3 w5 [.int .i64 (60-((60:Nat):Int))]:=gb;have h5:=(h3.step g5).chg g9 oo oo;have u5:UpG g w1.heap.size w1 w5:=(u3.trans g5.upG).trans (g9.upG oo);have gp:RiM W g w3.heap.size L v e (.ok (i+1+1,60)) w5:=⟨h5.of h5.ext h5.at.1 h5.at.2,⟨60,gb,oo,λ_ _ hh=>by cases hh;rfl⟩,oo⟩;refine (zCj 6 oo (d:=0) gp oo).mono ?_;rintro _ w6 ⟨C,u,_,gq,rfl,D,o6,gn⟩;have gf:=C.size;have u6:UpG g w1.heap.size w1 w6:=u5.trans ⟨C.os,C.tape,C.output,C.size,λb h1 h2 h3=>C.block b h1 h1 h3 oo⟩;refine zal rfl<|zal rfl ?_;cases ho:okS gq with
 | false=>
   obtain ⟨f,rfl,hp⟩:=zd0 gn (λx j hh=>⟨_,hh.2⟩) ho;refine g0 u6 D.rd g4 o6 oo (lr _) rfl ?_;rw [gj,hp];rfl
 | true=>
   obtain ⟨j,_,rfl,hp⟩:=zkL gn ho;refine g0 (st':=.ok (j,q)) u6 (D.rd.of D.rd.ext D.rd.at.1 D.rd.at.2) g4 o6 oo (lr _) rfl ?_;rw [gj,hp];exact ⟨rfl,rfl⟩
def zlY (W:wD) (g:Nat) (L:List DSign) (v:vL) (e:Int) (w:wD) (q:Nat) (z:Rd DProg) (r:vL) (w':wD):Prop:=
 ChgI g (g+1) w w'/\∃ u p st',r=.tuple #[u,.bool (okS st')]/\RiG W g L v e st' w'/\OwnI w.heap.size w'.heap.size w' u p/\RdB z st' λx j=>x=p/\st'=.ok (j,q)
def zze {L:List DSign} {e:Int} (h:RiG W g L v e (.ok (0,q)) w) :
   CALL tp 58 [.pointer (some ⟨g,0,none⟩)] w (zlY W g L v e w q (zij L e)):=by
 have:=h.lt;have:=h.lo;have:=h.ext.size;refine co (g:=kf [(12,4397509640200,[])] [(9,72057593970819272,[])] []) Tryz.func58 ?_;refine za1 zAS λw1 gl gG=>?_;have:=gl.size;have gR:=gG.lt
 have g0:∀ {w5:wD} {st':RSt} {us:Array vL} {p:DProg} {lo hi:Nat} {b:Bool},UpG g w1.heap.size w1 w5->RiG W g L v e st' w5->OwnI lo hi w5 (.agg us) p->w1.heap.size<=lo->hi<=w5.heap.size->okS st'=b->us.toList.length=3->(RdB (zij L e) st' λx j=>x=p/\st'=.ok (j,q)) ->
     OPU tp (Instr.storeAt 29 (.pointer (some ⟨w.heap.size,0,none⟩)) (.agg us)) w5 λw5=>RD tp (zbr 29 (.pointer (some ⟨w.heap.size,0,none⟩))) w5 λr=>zlY W g L v e w q (zij L e) (.tuple [r,.bool b].toArray) w5:=by
   intro w5 st' us p lo hi b hu hr ho _ _ hb hl hR;have gS:=hu.size;refine za3 (α:=DProg) zfs rfl (gG.upG hu gR oo) rfl ho λw6 Z g4=>?_;have gT:=Z.size;refine zcL g4 (by rw [hl];exact zfs)<|⟨ChgI.out (UpG.toI (gl.upG.trans hu) oo) Z oo,_,p,st',by rw [hb],hr.chg Z oo oo,(ho.chg Z (.inr oo)).mono oo oo,hR⟩
 have g5:∀ {w5:wD} {lo:Nat},OwnI lo lo w5 (.agg #[.slice none 0 0,.slice none 0 0,.slice none 0 0]) (⟨[],[],[]⟩:DProg):=λ{w5 lo}=>
   zgb (l0:=lo) (h0:=lo) (l1:=lo) (h1:=lo) (l2:=lo) (h2:=lo) za8 za8 za8 oo oo oo oo oo oo
 have hz:∀ {w5:wD} {f:DFault},UpG g w1.heap.size w1 w5->RiG W g L v e (.error f) w5->zij L e=.error f ->
     RD tp (Instr.build 29 #[]) w5 λu=>OPU tp (Instr.storeAt 29 (.pointer (some ⟨w.heap.size,0,none⟩)) u) w5 λw5=>RD tp (zbr 29 (.pointer (some ⟨w.heap.size,0,none⟩))) w5 λr=>zlY W g L v e w q (zij L e) (.tuple [r,.bool false].toArray) w5:=by
   intro w5 f hu hr hp;refine zas (cells:=#[.slice none 0 0,.slice none 0 0,.slice none 0 0]) kK<|g0 hu hr (g5 (lo:=w1.heap.size)) (lr _) hu.size rfl rfl (by rw [hp];rfl)
 refine za1 zAS λw2 gn gp=>?_;have:=gn.size;have:=gp.lt;have u2:UpG g w1.heap.size w1 w2:=gn.upG;refine (zqh (word:=zwj) ((h.step gl).step gn) dD).mono ?_;rintro _ w3 ⟨gq,v3,lg,gH,rfl,h3,o3,gI⟩;have:=gq.size;refine zal rfl<|zal rfl<|zaa zgX<|zaW (α:=List ByteArray) zb9 rfl rfl (gp.keep (gq.block _ gp.lt (.inr oo))) ss o3 λw4 gg gh=>?_;have:=gg.size;have gh:Blk w1.heap.size 29 w4 [v3,.slice none 0 0,.slice none 0 0]:=gh;have h4:=h3.chg gg oo oo;have o4:=o3.chg gg (.inr oo);have u4:UpG g w1.heap.size w1 w4:=(u2.trans gq.upG1).trans (gg.upG (lr _));refine zau<|zaN (λho=>?_) (λho=>?_)
 . have ho:okS gH=false:=by simpa using ho
   obtain ⟨f,rfl,hp⟩:=zd0 gI (λx j hh=>⟨_,hh.2⟩) ho;exact hz u4 h4 (by unfold zij;rw [hp];rfl)
 have ho:okS gH=true:=by simpa using ho
 obtain ⟨j3,rfl,gU⟩:=zhj gI ho;have g3:zij L e=(zd8 L e zuh j3).go λl j=>(zb4 L e 8 j).go λp j=>.ok (⟨lg,l,p⟩,j):=by unfold zij;rw [gU];rfl
 refine (zqh (word:=zuh) h4 dD).mono ?_;rintro _ w5 ⟨gi,v5,ll,gJ,rfl,h5,o5,gK⟩;have gS:=gi.size;refine zal rfl<|zal rfl<|zaa zhd<|zaW (α:=List ByteArray) zb9 rfl rfl (gh.keep (gi.block _ gh.lt (.inr oo))) ss o5 λw6 Z g4=>?_;have gT:=Z.size;have g4:Blk w1.heap.size 29 w6 [v3,v5,.slice none 0 0]:=g4;have h6:=h5.chg Z oo oo;have o6:=o5.chg Z (.inr oo);have gV:=(o4.chg gi (.inr oo)).chg Z (.inr oo);have u6:UpG g w1.heap.size w1 w6:=(u4.trans gi.upG1).trans (Z.upG (lr _));refine zau<|zaN (λho=>?_) (λho=>?_)
 . have ho:okS gJ=false:=by simpa using ho
   obtain ⟨f,rfl,hp⟩:=zd0 gK (λx j hh=>⟨_,hh.2⟩) ho;exact hz u6 h6 (by rw [g3,hp];rfl)
 have ho:okS gJ=true:=by simpa using ho
 obtain ⟨j5,rfl,gW⟩:=zhj gK ho;rw [gW] at g3;simp only [Rd.go] at g3
 refine zar 9 (λn us w'=>us=[]/\∃ ps j vr hi,UpG g w1.heap.size w1 w'/\w6.heap.size<=w'.heap.size/\RiG W g L v e (.ok (j,q)) w'/\Blk w1.heap.size 29 w' [v3,v5,vr]/\OwnI w2.heap.size w3.heap.size w' v3 lg/\OwnI w4.heap.size w5.heap.size w' v5 ll/\RowI w6.heap.size hi 62 w' vr ps/\w6.heap.size<=hi/\hi<=w'.heap.size/\ps.length=n/\ps.length<=8/\zb4 L e 8 j5=ztk ps (zb4 L e (8-ps.length) j)) 0 oo
     ⟨rfl,[],j5,_,w6.heap.size,u6,lr _,h6,g4,gV,o6,zbL _ _ _ _,lr _,qaE _,rfl,dD,(zkJ _).symm⟩ ?_
 rintro n _ u _ _ ⟨-,ps,j,vr,hi,u7,_,h7,gX,gY,gZ,ha,_,_,hc,_,hI⟩;refine (zkK h7.is_ h7.at.1).mono ?_;rintro _ w8 ⟨g1,rfl⟩;have:=g1.size;have h8:=h7.step g1;have u8:=u7.trans (g1.upG (g:=g) (lo:=w1.heap.size));have gj:=gX.ext g1;have gL:=gY.ext g1;have gM:=gZ.ext g1;have gr:=ha.ext g1;refine zau<|zaN (λhb=>?_) (λhb=>?_)
 rotate_left
 . have he:L.length<=j:=by simpa using hb
   refine zfg gj zfs<|g0 u8 h8 (zgb (p:=⟨lg,ll,ps⟩) (lo:=w1.heap.size) (hi:=w8.heap.size) gL gM gr.own oo oo oo oo oo oo) (lr _) (lr _) rfl rfl ?_
   have h0:zb4 L e (8-ps.length) j=.ok ([],j):=by
     cases 8-ps.length with
     | zero=>rw [zb4,qah he]
     | succ d=>rw [zb4,qah he]
   rw [g3,hI,h0];simp only [ztk,Rd.go,qaJ];exact ⟨rfl,rfl⟩
 have:j<L.length:=by simpa using hb
 refine JOIN.mk (λus w'=>us=[]/\Ext w8 w'/\¬(atT L j zdW/\ps.length=8)) ?_ ?_
 . refine (zds h8).mono ?_;rintro _ w9 ⟨M,_,rfl,-,-,-⟩;refine zdE<|zat<|br (λhp=>?_) (λhp=>⟨rfl,M,λhh=>hp hh.1⟩);have hp:atT L j zdW:=hp;refine zaa zde<|zaj zkD (gj.ext M) rfl<|zae u27 (gr.ext M).is<|zag<|br (λgN=>?_) (λgN=>⟨rfl,M,λhh=>gN (by rw [hh.2];rfl)⟩);refine zas (cells:=#[.slice none 0 0,.slice none 0 0,.slice none 0 0]) kK ?_;refine (zeX (c:=5) (h8.step M) dD io).mono ?_;rintro _ gO ⟨C,gs,rfl⟩;have hg:=M.size;have gt:=C.size;refine g0 ((u8.trans M.upG).trans C.upG1) gs (g5 (lo:=w1.heap.size)) (lr _) oo rfl rfl ?_;rw [g3,hI,show 8-ps.length=0 by omega,zb4,qad oo,qah hp];rfl
 rintro _ w9 ⟨-,M,hj⟩;have hg:=M.size;have h9:=h8.step M;refine (zzd h9).mono ?_;rintro _ gO ⟨C,_,pr,g9,rfl,gs,hk,gb⟩;have gt:=C.size;have u10:=(u8.trans M.upG).trans (C.upG1 (lo:=w1.heap.size));have gc:=(gj.ext M).keep (C.block _ (gj.ext M).lt (.inr oo));have gx:=(gL.ext M).chg C (.inr oo);have gy:=(gM.ext M).chg C (.inr oo);have gz:=(gr.ext M).chg C (.inr oo);refine zal rfl<|zal rfl<|zck (α:=DProc) zCl λ_ D gA=>?_;have:=D.size;refine zb0 ziL gA (hk.ext D) (.inr oo) λhn O gB=>?_;have:=O.size;have gP:=(gs.step D).chg O oo oo;have u12:UpG g w1.heap.size w1 hn:=(u10.trans D.upG).trans (O.upG oo);have g2:=(gc.ext D).keep (O.block _ (gc.ext D).lt (.inl oo));have gC:=(gx.ext D).chg O (.inl oo);have gD:=(gy.ext D).chg O (.inl oo);have gE:=(gz.ext D).chg O (.inl oo)
 have gd:(∀ f,zpu L e j=.error f->zb4 L e (8-ps.length) j=.error f)/\(∀ x k,zpu L e j=.ok (x,k)->∃ d,8-ps.length=d+1/\zb4 L e (8-ps.length) j=(zb4 L e d k).go λl j=>.ok (x :: l,j)):=by
   cases hd:8-ps.length with
   | zero=>
     have gQ:¬atT L j zdW:=λhh=>hj ⟨hh,oo⟩;have h1:zpu L e j=.error (ftA L e 3 j):=by unfold zpu;rw [zcW gQ];rfl
     have h2:zb4 L e 0 j=.error (ftA L e 3 j):=by rw [zb4,qad oo,qad gQ]
     rw [h1,h2];exact ⟨λf hf=>by cases hf;rfl,λx k hh=>by cases hh⟩
   | succ d=>
     rw [znu,qad oo];exact ⟨λf hf=>by rw [hf];rfl,λx k hh=>⟨d,rfl,by rw [hh];rfl⟩⟩
 refine zau<|zaN (λho=>?_) (λho=>?_)
 . have ho:okS g9=false:=by simpa using ho
   obtain ⟨f,rfl,hp⟩:=zd0 gb (λx j hh=>⟨_,hh.2⟩) ho;exact hz u12 gP (by rw [g3,hI,gd.1 f hp];rfl)
 have ho:okS g9=true:=by simpa using ho
 obtain ⟨hq,rfl,hp⟩:=zhj gb ho;obtain ⟨dd,_,hs⟩:=gd.2 _ _ hp;refine zaa zde<|zaj zkD g2 rfl<|zdG ziL gB (xrf _) λ_ ht=>zbs (lo2:=w9.heap.size) (hi2:=gO.heap.size) u27 ziL z62 zE1 dD gE oo ht oo oo (by rw [zak];omega) oo λv14 hv U gf=>?_;have:=U.size;refine zaa zde<|zaW (α:=List DProc) zkD rfl rfl (g2.keep (U.block _ g2.lt (.inl oo))) ss gf.own λ_ V gF=>?_;have:=V.size;refine ⟨9-(n+1),oo,n+1,oo,rfl,ps++[pr],hq,v14,hv.heap.size,(u12.trans (U.upG oo)).trans (V.upG (lr _)),oo,(gP.chg U oo oo).chg V oo oo,gF,(gC.chg U (.inl oo)).chg V (.inr oo),(gD.chg U (.inl oo)).chg V (.inr oo),gf.chg V (.inr oo),oo,oo,by simp [hc],by rw [qab,qaC];omega,?_⟩;rw [hI,hs,qab,qaC,show 8-(ps.length+1)=dd by omega];exact zoO _
def zqi (hT:PowT W0) (e0:Ext W0 w) (hs:s.size<=maxLen) :
   CALL tp 57 [.string s] w λr w'=>Ext w w'/\∃ g v W,r=.pointer (some ⟨g,0,none⟩)/\w.heap.size<=g/\g<w'.heap.size/\RiG W g (zdk s).1 v s.size (st0 s) w':=by
 rw [zak] at hs;obtain ⟨k1,k2,_,_,_,_,_⟩:=zrC s;have g5:(zdk s).2.code=0->(zdk s).2=⟨0,0⟩:=zpT;refine co (g:=kf [] [] []) Tryz.func57 ?_;refine (zuq hT e0).mono ?_;rintro _ w1 ⟨g1,_,rfl,oa⟩;refine zal rfl<|zal rfl ?_;have:=g1.size;refine za1 zA9 λ_ g2 g9=>?_;have:=g2.size;refine za3 (α:=DFault) (lo:=0) (hi:=0) zmR rfl g9 rfl (zh6 io io) λw3 g3 gb=>?_;have:=g3.size;have g0:Ext w1 w3:=g2.chgI g3 (lr _);refine zb8 u9<|zfg gb zmR ?_;obtain ⟨av,cap,rfl⟩:=zf7 oa.toI;refine zas (cells:=(riC (.slice av (zdk s).1.length cap) s.size 0 (zdk s).2).toArray) kK<|zjN ?_;have g4:=zaU w3 (.cells (riC (.slice av (zdk s).1.length cap) s.size 0 (zdk s).2).toArray 107);have hB:Blk w3.heap.size 107 (w3.alloc (.cells (riC (.slice av (zdk s).1.length cap) s.size 0 (zdk s).2).toArray 107)) (riC (.slice av (zdk s).1.length cap) s.size 0 (zdk s).2):=zwT;refine ⟨(g1.t g0).trans g4,w3.heap.size,_,w1,rfl,oo,hB.lt,oa.is,g0.t g4,oo,k2,k1,by unfold I64;omega,(hT.ext e0).ext g1,0,(zdk s).2,60,hB,by unfold I64;omega,by unfold I64;omega,?_⟩;unfold st0;split
 . rename_i h0;exact ⟨rfl,g5 h0,rfl,qbt _⟩
 rename_i h0;exact ⟨rfl,h0⟩
def zlZ (hT:PowT W0) (e0:Ext W0 w0) (hs:s.size<=maxLen) :
   CALL tp 21 [.string s] w0 λr w'=>Ext w0 w'/\∃ p f a,r=.tuple #[a,.agg #[.int .i64 f.code,.int .i64 f.at_]]/\OwnI w0.heap.size w'.heap.size w' a p/\(I64 f.code/\I64 f.at_)/\zfj s p f:=by
 refine co (g:=⟨extL,[],[],[(3,[0,1,2,3,4,5,6],32),(6,[0,1,2,3,4,5,6],32)],[],[3,6],[]⟩) Tryz.func21 ?_;refine zck (α:=DProg) zAS λw1 gi gz=>?_;have:=gi.size;have:=gz.lt;refine za1 zA9 λ_ g9 gA=>?_;have:=g9.size;have:=gA.lt;refine (zqi (hT:=hT) (e0:=(e0.t gi).trans g9) hs).mono ?_;rintro _ _ ⟨gb,g,v,W,rfl,_,_,h3⟩;have:=gb.size;have:=h3.lo
 have gj:∀ {w5:wD} {lo:Nat},OwnI lo lo w5 (.agg #[.slice none 0 0,.slice none 0 0,.slice none 0 0]) (⟨[],[],[]⟩:DProg):=λ{w5 lo}=>
   zgb (l0:=lo) (h0:=lo) (l1:=lo) (h1:=lo) (l2:=lo) (h2:=lo) za8 za8 za8 oo oo oo oo oo oo
 have gB:=(gz.ext g9).ext gb;have gl:=gA.ext gb
 have g0:∀ {w9:wD} {f:DFault},Ext w0 w9->RiG W g (zdk s).1 v s.size (.error f) w9->VarI w1.heap.size w1.heap.size w9 w0.heap.size (RepZ.zv:DProg)->Blk w1.heap.size 49 w9 [.int .i64 0,.int .i64 0]->zg6 s=.error f ->
     XR λX=>RDX tp X (Instr.build 29 #[]) (World.drew1 w9) λz=>NIL (.pointer (some ⟨g,0,none⟩)) (RDX tp X (Instr.fieldAt 107 (.pointer (some ⟨g,0,none⟩)) 3) (World.drew1 w9) λa=>RDX tp X (Instr.loadAt 49 a) (World.drew1 w9) λb=>
       OPU tp (Instr.storeAt 29 (.pointer (some ⟨w0.heap.size,0,none⟩)) z) (World.drew1 w9) λw'=>ExtX X (World.drew1 w9) w'/\OPU tp (Instr.storeAt 49 (.pointer (some ⟨w1.heap.size,0,none⟩)) b) w' λw'=>
         RD tp (zbr 29 (.pointer (some ⟨w0.heap.size,0,none⟩))) w' λx=>RD tp (zbr 49 (.pointer (some ⟨w1.heap.size,0,none⟩))) w' λy=>
           Ext w0 w'/\∃ p f a,Value.tuple [x,y].toArray=.tuple #[a,.agg #[.int .i64 f.code,.int .i64 f.at_]]/\OwnI w0.heap.size w'.heap.size w' a p/\(I64 f.code/\I64 f.at_)/\zfj s p f):=by
   intro w9 f g1 h9 gI gc gJ;obtain ⟨id,fd,qd,gn,gd,gf,gg⟩:=h9.blk;obtain ⟨rfl,hn⟩:=gg;have U:=zai w9;have gK:=gI.ext U;have gC:=gc.ext U;have gL:=gn.ext U;have:=U.size;have g2:=g1.t U;have:=g1.size;have:=gc.lt;generalize World.drew1 w9=we at *;refine XR.mk (λc=>c=w0.heap.size)<|zlL (w0:=w0) (λb hb=>by rw [hb];exact qaE _) g2 (zas (cells:=#[.slice none 0 0,.slice none 0 0,.slice none 0 0]) kK ?_);refine NIL.mk rfl<|zdy zle<|zqg (α:=DFault) (F:=[]) (cs:=[.int .i64 fd.code,.int .i64 fd.at_]) zmR ⟨[],[],[.int .i64 fd.code],[.int .i64 fd.at_],rfl,rfl,⟨rfl,rfl,gd⟩,rfl,rfl,gf⟩ (λj u hj=>?_) oo dD ?_
   . have hr:=gL.range
     match j,hj with
     | 0,hj=>simp only [List.getElem?_cons_zero,qaq] at hj;subst hj;exact hr 3 _ rfl
     | 1,hj=>simp only [List.getElem?_cons_succ,List.getElem?_cons_zero,qaq] at hj;subst hj;exact hr 4 _ rfl
     | j+2,hj=>simp at hj
   refine zb0 zfs gK (gj (lo:=we.heap.size)) (.inl oo) λ_ D gp=>?_;have:=D.size;refine ⟨D.toC.toX λc hc=>by simpa using hc,?_⟩;have gq:=gC.keep (D.block _ gC.lt (.inr oo));refine za3 (α:=DFault) (lo:=0) (hi:=0) zmR rfl gq rfl (zh6 gd gf) λ_ M gr=>?_;have:=M.size;refine zhA zfs (gp.chg M (.inr oo) (.inl oo)) (xrf _) λu ou=>zcL gr zmR<|⟨(g2.chgI D (lr _)).chgI M oo,⟨[],[],[]⟩,fd,u,rfl,ou.mono oo oo,⟨gd,gf⟩,?_⟩;unfold zfj;rw [gJ];exact ⟨rfl,hn⟩
 have g3:=(gi.t g9).trans gb;obtain ⟨id,fd,qd,gn,gd,gf,gg⟩:=h3.blk;refine NIL.mk rfl<|zaa zle<|zaa ze9<|zaj ty3 gn rfl<|zaJ<|br (λhn=>?_) (λh0=>?_)
 . have C:=zhi gg hn;rw [C] at h3;refine g0 g3 h3 gB gl ?_;unfold st0 at C;unfold zg6;split at C
   . cases C
   rename_i hne;rw [qad hne];cases C;rfl
 have h0:=qaf.1 h0;have C:=(zfC gg h0).1
 have gM:(zdk s).2.code=0/\id=0/\qd=60:=by
   unfold st0 at C;split at C
   . rename_i h;cases C;exact ⟨h,rfl,rfl⟩
   cases C
 obtain ⟨gD,rfl,rfl⟩:=gM;rw [C] at h3;have gE:(∀ f,zij (zdk s).1 s.size=.error f->zg6 s=.error f)/\(∀ p j,zij (zdk s).1 s.size=.ok (p,j)->zg6 s=.ok p):=⟨λf hf=>by unfold zg6;rw [qah gD,hf],λp j hf=>by unfold zg6;rw [qah gD,hf]⟩;refine (zze h3).mono ?_;rintro _ w4 ⟨gh,_,p,gF,rfl,h4,o4,gG⟩;have:=gh.size;have gs:Ext w0 w4:=g3.chgI gh oo;refine zal rfl<|zal rfl<|zck (α:=DProg) zAS λw5 O gN=>?_;have:=O.size;refine zb0 zfs gN (o4.ext O) (.inr oo) λw6 V gO=>?_;have:=V.size;have g4:Ext w0 w6:=(gs.t O).chgI V oo;have h6:=(h4.step O).chg V oo oo;have g5:=((gB.chg gh (.inl oo) (.inl oo)).ext O).chg V (.inl oo) (.inl oo);have gH:=gl.keep (gh.block _ gl.lt (.inl oo));have gt:=(gH.ext O).keep (V.block _ (gH.ext O).lt (.inl oo));refine zau<|zaN (λho=>?_) (λho=>?_)
 . have ho:okS gF=false:=by simpa using ho
   obtain ⟨f,rfl,hp⟩:=zd0 gG (λx j hh=>⟨_,hh.2⟩) ho;exact g0 g4 h6 g5 gt (gE.1 f hp)
 have ho:okS gF=true:=by simpa using ho
 obtain ⟨j,rfl,hp⟩:=zhj gG ho;refine zdG zfs gO (xrf _) λ_ o7=>zas (cells:=#[.int .i64 0,.int .i64 0]) kK<|zb0 zfs g5 o7 (.inl oo) λ_ gx gP=>?_;have:=gx.size;have gQ:=gt.keep (gx.block _ gt.lt (.inr oo));refine za3 (α:=DFault) (lo:=0) (hi:=0) zmR rfl gQ rfl (zh6 zcS zcS) λw9 gy gc=>?_;have:=gy.size;refine zhA zfs (gP.chg gy (.inr oo) (.inl oo)) (xrf _) λu10 gR=>zcL gc zmR<|⟨(g4.chgI gx (lr _)).chgI gy oo,p,⟨0,0⟩,u10,rfl,gR.mono oo oo,⟨zcS,zcS⟩,?_⟩;unfold zfj;rw [gE.2 p j hp];exact ⟨rfl,rfl⟩
def zw6 (t:DTerm):Prop:=∀ {w W:wD} {v:vL},Is W v t->Ext W w->wT t<=1048576 ->
 CALL tp 74 [v] w λr w'=>Ext w w'/\Own w.heap.size w' r t
def zqj {t:DTerm} (ih:∀ x∈t.kids,zw6 x):zw6 t:=by
 intro _ _ _ h e _;have hkl:t.kids.length<=1048576:=by have:=zwt t;have:=zpU t.kids;omega
 have gr:∀ x∈t.kids,wT x<=1048576:=λx hx=>by have:=zwt t;have:=zpU t.kids;have:=zAV wT hx;omega
 refine co (g:=kf [] [(3,1073737744,[4])] [(5,[0,1,2,3,4,5,6,7,8,9,10,11],384)]) Tryz.func74 ?_;refine zbk h e λw1 gi hA=>?_;have hs1:=gi.size;refine za1 zri λw2 M gj=>?_;have hg2:=gj.lt;have hs2:=M.size;refine zaa zfw<|zad ty3 (zcI hA) M λg5=>zaa zgY<|zad ty3 (zco hA) M λgl=>zaa zfx<|zaq ty9 (zb1 hA) M λg0=>zas (cells:=#[.int .i64 t.kind,.int .i64 t.num,.string t.name,.slice none 0 0]) kK<|za1 zri λw3 g9 gn=>?_;have hg3:=gn.lt;have hs3:=g9.size;refine za3 (x:=DTerm.mk t.kind t.num t.name []) (lo:=w3.heap.size) (hi:=w3.heap.size) zcD rfl gn rfl (zc0 g5 gl g0 za8) λw4 gb gs=>?_;have hs4:=gb.size;have gc:Ext w1 w4:=Ext.chgI (M.t g9) gb oo
 refine zar t.kids.length (λk us w'=>us=[.int .i64 (k:Int)]/\∃ v1 hi,hi<=w'.heap.size/\w4.heap.size<=hi/\Ext w1 w'/\Blk w2.heap.size 67 w' [.int .i64 t.kind,.int .i64 t.num,.string t.name,v1] /\
     RowI w4.heap.size hi 67 w' v1 (t.kids.take k)/\Blk w1.heap.size 67 w' [.int .i64 0,.int .i64 0,.string ByteArray.empty,.slice none 0 0]/\k<=t.kids.length) 0 (z0 _)
     ⟨rfl,.slice none 0 0,w4.heap.size,lr _,qaE _,gc,gs,zbL _ _ _ _,(gj.ext g9).chgI gb oo,qbt _⟩ ?_
 rintro k m _ w5 _ ⟨hu,v1,hi,_,_,O,gd,r5,g1,_⟩;try replace hu:=zbv hu
 rw [hu];have hs5:=O.size;refine zaa zcr<|zab ziM (za7 hA) O λ_ gt=>zae u65 gt<|zah<|br (λ_=>?_) (λ_=>?_)
 . have hk:k<t.kids.length:=oo;have g2:=zai w5;have hs6:=g2.size;have D:=O.t g2;refine zaa zcr<|zaj ziM (gd.ext g2) rfl<|zaa zcr<|zab ziM (za7 hA) D λ_ gx=>zac u65 zcD gx hk λ_ _ gf=>zab zcD gf D λ_ gy=>?_;refine (ih _ (qac hk) gy D (gr _ (qac hk))).mono ?_;rintro _ _ ⟨gg,gh⟩;have gh:=gh.toI;have hs7:=gg.size;refine ⟨gg,?_⟩;have C:=g2.t gg;refine zyY (α:=DTerm) u65 zcD z67 zEE dD (r5.ext C) oo gh oo oo (by rw [zak,qao];omega) (by rw [qao];omega) λgz w8 g3 r8=>?_;have hs8:=g3.size;refine zaa zcr<|zaW (α:=List DTerm) ziM rfl rfl ((gd.ext C).chgI g3 oo) ss r8.own λ_ g4 gA=>?_;have hs9:=g4.size;refine zaw<|⟨m-1,oo,k+1,oo,rfl,gz,w8.heap.size,oo,oo,Ext.chgI (Ext.chgI (O.t C) g3 oo) g4 oo,gA,?_,((g1.ext C).chgI g3 oo).chgI g4 oo,oo⟩;have:=r8.chg g4 oo;rwa [<-tk hk] at this
 have hk:t.kids.length<=k:=oo;refine zfg gd zcD ?_;have hI:=(show I64 t.kind from g5)
 have gp:OwnI w4.heap.size hi w5 (.agg #[.int .i64 t.kind,.int .i64 t.num,.string t.name,v1]) t:=by
   have:=zc0 g5 gl g0 r5.own;rwa [qai hk,DTerm.eta] at this
 refine za3 zcD rfl g1 rfl gp λ_ gq gB=>zcL gB zcD<|⟨Ext.chgI (gi.t O) gq oo,(gp.chg gq oo).own.mono oo⟩
def zjR (t:DTerm):zw6 t:=DTerm.ind (λt ih {_ _ _}=>zqj ih) t
def zw7 {t:DStmt}  (h0:Is W0 v0 t) (e0:Ext W0 w) (hr:zEw t) :
   CALL tp 247 [v0] w λr w'=>Ext w w'/\(r=.bool true):=by
 refine co (g:=kf [] [] []) Tryz.func247 ?_
 have Z:t.kind≠2->t.kind≠3->t.body=[]/\t.els=[]:=λ_ _=>by
   rcases hr with ⟨k1,k2,k3,k4,k5⟩ | ⟨k1,k2,k3,k4,k5⟩ | ⟨k1,k2,k3,k4,k5⟩ | ⟨k1,k2,k3⟩ | ⟨k1,k2,k3,k4⟩
   . exact ⟨k4,k5⟩
   . exact ⟨k4,k5⟩
   . exact ⟨k4,k5⟩
   . omega
   omega
 refine za2 zda rfl h0 e0 λg0 y1 C _=>zaa zce<|zab zcD (zbz C) (xrf g0) λ_ h5=>zas (cells:=#[.int .i64 0,.int .i64 0,.string ByteArray.empty,.slice none 0 0]) kK ?_;have o6:OwnI (α:=DTerm) g0.heap.size g0.heap.size g0 (.agg #[.int .i64 0,.int .i64 0,.string ByteArray.empty,.slice none 0 0]) RepZ.zv:=zpY;refine (zkk h5 (xrf g0) o6.is (xrf g0) rfl).mono ?_;rintro _ _ ⟨y2,rfl⟩;refine zaa zdl<|zad ty3 (zb2 C) y2 λ_=>zag<|br (λc1=>?_) (λc1=>?_)
 . refine zaa zbo ?_;refine zaq ty9 (zaT C) y2 λ_=>?_;refine (specIsName_ok ).mono ?_;rintro _ _ ⟨y3,rfl⟩;refine zaN (λc2=>?_) (λc2=>?_)
   . refine zaa zce ?_;refine zab zcD (zbz C) (y2.t y3) λ_ gd=>?_;refine (zdq gd (y2.t y3)).mono ?_;rintro _ _ ⟨y4,rfl⟩;refine zaN (λc3=>?_) (λc3=>?_)
     . refine zaa zcf ?_;refine zab zed (zb3 C) (y2.t (y3.t y4)) λ_ g4=>?_;have:=zan g4;refine zae u60 g4<|zaa zca<|zab zed (zbI C) (y2.t (y3.t y4)) λ_ g5=>?_;have:=zan g5;refine zae u60 g5<|zdK (by obtain ⟨q1,q2⟩:=Z oo oo;rw [q1,q2];simp [I64])<|zag<|⟨(y1.t (y2.t (y3.t y4))),?_⟩;rcases hr with ⟨k1,k2,k3,k4,k5⟩ | ⟨k1,k2,k3,k4,k5⟩ | ⟨k1,k2,k3,k4,k5⟩ | ⟨k1,k2,k3⟩ | ⟨k1,k2,k3,k4⟩<;>first | (exfalso;omega) | simp_all
     refine ⟨(y1.t (y2.t (y3.t y4))),?_⟩;rcases hr with ⟨k1,k2,k3,k4,k5⟩ | ⟨k1,k2,k3,k4,k5⟩ | ⟨k1,k2,k3,k4,k5⟩ | ⟨k1,k2,k3⟩ | ⟨k1,k2,k3,k4⟩<;>first | (exfalso;omega) | simp_all
   refine ⟨(y1.t (y2.t y3)),?_⟩;rcases hr with ⟨k1,k2,k3,k4,k5⟩ | ⟨k1,k2,k3,k4,k5⟩ | ⟨k1,k2,k3,k4,k5⟩ | ⟨k1,k2,k3⟩ | ⟨k1,k2,k3,k4⟩<;>first | (exfalso;omega) | simp_all
 refine zag<|br (λc4=>?_) (λc4=>?_)
 . refine zaa zbo ?_;refine zaq ty9 (zaT C) y2 λ_=>zat<|br (λc5=>?_) (λc5=>?_)
   . refine zaa zce ?_;refine zab zcD (zbz C) y2 λ_ gf=>?_;refine (zdq gf y2).mono ?_;rintro _ _ ⟨y5,rfl⟩;refine ⟨(y1.t (y2.t y5)),?_⟩;rcases hr with ⟨k1,k2,k3,k4,k5⟩ | ⟨k1,k2,k3,k4,k5⟩ | ⟨k1,k2,k3,k4,k5⟩ | ⟨k1,k2,k3⟩ | ⟨k1,k2,k3,k4⟩<;>first | (exfalso;omega) | simp_all
   refine ⟨(y1.t y2),?_⟩;rcases hr with ⟨k1,k2,k3,k4,k5⟩ | ⟨k1,k2,k3,k4,k5⟩ | ⟨k1,k2,k3,k4,k5⟩ | ⟨k1,k2,k3⟩ | ⟨k1,k2,k3,k4⟩<;>first | (exfalso;omega) | simp_all
 refine zag<|br (λc6=>?_) (λc6=>?_)
 . refine zaa zbo ?_;refine zaq ty9 (zaT C) y2 λ_=>zat<|br (λc7=>?_) (λc7=>?_)
   . refine zaa zce ?_;refine zab zcD (zbz C) y2 λ_ gg=>?_;refine (zdq gg y2).mono ?_;rintro _ _ ⟨y6,rfl⟩;refine zaN (λc8=>?_) (λc8=>?_)
     . refine zaa zca ?_;refine zab zed (zbI C) (y2.t y6) λ_ g9=>?_;have:=zan g9;refine zae u60 g9<|zag<|⟨(y1.t (y2.t y6)),?_⟩;rcases hr with ⟨k1,k2,k3,k4,k5⟩ | ⟨k1,k2,k3,k4,k5⟩ | ⟨k1,k2,k3,k4,k5⟩ | ⟨k1,k2,k3⟩ | ⟨k1,k2,k3,k4⟩<;>first | (exfalso;omega) | simp_all
     refine ⟨(y1.t (y2.t y6)),?_⟩;rcases hr with ⟨k1,k2,k3,k4,k5⟩ | ⟨k1,k2,k3,k4,k5⟩ | ⟨k1,k2,k3,k4,k5⟩ | ⟨k1,k2,k3⟩ | ⟨k1,k2,k3,k4⟩<;>first | (exfalso;omega) | simp_all
   refine ⟨(y1.t y2),?_⟩;rcases hr with ⟨k1,k2,k3,k4,k5⟩ | ⟨k1,k2,k3,k4,k5⟩ | ⟨k1,k2,k3,k4,k5⟩ | ⟨k1,k2,k3⟩ | ⟨k1,k2,k3,k4⟩<;>first | (exfalso;omega) | simp_all
 refine zag<|br (λc9=>?_) (λc9=>?_)
 . refine zaa zbo ?_;refine zaq ty9 (zaT C) y2 λV=>?_;refine (specIsName_ok ).mono ?_;rintro _ _ ⟨y7,rfl⟩;refine zaN (λgh=>?_) (λgh=>?_)
   . refine br (λgi=>?_) (λgi=>?_)
     . refine zaa zcf ?_;refine zab zed (zb3 C) (y2.t y7) λg2 D=>?_;have M:=zan D;refine zae u60 D<|zaa zca<|zab zed (zbI C) (y2.t y7) λg3 O=>?_;have U:=zan O;refine zae u60 O<|zdK (by obtain ⟨q1,q2⟩:=Z oo oo;rw [q1,q2];simp [I64])<|zag<|⟨(y1.t (y2.t y7)),?_⟩;rcases hr with ⟨k1,k2,k3,k4,k5⟩ | ⟨k1,k2,k3,k4,k5⟩ | ⟨k1,k2,k3,k4,k5⟩ | ⟨k1,k2,k3⟩ | ⟨k1,k2,k3,k4⟩<;>first | (exfalso;omega) | simp_all
     refine ⟨(y1.t (y2.t y7)),?_⟩;rcases hr with ⟨k1,k2,k3,k4,k5⟩ | ⟨k1,k2,k3,k4,k5⟩ | ⟨k1,k2,k3,k4,k5⟩ | ⟨k1,k2,k3⟩ | ⟨k1,k2,k3,k4⟩<;>first | (exfalso;omega) | simp_all
   refine ⟨(y1.t (y2.t y7)),?_⟩;rcases hr with ⟨k1,k2,k3,k4,k5⟩ | ⟨k1,k2,k3,k4,k5⟩ | ⟨k1,k2,k3,k4,k5⟩ | ⟨k1,k2,k3⟩ | ⟨k1,k2,k3,k4⟩<;>first | (exfalso;omega) | simp_all
 refine zag<|br (λgj=>?_) (λgj=>?_)
 . refine zaa zbo ?_;refine zaq ty9 (zaT C) y2 λV=>?_;refine (specIsName_ok ).mono ?_;rintro _ _ ⟨y8,rfl⟩;refine zaN (λgl=>?_) (λgl=>?_)
   . refine br (λgn=>?_) (λgn=>?_)
     . refine zaa zcf ?_;refine zab zed (zb3 C) (y2.t y8) λg2 D=>?_;have M:=zan D;refine zae u60 D<|zaa zca<|zab zed (zbI C) (y2.t y8) λg3 O=>?_;have U:=zan O;refine zae u60 O<|zdK (by obtain ⟨q1,q2⟩:=Z oo oo;rw [q1,q2];simp [I64])<|zag<|⟨(y1.t (y2.t y8)),?_⟩;rcases hr with ⟨k1,k2,k3,k4,k5⟩ | ⟨k1,k2,k3,k4,k5⟩ | ⟨k1,k2,k3,k4,k5⟩ | ⟨k1,k2,k3⟩ | ⟨k1,k2,k3,k4⟩<;>first | (exfalso;omega) | simp_all
     refine ⟨(y1.t (y2.t y8)),?_⟩;rcases hr with ⟨k1,k2,k3,k4,k5⟩ | ⟨k1,k2,k3,k4,k5⟩ | ⟨k1,k2,k3,k4,k5⟩ | ⟨k1,k2,k3⟩ | ⟨k1,k2,k3,k4⟩<;>first | (exfalso;omega) | simp_all
   refine ⟨(y1.t (y2.t y8)),?_⟩;rcases hr with ⟨k1,k2,k3,k4,k5⟩ | ⟨k1,k2,k3,k4,k5⟩ | ⟨k1,k2,k3,k4,k5⟩ | ⟨k1,k2,k3⟩ | ⟨k1,k2,k3,k4⟩<;>first | (exfalso;omega) | simp_all
 refine zag<|br (λgp=>?_) (λgp=>?_)
 . refine zaa zbo ?_;refine zaq ty9 (zaT C) y2 λV=>?_;refine (specIsName_ok ).mono ?_;rintro _ _ ⟨y9,rfl⟩;refine zaN (λgq=>?_) (λgq=>?_)
   . refine br (λgr=>?_) (λgr=>?_)
     . refine zaa zcf ?_;refine zab zed (zb3 C) (y2.t y9) λg2 D=>?_;have M:=zan D;refine zae u60 D<|zaa zca<|zab zed (zbI C) (y2.t y9) λg3 O=>?_;have U:=zan O;refine zae u60 O<|zdK (by obtain ⟨q1,q2⟩:=Z oo oo;rw [q1,q2];simp [I64])<|zag<|⟨(y1.t (y2.t y9)),?_⟩;rcases hr with ⟨k1,k2,k3,k4,k5⟩ | ⟨k1,k2,k3,k4,k5⟩ | ⟨k1,k2,k3,k4,k5⟩ | ⟨k1,k2,k3⟩ | ⟨k1,k2,k3,k4⟩<;>first | (exfalso;omega) | simp_all
     refine ⟨(y1.t (y2.t y9)),?_⟩;rcases hr with ⟨k1,k2,k3,k4,k5⟩ | ⟨k1,k2,k3,k4,k5⟩ | ⟨k1,k2,k3,k4,k5⟩ | ⟨k1,k2,k3⟩ | ⟨k1,k2,k3,k4⟩<;>first | (exfalso;omega) | simp_all
   refine ⟨(y1.t (y2.t y9)),?_⟩;rcases hr with ⟨k1,k2,k3,k4,k5⟩ | ⟨k1,k2,k3,k4,k5⟩ | ⟨k1,k2,k3,k4,k5⟩ | ⟨k1,k2,k3⟩ | ⟨k1,k2,k3,k4⟩<;>first | (exfalso;omega) | simp_all
 refine zag<|br (λgs=>?_) (λgs=>?_)
 . refine zaa zbo ?_;refine zaq ty9 (zaT C) y2 λV=>?_;refine (specIsName_ok ).mono ?_;rintro _ _ ⟨g1,rfl⟩;refine zaN (λgt=>?_) (λgt=>?_)
   . refine br (λgx=>?_) (λgx=>?_)
     . refine zaa zcf ?_;refine zab zed (zb3 C) (y2.t g1) λg2 D=>?_;have M:=zan D;refine zae u60 D<|zaa zca<|zab zed (zbI C) (y2.t g1) λg3 O=>?_;have U:=zan O;refine zae u60 O<|zdK (by obtain ⟨q1,q2⟩:=Z oo oo;rw [q1,q2];simp [I64])<|zag<|⟨(y1.t (y2.t g1)),?_⟩;rcases hr with ⟨k1,k2,k3,k4,k5⟩ | ⟨k1,k2,k3,k4,k5⟩ | ⟨k1,k2,k3,k4,k5⟩ | ⟨k1,k2,k3⟩ | ⟨k1,k2,k3,k4⟩<;>first | (exfalso;omega) | simp_all
     refine ⟨(y1.t (y2.t g1)),?_⟩;rcases hr with ⟨k1,k2,k3,k4,k5⟩ | ⟨k1,k2,k3,k4,k5⟩ | ⟨k1,k2,k3,k4,k5⟩ | ⟨k1,k2,k3⟩ | ⟨k1,k2,k3,k4⟩<;>first | (exfalso;omega) | simp_all
   refine ⟨(y1.t (y2.t g1)),?_⟩;rcases hr with ⟨k1,k2,k3,k4,k5⟩ | ⟨k1,k2,k3,k4,k5⟩ | ⟨k1,k2,k3,k4,k5⟩ | ⟨k1,k2,k3⟩ | ⟨k1,k2,k3,k4⟩<;>first | (exfalso;omega) | simp_all
 refine zag<|br (λgy=>?_) (λgy=>?_)
 . refine zaa zbo ?_;refine zaq ty9 (zaT C) y2 λ_=>zat<|br (λgz=>?_) (λgz=>?_)
   . refine br (λgA=>?_) (λgA=>?_)
     . refine zaa zcf ?_;refine zab zed (zb3 C) y2 λ_ gb=>?_;have:=zan gb;refine zae u60 gb<|zaa zca<|zab zed (zbI C) y2 λ_ gc=>?_;have:=zan gc;refine zae u60 gc<|zdK (by obtain ⟨q1,q2⟩:=Z oo oo;rw [q1,q2];simp [I64])<|zag<|⟨(y1.t y2),?_⟩;rcases hr with ⟨k1,k2,k3,k4,k5⟩ | ⟨k1,k2,k3,k4,k5⟩ | ⟨k1,k2,k3,k4,k5⟩ | ⟨k1,k2,k3⟩ | ⟨k1,k2,k3,k4⟩<;>first | (exfalso;omega) | simp_all
     refine ⟨(y1.t y2),?_⟩;rcases hr with ⟨k1,k2,k3,k4,k5⟩ | ⟨k1,k2,k3,k4,k5⟩ | ⟨k1,k2,k3,k4,k5⟩ | ⟨k1,k2,k3⟩ | ⟨k1,k2,k3,k4⟩<;>first | (exfalso;omega) | simp_all
   refine ⟨(y1.t y2),?_⟩;rcases hr with ⟨k1,k2,k3,k4,k5⟩ | ⟨k1,k2,k3,k4,k5⟩ | ⟨k1,k2,k3,k4,k5⟩ | ⟨k1,k2,k3⟩ | ⟨k1,k2,k3,k4⟩<;>first | (exfalso;omega) | simp_all
 refine ⟨(y1.t y2),?_⟩;rcases hr with ⟨k1,k2,k3,k4,k5⟩ | ⟨k1,k2,k3,k4,k5⟩ | ⟨k1,k2,k3,k4,k5⟩ | ⟨k1,k2,k3⟩ | ⟨k1,k2,k3,k4⟩<;>first | (exfalso;omega) | simp_all
def zw8 (n:Nat) (l:List DStmt):Prop:=∀ {w W:wD} {v:vL} {d:Int},Is W v l->Ext W w->(∀ x∈l,SH n x)->(n:Int)<=d->d<=6 ->
 CALL tp 184 [v,.int .i64 d] w λr w'=>Ext w w'/\r=.bool true
def zi2 {l:List DStmt} (ih:∀ m l,m+1=n->zw8 m l):zw8 n l:=by
 intro w _ _ _ h e hs _ _;have:=zan h;refine co (g:=kf [(6,66846848,[7])] [(2,36028797018963952,[5])] []) Tryz.func184 ?_;refine zar l.length (λk us w'=>us=[.int .i64 (k:Int)]/\Ext w w'/\k<=l.length) 0 (z0 _) ⟨rfl,xrf w,qbt _⟩ ?_;rintro k m _ _ _ ⟨hu,D,_⟩;try replace hu:=zbv hu
 rw [hu];refine zae u60 h<|zah<|br (λ_=>?_) (λ_=>?_)
 . have hk:k<l.length:=oo;obtain ⟨x,hx⟩:∃ x,x=l[k]:=⟨_,rfl⟩;have g3:SH n x:=by rw [hx];exact hs _ (qac hk)
   refine zac u60 zda h hk λ_ _ g0=>?_;rw [<-hx] at g0;refine zab zda g0 (e.trans D) λ_ gb=>zbN zjy rfl zda rfl gb (e.trans D) λw2 g4 g2 gc=>JOIN.mk (λus w'=>us=[.bool (decide (x.kind=2\/x.kind=3))]/\Ext w2 w') ?_ ?_
   . refine zaa zdl ?_;refine zad ty3 (zb2 g2) (xrf _) λhI=>zag<|br (λh2=>?_) (λh2=>?_)
     . exact ⟨by rw [decide_eq_true (.inl h2)],xrf _⟩
     refine zaa zdl<|zad ty3 (zb2 g2) (xrf _) λhI=>zag<|⟨by simp [h2],xrf _⟩
   rintro _ _ ⟨hu,g5⟩;try replace hu:=zbv hu
   rw [hu];refine zcC gc g5 ?_;refine (zw7 gb ((e.trans D).trans (g4.t g5)) g3.one).mono ?_;rintro _ _ ⟨gd,rfl⟩;have C:=g5.t gd;refine zau<|zaN (λhc=>by simp at hc) (λ_=>?_);refine gbr (λhm=>?_) (λhm=>?_)
   . have:0<n:=by
       rcases qcn n with h0 | h0
       . subst h0;rcases g3.zero with q | q | q | q<;>(have:=q.1;omega)
       exact h0
     have g1:(∀ y∈x.body,SH (n-1) y)/\∀ y∈x.els,SH (n-1) y:=by
       obtain ⟨q,rfl⟩:∃ q,n=q+1:=⟨n-1,oo⟩;rcases g3.succ with h | ⟨_,_,_,h4,h5⟩
       . exfalso;rcases h with q | q | q | q<;>(have:=q.1;omega)
       exact ⟨h4,h5⟩
     refine zag<|br (λhc=>oo) (λ_=>?_);refine gbr (λ_=>?_) (λhc=>absurd hm hc);refine zaa zcf<|zab zed (zb3 g2) C λ_ gf=>zbp io ?_;refine (ih (n-1) _ oo gf C g1.1 oo oo).mono ?_;rintro _ _ ⟨g9,rfl⟩;refine zau<|zub (λhc=>by simp at hc) (λ_=>?_);refine zaa zca<|zab zed (zbI g2) (C.t g9) λ_ gg=>zbp io ?_;refine (ih (n-1) _ oo gg (C.t g9) g1.2 oo oo).mono ?_;rintro _ _ ⟨gh,rfl⟩;refine zau<|zaN (λhc=>by simp at hc) (λ_=>?_);refine zaw<|⟨m-1,oo,k+1,oo,rfl,D.t (g4.t (C.t (g9.t gh))),oo⟩
   refine gbr (λhc=>absurd hc hm) (λ_=>?_);refine zaw<|⟨m-1,oo,k+1,oo,rfl,D.t (g4.t C),oo⟩
 exact ⟨D,rfl⟩
theorem zl0:∀ (n:Nat) (l:List DStmt),zw8 n l
 | 0,l=>zi2 (n:=0) (l:=l) (λm l h=>absurd h oo)
 | n + 1, l => zi2 (n := n + 1) (l := l) λm l h => by
     obtain rfl:m=n:=oo;exact zl0 m l
def zzf {l:List DStmt} (h:Is W v l) (e:Ext W w) (hb:(∀ y∈l,SH 6 y)/\szL l<=60):CALL tp 102 [v] w λr w'=>Ext w w'/\r=.bool true:=by
 refine co (g:=kf [] [] []) Tryz.func102 ?_;refine (zrI l h e oo oo).mono ?_;rintro _ _ ⟨g0,rfl⟩;refine zcH ?_;have:=(zlK l 60).1 (by have:=hb.2;omega);refine br (λ_=>?_) (λ_=>by have:=hb.2;omega);refine (zl0 6 l h (e.trans g0) hb.1 oo oo).mono ?_;rintro _ _ ⟨g1,rfl⟩;exact ⟨g0.t g1,rfl⟩
def zl1 {p:DProg} (h:Is W v p) (e:Ext W w) (hn:p.procs.length<=1000):CALL tp 54 [v] w λr w'=>Ext w w'/\Own w.heap.size w' r (p.procs.map DProc.name):=by
 refine co (g:=kf [] [(3,4194264,[3,4])] []) Tryz.func54 ?_;refine zbk h e λw1 g1 hA=>?_;have:=g1.size;refine zaI (α:=ByteArray) u26 ty9 λv5 w2 g2 r5=>?_;have:=g2.size
 refine zar p.procs.length (λk us w'=>∃ v hi,us=[v,.int .i64 (k:Int)]/\k<=p.procs.length/\Ext w1 w'/\RowI w2.heap.size hi 9 w' v ((p.procs.take k).map DProc.name)/\hi<=w'.heap.size/\w2.heap.size<=hi) 0 (z0 _)
   ⟨.slice (some v5) 0 0,w2.heap.size,rfl,z0 _,g2,r5,lr _,qaE _⟩ ?_
 rintro k m _ w3 _ ⟨_,hi,hu,_,C,r3,_,_⟩;obtain ⟨g4,g5⟩:=zcv hu;rw [g4,g5];refine zaa zde<|zab zkD (zbJ hA) C λ_ h8=>zae u27 h8<|zah<|br (λ_=>?_) (λ_=>?_)
 . have hk:k<p.procs.length:=oo;refine zaa zde<|zab zkD (zbJ hA) C λ_ g9=>zac u27 ziL g9 hk λ_ _ g0=>zaa znc<|zaq ty9 (ze5 g0) C λhS=>?_;have:=C.size;refine zbs (α:=ByteArray) (lo2:=w3.heap.size) (hi2:=w3.heap.size) u26 ty9 z9 zc9 dD r3 oo (zgC hS) oo oo (by rw [zak,qaD,qao];omega) (by rw [qaD,qao];omega) λgb w4 g3 r4=>?_;have:=g3.size;refine zaw<|⟨m-1,oo,k+1,oo,gb,w4.heap.size,rfl,oo,Ext.chgI C g3 oo,?_,lr _,oo⟩;rw [tk hk,qbh];exact r4
 refine ⟨g1.t C,?_⟩;rw [qai oo] at r3;exact r3.own.own.mono oo
def zqk {l o:List ByteArray} (h:Is W vk l) (e:Ext W w) (hr:RowG F 9 w vo o) (hn:F.Nodup) (hs:s.size<=maxLen) (ho:o.length<=1000000) :
   CALL tp 196 [vo,vk,.string s] w λr w'=>∃ F' o',UnkS F w o (s∈l) 1 r F' o' w':=by
 refine co (g:=kf [] [] []) Tryz.func196 ?_;have hR:=UnkS.refl hr hn;refine (ziV h e).mono ?_;rintro _ _ ⟨g0,rfl⟩;refine br (λhm=>⟨F,o,(hR.ext g0).more oo (by simp [hm])⟩) (λhm=>?_);refine (ziV hr.own.is g0).mono ?_;rintro _ _ ⟨g2,rfl⟩;have hx:=g0.t g2;have h2:=hR.ext hx;refine br (λg1=>⟨F,o,h2.chg,h2.row,h2.nd,h2.sub,⟨λh=>absurd g1 (by rw [h];simp),λh=>h.1⟩,oo⟩) (λg1=>?_);refine zdD (β:=ByteArray) (G:=F) u26 ty9 z9 zc9 dD h2.row h2.nd (zsW hs) ss (by rw [zak];omega) oo (λ_ _ _ F4 g3 g4 g5 g9 gb=>?_) λ_ w' _ h'=>h';refine ⟨F4,o++[s],(h2.chg.trans (g3.chg F)).trans g4,g5,g9,λc hc=>?_,?_,ss⟩
 . rcases gb c hc with h | h | h
   . exact .inl h
   . cases h
   exact .inr (qal h2.chg.size h)
 simp [hm]
def zD4 (p:DProg) (n:Nat) (l:List DStmt):Prop:=∀ {w W W':wD} {v vp vo:vL} {F:List Nat} {o:List ByteArray},Is W vp p->Ext W w->Is W' v l->Ext W' w->RowG F 9 w vo o->F.Nodup->(∀ b∈F,W.heap.size<=b)->(∀ b∈F,W'.heap.size<=b)->(∀ x∈l,SH n x)->o.length+66*szL l<=1000000 ->
 CALL tp 120 [vp,v,vo] w λr w'=>∃ F' o',UnkS F w o (∀ x∈l,StR (scP p) n x) (66*szL l) r F' o' w'
def zmX {p:DProg}:zD4 p n []:=by
 intro _ _ _ _ _ vo F o hP eP h _ hr hn _ _ _ _;refine co (g:=kf [(14,562949951324164,[2]),(20,604462909244364633933316,[2])] [(2,618970019642690137449561988,[2,7]),(17,604426016319167168250884,[2,10])] [(13,[0,1,3,4,2,5,6],4),(19,[0,1,2,3,4,5,6,7,8],0)]) Tryz.func120 ?_;refine zbk hP eP λw0 g0 _=>zar 0 (λk us w'=>us=[vo,.int .i64 (k:Int)]/\w'=w0) 0 (z0 _) ⟨rfl,rfl⟩ ?_;rintro k _ _ _ _ ⟨hu,rfl⟩;obtain ⟨g1,g2⟩:=zcv hu;rw [g1,g2];refine zae u60 h<|zah<|br (λg3=>by simp at g3;omega) (λ_=>⟨F,o,((UnkS.refl hr hn).ext g0).more oo ss⟩)
def zhk {p:DProg} {l:List DStmt} (hB:p.procs.length<=1000) (ih:∀ m l,m+1=n->zD4 p m l):zD4 p n l:=by
 intro w _ _ _ _ vo F o hP eP h e hr hn gT gU hs _;have:=zan h;refine co (g:=kf [(14,562949951324164,[2]),(20,604462909244364633933316,[2])] [(2,618970019642690137449561988,[2,7]),(17,604426016319167168250884,[2,10])] [(13,[0,1,3,4,2,5,6],4),(19,[0,1,2,3,4,5,6,7,8],0)]) Tryz.func120 ?_;refine za2 zfs rfl hP eP λw0 g9 _ gV=>?_;have:=g9.size;have gb:=hr.lt;have gW:w.heap.size∉F:=λhm=>by have:=gb _ hm;omega
 have gc:=gV.lt;have gz:=zcV hP gV rfl;have hf:RowG F 9 w0 vo o:=hr.keep λc hc=>g9.heap (gb c hc);have gX:=eP.trans g9;have e0:=e.trans g9;refine zar l.length (λk us w'=>∃ v1 F1 o1 b,us=[v1,.int .i64 (k:Int)]/\UnkS F w0 o (∀ x∈l.take k,StR (scP p) n x) b v1 F1 o1 w'/\k<=l.length/\b+66*szL (l.drop k)<=66*szL l) 0 (z0 _) ⟨vo,F,o,0,rfl,(UnkS.refl hf hn).more (lr _) ss,z0 _,ss⟩ ?_;rintro k m _ w1 _ ⟨v1,F1,o1,b,hu,M,_,hb⟩;obtain ⟨gA,gB⟩:=zcv hu;clear hu;rw [gA,gB];have:=M.chg.size;have hg:=M.old gX gT;have e1:=M.old e0 gU;have gC:=gz.keep (M.keep gc gW);have V:=M.not gc gW;refine zae u60 h<|zah<|br (λhj=>?_) (λhl=>?_)
 rotate_left
 . have hk:k=l.length:=oo;subst hk;rw [qaM] at M;refine ⟨F1,o1,(g9.chg F).trans M.chg,M.row,M.nd,λc hc=>(M.sub c hc).imp id λh=>oo,M.iff_,by have:=M.len;omega⟩
 have hk:k<l.length:=oo;obtain ⟨x,hx⟩:∃ x,x=l[k]:=⟨_,rfl⟩;have gD:SH n x:=by rw [hx];exact hs _ (qac hk)
 obtain ⟨ht,hv,gY,-,-⟩:=gD.kids;have:szL (l.drop k)=szS x+szL (l.drop (k+1)):=by rw [qax hk,szL,hx]
 have:szS x=1+szL x.body+szL x.els:=by cases x;rw [szS];rfl
 have:o1.length+66*szS x<=1000000:=by have:=M.len;omega
 refine zac u60 zda h hk λ_ _ gd=>?_;rw [<-hx] at gd;refine zab zda gd e1 λ_ gZ=>zbN zjy rfl zda rfl gZ e1 λw2 g5 gs h6=>?_;have:=g5.size;have gE:=h6.lt;have gF:=zcV gZ h6 rfl;have gG:w1.heap.size∉F1:=λhm=>by have:=M.row.lt _ hm;omega
 have Z:=gC.ext g5;have g0:w.heap.size<w2.heap.size:=oo;have gt:UnkS F1 w2 o1 True 0 v1 F1 o1 w2:=UnkS.refl (M.row.keep λc hc=>g5.heap (M.row.lt c hc)) M.nd;have g3:=hg.trans g5;have e2:=e1.trans g5;have lP:=M.low gT gX.size;have ll:=M.low gU e0.size
 have g4:∀ {w3 W3:wD} {vk v3:vL} {kn:List ByteArray} {s:ByteArray} {ok:Prop} {b:Nat} {F3:List Nat} {o3:List ByteArray} {K:VW},UnkS F1 w2 o1 ok b v3 F3 o3 w3->b<=65->Is W3 vk kn->Ext W3 w3->s.size<=maxLen ->
     (∀ v4 w4 F4 o4,UnkS F1 w2 o1 (ok/\s∈kn) (b+1) v4 F4 o4 w4->K v4 w4)->CALL tp 196 [v3,vk,.string s] w3 K:=by
   intro w3 W3 vk v3 kn s ok b F3 o3 K hU hb hk hx hw hK;refine (zqk hk hx hU.row hU.nd hw (by have:=hU.len;omega)).mono ?_;rintro v4 w4 ⟨F4,o4,h4⟩;exact hK v4 w4 F4 o4 (hU.trans h4)
 refine JOIN.mk (λus w'=>∃ v3 F3 o3,us=[v3]/\UnkS F1 w2 o1 (KnS (scP p) x) 1 v3 F3 o3 w') ?_ ?_
 . have gH:=Z.at g3;refine zaa zdl<|zad ty3 (zb2 gs) (xrf _) λhI=>zag<|br (λh1=>?_) (λh1=>?_)
   . refine zaa zgX ?_;refine zab zb9 (zc5 gH) (xrf _) λhz gI=>zaa zbo<|zaq ty9 (zaT gs) (xrf _) λhS=>g4 gt oo gI (xrf _) hS λv4 w4 F4 o4 h4=>⟨v4,F4,o4,rfl,h4.more oo ⟨λq=>⟨λ_=>q.2,λ_=>oo,λ_=>oo⟩,λq=>⟨trivial,q.k1 h1⟩⟩⟩
   refine zag<|zuk (Q:=x.kind=6\/x.kind=7) .inl (λhQ=>?_) (λgx _=>?_)
   . refine zaa zhd ?_;refine zab zb9 (zdN gH) (xrf _) λhz gI=>zaa zbo<|zaq ty9 (zaT gs) (xrf _) λhS=>g4 gt oo gI (xrf _) hS λv4 w4 F4 o4 h4=>⟨v4,F4,o4,rfl,h4.more oo ⟨λq=>⟨λ_=>oo,λ_=>q.2,λ_=>oo⟩,λq=>⟨trivial,q.k6 hQ⟩⟩⟩
   refine zag<|br (λh7=>gx (.inr h7)) (λh7=>?_);refine zag<|zuk (Q:=x.kind=4\/x.kind=5) .inl (λhQ=>?_) (λgJ h4=>?_)
   . have gy:=zai w2;refine zab zfs gH gy λ_ hA=>zaa zbo<|zaq ty9 (zaT gs) gy λhS=>?_;refine (zl1 hA gy hB).mono ?_;rintro _ w4 ⟨h8,hC⟩;refine ⟨h8,?_⟩;refine g4 ((gt.ext gy).ext h8) oo hC.is (xrf _) hS λv4 w4 F4 o4 h4=>⟨v4,F4,o4,rfl,h4.more oo ⟨λq=>⟨λ_=>oo,λ_=>oo,λ_=>q.2⟩,λq=>⟨trivial,q.k4 hQ⟩⟩⟩
   refine zag<|br (λh5=>gJ (.inr h5)) λh5=>⟨v1,F1,o1,rfl,gt.more oo ⟨λq=>⟨λ_=>oo,λ_=>oo,λ_=>oo⟩,λq=>trivial⟩⟩
 rintro _ w6 ⟨v6,F6,o6,hu,O⟩;try replace hu:=zbv hu
 rw [hu];have hD:=O.old g3 lP;have e6:=O.old e2 ll;have gK:=gF.keep (O.keep gE gG);have gL:=Z.keep (O.keep g0 V);have g1:=gK.at e6;refine JOIN.mk (λus w'=>∃ v3 F3 o3,us=[v3]/\UnkS F1 w2 o1 (KnS (scP p) x/\RdK (scP p) x) 65 v3 F3 o3 w') ?_ ?_
 . have hF:¬(x.kind=1\/x.kind=2\/x.kind=3)->RdK (scP p) x:=λhq=>by
     unfold RdK;rcases gD.one with q | q | q | q | q
     . have:=q.1;omega
     . rw [q.2.2.1,zpZ];simp
     . rw [q.2.2.1,zpZ];simp
     . have:=q.1;omega
     have:=q.1;omega
   refine zaa zdl<|zad ty3 (zb2 g1) (xrf _) λhI=>zag<|zuk (Q:=x.kind=1\/x.kind=2\/x.kind=3) .inl (λhQ=>?_) (λgx h1=>?_)
   . refine zaa zce ?_;refine zab zcD (zbz g1) (xrf _) λ_ hG=>?_;refine (zhh hG (xrf _)).mono ?_;rintro hH w7 ⟨gf,_,M64,hJ⟩;have:=zlH x.term;have:=gf.size;have:=O.chg.size;have h9:∀ c∈F6,c<w6.heap.size:=O.row.lt;have hL:UnkS F6 w7 o6 True 0 v6 F6 o6 w7:=UnkS.refl (O.row.keep λc hc=>gf.heap (h9 c hc)) O.nd;have gM:=gL.ext gf;have hM:=hD.trans gf;have hN:=O.low lP g3.size;have gN:=O.not g0 V;have:=O.len;refine zar (zbf x.term).length (λq us w'=>∃ v3 F3 o3,us=[v3,.int .i64 (q:Int)]/\UnkS F6 w7 o6 (∀ s∈(zbf x.term).take q,s∈p.globals) q v3 F3 o3 w'/\q<=(zbf x.term).length) 0 (z0 _) ⟨v6,F6,o6,rfl,hL.more oo ss,qbt _⟩ ?_;rintro q mq _ w8 _ ⟨v8,F8,o8,hu,g2,_⟩;obtain ⟨gA,gB⟩:=zcv hu;clear hu;rw [gA,gB];have gg:Is w8 hH (zbf x.term):=(M64.keep λc hc=>g2.keep (M64.lt c hc) λhm=>by have:=hJ c hc;have:=h9 c hm;omega).is;have hO:=g2.old hM hN;have gO:=gM.keep (g2.keep oo gN);have:=g2.len;refine zae u26 gg<|zah<|br (λhj=>?_) (λhl=>?_)
     rotate_left
     . refine ⟨v8,F8,o8,rfl,((O.ext gf).trans g2).more oo ?_⟩;rw [qai oo];exact Iff.rfl
     have hq:q<(zbf x.term).length:=oo;have gh:=zai w8;refine zaa zgX<|zab zb9 (zc5 (gO.at hO)) gh λ_ hR=>zac u26 ty9 gg hq λ_ _ gP=>zaq ty9 gP gh λhS=>?_;refine (zqk hR (gh) ((g2.ext gh).row) g2.nd hS oo).mono ?_;rintro hT _ ⟨hV,hW,gQ⟩;refine zaw<|⟨mq-1,oo,q+1,oo,hT,hV,hW,rfl,((g2.ext gh).trans gQ).more oo ?_,oo⟩;rw [tk hq];simp only [qae,qay];exact ⟨λhh s hs=>hs.elim (hh.1 s) λe=>e▸hh.2,λhh=>⟨λs hs=>hh s (.inl hs),hh _ (.inr rfl)⟩⟩
   refine zaa zdl<|zad ty3 (zb2 g1) (xrf _) λhI=>zag<|br (λh2=>gx (.inr (.inl h2))) (λh2=>?_);refine zaa zdl<|zad ty3 (zb2 g1) (xrf _) λhI=>zag<|br (λh3=>gx (.inr (.inr h3))) λh3=>⟨v6,F6,o6,rfl,O.more oo ⟨λq=>⟨q,hF oo⟩,λq=>q.1⟩⟩
 rintro _ _ ⟨_,_,_,hu,C⟩;try replace hu:=zbv hu
 rw [hu];have gi:=C.old g3 lP;have ha:=C.old e2 ll;have:=C.len;have gR:=gF.keep (C.keep gE gG);have gj:=Z.keep (C.keep g0 V)
 have hd:∀ y:List DStmt,(0<n\/y=[])->zD4 p (n-1) y:=λy hy=>by
   rcases hy with hy | hy
   . exact ih (n-1) y oo
   rw [hy];exact zmX
 have:=C.chg.size;refine zbd zfs gj gi (xrf _) λ_ hX=>zaa zcf<|zbd zed (zrF gR) ha (xrf _) λ_ hY=>?_;refine (hd x.body (gY.imp id λh=>h.1) hX gi hY ha C.row C.nd (C.low lP g3.size) (C.low ll e2.size) ht oo).mono ?_;rintro _ _ ⟨_,_,gl⟩;have D:=C.trans gl;have gn:=D.old g3 lP;have he:=D.old e2 ll;have:=D.len;have gS:=gF.keep (D.keep gE gG);have gp:=Z.keep (D.keep g0 V);refine zbd zfs gp gn (xrf _) λ_ hZ=>zaa zca<|zbd zed (zrG gS) he (xrf _) λ_ j0=>?_;refine (hd x.els (gY.imp id λh=>h.2) hZ gn j0 he D.row D.nd (D.low lP g3.size) (D.low ll e2.size) hv oo).mono ?_;rintro j1 _ ⟨j2,j3,gq⟩;have U:=D.trans gq;refine zaw ?_;have j4:=M.trans (⟨(g5.chg F1).trans U.chg,U.row,U.nd,λc hc=>(U.sub c hc).imp id λh=>oo,U.iff_,U.len⟩:UnkS F1 w1 o1 _ _ _ _ _ _);refine ⟨m-1,oo,k+1,oo,j1,j2,j3,_,rfl,j4.more (lr _) ?_,oo,oo⟩;rw [tk hk];simp only [qae,qay,<-hx];have gr:=zwD (c:=scP p) gD;constructor
 . rintro ⟨q1,⟨⟨q2,q3⟩,q4⟩,q5⟩ y hy;rcases hy with hy | rfl
   . exact q1 y hy
   exact gr.2 ⟨q2,q3,q4,q5⟩
 intro q;obtain ⟨q2,q3,q4,q5⟩:=gr.1 (q x (.inr rfl));exact ⟨λy hy=>q y (.inl hy),⟨⟨q2,q3⟩,q4⟩,q5⟩
theorem zi3 {p:DProg} (g0:p.procs.length<=1000):∀ (n:Nat) (l:List DStmt),zD4 p n l
 | 0,l=>zhk (n:=0) (l:=l) g0 (λm l h=>absurd h oo)
 | n + 1, l => zhk (n := n + 1) (l := l) g0 λm l h => by
     obtain rfl:m=n:=oo;exact zi3 g0 m l
def zql {p:DProg} (h:Is W v p) (e:Ext W w) (hp:ShP p):CALL tp 38 [v] w λr w'=>Ext w w'/\r=.bool true:=by
 obtain ⟨_,f2⟩:=hp.n;refine co (g:=kf [] [(4,35184371040268,[3])] []) Tryz.func38 ?_;refine zbk h e λw1 g9 hA=>zaa zgX<|zab zb9 (zc5 hA) (xrf _) λ_ h5=>?_;refine (zfe h5 (xrf _)).mono ?_;rintro _ _ ⟨g3,rfl⟩;refine zau<|zaN (λhc=>by rw [hp.gok] at hc;cases hc) (λ_=>?_);refine zaa zhd<|zab zb9 (zdN hA) g3 λ_ gb=>?_;refine (zfe gb g3).mono ?_;rintro _ _ ⟨gc,rfl⟩;refine zau<|zaN (λhc=>by rw [hp.lok] at hc;cases hc) (λ_=>?_);have g0:=g3.t gc;refine zaa zde<|zab zkD (zbJ hA) g0 λ_ gd=>zae u27 gd<|zbZ<|br (λhc=>oo) (λ_=>?_);refine zar p.procs.length (λk us w'=>us=[.int .i64 (k:Int)]/\Ext w1 w'/\k<=p.procs.length) 0 (z0 _) ⟨rfl,g0,qbt _⟩ ?_;rintro k m _ w4 _ ⟨hu,C,_⟩;try replace hu:=zbv hu
 rw [hu];refine zaa zde<|zab zkD (zbJ hA) C λ_ gf=>zae u27 gf<|zah<|br (λ_=>?_) (λ_=>⟨g9.t C,rfl⟩);have hk:k<p.procs.length:=oo;have g1:p.procs[k]∈p.procs:=qac hk;refine zaa zde<|zab zkD (zbJ hA) C λ_ gg=>zac u27 ziL gg hk λ_ _ g4=>zaa znc<|zaq ty9 (ze5 g4) C λ_=>?_;refine (specIsName_ok (w:=w4)).mono ?_;rintro _ _ ⟨g2,rfl⟩;refine zau<|zaN (λhc=>by rw [f2 _ (qa3.2 ⟨_,g1,rfl⟩)] at hc;cases hc) (λ_=>?_);refine zaa zde<|zab zkD (zbJ hA) (C.t g2) λ_ gh=>zac u27 ziL gh hk λ_ _ g5=>zaa zlc<|zab zed (zhC g5) (C.t g2) λ_ gi=>?_;refine (zzf gi (C.t g2) (hp.b _ g1)).mono ?_;rintro _ _ ⟨gj,rfl⟩;refine zau<|zaN (λhc=>by cases hc) (λ_=>?_);refine zaw<|⟨m-1,oo,k+1,oo,rfl,C.t (g2.t gj),oo⟩
def zqm {p:DProg} (h:Is W v p) (e:Ext W w) (hp:ShP p):CALL tp 55 [v] w λr w'=>Ext w w'/\∃ o:List ByteArray,Is w' r o/\(o=[]↔KnP p):=by
 obtain ⟨_,_⟩:=hp.n;refine co (g:=kf [] [(3,67108824,[3,4])] [(5,[0,1,2,3,4,5,6,7,8,9],0)]) Tryz.func55 ?_;refine za2 zfs rfl h e λ_ g9 _ gf=>?_;have:=g9.size;have:=gf.lt;have gg:=zcV h gf rfl;have e1:=e.trans g9;refine zaI (α:=ByteArray) u26 ty9 λv5 w2 g3 _=>?_;have:=g3.size;have gh:UnkS [] w2 [] True 0 (.slice (some v5) 0 0) [] [] w2:=UnkS.refl (.inl ⟨_,rfl,rfl,rfl⟩) qas;have e2:=e1.trans g3;refine zar p.procs.length (λk us w'=>∃ v3 F3 o3,us=[v3,.int .i64 (k:Int)]/\UnkS [] w2 [] (∀ x∈p.procs.take k,∀ y∈x.body,StR (scP p) 6 y) (4000*k) v3 F3 o3 w'/\k<=p.procs.length) 0 (z0 _) ⟨_,[],[],rfl,gh.more oo ss,qbt _⟩ ?_;rintro k m _ w3 _ ⟨v3,F3,o3,hu,g4,_⟩;obtain ⟨gi,gj⟩:=zcv hu;rw [gi,gj];have C:Ext w2 w3:=g4.chg.ext;have e3:=e2.trans C;have D:=(gg.ext g3).ext C;refine zbd zfs D e3 (xrf _) λv6 h6=>?_;refine (zql h6 e3 hp).mono ?_;rintro _ w4 ⟨M,rfl⟩;have e4:=e3.trans M;have gb:=(D.ext M).at e4;have O:=g4.ext M;refine zaN (λ_=>?_) (λhc=>by cases hc);refine zaa zde<|zab zkD (zbJ gb) (xrf _) λ_ gl=>zae u27 gl<|zah<|br (λ_=>?_) (λ_=>?_)
 rotate_left
 . refine ⟨g9.t (g3.t (C.t M)),o3,O.row.own.is,?_⟩;rw [O.iff_,qai oo];exact ⟨λh=>h.2,λh=>⟨rfl,h⟩⟩
 have hk:k<p.procs.length:=oo;have gc:p.procs[k]∈p.procs:=qac hk;have g5:=zai w4;have e5:=e4.trans g5;have g0:=(D.ext M).ext g5;refine zbd zfs g0 e5 (xrf _) λ_ gn=>zaa zde<|zbd zkD (zDK g0) e5 (xrf _) λ_ gp=>zac u27 ziL gp hk λ_ _ gd=>zaa zlc<|zab zed (zhC gd) e5 λ_ gq=>?_;have hb:=hp.b _ gc;have g1:=g4.len;have g2:∀ b∈F3,W.heap.size<=b:=g4.low (λ_ hc=>by cases hc) e2.size;refine (zi3 oo 6 _ gn e5 gq e5 (O.ext g5).row O.nd g2 g2 hb.1 (by simp at g1;have:=hb.2;omega)).mono ?_;rintro v6 _ ⟨F6,o6,gr⟩;refine zaw<|⟨m-1,oo,k+1,oo,v6,F6,o6,rfl,((O.ext g5).trans gr).more (by have:=hb.2;omega) ?_,oo⟩;rw [tk hk];simp only [qae,qay];exact ⟨λhh x hx=>hx.elim (hh.1 x) λe=>e▸hh.2,λhh=>⟨λx hx=>hh x (.inl hx),hh _ (.inr rfl)⟩⟩
def zl2 {p:DProg}  (h0:Is W0 v0 p) (e0:Ext W0 w)  :
   CALL tp 56 [v0,.string s] w λr w'=>Ext w w'/\(r=.int .i64 (plc s (p.procs.map DProc.name))):=by
 refine co (g:=kf [] [(2,4194288,[5])] []) Tryz.func56 ?_;refine za2 zfs rfl h0 e0 λg0 y1 g1 _=>zar (p.procs.length) (λk us w'=>us=[.int .i64 (k:Int)]/\Ext g0 w'/\(s∉(p.procs.map DProc.name).take k)) (0) oo ⟨ss,xrf g0,ss⟩ ?_;rintro k m2 _ _ _ ⟨hu,y2,C⟩;try replace hu:=zbv hu
 try rw [hu]
 try clear hu
 refine zaa zde<|zab zkD (zbJ g1) y2 λ_ h8=>?_;have:=zan h8;refine zae u27 h8<|zah<|br (λc1=>?_) (λc1=>?_)
 . refine zaa zde ?_;refine zab zkD (zbJ g1) y2 λ_ g2=>zac u27 ziL g2 oo λ_ _ g3=>zaa znc<|zaq ty9 (ze5 g3) y2 λ_=>zat<|br (λc2=>?_) (λc2=>?_)
   . refine ⟨(y1.t y2),?_⟩;rw [zsY (k:=k) (by rw [qaD];omega) C (by rw [qbM];assumption)]
   refine zaw<|⟨m2-1,oo,k+1,oo,ss,y2,?_⟩;refine zdB (by rw [qaD];omega) C ?_;rw [qbM];assumption
 refine ⟨(y1.t y2),?_⟩;rw [zox (by rw [qai (by rw [qaD];omega)] at C;exact C)]
def zhl {p:DProg} (h:Is W v p) (e:Ext W w) (hp:ShP p):CALL tp 20 [v] w λr w'=>Ext w w'/\r=.int .i64 (zcT p):=by
 obtain ⟨_,_⟩:=hp.n;refine co (g:=kf [] [] []) Tryz.func20 ?_;refine zbk h e λw1 g0 hA=>zab zfs hA (xrf _) λ_ h4=>?_;refine (zql h4 (xrf _) hp).mono ?_;rintro _ _ ⟨g1,rfl⟩;refine zau<|zaN (λhc=>by cases hc) (λ_=>?_);refine zaa zgX<|zab zb9 (zc5 hA) g1 λ_ h9=>?_;refine (zem h9 g1).mono ?_;rintro _ _ ⟨g9,rfl⟩;have D:=g1.t g9;have g2:∀ {w':wD},Ext w1 w'->(¬p.globals.Nodup\/¬p.locks.Nodup\/¬(p.procs.map DProc.name).Nodup)->Ext w w'/\Value.int .i64 2=.int .i64 (zcT p):=λhx hq=>⟨g0.t hx,by unfold zcT;rw [qah hq]⟩;refine zuk (Q:=¬p.globals.Nodup\/¬p.locks.Nodup\/¬(p.procs.map DProc.name).Nodup) .inl (λhq=>g2 D hq) (λ_ c1=>?_);refine zaa zhd<|zab zb9 (zdN hA) D λ_ gb=>?_;refine (zem gb D).mono ?_;rintro _ _ ⟨gc,rfl⟩;have M:=D.t gc;refine br (λhc=>g2 M (.inr (.inl hc))) (λc2=>?_);refine zab zfs hA M λ_ gd=>?_;refine (zl1 gd M oo).mono ?_;rintro _ _ ⟨gf,gg⟩;refine (zem gg.is (xrf _)).mono ?_;rintro _ _ ⟨gh,rfl⟩;have O:=M.t (gf.t gh);refine br (λhc=>g2 O (.inr (.inr hc))) (λc3=>?_);have g3:¬(¬p.globals.Nodup\/¬p.locks.Nodup\/¬(p.procs.map DProc.name).Nodup):=by simp only [not_or];exact ⟨c1,c2,c3⟩
 refine zab zfs hA O λ_ gi=>?_;refine (zqm gi O hp).mono ?_;rintro _ _ ⟨gj,_,gl,ho⟩;have C:=O.t gj;refine zae u26 gl<|zbZ<|br (λhc=>⟨g0.t C,?_⟩) (λhc=>?_)
 . unfold zcT;rw [qad g3,qah λhk=>by rw [ho.2 hk] at hc;simp at hc]
 have g4:KnP p:=ho.1 (qaj oo);refine zab zfs hA C λ_ gn=>?_;refine (zl2 gn C).mono ?_;rintro _ _ ⟨g5,rfl⟩;refine zah ?_;have hm:=zfT (s:=zg5) (l:=p.procs.map DProc.name);refine br (λhc=>⟨g0.t (C.t g5),?_⟩) (λhc=>⟨g0.t (C.t g5),?_⟩)
 . unfold zcT;rw [qad g3,qad (by simp only [qby];exact g4),qah λgp=>by have:=hm.2 gp;unfold zg5 at this;omega]
 unfold zcT;rw [qad g3,qad (by simp only [qby];exact g4),qad (by simp only [qby];exact hm.1 (by unfold zg5;omega))]
end Go.Proofs.YtkgiigmcbgifdaaGreatDoor
namespace Go.Sh
open Rep (rep)
section
variable {P:pG} {w:wD} {α:Type} [Rep α] [Flat α] {b o n cap k:Nat} {l:List α}
def ze6 {F:List Nat} {v:vL} (hm:Mine F w v l) (hl:l≠[]):∃ b o cap xs,v=.slice (some ⟨b,o,none⟩) l.length cap/\F=[b]/\l.length<=cap/\cap<=maxLen/\Cells [] w xs l/\w.rangeAt b o xs/\(∃ c e,w.heap[b]?=some (.cells c e (0,0))):=by
 obtain ⟨⟨_,⟨_,cap,_,xs,rfl,h1,h2,hc,h4⟩,rfl⟩,_,hw⟩:=hm;rcases h4 with ⟨h4,_⟩ | ⟨b,o,rfl,rfl,hr,_⟩
 . exact absurd h4 hl
 have g0:=Cells.flat (xs:=xs) hc;subst g0;exact ⟨b,o,cap,xs,rfl,rfl,h1,h2,hc,hr,hw b ss⟩
def zgK {xs:List vL} (h1:l.length<=cap) (h2:cap<=maxLen) (hc:Cells [] w xs l) (hr:w.rangeAt b o xs) (hw:∃ c e,w.heap[b]?=some (.cells c e (0,0))):Mine [b] w (.slice (some ⟨b,o,none⟩) l.length cap) l:=
 ⟨⟨_,⟨some ⟨b,o,none⟩,cap,[],xs,rfl,h1,h2,hc,.inr ⟨b,o,rfl,rfl,hr,by obtain ⟨c,e,h⟩:=hw;exact (Array.getElem?_eq_some_iff.1 h).1⟩⟩,rfl⟩,ss,λi hi=>by simp at hi;subst hi;exact hw⟩
def zCm {t e:TypeId} {by_:Nat} {K:vL->Prop} (ht:P.underlying t=some (.slice e)) (he:tyI P e=some (Rep.size α,by_,Rep.agg α)) (hk:k<=n) (hn:n<=cap) (kk:K (.slice (some ⟨b,o,none⟩) k cap)) :
   RD P (Instr.sliceAt t (.slice (some ⟨b,o,none⟩) n cap) none (some (.int .i64 (k:Int))) none) w K:=by
 refine za9 (λw' _=>?_) kk
 have g0:(Instr.sliceBounds true n cap none (some (.int .i64 (k:Int))) none).run P w'=.ok (0,k,cap) w':=by
   have h5:(k:Int)<=(cap:Int):=oo;simp [Instr.sliceBounds,Instr.sliceBound,asIntOf,h5];intro _;omega
 simp only [Instr.sliceAt,Instr.slice,Sem.run_bind,run_underlying ht,Result.andThen_ok,g0,za6 he];simp [Addr.add_mid]
def ztn {t e:TypeId} {by_:Nat} {K:vL->Prop} (ht:P.underlying t=some (.slice e)) (he:tyI P e=some (Rep.size α,by_,Rep.agg α)) (hk:k<=n) (hn:n<=cap) (kk:K (.slice (if cap=k then some ⟨b,o,none⟩ else some ⟨b,o+k*Rep.size α,none⟩) (n-k) (cap-k))) :
   RD P (Instr.sliceAt t (.slice (some ⟨b,o,none⟩) n cap) (some (.int .i64 (k:Int))) none none) w K:=by
 refine za9 (λw' _=>?_) kk
 have hb:(Instr.sliceBounds true n cap (some (.int .i64 (k:Int))) none none).run P w'=.ok (k,n,cap) w':=by
   have:(k:Int)<=(n:Int):=oo;simp [Instr.sliceBounds,Instr.sliceBound,asIntOf,this];try (intro _;omega)
 simp [Instr.sliceAt,Instr.slice,run_underlying ht,hb,za6 he,Addr.add_mid]
def zto {t e:TypeId} {by_ j:Nat} {K:vL->Prop} (ht:P.underlying t=some (.slice e)) (he:tyI P e=some (Rep.size α,by_,Rep.agg α)) (hk:k<=j) (hn:j<=cap) {a:Option Addr} (kk:∀ a',(k≠0->a'=a)->K (.slice a' k j)) :
   RD P (Instr.sliceAt t (.slice a n cap) none (some (.int .i64 (k:Int))) (some (.int .i64 (j:Int)))) w K:=by
 have hb:∀ w',(Instr.sliceBounds true n cap none (some (.int .i64 (k:Int))) (some (.int .i64 (j:Int)))).run P w'=.ok (0,k,j) w':=λw'=>by
   have h1:(j:Int)<=(cap:Int):=oo;have h2:(k:Int)<=(j:Int):=oo;simp [Instr.sliceBounds,Instr.sliceBound,asIntOf,h1,h2];try (intro _;omega)
 have:∃ a',(∀ w',(Instr.sliceAt t (.slice a n cap) none (some (.int .i64 (k:Int))) (some (.int .i64 (j:Int)))).run P w'=.ok (.slice a' k j) w')/\(k≠0->a'=a):=by
   cases a with
   | none=>exact ⟨none,λw'=>by simp [Instr.sliceAt,Instr.slice,run_underlying ht,hb,za6 he],λ_=>rfl⟩
   | some a=>exact ⟨some a,λw'=>by simp [Instr.sliceAt,Instr.slice,run_underlying ht,hb,za6 he,Addr.add],λ_=>rfl⟩
 obtain ⟨a',h1,h2⟩:=this;exact za9 (λw' _=>h1 w') (kk a' h2)
theorem zw9 [RepZ α] {t e ty:TypeId} {K:vL->wD->Prop} (ht:P.underlying t=some (.slice e)) (hz:zcq P e=some (RepZ.zc α)) (hm:Mine [b] w (.slice (some ⟨b,o,none⟩) n cap) l) (hl:l.length=n) (hk:k<=n) (hk0:0<k) (hn:n<=cap)
   (kk:∀ w',Chg [b] w w'->Mine [b] w' (.slice (some ⟨b,o,none⟩) k cap) (l.take k)->K (.tuple #[]) w') :
   OP P (Builtin.clear_ #[t] ty [Value.slice (if cap=k then some ⟨b,o,none⟩ else some ⟨b,o+k*Rep.size α,none⟩) (n-k) (cap-k)].toArray) w K:=by
 have gf:l≠[]:=λe=>by rw [e] at hl;simp at hl;omega
 obtain ⟨_,_,_,xs,hv,_,_,h2,hc,hr,hw⟩:=ze6 hm gf;simp only [Value.slice.injEq,qaq,Addr.mk.injEq] at hv;obtain ⟨⟨rfl,rfl,_⟩,_,rfl⟩:=hv;have g2:(l.take k).length=k:=by simp;omega
 have e0:l=l.take k++l.drop k:=by simp
 have gb:=hc;rw [e0] at gb;obtain ⟨_,_,x1,x2,gg,rfl,c1,_⟩:=Cells.split gb;obtain ⟨rfl,rfl⟩:=qct.1 gg.symm;have gh:x1.length=k*Rep.size α:=by rw [Cells.len c1,g2]
 have gc:=(zaP hr).1;by_cases hnk:n=k
 . subst hnk;refine ⟨.tuple #[],w,?_,kk w (Chg.refl _ _) ?_⟩
   . rw [Nat.sub_self];by_cases g1:cap=n
     . rw [qah g1];simp [Builtin.clear_,run_underlying ht]
     rw [qad g1];simp [Builtin.clear_,run_underlying ht]
   have:=zgK (l:=l.take n) (cap:=cap) oo h2 c1 gc hw;rwa [g2] at this
 have g1:¬cap=k:=oo;rw [qad g1];obtain ⟨c,e',he⟩:=hw;unfold zcq at hz;cases hi:P.info? e with
 | none=>simp [hi] at hz
 | some i=>
   simp only [hi] at hz;obtain ⟨z,gi,gd⟩:=qaS.1 hz
   have gj:z.cells.size=Rep.size α:=by
     rw [<-qaK,gd];exact Rep.len (RepZ.zr (α:=α) w)
   have g0:=Rep.pos (α:=α);obtain ⟨m,gl⟩:∃ m,n-k=m+1:=⟨n-k-1,oo⟩;have gn:(Builtin.zeroCells z.cells (n-k)).toList.length=(n-k)*Rep.size α:=by simp [Builtin.zeroCells,gj]
   have g3:o+(k*Rep.size α)+0+(Builtin.zeroCells z.cells (n-k)).toList.length<=c.size:=by
     rw [gn];have hx:(x1++x2).length=n*Rep.size α:=by rw [Cells.len hc,hl]
     have C:=hr (n*Rep.size α-1) ((x1++x2)[n*Rep.size α-1]'(by rw [hx];have:=Nat.mul_pos (show 0<n by omega) g0;omega)) (List.getElem?_eq_getElem _);simp only [World.cell?,he] at C;have:=(Array.getElem?_eq_some_iff.1 (by simpa using C)).1;have h3:(n-k)*Rep.size α+k*Rep.size α=n*Rep.size α:=by rw [<-qbu];congr 1;omega
     have h4:=Nat.mul_pos (show 0<n by omega) g0;omega
   have g4:∀ v∈(Builtin.zeroCells z.cells (n-k)).toList,v.oneCell'=true:=λv hv=>by
     simp only [Builtin.zeroCells,Array.toList_map,Array.toList_range,qa3,qaL] at hv;obtain ⟨i,_,rfl⟩:=hv;have g5:i%z.cells.size<z.cells.size:=Nat.mod_lt _ oo;have e3:z.cells[i%z.cells.size]! = z.cells[i%z.cells.size]'g5:=by simp [g5]
     rw [e3];refine Rep.one (RepZ.zr (α:=α) w) _ ?_;rw [<-gd];exact Array.getElem_mem_toList g5
   have g9:=run_storeCells_at (P:=P) b (o+k*Rep.size α) e' (Builtin.zeroCells z.cells (n-k)).toList 0 c w he g3 g4;simp only [qck] at g9;refine ⟨.tuple #[],_,?_,kk _ (zec w b (c.toList.take (o+k*Rep.size α)++(Builtin.zeroCells z.cells (n-k)).toList++c.toList.drop (o+k*Rep.size α+(Builtin.zeroCells z.cells (n-k)).toList.length)).toArray) ?_⟩
   . rw [gl] at g9 ⊢;simp [Builtin.clear_,run_underlying ht,zeroValue,typeInfo,hi,gi,g9]
   have hB:=setRow_heap w b c (c.toList.take (o+k*Rep.size α)++(Builtin.zeroCells z.cells (n-k)).toList++c.toList.drop (o+k*Rep.size α+(Builtin.zeroCells z.cells (n-k)).toList.length)).toArray e' _ he;have:=zgK (w:=w.setRow b (c.toList.take (o+k*Rep.size α)++(Builtin.zeroCells z.cells (n-k)).toList++c.toList.drop (o+k*Rep.size α+(Builtin.zeroCells z.cells (n-k)).toList.length)).toArray) (b:=b) (o:=o) (l:=l.take k) (cap:=cap) (xs:=x1) oo h2 (c1.keep ss) (λj v hv=>?_) ⟨_,_,hB⟩
   . rwa [g2] at this
   have hj:=(List.getElem?_eq_some_iff.1 hv).1;rw [gh] at hj;have h5:=gc j v hv;simp only [World.cell?,he] at h5;have h6:c[o+j]?=some v:=by simpa using h5
   simp only [World.cell?,hB];simp only [qcm,qa2,if_false,List.getElem?_toArray];rw [qaA,List.getElem?_append_left (by simp;have:=(Array.getElem?_eq_some_iff.1 h6).1;omega),List.getElem?_take,qah oo];simpa using h6
end
end Go.Sh
namespace Go.Proofs.YtkgiigmcbgifdaaGreatDoor
open Go Go.Sh Go.Proofs
open Rep (rep)
set_option maxRecDepth 20000 in
theorem zl3 {w w0 w1:wD} {K:vL->Prop} {x y:Operand} {v1 v2:vL} {a b:DRace} (h1:Is w0 v1 a) (h2:Is w1 v2 b) (k:K (.bool (decide (a=b)))):RD tp (bin .eql 46 x y v1 v2) w K:=by
  obtain ⟨rfl,_⟩:=zjB.1 h1;obtain ⟨rfl,_⟩:=zjB.1 h2;refine za9 (λw' _=>?_) k;have hg:tp.eqGuardType tp.depth 46=false:=by kernel_rfl
  have e0:∀ xs ys w,(eqGuard .eql 46 x y (.agg xs) (.agg ys)).run tp w=.ok () w:=λxs ys w=>run_eqGuard_agg (P:=tp) w .eql 46 x y xs ys hg;have e1:∀ xs ys w,(Op.equalIn 10000 46 (.agg xs) (.agg ys)).run tp w=(Op.eqFields 9999 xs ys (tp.fieldsOf 46).toList).run tp w:=λxs ys w=>run_equalIn_struct w 9999 46 xs ys kK kK;have e2:(tp.fieldsOf 46).toList.map (λf=>(f.name,f.type,f.offset))=[("Global", 3,0),("A", 3,1),("B", 3,2)]:=by kernel_rfl
  have e3:∀ (c d:Int) (w:wD),(Op.equalIn 9999 3 (.int .i64 c) (.int .i64 d)).run tp w=.ok (c == d) w:=λc d w=>run_equalIn_int w 9998 3 .i64 .i64 c d u3;have hd:(a=b)↔(a.g=b.g/\a.a=b.a/\a.b=b.b):=⟨λe=>by rw [e];exact ⟨rfl,rfl,rfl⟩,λ⟨x,y,z⟩=>by cases a;cases b;simp only at x y z;rw [x,y,z]⟩;generalize hF:(tp.fieldsOf 46).toList=fs at e1 e2
  match fs,e2 with
  | [f0,f1,f2],e2=>
    simp only [qbX,qcy,qa8,qaB,and_true] at e2;obtain ⟨⟨n0,t0,o0⟩,⟨n1,t1,o1⟩,⟨n2,t2,o2⟩⟩:=e2;have p0:∀ (a b c:vL) (w:wD),(part 3 #[a,b,c] 0).run tp w=.ok a w:=λa b c w=>by simp [part,zcd ty3]
    have p1:∀ (a b c:vL) (w:wD),(part 3 #[a,b,c] 1).run tp w=.ok b w:=λa b c w=>by simp [part,zcd ty3]
    have p2:∀ (a b c:vL) (w:wD),(part 3 #[a,b,c] 2).run tp w=.ok c w:=λa b c w=>by simp [part,zcd ty3]
    simp only [bin,Sem.run_bind,e0,Result.andThen_ok,run_eql_struct,e1,Op.eqFields,n0,n1,n2,t0,t1,t2,o0,o1,o2];simp only [ne_eq,String.reduceEq,not_false_eq_true,if_true,Sem.run_bind,p0,p1,p2,Result.andThen_ok,e3,Sem.run_ite,Sem.run_pure,hd];by_cases x0:a.g=b.g<;>by_cases x1:a.a=b.a<;>by_cases x2:a.b=b.b<;>simp [x0,x1,x2]
set_option maxRecDepth 20000 in
theorem zrP {w w0 w1:wD} {K:vL->Prop} {x y:Operand} {v1 v2:vL} {a b:DRace} (h1:Is w0 v1 a) (h2:Is w1 v2 b) (k:K (.bool (decide (a≠b)))):RD tp (bin .neq 46 x y v1 v2) w K:=by
  obtain ⟨rfl,_⟩:=zjB.1 h1;obtain ⟨rfl,_⟩:=zjB.1 h2;refine za9 (λw' _=>?_) k;have hg:tp.eqGuardType tp.depth 46=false:=by kernel_rfl
  have e0:∀ xs ys w,(eqGuard .neq 46 x y (.agg xs) (.agg ys)).run tp w=.ok () w:=λxs ys w=>run_eqGuard_agg (P:=tp) w .neq 46 x y xs ys hg;have e1:∀ xs ys w,(Op.equalIn 10000 46 (.agg xs) (.agg ys)).run tp w=(Op.eqFields 9999 xs ys (tp.fieldsOf 46).toList).run tp w:=λxs ys w=>run_equalIn_struct w 9999 46 xs ys kK kK;have e2:(tp.fieldsOf 46).toList.map (λf=>(f.name,f.type,f.offset))=[("Global", 3,0),("A", 3,1),("B", 3,2)]:=by kernel_rfl
  have e3:∀ (c d:Int) (w:wD),(Op.equalIn 9999 3 (.int .i64 c) (.int .i64 d)).run tp w=.ok (c == d) w:=λc d w=>run_equalIn_int w 9998 3 .i64 .i64 c d u3;have hd:(a=b)↔(a.g=b.g/\a.a=b.a/\a.b=b.b):=⟨λe=>by rw [e];exact ⟨rfl,rfl,rfl⟩,λ⟨x,y,z⟩=>by cases a;cases b;simp only at x y z;rw [x,y,z]⟩;generalize hF:(tp.fieldsOf 46).toList=fs at e1 e2
  match fs,e2 with
  | [f0,f1,f2],e2=>
    simp only [qbX,qcy,qa8,qaB,and_true] at e2;obtain ⟨⟨n0,t0,o0⟩,⟨n1,t1,o1⟩,⟨n2,t2,o2⟩⟩:=e2;have p0:∀ (a b c:vL) (w:wD),(part 3 #[a,b,c] 0).run tp w=.ok a w:=λa b c w=>by simp [part,zcd ty3]
    have p1:∀ (a b c:vL) (w:wD),(part 3 #[a,b,c] 1).run tp w=.ok b w:=λa b c w=>by simp [part,zcd ty3]
    have p2:∀ (a b c:vL) (w:wD),(part 3 #[a,b,c] 2).run tp w=.ok c w:=λa b c w=>by simp [part,zcd ty3]
    simp only [bin,Sem.run_bind,e0,Result.andThen_ok,run_neq_struct,e1,Op.eqFields,n0,n1,n2,t0,t1,t2,o0,o1,o2];simp only [ne_eq,String.reduceEq,not_false_eq_true,if_true,Sem.run_bind,p0,p1,p2,Result.andThen_ok,e3,Sem.run_ite,Sem.run_pure,hd];by_cases x0:a.g=b.g<;>by_cases x1:a.a=b.a<;>by_cases x2:a.b=b.b<;>simp [x0,x1,x2,hd]
end Go.Proofs.YtkgiigmcbgifdaaGreatDoor
namespace Go.Sh
open Rep (rep)
section
variable {w:wD}
end
end Go.Sh
namespace Go.Proofs.YtkgiigmcbgifdaaGreatDoor
open Go Go.Sh Go.Proofs
open Rep (rep)
variable {K:vL->Prop} {P:pG} {W w w0:wD} {ag:Bool} {hi lo:Nat} {u v:vL}
def zgf {α:Type} [Rep α] {l:List α} (h:OwnI lo hi w v l):∃ a n c,v=.slice a n c:=by
 obtain ⟨a,cap,_,_,hv,_⟩:=zdU h.is;exact ⟨a,_,cap,hv⟩
def zjS {α:Type} [Rep α] [Flat α] {t ty e:TypeId} {by_:Nat} {a:Option Addr} {src:vL} {m:List α} {K:VW} (ht:P.underlying t=some (.slice e)) (he:tyI P e=some (Rep.size α,by_,Rep.agg α))
   (hzc:(P.info? e).map (λi=>(i.zero.map (·.cells.size)))=some (some (Rep.size α))) (hs:Is w0 src m) (hx:Ext w0 w) (hm:m.length<=maxLen) (hb:m.length*by_<=140737488355328)
   (k:∀ v' w',Ext w w'->RowI w.heap.size w'.heap.size e w' v' m->K v' w'):OP P (Builtin.append_ #[t,t] ty [.slice a 0 0,src].toArray) w K:=
 zek (lo:=w.heap.size) (hi:=w.heap.size) (l:=([]:List α)) ht he hzc (zcg _ _ _ _ _) (lr _) hs hx (by simpa using hm) (by simpa using hb) λv' w' hc hr=>k v' w' ((xrf w).chgI hc (lr _)) (by simpa using hr)
def zl4 {t e:TypeId} {b a n cap sz by_ k:Nat} (ht:P.underlying t=some (.slice e)) (he:tyI P e=some (sz,by_,ag)) (hu:u=.slice (some ⟨b,a,none⟩) n cap) (hk:k<n) (kk:K (.pointer (some ⟨b,a+k*sz,none⟩))) :
   RD P (Instr.indexAt t u (.int .i64 (k:Int))) w K:=by
 subst hu;exact za9 (λ_ _=>by rw [zdL ht he oo oo];simp) kk
instance:Flat DRace:=⟨λh=>by obtain ⟨F1,F2,c1,c2,rfl,rfl,⟨rfl,_⟩,⟨F3,F4,c3,c4,rfl,rfl,⟨rfl,_⟩,⟨rfl,_⟩⟩⟩:=h;rfl⟩
section
variable {α:Type} [DecidableEq α]
def ddg (x:α):List α->List α
 | []=>[]
 | y :: l=>if y=x then ddg x l else y :: ddg y l
def ddp:List α->List α
 | []=>[]
 | x :: l=>x :: ddg x l
theorem zoR (y:α):∀ (l:List α) (x:α),ddg x (l++[y])=if y=l.getLastD x then ddg x l else ddg x l++[y]
 | [],x=>rfl
 | a :: l,x=>by
   rw [qbE,ddg,ddg,List.getLastD_cons];by_cases h:a=x
   . rw [qah h,qah h,zoR y l x,h]
   rw [qad h,qad h,zoR y l a];split<;>rfl
theorem zoS {l:List α} {k:Nat} (h0:0<k) (hk:k<l.length):ddp (l.take (k+1))=if l[k]=l[k-1] then ddp (l.take k) else ddp (l.take k)++[l[k]]:=by
 rw [tk hk];cases l with
 | nil=>simp at hk
 | cons x l=>
   obtain ⟨j,rfl⟩:∃ j,k=j+1:=⟨k-1,oo⟩;have:j<l.length:=by simpa using hk
   have e:(l.take j).getLastD x=(x :: l)[j+1-1]:=by
     rw [List.getLastD_eq_getLast?,List.getLast?_eq_getElem?,qao,qbH oo];cases j with
     | zero=>simp
     | succ j=>simp [List.getElem?_take];rw [List.getElem?_eq_getElem oo];rfl
   rw [List.take_succ_cons,qbE,ddp,ddp,zoR,e];split<;>rfl
end
def zuu {l:List DRace} (h:OwnI lo hi w v l) (hn:l.length<=1073741824) :
   CALL tp 157 [v] w λr w'=>ChgI lo hi w w'/\OwnI lo hi w' r (ddp l):=by
 obtain ⟨F,hM,hF⟩:=h;refine co (g:=kf [] [(4,1152921504606846012,[3]),(9,18014397972611112,[3,5])] [(6,[0,1,2,3,4,5,6,7,8,9],0),(11,[0,1,2,3,4,5,6,7,8,9],0)]) Tryz.func157 ?_;refine zae u38 hM.is<|zah<|br (λgl=>?_) (λgn=>?_)
 . refine ⟨ChgI.refl w,F,?_,hF⟩
   have:ddp l=l:=by
     match l,gl with
     | [],_=>rfl
     | [x],_=>rfl
     | _ :: _ :: _,h=>simp only [qam] at h;omega
   rw [this];exact hM
 have gp:l≠[]:=λe=>by rw [e] at gn;simp at gn
 obtain ⟨b,o,cap,_,rfl,rfl,h1,_,_,_,_⟩:=ze6 hM gp;have g3:=hM.is;refine zar l.length (λk us w'=>us=[.int .i64 (k:Int)]/\Ext w w'/\1<=k/\k<=l.length/\ddp (l.take k)=l.take k) 1 oo ⟨rfl,xrf w,lr _,oo,?_⟩ ?_
 . cases l with
   | nil=>exact absurd rfl gp
   | cons x l=>rfl
 rintro k0 mk _ w1 _ ⟨hu,g4,_,_,hd0⟩;try replace hu:=zbv hu
 rw [hu];refine zae u38 g3<|zah<|br (λgl=>?_) (λ_=>?_)
 case refine_2=>
   have:k0=l.length:=oo;subst this;rw [qaM] at hd0;rw [hd0];exact ⟨g4.toI,[b],hM.ext g4,hF⟩
 have hk:k0<l.length:=oo;have gE:=zai w1;have C:=g4.t gE;generalize World.drew1 w1=w2 at *;refine zac u38 zfY g3 hk λ_ _ gF=>zab zfY gF C λ_ gG=>zbp io ?_;rw [show ((k0:Int)-1)=((k0-1:Nat):Int) by omega];refine zac (i:=k0-1) u38 zfY g3 oo λ_ _ gH=>zab zfY gH C λ_ gI=>zl3 gG gI<|br (λgJ=>?_) (λg5=>?_)
 case refine_2=>refine zaw<|⟨mk-1,oo,k0+1,oo,rfl,C,oo,oo,?_⟩;rw [zoS oo hk,qad g5,hd0,<-tk hk]
 refine ztn (α:=DRace) u38 zfY oo h1 ?_;rw [qad oo];have e3:Rep.size DRace=3:=rfl;rw [e3]
 refine zar (l.length-k0) (λk2 us w'=>∃ (k:Nat) (cur:List DRace),us=[.int .i64 (k:Int),.int .i64 (k2:Int)]/\Chg [b] w w'/\Mine [b] w' (.slice (some ⟨b,o,none⟩) l.length cap) cur/\cur.length=l.length/\1<=k2/\k2<=l.length-k0/\k0<=k/\k+1<=k0+k2 /\
     cur.take k=ddp (l.take (k0+k2))/\∀ j,k<=j->cur[j]?=l[j]?) 1 oo
   ⟨k0,l,rfl,C.chg _,hM.ext C,rfl,lr _,oo,lr _,oo,by rw [zoS oo hk,qah gJ,hd0],λ_ _=>rfl⟩ ?_
 rintro k2 gq _ w3 _ ⟨k,cur,gK,gr,gs,O,_,_,gL,_,g1,D⟩;obtain ⟨g9,gb⟩:=zcv gK;rw [g9,gb];refine za9 (v:=.int .i64 ((l.length-k0:Nat):Int)) (λw' _=>by simp [Builtin.len_,run_underlying u38];rfl)<|zah<|br (λ_=>?_) (λ_=>?_)
 . have hp:k0+k2<l.length:=oo;have gt:=zai w3;have gc:=gs.ext gt;have gx:=gr.trans (gt.chg _);generalize World.drew1 w3=w4 at *;have gd:cur≠[]:=λe=>by rw [e] at O;simp at O;omega
   obtain ⟨_,_,_,_,gy,_,_,_,gf,gg,_⟩:=ze6 gc gd;simp only [Value.slice.injEq,qaq,Addr.mk.injEq] at gy;obtain ⟨⟨rfl,rfl,_⟩,_,rfl⟩:=gy;have gz:∀ i (hi:i<cur.length),At w4 b (o+i*3) cur[i]:=λi hi=>gf.at gg hi
   have g0:∀ i (hi:i<l.length) (gA:k<=i),cur[i]'(by omega)=l[i]:=λi hi gA=>by
     have:=D i gA;rw [List.getElem?_eq_getElem oo,List.getElem?_eq_getElem hi] at this;exact qco this
   have gh:=gz (k0+k2) oo;have gB:=gz (k0+k2-1) oo;rw [g0 _ hp oo] at gh;rw [g0 _ oo oo] at gB;refine zl4 (k:=k2) u38 zfY rfl oo ?_;rw [show o+k0*3+k2*3=o+(k0+k2)*3 by omega];refine zab zfY gh (xrf _) λ_ gM=>zbp io ?_;rw [show ((k2:Int)-1)=((k2-1:Nat):Int) by omega];refine zl4 (k:=k2-1) u38 zfY rfl oo ?_;rw [show o+k0*3+(k2-1)*3=o+(k0+k2-1)*3 by omega];refine zab zfY gB (xrf _) λ_ gN=>zrP gM gN ?_;have gC:=zoS (l:=l) (k:=k0+k2) oo hp;refine br (λgi=>?_) (λM=>?_)
   . refine zl4 (k:=k2) u38 zfY rfl oo ?_;rw [show o+k0*3+k2*3=o+(k0+k2)*3 by omega];refine zab zfY gh (xrf _) λ_ gO=>?_;obtain ⟨_,gP,gD,gQ⟩:=gO;have gR:=Flat.flat gD;subst gR;refine zyP (α:=DRace) u38 zfY gc (k:=k) oo ⟨gP,gD,gQ⟩ λw5 gj g2=>zaw<|zaw<|⟨gq-1,oo,k2+1,oo,k+1,_,rfl,gx.trans gj,g2,by simp [O],oo,oo,oo,oo,?_,λj _=>?_⟩
     . rw [show k0+(k2+1)=k0+k2+1 by omega,gC,qad gi,<-g1];rw [tk so,List.getElem_set_self,List.take_set_of_le (lr _)]
     rw [List.getElem?_set_ne oo];exact D j oo
   have M:=qaf.1 M;refine zaw<|⟨gq-1,oo,k2+1,oo,k,cur,rfl,gx,gc,O,oo,oo,gL,oo,?_,D⟩;rw [show k0+(k2+1)=k0+k2+1 by omega,gC,qah M,g1]
 have gS:k0+k2=l.length:=oo;rw [gS,qaM] at g1;refine ztn (α:=DRace) u38 zfY oo h1<|zw9 (α:=DRace) u38 zED gs O oo oo h1 λw5 gj g2=>zCm (α:=DRace) u38 zfY oo h1 ?_;rw [g1] at g2;exact ⟨(gr.trans gj).toI hF,[b],g2,hF⟩
def zxa {l:List DRace} (h:Is W v l) (e:Ext W w) (hn:l.length<=1073741824) :
   CALL tp 153 [v] w λr w'=>Ext w w'/\Own w.heap.size w' r l:=by
 refine co (g:=kf [] [] []) Tryz.func153 ?_;obtain ⟨_,_,_,_,rfl,_,_,_,h4⟩:=zdU h;refine zke u38<|zaN (λg0=>?_) (λ_=>?_)
 . have:l=[]:=by
     rcases h4 with h4 | ⟨_,_,rfl,_⟩
     . exact h4
     simp at g0
   subst this;exact ⟨xrf w,zk8 rfl⟩
 refine zaI (α:=DRace) u38 zfY λ_ _ g1 r5=>?_;have hs1:=g1.size;refine zek (α:=DRace) u38 zfY zDr r5 (lr _) h (e.trans g1) (by rw [zak];simp;omega) so λ_ _ g2 r7=>?_;rw [qbo] at r7;exact ⟨Ext.chgI g1 g2 oo,r7.own.own.mono oo⟩
def zzg {l:List DRace} (h:OwnI lo hi w v l) :
   CALL tp 156 [v] w λr w'=>Ext w w'/\OwnI lo hi w' r l:=by
 obtain ⟨_,hM,hF⟩:=h;refine co (g:=kf [] [] []) Tryz.func156 ?_;refine zae u38 hM.is<|zae u38 hM.is ?_;by_cases hne:l=[]
 . subst hne;obtain ⟨_,cap,_,xs,rfl,h1,h2,_,_⟩:=zdU hM.is;refine zto (α:=DRace) (k:=0) (j:=0) u38 zfY (lr _) h1 λa' _=>⟨xrf w,zlt a'⟩
 obtain ⟨b,_,cap,xs,rfl,rfl,h1,h2,hc,hr,hw⟩:=ze6 hM hne;refine zto (α:=DRace) (k:=l.length) (j:=l.length) u38 zfY (lr _) h1 λa' ha=>?_;rw [ha (λe=>hne (qaj e))];exact ⟨xrf w,[b],zgK (lr _) oo hc hr hw,hF⟩
end Go.Proofs.YtkgiigmcbgifdaaGreatDoor
namespace Go.Sh
open Rep (rep)
variable {F G:List Nat} {b o:Nat} {w:wD}
instance:RepZ Raw:=⟨⟨.slice none 0 0⟩,[.slice none 0 0],λ_=>⟨rfl,rfl,rfl⟩⟩
abbrev RIns:=RV DIns 69
structure DEm where
 a:Raw
 b:Raw
 c:Raw
 ins:RIns
def DEm.ext_iff {x y:DEm}:x=y↔(x.a=y.a/\x.b=y.b/\x.c=y.c/\x.ins=y.ins):=⟨λh=>by rw [h];exact ⟨rfl,rfl,rfl,rfl⟩,λh=>by obtain ⟨h0,h1,h2,h3⟩:=h;cases x;cases y;simp only at h0 h1 h2 h3;simp only [h0,h1,h2,h3]⟩
instance:Rep DEm:=Rep.via λx=>(x.a,x.b,x.c,x.ins)
def zoT {x:DEm} (h:At w b o x):At w b (o+3) x.ins:=zbi (α:=Raw) (β:=RIns) (p:=(x.c,x.ins)) (zbi (α:=Raw) (β:=Raw×RIns) (p:=(x.b,x.c,x.ins)) (zbi (α:=Raw) (β:=Raw×Raw×RIns) (p:=(x.a,x.b,x.c,x.ins)) h))
instance:RepZ DEm:=⟨⟨(RepZ.zv:Raw),(RepZ.zv:Raw),(RepZ.zv:Raw),(RepZ.zv:RIns)⟩,RepZ.zc (Raw×Raw×Raw×RIns),λw=>RepZ.zr (α:=Raw×Raw×Raw×RIns) w⟩
def zuv {γ:Type} {H:List Nat->wD->γ->Prop} {x:DEm} {upd:DEm->γ} (h:Lens H F w b o G x upd) :
   ∃ G1,Lens H F w b (o+0) G1 x.a (λy=>upd ⟨y,x.b,x.c,x.ins⟩):=by
 have h':Lens H F w b o G (x.a,x.b,x.c,x.ins) (λp:Raw×Raw×Raw×RIns=>upd ⟨p.1,p.2.1,p.2.2.1,p.2.2.2⟩):=⟨h.here,h.sub,λw' G' _ hc hO hs=>h.back w' G' _ hc hO hs⟩;obtain ⟨_,h'⟩:=h'.fst;exact ⟨_,h'⟩
def zuw {γ:Type} {H:List Nat->wD->γ->Prop} {x:DEm} {upd:DEm->γ} (h:Lens H F w b o G x upd) :
   ∃ G1,Lens H F w b (o+1) G1 x.b (λy=>upd ⟨x.a,y,x.c,x.ins⟩):=by
 have h':Lens H F w b o G (x.a,x.b,x.c,x.ins) (λp:Raw×Raw×Raw×RIns=>upd ⟨p.1,p.2.1,p.2.2.1,p.2.2.2⟩):=⟨h.here,h.sub,λw' G' _ hc hO hs=>h.back w' G' _ hc hO hs⟩;obtain ⟨_,h'⟩:=h'.snd;obtain ⟨G1,h'⟩:=h'.fst;exact ⟨_,h'⟩
def zjT {γ:Type} {H:List Nat->wD->γ->Prop} {x:DEm} {upd:DEm->γ} (h:Lens H F w b o G x upd) :
   ∃ G1,Lens H F w b (o+3) G1 x.ins (λy=>upd ⟨x.a,x.b,x.c,y⟩):=by
 have h':Lens H F w b o G (x.a,x.b,x.c,x.ins) (λp:Raw×Raw×Raw×RIns=>upd ⟨p.1,p.2.1,p.2.2.1,p.2.2.2⟩):=⟨h.here,h.sub,λw' G' _ hc hO hs=>h.back w' G' _ hc hO hs⟩;obtain ⟨_,h'⟩:=h'.snd;obtain ⟨G1,h'⟩:=h'.snd;obtain ⟨_,h'⟩:=h'.snd;exact ⟨_,h'⟩
section
variable {P:pG} {w w':wD} {lo hi:Nat}
def zfI {op C to:Int} {t0 t1 t2 t3:vL} {t:DTerm} (h0:I64 op) (h1:I64 C) (h2:I64 to) (ht:OwnI lo hi w (.agg #[t0,t1,t2,t3]) t):OwnI lo hi w (.agg #[.int .i64 op,.int .i64 C,t0,t1,t2,t3,.int .i64 to]) (⟨op,C,t,to⟩:DIns):=by
 obtain ⟨F,⟨⟨cs,hr,hv⟩,g0,hw⟩,hF⟩:=ht
 have g1:cs=[t0,t1,t2,t3]:=by
   simp only [mkv,Rep.agg,cond_true,Value.agg.injEq] at hv;have:=qat Array.toList hv;simpa using this.symm
 subst g1;refine ⟨F,⟨⟨[.int .i64 op,.int .i64 C,t0,t1,t2,t3,.int .i64 to],?_,rfl⟩,g0,hw⟩,hF⟩;have:=zaQ (F:=[]) (c1:=[.int .i64 op]) (show rep [] w [.int .i64 op] op from ⟨rfl,rfl,h0⟩) (zaQ (F:=[]) (c1:=[.int .i64 C]) (show rep [] w [.int .i64 C] C from ⟨rfl,rfl,h1⟩) (zaQ hr (show rep [] w [.int .i64 to] to from ⟨rfl,rfl,h2⟩)));simp only [qbo,qaJ] at this;exact this
def zCn {X:Nat->Prop} {t g:Nat} {v:vL} {K:vL->Prop} (h:Var P t w g v) (hX:¬X g) (k:K v):RDX P X (Instr.loadAt t (.pointer (some ⟨g,0,none⟩))) w K:=by
 refine ⟨v,λw' hx=>?_,k⟩;obtain ⟨u,h1,h2⟩:=zcC (P:=P) (K:=λu=>u=v) (h.keep (hx.block g h.lt hX)) (xrf w') rfl;subst h2;exact h1 w' (xrf w')
def zis {α β:Type} [Rep α] [Rep β] {e b o g:Nat} {F G:List Nat} {t by_:Nat} {x:RV β e} {upd:RV β e->α} {w2:wD} {v':vL} {l':List β} {G':List Nat} {K:wD->Prop} (ht:tyI P t=some (1,by_,false)) (hL:Lens (VH g) (g :: F) w b o G x upd) (gf:∀ c∈g :: F,c<w.heap.size) (hc:Chg G w w2)
   (hR:RowG G' e w2 v' l') (hN:G'.Nodup) (hs:∀ c∈G',c∈G\/c∉g :: F)
   (k:∀ w3,Chg (b :: G) w w3->(∃ F',OAt F' w3 g 0 (upd ⟨v',l'⟩)/\∀ c∈F',c∈g :: F\/c∈G')->K w3):OPU P (Instr.storeAt t (.pointer (some ⟨b,o,none⟩)) v') w2 K:=by
 obtain ⟨_,⟨rfl,g4⟩,hr,_,_,hb,gc⟩:=hL.here;have gd:b<w.heap.size:=gf b (hL.sub b ss);have g5:w2.heap[b]?=w.heap[b]?:=hc.block b gd hb;have g0:∃ c e,w2.heap[b]?=some (.cells c e (0,0)):=by obtain ⟨c,e,h⟩:=gc;exact ⟨c,e,by rw [g5];exact h⟩
 have g1:b∉G':=λhm=>by
   rcases hs b hm with h | h
   . exact hb h
   exact h (hL.sub b ss)
 refine zs3 ht g0 (zbx hr g5) g4.one hR.one λw3 g3 gg=>?_
 have g2:ChgAt b o 1 G w w3:=by
   refine ⟨(hc.mono sd).trans (g3.chg.mono sd),λc e gh=>?_⟩;obtain ⟨c',h1,h2⟩:=g3.cell c e (by rw [g5];exact gh);exact ⟨c',h1,h2⟩
 have C:∀ c∈G',w3.heap[c]?=w2.heap[c]?:=λc gb=>g3.chg.block c (hR.lt c gb) (by simp;exact λe=>g1 (e▸gb));obtain ⟨c',e',gi⟩:=g0;obtain ⟨gj,g9,_⟩:=g3.cell c' e' gi;obtain ⟨F',h1,h2⟩:=hL.back w3 G' ⟨v',l'⟩ g2 ⟨[v'],⟨rfl,hR.keep C⟩,gg,hN,(hR.keep C).wr,g1,gj,e',g9⟩ hs;exact k w3 g2.chg ⟨F',h1,h2⟩
end
end Go.Sh
namespace Go.Proofs.YtkgiigmcbgifdaaGreatDoor
open Go Go.Sh Go.Proofs
open Rep (rep)
variable {F F1:List Nat} {W W0 w w1 w2:wD} {a:Int} {c:DCode} {g i k n:Nat} {v v0:vL}
section
variable {w:wD} {lo hi:Nat} {K:vL->Prop}
def zrQ {a b:Int} {u:vL} {t:DTerm} (ha:I64 a) (hb:I64 b) (hu:OwnI lo hi w u t) (k:∀ v,OwnI lo hi w v (⟨a,b,t,0⟩:DIns)->K v):RD tp (Instr.build 69 #[(0,.int .i64 a),(1,.int .i64 b),(2,u)]) w K:=by
 obtain ⟨p,q,rfl⟩:=zhD hu.is;exact zas (cells:=#[.int .i64 a,.int .i64 b,.int .i64 t.kind,.int .i64 t.num,.string t.name,.slice p t.kids.length q,.int .i64 0]) kK (k _ (zfI ha hb zcS hu))
def znw {a:Int} {u:vL} {t:DTerm} (ha:I64 a) (hu:OwnI lo hi w u t) (k:∀ v,OwnI lo hi w v (⟨a,0,t,0⟩:DIns)->K v):RD tp (Instr.build 69 #[(0,.int .i64 a),(2,u)]) w K:=by
 obtain ⟨p,q,rfl⟩:=zhD hu.is;exact zas (cells:=#[.int .i64 a,.int .i64 0,.int .i64 t.kind,.int .i64 t.num,.string t.name,.slice p t.kids.length q,.int .i64 0]) kK (k _ (zfI ha zcS zcS hu))
def zhL {a b:Int} (ha:I64 a) (hb:I64 b) (k:∀ v,OwnI lo hi w v (⟨a,b,term0,0⟩:DIns)->K v):RD tp (Instr.build 69 #[(0,.int .i64 a),(1,.int .i64 b)]) w K:=
 zas (cells:=#[.int .i64 a,.int .i64 b,.int .i64 0,.int .i64 0,.string nO,.slice none 0 0,.int .i64 0]) kK (k _ (zfI ha hb zcS zcM))
def znx {a b:Int} (ha:I64 a) (hb:I64 b) (k:∀ v,OwnI lo hi w v (⟨a,0,term0,b⟩:DIns)->K v):RD tp (Instr.build 69 #[(0,.int .i64 a),(3,.int .i64 b)]) w K:=
 zas (cells:=#[.int .i64 a,.int .i64 0,.int .i64 0,.int .i64 0,.string nO,.slice none 0 0,.int .i64 b]) kK (k _ (zfI ha zcS hb zcM))
def zgg {a:Int} (ha:I64 a) (k:∀ v,OwnI lo hi w v (⟨a,0,term0,0⟩:DIns)->K v):RD tp (Instr.build 69 #[(0,.int .i64 a)]) w K:=
 zas (cells:=#[.int .i64 a,.int .i64 0,.int .i64 0,.int .i64 0,.string nO,.slice none 0 0,.int .i64 0]) kK (k _ (zfI ha zcS zcS zcM))
end
def EmF (W:wD) (g:Nat) (p:DProg) (L:List DIns) (F:List Nat) (w:wD):Prop:=
 ∃ c0 c1 c2 rv,Is W (.agg #[c0,c1,c2]) p/\OAt F w g 0 (⟨⟨c0⟩,⟨c1⟩,⟨c2⟩,⟨rv,L⟩⟩:DEm)/\Ext W w/\W.heap.size<=g/\∀ c∈F,W.heap.size<=c
section
variable {W w w':wD} {g:Nat} {p:DProg} {L:List DIns} {F:List Nat}
def EmF.ext (h:EmF W g p L F w) (hx:Ext w w'):EmF W g p L F w':=by
 obtain ⟨c0,c1,c2,rv,h1,h2,h3,h4⟩:=h;exact ⟨c0,c1,c2,rv,h1,h2.ext hx,h3.trans hx,h4⟩
def EmF.old (h:EmF W g p L F w):Ext W w:=by obtain ⟨_,_,_,_,_,_,h3,_⟩:=h;exact h3
def EmF.lt (h:EmF W g p L F w):g<w.heap.size/\(∀ c∈F,c<w.heap.size)/\W.heap.size<=g/\g∉F/\∀ c∈F,W.heap.size<=c:=by
 obtain ⟨_,_,_,_,_,h2,_,h4,h5⟩:=h;have:=h2.lts;obtain ⟨_,_,_,_,_,h6,_⟩:=h2;exact ⟨this g ss,λc hc=>this c (by simp [hc]),h4,h6,h5⟩
def EmF.keep (h:EmF W g p L F w) (hk:∀ c∈g :: F,w'.heap[c]?=w.heap[c]?) (hx:Ext W w'):EmF W g p L F w':=by
 obtain ⟨c0,c1,c2,rv,h1,h2,_,h4⟩:=h;exact ⟨c0,c1,c2,rv,h1,h2.keep hk,hx,h4⟩
def zi4 {c0 c1 c2:vL} (h:Is W (.agg #[c0,c1,c2]) p):Is W c0 p.globals/\Is W c1 p.locks/\Is W c2 p.procs:=by
 obtain ⟨_,cs,hr,hv⟩:=h
 have g0:cs=[c0,c1,c2]:=by
   simp only [mkv,Rep.agg,cond_true,Value.agg.injEq] at hv;have:=qat Array.toList hv;simpa using this.symm
 subst g0;obtain ⟨F1,_,x1,_,rfl,hx,h1,F3,F4,x3,x4,rfl,g1,h2,h3⟩:=hr;have e1:∃ a,x1=[a]:=by obtain ⟨a,cap,Fi,xs,rfl,_⟩:=h1;exact ⟨_,rfl⟩
 have e2:∃ a,x3=[a]:=by obtain ⟨a,cap,Fi,xs,rfl,_⟩:=h2;exact ⟨_,rfl⟩
 have e3:∃ a,x4=[a]:=by obtain ⟨a,cap,Fi,xs,rfl,_⟩:=h3;exact ⟨_,rfl⟩
 obtain ⟨_,rfl⟩:=e1;obtain ⟨_,rfl⟩:=e2;obtain ⟨_,rfl⟩:=e3;subst g1;simp only [qbE,qbo,qa8,and_true] at hx;obtain ⟨rfl,rfl,rfl⟩:=hx;exact ⟨⟨F1,_,h1,rfl⟩,⟨F3,_,h2,rfl⟩,⟨F4,_,h3,rfl⟩⟩
def zD5 {K:vL->Prop} (h:EmF W g p L F w) (k:∀ v,Is W v p.globals->K v) :
   RD tp (Instr.fieldAt 59 (.pointer (some ⟨g,0,none⟩)) 0) w λx26=>RD tp (Instr.fieldAt 29 x26 0) w λx27=>RD tp (Instr.loadAt 26 x27) w λx28=>K x28:=by
 obtain ⟨_,_,_,_,h1,h2,_,_,_⟩:=h;obtain ⟨_,hL⟩:=zuv (Lens.var h2);obtain ⟨_,⟨_,rfl,_⟩,hr,_⟩:=hL.here;refine zaa zv0<|zaa zgX<|zdH zb9 hr (k _ (zi4 h1).1)
def zBc {K:vL->Prop} (h:EmF W g p L F w) (k:∀ v,Is W v p.locks->K v) :
   RD tp (Instr.fieldAt 59 (.pointer (some ⟨g,0,none⟩)) 0) w λx26=>RD tp (Instr.fieldAt 29 x26 1) w λx27=>RD tp (Instr.loadAt 26 x27) w λx28=>K x28:=by
 obtain ⟨_,_,_,_,h1,h2,_,_,_⟩:=h;obtain ⟨_,hL⟩:=zuw (Lens.var h2);obtain ⟨_,⟨_,rfl,_⟩,hr,_⟩:=hL.here;refine zaa zv0<|zaa zhd<|zdH zb9 hr (k _ (zi4 h1).2.1)
def zBd {K:vL->Prop} (h:EmF W g p L F w) (k:∀ v,Is W v p->K v) :
   RD tp (Instr.fieldAt 59 (.pointer (some ⟨g,0,none⟩)) 0) w λx42=>RD tp (Instr.loadAt 29 x42) w λx43=>K x43:=by
 obtain ⟨c0,c1,c2,_,h1,h2,h3,_,_⟩:=h;refine zaa zv0 ?_;obtain ⟨F1,g5,g1,g2⟩:=h1
 have g9:g5=[c0,c1,c2]:=by
   simp only [mkv,Rep.agg,cond_true,Value.agg.injEq] at g2;have:=qat Array.toList g2;simpa using this.symm
 subst g9;obtain ⟨_,gb,g3,_⟩:=h2;obtain ⟨_,_,_,_,_,rfl,⟨_,rfl,_⟩,_,_,_,_,_,rfl,⟨_,rfl,_⟩,_,_,_,x6,_,rfl,⟨_,rfl,_⟩,_⟩:=gb
 have g4:w.rangeAt g 0 [c0,c1,c2]:=by
   have:([c0]++([c1]++([c2]++x6)))=[c0,c1,c2]++x6:=rfl;rw [this] at g3;exact (zaP g3).1
 have hat:At w g (0+0) p:=⟨F1,_,zb7 g1 h3,g4⟩;have g0:AtB W w g (0+0) p:=⟨F1,_,g1,g4⟩;exact zbd zfs g0 h3 (xrf w) λv hv=>k v hv
def zi5 {lo hi:Nat} {u:vL} {x:DIns} (h:EmF W g p L F w) (hx:OwnI lo hi w u x) (hgl:g<lo) (gn:∀ c∈F,c<lo) (hlo:lo<=w.heap.size) (hL:L.length<=1000000) :
   CALL tp 28 [.pointer (some ⟨g,0,none⟩),u] w λr w'=>r=.int .i64 (L.length:Int)/\Chg (g :: F) w w'/\∃ F',EmF W g p (L++[x]) F' w'/\∀ c∈F',c∈F\/lo<=c:=by
 obtain ⟨_,e2,_,e4,e5⟩:=h.lt;obtain ⟨_,gj,g3⟩:=hx;refine co (g:=⟨extL,[],[],[(1,[0,1,2,3,4,5,6,7,8,9,10],192)],[],[1],[]⟩) Tryz.func28 ?_;refine za2 zdw rfl gj.is (xrf w) λw1 gl _ gs=>?_;have:=gl.size;have g5:=zai w1;have:=g5.size;have gt:=gs.ext g5;have C:=gl.t g5;generalize World.drew1 w1=w2 at *;have gx:=gj.ext C;obtain ⟨c0,c1,c2,_,h1,h2,_,h4,_⟩:=h.ext C;obtain ⟨G1,g9⟩:=zjT (Lens.var h2);obtain ⟨_,⟨rfl,gb⟩,gy,gz,_,gA,_⟩:=g9.here
 have D:∀ c∈G1,c∈F:=λc hc=>by
   rcases qaa.1 (g9.sub c (by simp [hc])) with e | h
   . exact absurd (e▸hc) gA
   exact h
 have g0:=h2.lts;refine XR.mk (λc=>c∈F)<|NIL.mk rfl<|zdy zlb<|zeW zcQ gy (λh=>e4 h)<|zCn gt (λh=>by have:=e2 _ h;omega)<|zdD (β:=DIns) (G:=G1) u32 zdw z69 zEF dD gb gz gx (λc hc gB=>by have:=g3 c hc;have:=gn c (D c gB);omega) (by rw [zak];show L.length+1<=_;omega) (by show (L.length+1)*_<=_;omega) (λw3 gc w4 _ g4 gp gC gD gd=>?_) λ_ w3 g4 h=>⟨g4.toX,h⟩;have:=g4.size;refine ⟨gp.toX (λc hc=>D c hc),?_⟩;refine NIL.mk rfl<|zdy zlb ?_;have gf:Chg G1 w2 w4:=(g4.chg G1).trans gp;refine zis zcQ g9 g0 gf gC gD (λc hc=>?_) λw5 gE ⟨F',gg,gq⟩=>?_
 . rcases gd c hc with h | h | h
   . exact .inl h
   . refine .inr λhm=>?_;have:=g3 c h;rcases qaa.1 hm with e | hm
     . omega
     have:=gn c hm;omega
   exact .inr λhm=>by have:=g0 c hm;omega
 have g1:g∉F':=by obtain ⟨_,_,_,_,_,hn,_⟩:=gg;exact hn
 have g2:Chg (g :: F) w w5:=(C.chg _).trans (gE.mono λc hc=>by
   rcases qaa.1 hc with rfl | hc
   . simp
   simp [D c hc])
 refine NIL.mk rfl<|zaa zlb<|zab (α:=RIns) zcQ (zoT gg.at) (xrf w5) λv18 gF=>?_;obtain ⟨gh,gi⟩:=zB1 gF;have gh:v18=gc:=gh;have gi:Is w5 gc (L++[x]):=gi;rw [gh];refine zae u32 gi ?_;have gr:((L++[x]).length:Int)=(L.length:Int)+1:=by simp
 refine zbp (by show I64 (((L++[x]).length:Int)-1);rw [gr];unfold I64;omega)<|⟨?_,g2,F',⟨c0,c1,c2,gc,h1,gg,h.old.chgL g2 (λc hc=>?_),h4,λc hc=>?_⟩,λc hc=>?_⟩
 . show Value.int .i64 (((L++[x]).length:Int)-1)=_;rw [gr];congr 1;omega
 . rcases qaa.1 hc with rfl | hc
   . exact h4
   exact e5 c hc
 . rcases gq c hc with h | h
   . rcases qaa.1 h with rfl | h
     . exact absurd hc g1
     exact e5 c h
   rcases gd c h with h | h | h
   . exact e5 c (D c h)
   . have:=g3 c h;omega
   omega
 rcases gq c hc with h | h
 . rcases qaa.1 h with rfl | h
   . exact absurd hc g1
   exact .inl h
 rcases gd c h with h | h | h
 . exact .inl (D c h)
 . exact .inr (g3 c h).1
 exact .inr oo
def zkN {A R:List DIns} {y:DIns} {k:Nat} {K:wD->Prop} (h:EmF W g p (A++y :: R) F w) (hk:A.length=k) (hL:(A++y :: R).length<=1000000)
   (kk:∀ w' F',Chg (g :: F) w w'->EmF W g p (A++(⟨y.op,y.arg,y.term,((A++y :: R).length:Int)⟩:DIns) :: R) F' w'->(∀ c∈F',c∈F)->K w') :
   NIL (.pointer (some ⟨g,0,none⟩))<|RD tp (Instr.fieldAt 59 (.pointer (some ⟨g,0,none⟩)) 1) w λx110=>RD tp (Instr.loadAt 32 x110) w λx111=>
     NIL (.pointer (some ⟨g,0,none⟩))<|RD tp (Instr.fieldAt 59 (.pointer (some ⟨g,0,none⟩)) 1) w λx115=>RD tp (Instr.loadAt 32 x115) w λx116=>
     RD tp (Builtin.len_ #[32] 3 [x116].toArray) w λx117=>RD tp (Instr.indexAt 32 x111 (.int .i64 (k:Int))) w λx118=>RD tp (Instr.fieldAt 69 x118 3) w λx119=>
     OPU tp (Instr.storeAt 3 x119 x117) w λw=>K w:=by
 obtain ⟨_,_,e3,_,e5⟩:=h.lt;obtain ⟨c0,c1,c2,rv,h1,h2,h3,h4,_⟩:=h;have:=h2.lts;have D:k<(A++y :: R).length:=by simp;omega
 obtain ⟨_,g2⟩:=zjT (Lens.var h2);obtain ⟨_,⟨rfl,g0⟩,g3,_⟩:=g2.here;obtain ⟨_,_,_,_,g4,_,g5⟩:=g2.elemV (k:=k) D;refine NIL.mk rfl<|zaa zlb<|zdH zcQ g3<|NIL.mk rfl<|zaa zlb<|zdH zcQ g3<|zae u32 (show Is w rv (A++y :: R) from g0.own.is)<|zl4 u32 zdw g4 D ?_;obtain ⟨_,g9⟩:=zlm g5;refine zaa zfa<|zkE ty3 g9 (zcF io) ss λw' hc ⟨F',hO,gb⟩=>?_;have g1:g∉F':=by obtain ⟨_,_,_,_,_,hn,_⟩:=hO;exact hn
 have hF:∀ c∈F',c∈F:=λc C=>by
   rcases gb c C with h | h
   . rcases qaa.1 h with rfl | h
     . exact absurd C g1
     exact h
   simp at h
 refine kk w' F' hc ⟨c0,c1,c2,rv,h1,?_,h3.chgL hc λc C=>?_,h4,λc C=>e5 c (hF c C)⟩ hF
 . have hO:OAt F' w' g 0 (⟨⟨c0⟩,⟨c1⟩,⟨c2⟩,⟨rv,(A++y :: R).set k ⟨((A++y :: R)[k]'D).op,((A++y :: R)[k]'D).arg,((A++y :: R)[k]'D).term,((A++y :: R).length:Int)⟩⟩⟩:DEm):=hO;rw [zwK hk,zwL hk D] at hO;exact hO
 rcases qaa.1 C with rfl | C
 . exact e3
 exact e5 c C
end
def zdb (G L P:List ByteArray) (x:DStmt) (a:Nat):emS G L P x a =
   if x.kind=1 then [⟨1,plc x.name G,x.term,0⟩]
   else if x.kind=4 then [⟨4,plc x.name P,term0,0⟩]
   else if x.kind=5 then [⟨5,plc x.name P,term0,0⟩]
   else if x.kind=6 then [⟨6,plc x.name L,term0,0⟩]
   else if x.kind=7 then [⟨7,plc x.name L,term0,0⟩]
   else if x.kind=8 then [⟨8,0,term0,0⟩]
   else if x.kind=3 then ⟨2,0,x.term,((a+1+(emL G L P x.body (a+1)).length+1:Nat):Int)⟩ :: (emL G L P x.body (a+1)++[⟨3,0,term0,(a:Int)⟩])
   else if x.kind=2 then
     (if x.els.length=0 then ⟨2,0,x.term,((a+1+(emL G L P x.body (a+1)).length:Nat):Int)⟩ :: emL G L P x.body (a+1)
     else ⟨2,0,x.term,((a+1+(emL G L P x.body (a+1)).length+1:Nat):Int)⟩ :: (emL G L P x.body (a+1) ++
       (⟨3,0,term0,((a+1+(emL G L P x.body (a+1)).length+1+(emL G L P x.els (a+1+(emL G L P x.body (a+1)).length+1)).length:Nat):Int)⟩ :: emL G L P x.els (a+1+(emL G L P x.body (a+1)).length+1))))
   else []:=by cases x;rw [emS];rfl
section
variable (G L P:List ByteArray)
mutual
theorem zrR:∀ (x:DStmt) (a:Nat),(emS G L P x a).length<=2*szS x
  | .mk k n t b e,a=>by
    have h1:=zgL b (a+1);have h2:=zgL e (a+1+(emL G L P b (a+1)).length+1);rw [emS,szS];repeat' split
    all_goals simp only [qam,qaI,qab];omega
theorem zgL:∀ (l:List DStmt) (a:Nat),(emL G L P l a).length<=2*szL l
  | [],a=>by rw [emL];simp
  | x :: l,a=>by
    have h1:=zrR x a;have h2:=zgL l (a+(emS G L P x a).length);rw [emL,szL,qab];omega
end
end
def zoU (x:DStmt):szS x=1+szL x.body+szL x.els:=by cases x;rw [szS];rfl
def zbl (h:Chg (g :: F) w w1) (k:Chg (g :: F1) w1 w2) (hF:∀ c∈F1,c∈F\/w.heap.size<=c):Chg (g :: F) w w2:=
 ⟨k.os.trans h.os,k.tape.trans h.tape,k.output.trans h.output,qal h.size k.size,λb hb hn=>(k.block b (qan hb h.size) λhm=>by
   simp only [qaa,not_or] at hn;rcases qaa.1 hm with e | hm
   . exact hn.1 e
   rcases hF b hm with h | h
   . exact hn.2 h
   omega).trans (h.block b hb hn)⟩
def ztp {p:DProg} (h:Is W v p):p.procs.length<=9223372036854775807:=by
 obtain ⟨_,_,hr,_⟩:=h;obtain ⟨_,_,_,_,rfl,_,_,_,_,_,_,rfl,_,_,h3⟩:=hr;obtain ⟨_,cap,_,_,_,q1,q2,_⟩:=h3;have q1:p.procs.length<=cap:=q1;rw [zak] at q2;omega
def zrS (c:Scp) (n:Nat) (l:List DStmt):Prop:=∀ {W w:wD} {g:Nat} {p:DProg} {L:List DIns} {F:List Nat} {v:vL},EmF W g p L F w->Is W v l->(∀ x∈l,StR c n x)->L.length+2*szL l<=1000000 ->
 CALL tp 27 [.pointer (some ⟨g,0,none⟩),v] w λr w'=>Chg (g :: F) w w'/\∃ F',EmF W g p (L++emL p.globals p.locks (p.procs.map DProc.name) l L.length) F' w'/\∀ c∈F',c∈F\/w.heap.size<=c
def zE9 (W w:wD) (g:Nat) (p:DProg) (L:List DIns) (F:List Nat) (l:List DStmt) (k:Nat) (us:List vL) (w':wD):Prop:=
 us=[.int .i64 (k:Int)]/\∃ L1 F1,k<=l.length/\L++emL p.globals p.locks (p.procs.map DProc.name) l L.length=L1++emL p.globals p.locks (p.procs.map DProc.name) (l.drop k) L1.length/\L1.length+2*szL (l.drop k)<=1000000 /\
   Chg (g :: F) w w'/\EmF W g p L1 F1 w'/\∀ c∈F1,c∈F\/w.heap.size<=c
def zi6 {c:Scp} {l:List DStmt} (ih:∀ m l,m+1=n->zrS c m l) (gf:∀ m,zrS c m []):zrS c n l:=by
 intro W w g p L F _ hE h hs gW;have hln:=zan h;obtain ⟨-,_,_,_,_⟩:=hE.lt;have e1:=hE.lt.1;refine co (g:=kf [] [(1,766247770432944429179173513575154591809369561091801072,[4])] [(6,[0,1,2,3,4,5,6,7,9,10,8,11,12,13],2304),(8,[0,1,2,3,4,5,6,7,8,9],128),(10,[0,1,2,3,4,5,6,7,8,9],128),(12,[0,1,2,3,4,5,6,7,8,9,10],256),(14,[0,1,2,3,4,5,6,7,8,9,10],256),(21,[0,1,2,3,4,5,6,7,8,9,10,11,12],0),(27,[0,1,2,3,4,5,6,7,8,9,10,11,12],0),(29,[0,1,2,3,4,5,6,7,8,9,10,11,12],0),(30,[0,1,2,3,4,5,6,7,8,9,10,11,12],0)]) Tryz.func27 ?_;refine zar l.length (zE9 W w g p L F l) 0 (z0 _) ⟨rfl,L,F,z0 _,ss,by simpa using gW,Chg.refl _ _,hE,λc hc=>.inl hc⟩ ?_;rintro k m u w1 _ ⟨hu,L1,F1,_,gR,gA,gX,gS,g4⟩;try replace hu:=zbv hu
 rw [hu];have hQ:=gX.size;refine zae u60 h<|zah<|br (λ_=>?_) (λ_=>?_)
 rotate_left
 . have hk:k=l.length:=oo;subst hk;rw [qbk,emL,qaJ] at gR;rw [gR];exact ⟨gX,F1,gS,g4⟩
 have hk:k<l.length:=oo;obtain ⟨x,hx⟩:∃ x,x=l[k]:=⟨_,rfl⟩;have gx:StR c n x:=by rw [hx];exact hs _ (qac hk)
 have hz:l.drop k=x :: l.drop (k+1):=by rw [hx];exact qax hk
 rw [hz,emL] at gR;rw [hz,szL] at gA;have hel:=zrR p.globals p.locks (p.procs.map DProc.name) x L1.length;have hR:=zoU x
 have O:∀ w' F2,Chg (g :: F) w w'->EmF W g p (L1++emS p.globals p.locks (p.procs.map DProc.name) x L1.length) F2 w'->(∀ c∈F2,c∈F\/w.heap.size<=c) ->
     ∃ m',m'<m/\∃ k',k'+m'=l.length/\zE9 W w g p L F l k' [.int .i64 ((k+1:Nat):Int)] w':=λw' F2 hc hE hF=>
   ⟨m-1,oo,k+1,oo,rfl,_,F2,oo,by rw [gR,qab,qaA],by rw [qab];omega,hc,hE,hF⟩
 obtain ⟨_,f2,_,_,_⟩:=gS.lt;have hA:=gS.old;refine zac u60 zda h hk λ_ _ gB=>?_;rw [<-hx] at gB;refine zab zda gB hA λ_ hC=>zbN zjy rfl zda rfl hC hA λw2 gY _ hD=>?_;have hs2:=gY.size;have hg5:=hD.lt;have gp:=gS.ext gY;have hG:=zcV hC hD rfl;have hT:Chg (g :: F) w w2:=gX.trans (gY.chg _)
 have g5:(x.kind=1\/x.kind=2\/x.kind=3)->TmR c.gl x.term:=λ_=>by
   have h0:St0 c x->TmR c.gl x.term:=λq=>by
     rcases q with q | q | q | q
     . exact q.2.2.1
     . have:=q.1;omega
     . have:=q.1;omega
     have:=q.1;omega
   cases n with
   | zero=>exact h0 gx.zero
   | succ n=>
     rcases gx.succ with q | ⟨_,_,h3,_⟩
     . exact h0 q
     exact h3
 have gZ:∃ q,(∀ y∈x.body,StR c q y)/\(∀ y∈x.els,StR c q y)/\zrS c q x.body/\zrS c q x.els:=by
   have h0:St0 c x->x.body=[]/\x.els=[]:=λh=>by rcases h with q | q | q | q<;>exact ⟨q.2.2.2.1,q.2.2.2.2⟩
   cases n with
   | zero=>
     obtain ⟨h1,h2⟩:=h0 gx.zero;rw [h1,h2];exact ⟨0,ss,ss,gf 0,gf 0⟩
   | succ n=>
     rcases gx.succ with q | ⟨_,_,_,h4,h5⟩
     . obtain ⟨h1,h2⟩:=h0 q;rw [h1,h2];exact ⟨0,ss,ss,gf 0,gf 0⟩
     exact ⟨n,h4,h5,ih n _ rfl,ih n _ rfl⟩
 obtain ⟨q,hH,hU,hI,hV⟩:=gZ;have U:=hG.at gp.old;refine zaa zdl<|zad ty3 (zb2 U) (xrf _) λ_=>?_
 have Z:∀ {w3:wD} {lo hi:Nat} {u:vL} {y:DIns} {K:VW},Ext w2 w3->OwnI lo hi w3 u y->w1.heap.size<=lo->lo<=w3.heap.size ->
     (∀ w4 F4,Chg (g :: F) w w4->EmF W g p (L1++[y]) F4 w4->(∀ c∈F4,c∈F1\/w1.heap.size<=c)->AtB W w4 w1.heap.size 0 x->w1.heap.size<w4.heap.size->w1.heap.size∉F4\/lo<=w1.heap.size->K (.int .i64 (L1.length:Int)) w4)->CALL tp 28 [.pointer (some ⟨g,0,none⟩),u] w3 K:=by
   intro w3 lo hi u y K C ho h1 h2 hK;have gC:=C.size;refine (zi5 (gp.ext C) ho oo (λc hc=>by have:=f2 c hc;omega) h2 oo).mono ?_;rintro _ w4 ⟨rfl,h6,F4,hW,hJ⟩;have gq:=h6.size;refine hK w4 F4 (zbl (hT.trans (C.chg _)) h6 g4) hW (λc hc=>(hJ c hc).imp id λh=>oo) ((hG.ext C).keep (h6.block _ oo λhm=>?_)) oo ?_
   . rcases qaa.1 hm with e | hm
     . omega
     have:=f2 _ hm;omega
   rcases qaw w1.heap.size lo with hl | hl
   . refine .inl λhm=>?_;rcases hJ _ hm with h | h
     . have:=f2 _ h;omega
     omega
   exact .inr hl
 refine zag<|br (λk1=>?_) (λk1=>?_)
 . have C:=zai w2;have g2:=gp.ext C;refine NIL.mk rfl<|zD5 g2 λgT g3=>zaa zbo<|zaq ty9 (zaT U) C λhS=>zaa zce<|zab zcD (zbz U) C λ_ hX=>?_;refine (zcx g3 g2.old).mono ?_;rintro _ w4 ⟨D,rfl⟩;refine ⟨D,?_⟩;have gD:=(g5 (.inl k1)).2.2;refine (zjR _ hX (C.t D) oo).mono ?_;rintro _ w5 ⟨h8,h9⟩;have h9:=h9.toI;have gC:=C.size;have gq:=D.size;have hL:=h8.size;refine ⟨h8,?_⟩;have gy:=ziU (s:=x.name) (l:=p.globals);have gg:=zan g3;refine zrQ io io h9 λgE g9=>Z (C.t (D.t h8)) g9 oo oo λw6 F6 V M g0 _ _ _=>zaw<|O w6 F6 V ?_ λc hc=>(g0 c hc).elim (g4 c) λh=>.inr oo;rw [zdb,qah k1];exact M
 refine zag<|br (λk4=>?_) (λk4=>?_)
 . have C:=zai w2;have g2:=gp.ext C;have gC:=C.size;refine NIL.mk rfl<|zBd g2 λgT g3=>zaa zbo<|zaq ty9 (zaT U) C λhS=>?_;refine (zl2 g3 g2.old).mono ?_;rintro _ w4 ⟨D,rfl⟩;have gq:=D.size;refine ⟨D,?_⟩;have gy:=ziU (s:=x.name) (l:=p.procs.map DProc.name);have gg:p.procs.length<=9223372036854775807:=ztp g3;rw [qaD] at gy;refine zhL (lo:=w4.heap.size) (hi:=w4.heap.size) io io λgE g9=>Z (C.t D) g9 oo oo λw6 F6 V M g0 _ _ _=>zaw<|O w6 F6 V ?_ λc hc=>(g0 c hc).elim (g4 c) λh=>.inr oo;rw [zdb,qad k1,qah k4];exact M
 refine zag<|br (λk5=>?_) (λk5=>?_)
 . have C:=zai w2;have g2:=gp.ext C;have gC:=C.size;refine NIL.mk rfl<|zBd g2 λgT g3=>zaa zbo<|zaq ty9 (zaT U) C λhS=>?_;refine (zl2 g3 g2.old).mono ?_;rintro _ w4 ⟨D,rfl⟩;have gq:=D.size;refine ⟨D,?_⟩;have gy:=ziU (s:=x.name) (l:=p.procs.map DProc.name);have gg:p.procs.length<=9223372036854775807:=ztp g3;rw [qaD] at gy;refine zhL (lo:=w4.heap.size) (hi:=w4.heap.size) io io λgE g9=>Z (C.t D) g9 oo oo λw6 F6 V M g0 _ _ _=>zaw<|O w6 F6 V ?_ λc hc=>(g0 c hc).elim (g4 c) λh=>.inr oo;rw [zdb,qad k1,qad k4,qah k5];exact M
 refine zag<|br (λk6=>?_) (λk6=>?_)
 . have C:=zai w2;have g2:=gp.ext C;have gC:=C.size;refine NIL.mk rfl<|zBc g2 λgT g3=>zaa zbo<|zaq ty9 (zaT U) C λhS=>?_;refine (zcx g3 g2.old).mono ?_;rintro _ w4 ⟨D,rfl⟩;have gq:=D.size;refine ⟨D,?_⟩;have gy:=ziU (s:=x.name) (l:=p.locks);have gg:=zan g3;refine zhL (lo:=w4.heap.size) (hi:=w4.heap.size) io io λgE g9=>Z (C.t D) g9 oo oo λw6 F6 V M g0 _ _ _=>zaw<|O w6 F6 V ?_ λc hc=>(g0 c hc).elim (g4 c) λh=>.inr oo;rw [zdb,qad k1,qad k4,qad k5,qah k6];exact M
 refine zag<|br (λk7=>?_) (λk7=>?_)
 . have C:=zai w2;have g2:=gp.ext C;have gC:=C.size;refine NIL.mk rfl<|zBc g2 λgT g3=>zaa zbo<|zaq ty9 (zaT U) C λhS=>?_;refine (zcx g3 g2.old).mono ?_;rintro _ w4 ⟨D,rfl⟩;have gq:=D.size;refine ⟨D,?_⟩;have gy:=ziU (s:=x.name) (l:=p.locks);have gg:=zan g3;refine zhL (lo:=w4.heap.size) (hi:=w4.heap.size) io io λgE g9=>Z (C.t D) g9 oo oo λw6 F6 V M g0 _ _ _=>zaw<|O w6 F6 V ?_ λc hc=>(g0 c hc).elim (g4 c) λh=>.inr oo;rw [zdb,qad k1,qad k4,qad k5,qad k6,qah k7];exact M
 refine zag<|br (λk8=>?_) (λk8=>?_)
 . refine zgg (lo:=w2.heap.size) (hi:=w2.heap.size) io λgE g9=>?_;refine Z (xrf w2) g9 oo oo λw6 F6 V M g0 _ _ _=>zaw<|O w6 F6 V ?_ λc hc=>(g0 c hc).elim (g4 c) λh=>.inr oo;rw [zdb,qad k1,qad k4,qad k5,qad k6,qad k7,qah k8];exact M
 have hY:=zgL p.globals p.locks (p.procs.map DProc.name) x.body (L1.length+1);refine zag<|br (λk3=>?_) (λk3=>?_)
 . refine zaa zce ?_;refine zab zcD (zbz U) (xrf _) λ_ hZ=>?_;have gD:=(g5 (.inr (.inr k3))).2.2;refine (zjR _ hZ (xrf _) oo).mono ?_;rintro _ w4 ⟨D,ha⟩;have ha:=ha.toI;have gq:=D.size;refine znw io ha λ_ j0=>Z D j0 oo oo λw5 F5 gF gG gU gh gH _=>zaa zcf<|zbd zed (zrF gh) gG.old (xrf _) λ_ hb=>?_;refine (hI gG hb hH so).mono ?_;rintro _ w6 ⟨V,F6,M,g0⟩;have hL:=gF.size;have j1:=V.size;obtain ⟨z1,z2,z3,z4,z5⟩:=M.lt;refine znx (lo:=w6.heap.size) (hi:=w6.heap.size) io io λ_ hd=>?_;refine (zi5 M hd z1 z2 (lr _) so).mono ?_;rintro _ w7 ⟨-,gz,F7,gI,gV⟩;have j2:=gz.size;have gc:=zai w7
   have e7:L1++[(⟨2,0,x.term,0⟩:DIns)]++emL p.globals p.locks (p.procs.map DProc.name) x.body (L1++[(⟨2,0,x.term,0⟩:DIns)]).length++[⟨3,0,term0,(L1.length:Int)⟩] =
       L1++(⟨2,0,x.term,0⟩:DIns) :: (emL p.globals p.locks (p.procs.map DProc.name) x.body (L1.length+1)++[⟨3,0,term0,(L1.length:Int)⟩]):=by simp
   rw [e7] at gI;have g1:∀ c∈F6,c∈F\/w.heap.size<=c:=λc hc=>(g0 c hc).elim (λh=>(gU c h).elim (g4 c) λh=>.inr oo) λh=>.inr oo;have gb:∀ c∈F7,c∈F\/w.heap.size<=c:=λc hc=>(gV c hc).elim (g1 c) λh=>.inr oo;have gr:=zbl (zbl gF V λc hc=>(gU c hc).elim (g4 c) λh=>.inr oo) gz g1;refine zkN (gI.ext gc) rfl so λw9 F9 gs gd gJ=>zaw<|O w9 F9 (zbl (gr.trans (gc.chg _)) gs gb) ?_ λc hc=>gb c (gJ c hc);rw [zdb,qad k1,qad k4,qad k5,qad k6,qad k7,qad k8,qah k3]
   have:((L1++(⟨2,0,x.term,0⟩:DIns) :: (emL p.globals p.locks (p.procs.map DProc.name) x.body (L1.length+1)++[⟨3,0,term0,(L1.length:Int)⟩])).length:Int)=((L1.length+1+(emL p.globals p.locks (p.procs.map DProc.name) x.body (L1.length+1)).length+1:Nat):Int):=by
     simp only [qab,qam,qaI];omega
   rw [this] at gd;exact gd
 refine zag<|br (λk2=>?_) (λk2=>?_)
 rotate_left
 . exfalso;have h0:St0 c x->False:=λq=>by rcases q with q | q | q | q<;>(have:=q.1;omega)
   cases n with
   | zero=>exact h0 gx.zero
   | succ n=>
     rcases gx.succ with q | ⟨q,_⟩
     . exact h0 q
     omega
 refine zaa zce<|zab zcD (zbz U) (xrf _) λ_ he=>?_;have gD:=(g5 (.inr (.inl k2))).2.2;refine (zjR _ he (xrf _) oo).mono ?_;rintro _ w4 ⟨D,gt⟩;have gt:=gt.toI;have gq:=D.size;refine znw io gt λ_ hf=>Z D hf oo oo λw5 F5 gF gG gU gh gH gi=>?_;have gi:w1.heap.size∉F5:=gi.elim id λh=>oo;have hL:=gF.size;refine zaa zcf<|zbd zed (zrF gh) gG.old (xrf _) λ_ hg=>?_;refine (hI gG hg hH so).mono ?_;rintro _ w6 ⟨V,F6,M,g0⟩;have j1:=V.size
 have hM:=gh.keep (V.block _ gH λhm=>by
   rcases qaa.1 hm with e | hm
   . omega
   exact gi hm)
 obtain ⟨z1,z2,z3,z4,z5⟩:=M.lt;have gK:∀ c∈F5,c∈F\/w.heap.size<=c:=λc hc=>(gU c hc).elim (g4 c) λh=>.inr oo;have g1:∀ c∈F6,c∈F\/w.heap.size<=c:=λc hc=>(g0 c hc).elim (gK c) λh=>.inr oo;have gL:=zbl gF V gK
 have e6:L1++[(⟨2,0,x.term,0⟩:DIns)]++emL p.globals p.locks (p.procs.map DProc.name) x.body (L1++[(⟨2,0,x.term,0⟩:DIns)]).length =
     L1++(⟨2,0,x.term,0⟩:DIns) :: emL p.globals p.locks (p.procs.map DProc.name) x.body (L1.length+1):=by simp
 rw [e6] at M;obtain ⟨B,hB⟩:∃ B,B=emL p.globals p.locks (p.procs.map DProc.name) x.body (L1.length+1):=⟨_,rfl⟩;rw [<-hB] at M hY;refine zaa zca<|zbd zed (zrG hM) M.old (xrf _) λ_ hh=>zae u60 hh<|zbZ<|br (λke=>?_) (λke=>?_)
 . refine zgg (lo:=w6.heap.size) (hi:=w6.heap.size) io λ_ hj=>?_;refine (zi5 M hj z1 z2 (lr _) so).mono ?_;rintro _ w7 ⟨hn,gz,F7,gI,gV⟩;rw [hn];have j2:=gz.size;have gc:=zai w7;have hs8:=gc.size;have e7:L1++(⟨2,0,x.term,0⟩:DIns) :: B++[⟨3,0,term0,0⟩]=L1++(⟨2,0,x.term,0⟩:DIns) :: (B++[⟨3,0,term0,0⟩]):=by simp
   rw [e7] at gI;have gb:∀ c∈F7,c∈F\/w.heap.size<=c:=λc hc=>(gV c hc).elim (g1 c) λh=>.inr oo;have gr:=zbl gL gz g1;have gM:w1.heap.size∉F6:=λhm=>(g0 _ hm).elim gi λh=>oo;have hq:w1.heap.size∉F7:=λhm=>(gV _ hm).elim gM λh=>oo
   have j3:=hM.keep (gz.block _ oo λhm=>by
     rcases qaa.1 hm with e | hm
     . omega
     exact gM hm)
   refine zkN (gI.ext gc) rfl so λw9 F9 gs gd gJ=>?_;have hs9:=gs.size
   have j4:=(j3.ext gc).keep (gs.block _ oo λhm=>by
     rcases qaa.1 hm with e | hm
     . omega
     exact hq hm)
   refine zaa zca<|zbd zed (zrG j4) gd.old (xrf _) λ_ hr=>?_;obtain ⟨y0,hN⟩:∃ y0:DIns,y0=⟨2,0,x.term,((L1++(⟨2,0,x.term,0⟩:DIns) :: (B++[⟨3,0,term0,0⟩])).length:Int)⟩:=⟨_,rfl⟩;have gd:EmF W g p (L1++y0 :: (B++[⟨3,0,term0,0⟩])) F9 w9:=by rw [hN];exact gd
   refine (hV gd hr hU so).mono ?_;rintro _ j5 ⟨ht,j6,gj,hv⟩;have gN:∀ c∈F9,c∈F\/w.heap.size<=c:=λc hc=>gb c (gJ c hc);have gn:∀ c∈j6,c∈F\/w.heap.size<=c:=λc hc=>(hv c hc).elim (gN c) λh=>.inr oo;have gO:=zbl (zbl (gr.trans (gc.chg _)) gs gb) ht gN;have gP:=zai j5;have hO:=zgL p.globals p.locks (p.procs.map DProc.name) x.els (L1++y0 :: (B++[⟨3,0,term0,0⟩])).length;have j7:(L1++y0 :: (B++[(⟨3,0,term0,0⟩:DIns)])).length=L1.length+1+B.length+1:=by simp only [qab,qam,qaI];omega
   rw [j7] at gj hO;obtain ⟨E,hP⟩:∃ E,E=emL p.globals p.locks (p.procs.map DProc.name) x.els (L1.length+1+B.length+1):=⟨_,rfl⟩;rw [<-hP] at gj hO;have j8:L1++y0 :: (B++[(⟨3,0,term0,0⟩:DIns)])++E=(L1++y0 :: B)++(⟨3,0,term0,0⟩:DIns) :: E:=by simp
   rw [j8] at gj;refine zkN (gj.ext gP) ss (by simp only [qab,qam];omega) λj9 ja hw gQ hy=>zaw<|O j9 ja (zbl (gO.trans (gP.chg _)) hw gn) ?_ λc hc=>gn c (hy c hc);rw [zdb,qad k1,qad k4,qad k5,qad k6,qad k7,qad k8,qad k3,qah k2,qad oo,<-hB,<-hP]
   have q1:y0=⟨2,0,x.term,((L1.length+1+B.length+1:Nat):Int)⟩:=by
     rw [hN];congr 1;simp only [qab,qam,qaI];omega
   have q2:(((L1++y0 :: B)++(⟨3,0,term0,0⟩:DIns) :: E).length:Int)=((L1.length+1+B.length+1+E.length:Nat):Int):=by
     simp only [qab,qam,qaI];omega
   rw [q2,q1] at gQ;simpa using gQ
 have gc:=zai w6;refine zkN (M.ext gc) rfl so λw9 F9 gs gd gJ=>zaw<|O w9 F9 (zbl (gL.trans (gc.chg _)) gs g1) ?_ λc hc=>g1 c (gJ c hc);rw [zdb,qad k1,qad k4,qad k5,qad k6,qad k7,qad k8,qad k3,qah k2,qah oo,<-hB]
 have:((L1++(⟨2,0,x.term,0⟩:DIns) :: B).length:Int)=((L1.length+1+B.length:Nat):Int):=by
   simp only [qab,qam,qaI];omega
 rw [this] at gd;exact gd
def zkp (c:Scp) (n:Nat):zrS c n []:=by
 intro _ w g _ _ F _ hE h _ _;refine co (g:=kf [] [(1,766247770432944429179173513575154591809369561091801072,[4])] [(6,[0,1,2,3,4,5,6,7,9,10,8,11,12,13],2304),(8,[0,1,2,3,4,5,6,7,8,9],128),(10,[0,1,2,3,4,5,6,7,8,9],128),(12,[0,1,2,3,4,5,6,7,8,9,10],256),(14,[0,1,2,3,4,5,6,7,8,9,10],256),(21,[0,1,2,3,4,5,6,7,8,9,10,11,12],0),(27,[0,1,2,3,4,5,6,7,8,9,10,11,12],0),(29,[0,1,2,3,4,5,6,7,8,9,10,11,12],0),(30,[0,1,2,3,4,5,6,7,8,9,10,11,12],0)]) Tryz.func27 ?_;refine zar 0 (λk us w'=>us=[.int .i64 (k:Int)]/\w'=w) 0 (z0 _) ⟨rfl,rfl⟩ ?_;rintro k _ _ _ _ ⟨hu,rfl⟩;try replace hu:=zbv hu
 rw [hu];refine zae u60 h<|zah<|br (λg0=>by simp at g0;omega) (λ_=>?_);exact ⟨Chg.refl _ _,F,by rw [emL,qaJ];exact hE,λc hc=>.inl hc⟩
theorem zl5 (c:Scp):∀ (n:Nat) (l:List DStmt),zrS c n l
 | 0,l=>zi6 (n:=0) (l:=l) (λm l h=>absurd h oo) (zkp c)
 | n + 1, l => zi6 (n := n + 1) (l := l) (λm l h => by
     obtain rfl:m=n:=oo;exact zl5 c m l) (zkp c)
def CodeR.f (h:CodeR c):EntF c:=h.2.1.f h.1.procs8.2
def zux  (h0:Is W0 v0 c) (e0:Ext W0 w)  :
   CALL tp 211 [v0,.int .i64 a] w λr w'=>Ext w w'/\(r=.bool (decide (0<=a/\a<c.ins.length))):=by
 refine co (g:=kf [] [] []) Tryz.func211 ?_;refine za2 zbO rfl h0 e0 λg1 y1 g2 _=>zcH<|br (λc1=>?_) (λc1=>?_)
 . refine zaa zaH ?_;refine zab zcQ (zao g2) (xrf g1) λ_ g0=>?_;have:=zan g0;refine zae u32 g0<|zah<|⟨y1,?_⟩;simp [c1]
 refine ⟨y1,?_⟩;simp [c1]
def zqn  (h0:Is W0 v0 c) (e0:Ext W0 w) (hc:CodeR c) (ha:0<=a) (ha2:a<c.ins.length) :
   CALL tp 213 [v0,.int .i64 a] w λr w'=>Ext w w'/\(r=.int .i64 (zaA c a)):=by
 refine co (g:=kf [] [(2,16777184,[5])] []) Tryz.func213 ?_;have hf:=hc.f;have:=hc.1.procs8;have:=hf.len;refine za2 zbO rfl h0 e0 λg1 y1 g2 _=>zar (c.entry.length-1) (λk us w'=>us=[.int .i64 (k:Int)]/\Ext g1 w'/\(en c k<=a)) (0) oo ⟨ss,xrf g1,by rw [hf.zero];exact ha⟩ ?_;rintro k m2 _ _ _ ⟨hu,y2,g0⟩;try replace hu:=zbv hu
 try rw [hu]
 try clear hu
 refine zaw<|zaa zbj<|zab zcn (zav g2) y2 λ_ h9=>?_;have:=zan h9;refine zae u31 h9<|zah<|br (λc1=>?_) (λc1=>?_)
 . refine zaa zbj ?_;refine zab zcn (zav g2) y2 λ_ g3=>zaw<|zac u31 ty3 g3 oo λ_ _ g4=>zad ty3 g4 y2 λ_=>zdJ<|br (λc2=>?_) (λc2=>?_)
   . refine zaw ?_;refine ⟨m2-1,oo,k+1,oo,ss,y2,?_⟩;rwa [zbK] at c2
   refine ⟨(y1.t y2),?_⟩;rw [zbK] at c2;rw [hf.proc (i:=k) oo g0 (by rw [hf.step oo];omega)]
 refine ⟨(y1.t y2),?_⟩;rw [hf.proc (i:=k) oo g0 (by rw [hf.last oo];omega)]
def ztq {α:Type} {P:α->Prop} {l:List α} (hk:k<l.length) (h:∀ x∈l.take k,P x) (hp:P l[k]):∀ x∈l.take (k+1),P x:=by
 intro x hx;rw [tk hk] at hx;rcases qae.1 hx with hx | hx
 . exact h x hx
 simp only [qaa,qag,qaz] at hx;subst hx;exact hp
def zxb {α:Type} {P:α->Prop} {l:List α} (hk:l.length<=k) (h:∀ x∈l.take k,P x):∀ x∈l,P x:=by
 rwa [qai hk] at h
def zi7 (hc:CodeR c) {j:Nat} (hj:j<c.ins.length):zin c (zap c j) (en c (zaA c j).toNat) (zf5 c (zaA c j)+1):=hc.2.2 j hj
def zzh (hc:CodeR c) {j:Nat} (hj:j<c.ins.length) (h:(zap c j).op=6\/(zap c j).op=7):0<=(zap c j).arg/\(zap c j).arg<c.locks.length:=by
 have:=(zi7 hc hj).2.1;unfold zcy at this;rwa [qad oo,qad oo,qah h] at this
def NamesR.locks6 (h:NamesR c):c.locks.length<=6:=by
 have h1:=h.2.1;simp only [qap,qau] at h1;omega
def zlI:zcq tp 3=some [.int .i64 0]:=by kernel_rfl
def zCo (hc:CodeR c):0<=plc zg5 c.procs/\(plc zg5 c.procs).toNat<c.entry.length:=by
 have:=zfT.2 hc.1.2.2.2.2.2.2;have:=ziU (s:=zg5) (l:=c.procs);have:=hc.2.1.1;omega
def zhM  (h0:Is W0 v0 c) (e0:Ext W0 w)  :
   CALL tp 241 [v0] w λr w'=>Ext w w'/\(r=.int .i64 (plc zg5 c.procs)):=by
 refine co (g:=kf [] [] []) Tryz.func241 ?_;refine za2 zbO rfl h0 e0 λg0 y1 g1 _=>zaa zby<|zab zb9 (zay g1) (xrf g0) λ_ h4=>?_;refine (zcx h4 (xrf g0)).mono ?_;rintro _ _ ⟨y2,rfl⟩;refine ⟨(y1.t y2),?_⟩;rfl
def zit {α:Type} {l:List α} {x y:α} (h:y∈l.set i x):y=x\/y∈l:=by
 rcases List.mem_or_eq_of_mem_set h with h | h
 . exact .inr h
 exact .inl h
def zxc (hc:CodeR c) {a:Int} (h0:0<=a) (h1:a<c.ins.length) (ho:(zap c a.toNat).op≠9):a+1<c.ins.length/\zaA c (a+1)=zaA c a:=by
 obtain ⟨i,hi,_,_,h4⟩:=hc.f.find hc.1.procs8.2 h0 h1;have h5:=(hc.2.1.2.2.2 a.toNat oo);rw [qbi h0,h4,zeV] at h5;have:zet c i-1≠a:=λe=>ho (h5.2 e);have:=(hc.f.lt i hi).2;exact ⟨oo,by rw [h4];exact hc.f.proc hi oo oo⟩
def zrT (hc:CodeR c) {a:Int} (h0:0<=a) (h1:a<c.ins.length) (ho:(zap c a.toNat).op=2\/(zap c a.toNat).op=3) :
   0<=(zap c a.toNat).to/\(zap c a.toNat).to<c.ins.length/\zaA c (zap c a.toNat).to=zaA c a:=by
 obtain ⟨i,hi,_,_,h4⟩:=hc.f.find hc.1.procs8.2 h0 h1;have h5:=(zi7 hc (j:=a.toNat) oo).2.2.2;rw [qah ho,qbi h0,h4,zeV,qaF] at h5;have:=hc.f.nonneg hi;have:=(hc.f.lt i hi).2;exact ⟨oo,oo,by rw [h4];exact hc.f.proc hi h5.1 oo⟩
def zxd (hc:CodeR c) {i:Nat} (hi:i<c.entry.length):0<=en c i/\en c i<c.ins.length/\zaA c (en c i)=i:=by
 have h6:=hc.f.nonneg hi;have h7:=hc.f.lt i hi;exact ⟨h6,oo,hc.f.proc hi (qda _) h7.1⟩
end Go.Proofs.YtkgiigmcbgifdaaGreatDoor
namespace Go.Sh
variable {i j n:Nat}
def zaK (l:List Nat):List Int:=l.map λx:Nat=>(x:Int)
def zaf (l:List Nat):(zaK l).length=l.length:=by simp [zaK]
def zaY {l:List Nat} (h:i<(zaK l).length):(zaK l)[i]=((l[i]'(by rw [<-zaf];exact h):Nat):Int):=by simp [zaK]
def zcz (l m:List Nat):zaK (l++m)=zaK l++zaK m:=by simp [zaK]
def zxe (l:List Nat) (k:Nat):zaK (l.take k)=(zaK l).take k:=by simp [zaK]
def mkd (ms:List Bool) (i:Nat):Prop:=ms.getD i false=true
def zaZ {ms:List Bool} (h:i<ms.length):mkd ms i↔ms[i]=true:=by
 unfold mkd;rw [List.getD_eq_getElem?_getD,List.getElem?_eq_getElem h];rfl
def ztr {ms:List Bool} (h:mkd ms i):i<ms.length:=by
 rcases qaw i ms.length with h' | h'
 . exact h'
 unfold mkd at h;rw [List.getD_eq_getElem?_getD,List.getElem?_eq_none h'] at h;cases h
def zdc {ms:List Bool} (hi:i<ms.length):mkd (ms.set i true) j↔mkd ms j\/j=i:=by
 unfold mkd;rw [List.getD_eq_getElem?_getD,List.getD_eq_getElem?_getD,List.getElem?_set];by_cases h:i=j
 . subst h;simp [hi]
 have:¬j=i:=λe=>h e.symm;simp [h,this]
def zbR:¬mkd (List.replicate n false) i:=by
 unfold mkd;rw [List.getD_eq_getElem?_getD,List.getElem?_replicate];split<;>simp
def zxf {ms ns:List Bool} (hl:ms.length=ns.length) (h:∀ i,i<ms.length->(mkd ms i↔mkd ns i)):ms=ns:=by
 refine qaP hl λi h1 h2=>?_;have:=h i h1;rw [zaZ h1,zaZ h2] at this;cases e1:ms[i]<;>cases e2:ns[i]<;>simp_all
def zkO (ms:List Bool):Nat:=ms.count true
def zhm (ms:List Bool):zkO ms<=ms.length:=List.count_le_length
theorem zi8:∀ {ms:List Bool} {i:Nat},i<ms.length->¬mkd ms i->zkO (ms.set i true)=zkO ms+1
 | b :: ms,0,_,h=>by
   have:b=false:=by cases b<;>simp_all [mkd]
   subst this;simp [zkO]
 | b :: ms,i+1,hi,h=>by
   have ih:=zi8 (ms:=ms) (i:=i) (by simpa using hi) (by simpa [mkd] using h);simp only [zkO,List.set_cons_succ,List.count_cons] at ih ⊢;omega
inductive RP (nx:Nat->List Nat) (a:Nat):Nat->Prop
 | one {b:Nat} (h:b∈nx a):RP nx a b
 | more {b d:Nat} (h:RP nx a b) (k:d∈nx b):RP nx a d
theorem RP.trans {nx:Nat->List Nat} {a b d:Nat} (h:RP nx a b) (k:RP nx b d):RP nx a d:=by
 induction k with
 | one h1=>exact .more h h1
 | more _ h2 ih=>exact .more ih h2
theorem RP.keeps {nx:Nat->List Nat} {p:Nat->Prop} {a b:Nat} (h:RP nx a b) (ha:p a) (hp:∀ i j,p i->j∈nx i->p j):p b:=by
 induction h with
 | one h=>exact hp _ _ ha h
 | more _ h ih=>exact hp _ _ ih h
structure SInv (nx:Nat->List Nat) (n a:Nat) (M0 ms:List Bool) (td:List Nat) (k:Nat):Prop where
 len:ms.length=n
 sub:∀ i,mkd M0 i->mkd ms i
 src:∀ i,mkd ms i->mkd M0 i\/RP nx a i
 tdo:∀ i∈td,(i=a\/RP nx a i)/\i<n
 clo:∀ i,(i=a\/(mkd ms i/\¬mkd M0 i))->i∈td\/∀ j∈nx i,mkd ms j
 cnt:td.length+k+zkO M0=1+zkO ms
structure SIn2 (nx:Nat->List Nat) (n a:Nat) (M0 ms:List Bool) (td:List Nat) (k x q:Nat):Prop where
 len:ms.length=n
 sub:∀ i,mkd M0 i->mkd ms i
 src:∀ i,mkd ms i->mkd M0 i\/RP nx a i
 tdo:∀ i∈td,(i=a\/RP nx a i)/\i<n
 clo:∀ i,(i=a\/(mkd ms i/\¬mkd M0 i))->i∈td\/(i=x/\∀ j∈(nx x).take q,mkd ms j)\/∀ j∈nx i,mkd ms j
 cnt:td.length+k+1+zkO M0=1+zkO ms
 met:x=a\/RP nx a x
section
variable {nx:Nat->List Nat} {n a k x q:Nat} {M0 ms:List Bool} {td td':List Nat}
def SInv.start (hl:M0.length=n) (ha:a<n):SInv nx n a M0 M0 [a] 0:=
 ⟨hl,λ_ h=>h,λ_ h=>.inl h,λi hi=>by simp only [qaa,qag,qaz] at hi;exact ⟨.inl hi,hi▸ha⟩,λi hi=>by
   rcases hi with rfl | ⟨h1,h2⟩
   . exact .inl ss
   exact absurd h1 h2,ss⟩
def SInv.bound (h:SInv nx n a M0 ms td k):td.length+k<=1+n:=by
 have:=h.cnt;have h2:=zhm ms;rw [h.len] at h2;omega
def SInv.pop (h:SInv nx n a M0 ms td k) (hm:∀ i,i∈td↔i∈td'\/i=x) (hl:td.length=td'.length+1):SIn2 nx n a M0 ms td' k x 0:=
 ⟨h.len,h.sub,h.src,λi hi=>h.tdo i ((hm i).2 (.inl hi)),λi hi=>by
   rcases h.clo i hi with h1 | h1
   . rcases (hm i).1 h1 with h1 | rfl
     . exact .inl h1
     exact .inr (.inl ⟨rfl,ss⟩)
   exact .inr (.inr h1),by have:=h.cnt;omega,(h.tdo x ((hm x).2 (.inr rfl))).1⟩
def SIn2.skip (h:SIn2 nx n a M0 ms td k x q) (hq:q<(nx x).length) (hmk:mkd ms (nx x)[q]):SIn2 nx n a M0 ms td k x (q+1):=
 ⟨h.len,h.sub,h.src,h.tdo,λi hi=>by
   rcases h.clo i hi with h1 | ⟨rfl,h1⟩ | h1
   . exact .inl h1
   . refine .inr (.inl ⟨rfl,λj hj=>?_⟩);rw [tk hq] at hj;rcases qae.1 hj with hj | hj
     . exact h1 j hj
     simp only [qaa,qag,qaz] at hj;rw [hj];exact hmk
   exact .inr (.inr h1),h.cnt,h.met⟩
def SIn2.push (h:SIn2 nx n a M0 ms td k x q) (hq:q<(nx x).length) (hn:(nx x)[q]<n) (g1:¬mkd ms (nx x)[q]):SIn2 nx n a M0 (ms.set (nx x)[q] true) (td++[(nx x)[q]]) k x (q+1):=by
 have hs:=λj=>zdc (ms:=ms) (i:=(nx x)[q]) (j:=j) (by rw [h.len];exact hn)
 have hr:RP nx a (nx x)[q]:=by
   rcases h.met with e | e
   . exact .one (e▸qac hq)
   exact .more e (qac hq)
 refine ⟨by simp [h.len],λi hi=>(hs i).2 (.inl (h.sub i hi)),λi hi=>?_,λi hi=>?_,λi hi=>?_,?_,h.met⟩
 . rcases (hs i).1 hi with h1 | h1
   . exact h.src i h1
   exact .inr (h1▸hr)
 . rcases qae.1 hi with h1 | h1
   . exact h.tdo i h1
   simp only [qaa,qag,qaz] at h1;exact ⟨.inr (h1▸hr),h1▸hn⟩
 . have g0:i=(nx x)[q]\/(i=a\/(mkd ms i/\¬mkd M0 i)):=by
     rcases hi with h1 | ⟨h1,h2⟩
     . exact .inr (.inl h1)
     rcases (hs i).1 h1 with h1 | h1
     . exact .inr (.inr ⟨h1,h2⟩)
     exact .inl h1
   rcases g0 with h1 | h1
   . exact .inl (qbw _ (by simp [h1]))
   rcases h.clo i h1 with h1 | ⟨rfl,h1⟩ | h1
   . exact .inl (qa1 _ h1)
   . refine .inr (.inl ⟨rfl,λj hj=>?_⟩);rw [tk hq] at hj;rcases qae.1 hj with hj | hj
     . exact (hs j).2 (.inl (h1 j hj))
     simp only [qaa,qag,qaz] at hj;exact (hs j).2 (.inr hj)
   exact .inr (.inr λj hj=>(hs j).2 (.inl (h1 j hj)))
 have:=h.cnt;rw [zi8 (by rw [h.len];exact hn) g1,qab];simp only [qam,qaI];omega
def SIn2.done (h:SIn2 nx n a M0 ms td k x q) (hq:(nx x).length<=q):SInv nx n a M0 ms td (k+1):=
 ⟨h.len,h.sub,h.src,h.tdo,λi hi=>by
   rcases h.clo i hi with h1 | ⟨rfl,h1⟩ | h1
   . exact .inl h1
   . rw [qai hq] at h1;exact .inr h1
   exact .inr h1,by have:=h.cnt;omega⟩
theorem SInv.fin (h:SInv nx n a M0 ms [] k) (hc:∀ i,mkd M0 i->i≠a->∀ j∈nx i,mkd M0 j) (i:Nat):mkd ms i↔mkd M0 i\/RP nx a i:=by
 refine ⟨h.src i,λhi=>?_⟩;rcases hi with hi | hi
 . exact h.sub i hi
 have g0:∀ b,(b=a\/mkd ms b)->∀ j∈nx b,mkd ms j:=λb hb=>by
   by_cases hba:b=a
   . rcases h.clo b (.inl hba) with h1 | h1
     . cases h1
     exact h1
   have hb:=hb.resolve_left hba;by_cases hm:mkd M0 b
   . exact λj hj=>h.sub j (hc b hm hba j hj)
   rcases h.clo b (.inr ⟨hb,hm⟩) with h1 | h1
   . cases h1
   exact h1
 induction hi with
 | one h1=>exact g0 a (.inl rfl) _ h1
 | more _ h2 ih=>exact g0 _ (.inr ih) _ h2
end
noncomputable def zbT (n:Nat) (p:Nat->Prop):List Bool:=(List.range n).map λi=>@decide (p i) (Classical.propDecidable _)
noncomputable def zbb (n:Nat) (p:Nat->Prop):List Nat:=(List.range n).filter λi=>@decide (p i) (Classical.propDecidable _)
noncomputable def zcU (p:Nat->Prop):Nat->Nat
 | 0=>0
 | n+1=>zcU p n ||| (if @decide (p n) (Classical.propDecidable _) then 2^n else 0)
section
variable {n:Nat} {p q:Nat->Prop}
def zam:(zbT n p).length=n:=by simp [zbT]
def zaM {i:Nat}:mkd (zbT n p) i↔i<n/\p i:=by
 constructor
 . intro h;have hl:=ztr h;rw [zaZ hl] at h;rw [zam] at hl;refine ⟨hl,?_⟩;simpa [zbT] using h
 rintro ⟨h1,h2⟩;rw [zaZ (by rw [zam];exact h1)];simpa [zbT] using h2
def zcp {ms:List Bool} (hl:ms.length=n) (h:∀ i,i<n->(mkd ms i↔p i)):ms=zbT n p:=
 zxf (by rw [hl,zam]) λi hi=>by
   rw [zaM,h i (hl▸hi)];exact ⟨λh=>⟨hl▸hi,h⟩,λh=>h.2⟩
def zaX (h:∀ i,i<n->(p i↔q i)):zbT n p=zbT n q:=zcp zam λi hi=>by rw [zaM,<-h i hi];exact ⟨λh=>h.2,λh=>⟨hi,h⟩⟩
def zaO {i:Nat}:i∈zbb n p↔i<n/\p i:=by simp [zbb]
def zhN (h:∀ i,i<n->(p i↔q i)):zbb n p=zbb n q:=by
 refine List.filter_congr λi hi=>?_;have:=h i (qaL.1 hi);by_cases hp:p i
 . simp [hp,this.1 hp]
 have hq:¬q i:=λhq=>hp (this.2 hq);simp [hp,hq]
def zqo:zbb (n+1) p=zbb n p++(if @decide (p n) (Classical.propDecidable _) then [n] else []):=by
 simp only [zbb,qbC,qbm,List.filter_cons,List.filter_nil]
def zdf (h:p n):zbb (n+1) p=zbb n p++[n]:=by rw [zqo];simp [h]
def zdz (h:¬p n):zbb (n+1) p=zbb n p:=by rw [zqo];simp [h]
def zbe:(zbb n p).length<=n:=qal (qbI _ _) ss
theorem za4 {i:Nat}:(zcU p n).testBit i=true↔i<n/\p i:=by
 induction n with
 | zero=>simp [zcU]
 | succ n ih=>
   rw [zcU,qaX,qaQ,ih];by_cases hp:p n
   . simp only [hp,qbb,if_true,qaU,qau];constructor
     . rintro (⟨h1,h2⟩ | rfl)
       . exact ⟨oo,h2⟩
       exact ⟨oo,hp⟩
     rintro ⟨h1,h2⟩;rcases qa9 (qbq.1 h1) with h | h
     . exact .inl ⟨h,h2⟩
     exact .inr h.symm
   simp only [hp,qak,qa2,if_false,qcB,qaz];constructor
   . rintro ⟨h1,h2⟩;exact ⟨oo,h2⟩
   rintro ⟨h1,h2⟩;rcases qa9 (qbq.1 h1) with h | h
   . exact ⟨h,h2⟩
   exact absurd (h▸h2) hp
def zjU:zcU p n<2^n:=by
 refine qcL _ λi _=>?_;cases h:(zcU p n).testBit i
 . rfl
 have:=(za4.1 h).1;omega
def zen {m:Nat} (h:∀ i,m.testBit i=true↔i<n/\p i):m=zcU p n:=
 qbl λi=>by
   have h1:=h i;rw [<-za4] at h1;cases e1:m.testBit i<;>cases e2:(zcU p n).testBit i<;>simp_all
def zbB (h:∀ i,i<n->(p i↔q i)):zcU p n=zcU q n:=zen λi=>by
 rw [za4];exact ⟨λ⟨h1,h2⟩=>⟨h1,(h i h1).1 h2⟩,λ⟨h1,h2⟩=>⟨h1,(h i h1).2 h2⟩⟩
end
end Go.Sh
namespace Go.Proofs.YtkgiigmcbgifdaaGreatDoor
open Go Go.Sh Go.Proofs
open Rep (rep)
variable {W0 w w':wD} {b i n p q:Nat} {c:DCode} {op:Int} {v0:vL}
def zaE (c:DCode) (i:Nat):List Nat:=
 if (zap c i).op=9 then [] else if (zap c i).op=3 then [(zap c i).to.toNat] else if (zap c i).op=2/\(zap c i).to≠(i:Int)+1 then [i+1,(zap c i).to.toNat] else [i+1]
def zdg (hc:CodeR c) {i j:Nat} (hi:i<c.ins.length) (h:j∈zaE c i):j<c.ins.length/\zaA c j=zaA c i:=by
 have h9:=zxc hc (a:=(i:Int)) oo oo;have g0:=zrT hc (a:=(i:Int)) oo oo;simp only [qaF] at h9 g0;unfold zaE at h;split at h
 . cases h
 rename_i ho;have h1:=h9 ho;have e1:((i+1:Nat):Int)=(i:Int)+1:=oo;split at h
 . rename_i h3;simp only [qaa,qag,qaz] at h;subst h;have h2:=g0 (.inr h3);rw [qbi h2.1];exact ⟨oo,h2.2.2⟩
 split at h
 . rename_i h2;simp only [qaa,qag,qaz] at h;rcases h with rfl | rfl
   . exact ⟨oo,by rw [e1];exact h1.2⟩
   have h2:=g0 (.inl h2.1);rw [qbi h2.1];exact ⟨oo,h2.2.2⟩
 simp only [qaa,qag,qaz] at h;subst h;exact ⟨oo,by rw [e1];exact h1.2⟩
def zfk (c:DCode) (i:Nat):(zaE c i).length<=2:=by
 unfold zaE;split
 . simp
 split
 . simp
 split<;>simp
section
variable {P:pG} {w:wD} {K:VW}
def vsI (l:List Int):List vL:=l.map λx=>.int .i64 x
theorem zqp {w:wD}:∀ {l:List Int},(∀ x∈l,I64 x)->Cells [] w (vsI l) l
 | [],_=>⟨rfl,rfl⟩
 | x :: l,h=>⟨[],[],[.int .i64 x],vsI l,rfl,rfl,⟨rfl,rfl,h x ss⟩,zqp λy hy=>h y (by simp [hy])⟩
def zCp {l:List Int} {e:Nat} (hl:∀ x∈l,I64 x) (hm:l.length<=maxLen):Own w.heap.size (w.alloc (.cells (vsI l).toArray e)) (.slice (some ⟨w.heap.size,0,none⟩) l.length l.length) l:=by
 have hB:Blk w.heap.size e (w.alloc (.cells (vsI l).toArray e)) (vsI l):=heap_alloc_new w _;refine ⟨[w.heap.size],⟨⟨_,⟨some ⟨w.heap.size,0,none⟩,l.length,[],vsI l,rfl,lr _,hm,zqp hl,.inr ⟨_,_,rfl,rfl,hB.range,?_⟩⟩,rfl⟩,ss,λ_ hi=>?_⟩,ss⟩
 . exact (Array.getElem?_eq_some_iff.1 hB).1
 simp only [qaa,qag,qaz] at hi;subst hi;exact ⟨_,_,hB⟩
theorem zny {t e:TypeId} {by_:Nat} {x y:Int} (ht:P.underlying t=some (.slice e)) (he:tyI P e=some (1,by_,false)) (hz:zcq P e=some [.int .i64 0]) (hx:I64 x) (hy:I64 y)
   (k:∀ v w',Ext w w'->Own w.heap.size w' v [x,y]->K v w'):OP P (Instr.buildSlice t 2 #[(0,.int .i64 x),(1,.int .i64 y)]) w K:=by
 unfold zcq at hz;cases hi:P.info? e with
 | none=>simp [hi] at hz
 | some i=>
   simp only [hi] at hz;obtain ⟨v,hv,g1⟩:=qaS.1 hz;refine ⟨_,w.alloc (.cells (vsI [x,y]).toArray e),?_,k _ _ (zaU w _) (zCp (l:=[x,y]) (e:=e) (by simp [hx,hy]) (by simp [maxLen]))⟩;have g0:v.cells=#[.int .i64 0]:=qcc (by simpa using g1);have e1:∀ n:Int,(Value.int .i64 n).cells=#[.int .i64 n]:=λ_=>rfl;simp only [Instr.buildSlice,Sem.run_bind,run_underlying ht,Result.andThen_ok,za6 he];have e2:Array.range 2=#[0,1]:=by decide
   simp [zeroValue,typeInfo,hi,hv,newRow,Instr.fill,g0,vsI,e1,e2]
end
def zEP:zcq tp 3=some [.int .i64 0]:=by kernel_rfl
def zi9 (hA:At W0 b 0 c) (e0:Ext W0 w) (hc:CodeR c) (hi:i<c.ins.length) :
   CALL tp 142 [.pointer (some ⟨b,0,none⟩),.int .i64 (i:Int)] w λr w'=>Ext w w'/\Own w.heap.size w' r (zaK (zaE c i)):=by
 refine co (g:=kf [] [] []) Tryz.func142 ?_;have:=hc.f.ins;have g1:=zrT hc (a:=(i:Int)) oo oo;simp only [qaF] at g1;refine NIL.mk rfl<|zaa zbc<|zaa zaH<|zab zcQ (zao hA) e0 λ_ g3=>zac u32 zdw g3 hi λ_ _ g2=>?_;rw [zaR] at g2;have C:zaE c i=if (zap c i).op=9 then [] else if (zap c i).op=3 then [(zap c i).to.toNat] else if (zap c i).op=2/\(zap c i).to≠(i:Int)+1 then [i+1,(zap c i).to.toNat] else [i+1]:=rfl;generalize zap c i=I at *;refine zab zdw g2 e0 λ_ g4=>zbN zsM rfl zdw rfl g4 e0 λ_ D g0 _=>zaa zbE<|zad ty3 (zaD g0) (xrf _) λ_=>zag<|br (λc9=>?_) (λc9=>?_)
 . rw [C,qah c9];exact ⟨D,zk8 rfl⟩
 rw [qad c9] at C;refine zag<|br (λc3=>?_) (λc3=>?_)
 . rw [qah c3] at C;have ht:=g1 (.inr c3);refine zaa zfa<|zad ty3 (zcJ g0) (xrf _) λhI=>zc8 (x:=I.to) u31 ty3 z3 dD (zcF hI) λv w2 M hr=>⟨D.t M,?_⟩;rw [C];have e:zaK [I.to.toNat]=[I.to]:=by simp [zaK,qbi ht.1]
   rw [e];have:=D.size;exact hr.own.own.mono oo
 rw [qad c3] at C;have e1:zaK [i+1]=[((i+1:Nat):Int)]:=by simp [zaK]
 refine zag<|br (λc2=>?_) (λc2=>?_)
 . have ht:=g1 (.inl c2);refine zaa zfa<|zad ty3 (zcJ g0) (xrf _) λhI=>zaw<|zaJ<|br (λcn=>?_) (λcn=>?_)
   . rw [qah ⟨c2,oo⟩] at C;refine zaw<|zaa zfa<|zad ty3 (zcJ g0) (xrf _) λ_=>zny u31 ty3 zEP io hI λv w2 M hr=>⟨D.t M,?_⟩;have e:zaK [i+1,I.to.toNat]=[((i+1:Nat):Int),I.to]:=by simp [zaK,qbi ht.1]
     rw [C,e];have:=D.size;exact hr.mono oo
   rw [qad (λh=>cn (by have:=h.2;omega))] at C;refine zaw<|zc8 (x:=((i+1:Nat):Int)) u31 ty3 z3 dD (zcF io) λv w2 M hr=>⟨D.t M,?_⟩;rw [C,e1];have:=D.size;exact hr.own.own.mono oo
 rw [qad (λh=>c2 h.1)] at C;refine zaw<|zc8 (x:=((i+1:Nat):Int)) u31 ty3 z3 dD (zcF io) λv w2 M hr=>⟨D.t M,?_⟩;rw [C,e1];have:=D.size;exact hr.own.own.mono oo
def zjV (h0:Is W0 v0 c) (e0:Ext W0 w) (hc:CodeR c) (hi:i<c.ins.length) :
   CALL tp 240 [v0,.int .i64 (i:Int)] w λr w'=>Ext w w'/\Own w.heap.size w' r (zaK (zaE c i)):=by
 refine co (g:=kf [] [] []) Tryz.func240 ?_;have:=hc.f.ins;have g1:=zrT hc (a:=(i:Int)) oo oo;simp only [qaF] at g1;refine zbk h0 e0 λ_ g2 hA=>zaa zaH<|zab zcQ (zao hA) (xrf _) λ_ g5=>zac u32 zdw g5 hi λ_ _ g3=>?_;rw [zaR] at g3;have C:zaE c i=if (zap c i).op=9 then [] else if (zap c i).op=3 then [(zap c i).to.toNat] else if (zap c i).op=2/\(zap c i).to≠(i:Int)+1 then [i+1,(zap c i).to.toNat] else [i+1]:=rfl;generalize zap c i=I at *;refine zab zdw g3 (xrf _) λ_ g9=>zbN zsM rfl zdw rfl g9 (xrf _) λ_ g4 g0 _=>?_;have:=g2.size;have:=g4.size;have D:=g2.t g4;have e1:zaK [i+1]=[((i+1:Nat):Int)]:=by simp [zaK]
 refine zaa zbE<|zad ty3 (zaD g0) (xrf _) λ_=>zag<|br (λc2=>?_) (λc2=>?_)
 . have ht:=g1 (.inl c2);rw [qad oo,qad oo] at C;refine zaa zfa<|zad ty3 (zcJ g0) (xrf _) λhI=>zaw<|zag<|br (λcn=>?_) (λcn=>?_)
   . rw [qad (λh=>h.2 oo)] at C;refine zaw<|zc8 (x:=((i+1:Nat):Int)) u31 ty3 z3 dD (zcF io) λv w2 M hr=>⟨D.t M,?_⟩;rw [C,e1];exact hr.own.own.mono oo
   rw [qah ⟨c2,oo⟩] at C;refine zaw<|zaa zfa<|zad ty3 (zcJ g0) (xrf _) λ_=>zny u31 ty3 zEP io hI λv w2 M hr=>⟨D.t M,?_⟩;have e:zaK [i+1,I.to.toNat]=[((i+1:Nat):Int),I.to]:=by simp [zaK,qbi ht.1]
   rw [C,e];exact hr.mono oo
 refine zag<|br (λc3=>?_) (λc3=>?_)
 . rw [qad oo,qah c3] at C;have ht:=g1 (.inr c3);refine zaa zfa<|zad ty3 (zcJ g0) (xrf _) λhI=>zc8 (x:=I.to) u31 ty3 z3 dD (zcF hI) λv w2 M hr=>⟨D.t M,?_⟩;rw [C];have e:zaK [I.to.toNat]=[I.to]:=by simp [zaK,qbi ht.1]
   rw [e];exact hr.own.own.mono oo
 refine zag<|br (λc9=>?_) (λc9=>?_)
 . rw [qah c9] at C;rw [C];refine zaI (α:=Int) u31 ty3 λa w2 M hr=>?_;have:=M.size;exact ⟨D.t M,hr.own.own.mono oo⟩
 rw [qad c9,qad c3,qad (λh=>c2 h.1)] at C;refine zaw<|zc8 (x:=((i+1:Nat):Int)) u31 ty3 z3 dD (zcF io) λv w2 M hr=>⟨D.t M,?_⟩;rw [C,e1];exact hr.own.own.mono oo
section
variable {P:pG} {w w':wD}
def zfJ {α:Type} [Rep α] [Flat α] {F:List Nat} {v:vL} {l:List α} (hm:Mine F w v l) (hl:l≠[]):∃ b o cap,v=.slice (some ⟨b,o,none⟩) l.length cap/\F=[b]:=by
 obtain ⟨⟨_,⟨_,cap,_,xs,rfl,_,_,hc,h4⟩,rfl⟩,_,_⟩:=hm;rcases h4 with ⟨h4,_⟩ | ⟨b,o,rfl,rfl,_,_⟩
 . exact absurd h4 hl
 have g0:=Cells.flat (xs:=xs) hc;subst g0;exact ⟨b,o,cap,rfl,rfl⟩
def zbm {α:Type} [Rep α] [Flat α] (h1:Rep.size α=1) {t by_ m n i:Nat} {l:List α} {y:α} {u:vL} {K:wD->Prop} (ht:tyI P t=some (1,by_,Rep.agg α)) (hm:Mine [m] w (.slice (some ⟨m,0,none⟩) n n) l) (hl:l.length=n) (hi:i<n) (hu:Mine [] w u y)
   (k:∀ w',Chg [m] w w'->Mine [m] w' (.slice (some ⟨m,0,none⟩) n n) (l.set i y)->K w'):OPU P (Instr.storeAt t (.pointer (some ⟨m,i*1,none⟩)) u) w K:=by
 obtain ⟨b,_,cap,_,hv,hL⟩:=zDy hm (k:=i) oo;simp only [Value.slice.injEq,qaq,Addr.mk.injEq,and_true] at hv;obtain ⟨⟨rfl,rfl⟩,_⟩:=hv;rw [h1,qba] at hL;refine zfc (y':=y) (by rw [h1];exact ht) hL hu λw8 F' g1 g0 g2=>?_
 have g3:F'=[m]:=by
   obtain ⟨b,_,cap,hv,g4⟩:=zfJ g0 (by intro e;have h:=qat List.length e;rw [qbD,hl] at h;simp only [qaI] at h;omega);subst g4;have:=g2 b ss;simpa using this
 subst g3;exact k w8 g1 g0
def zb5 {α:Type} [Rep α] {t e by_ m n i:Nat} {K:vL->Prop} (h1:Rep.size α=1) (ht:P.underlying t=some (.slice e)) (he:tyI P e=some (1,by_,Rep.agg α)) (hi:i<n) (kk:K (.pointer (some ⟨m,i*1,none⟩))) :
   RD P (Instr.indexAt t (.slice (some ⟨m,0,none⟩) n n) (.int .i64 (i:Int))) w K:=zk9 ht he hi kk
end
structure WI (w1 w:wD) (m n lo hi:Nat) (tv:vL) (L:List Nat) (ms:List Bool):Prop where
 chg:ChgI m (m+1) w1 w
 row:RowI lo hi 3 w tv (zaK L)
 mks:Mine [m] w (.slice (some ⟨m,0,none⟩) n n) ms
 l0:w1.heap.size<=lo
 m1:m<lo
 h2:lo<=hi
 h3:hi<=w.heap.size
section
variable {w1 w w':wD} {m n lo hi:Nat} {tv:vL} {L:List Nat} {ms:List Bool}
def WI.step (h:WI w1 w m n lo hi tv L ms) (hx:Ext w w'):WI w1 w' m n lo hi tv L ms:=
 ⟨h.chg.trans hx.toI,h.row.ext hx,h.mks.ext hx,h.l0,h.m1,h.h2,qal h.h3 hx.size⟩
def WI.push {g2:vL} {x:Nat} {g0 g1:Nat} (h:WI w1 w m n lo hi tv L ms) (hc:ChgI lo hi w w') (hr:RowI g0 g1 3 w' g2 (zaK L++[(x:Int)])) (hd:g0=lo/\g1=hi\/g0=w.heap.size/\g1=w'.heap.size) :
   WI w1 w' m n g0 g1 g2 (L++[x]) ms:=by
 have hs:=hc.size;have:=h.l0;have:=h.h2;have:=h.h3;have h4:=h.chg.size;have:=h.m1;have g3:=h.mks.lt m ss;refine ⟨⟨hc.os.trans h.chg.os,hc.tape.trans h.chg.tape,hc.output.trans h.chg.output,qal h4 hs,λb hb ho=>(hc.block b (qan hb h4) oo).trans (h.chg.block b hb ho)⟩,by rw [zcz];exact hr,h.mks.keep λb hb=>?_,oo,oo,oo,oo⟩;simp only [qaa,qag,qaz] at hb;subst hb;exact hc.block b g3 oo
def WI.mark {g1:List Bool} (h:WI w1 w m n lo hi tv L ms) (hc:Chg [m] w w') (hm:Mine [m] w' (.slice (some ⟨m,0,none⟩) n n) g1):WI w1 w' m n lo hi tv L g1:=by
 have g0:ChgI m (m+1) w w':=hc.toI λ_ hb=>by simp only [qaa,qag,qaz] at hb;omega
 have h5:=h.m1;exact ⟨h.chg.trans g0,h.row.chg g0 oo,hm,h.l0,h5,h.h2,qal h.h3 g0.size⟩
end
def zCZ:zcq tp 4=some [.bool false]:=by kernel_rfl
def zc2 {x:Int} (lo hi:Nat) (h:I64 x):OwnI lo hi w (.int .i64 x) x:=⟨[],zcF h,ss⟩
def zbM {b:Bool}:Mine [] w (.bool b) b:=⟨⟨[.bool b],⟨rfl,rfl⟩,rfl⟩,qas,Wr.nil w⟩
def zkq {a:Nat} (h0:Is W0 v0 c) (e0:Ext W0 w) (hc:CodeR c) (ha:a<c.ins.length) :
   CALL tp 244 [v0,.int .i64 (a:Int)] w λr w'=>Ext w w'/\∃ m,r=.slice (some ⟨m,0,none⟩) c.ins.length c.ins.length/\w.heap.size<=m/\Mine [m] w' (.slice (some ⟨m,0,none⟩) c.ins.length c.ins.length) (zbT c.ins.length (RP (zaE c) a)):=by
 refine co (g:=kf [] [(4,36028797018899392,[6,7]),(8,36028796750529088,[6,9])] [(6,[0,1,2,3,4,5,6],0)]) Tryz.func244 ?_;have hil:=hc.f.ins;have gC:=λ{i j:Nat}=>zdg hc (i:=i) (j:=j);refine zbk h0 e0 λw1 gj hA=>zaa zaH<|zab zcQ (zao hA) (xrf _) λ_ gD=>zae u32 gD ?_;generalize hn:c.ins.length=n at *;refine zhG (α:=Bool) zdj ty4 rfl rfl zCZ oo oo λw2 gl gE=>?_;have hs1:=gj.size;have hs2:=gl.size
 have g4:Mine [w1.heap.size] w2 (.slice (some ⟨w1.heap.size,0,none⟩) n n) (List.replicate n (RepZ.zv:Bool)):=by
   obtain ⟨_,hM,_⟩:=gE.own;obtain ⟨b,_,_,hv,gn⟩:=zfJ hM (by intro e;have:=qat List.length e;simp at this;omega);simp only [Value.slice.injEq,qaq,Addr.mk.injEq,qa8,and_true] at hv;obtain ⟨⟨hb,ho⟩,_⟩:=hv;rw [<-hb] at gn;rwa [gn] at hM
 have gF:(List.replicate n (RepZ.zv:Bool))=List.replicate n false:=rfl;rw [gF] at g4;refine zc8 (x:=(a:Int)) u31 ty3 z3 dD (zcF io) λgp w3 g5 gG=>?_;have gH:=g5.size;generalize hm:w1.heap.size=m at *;have gI:WI w1 w3 m n w2.heap.size w3.heap.size gp [a] (List.replicate n false):=⟨(gl.t g5).toI,gG,g4.ext g5,oo,by have:=g4.lt m ss;omega,gH,qaE _⟩;refine zar (1+n) (λh us w'=>∃ (tv:vL) (lo hi:Nat) (L:List Nat) (ms:List Bool),us=[tv,.int .i64 (h:Int)]/\h<=L.length/\WI w1 w' m n lo hi tv L ms/\SInv (zaE c) n a (List.replicate n false) ms (L.drop h) h) 0 (z0 _) ⟨gp,_,_,[a],_,rfl,ss,gI,SInv.start ss ha⟩ ?_;rintro h mk _ w4 _ ⟨tv,lo,hi,L,ms,hu,_,g3,D⟩;obtain ⟨gJ,gK⟩:=zcv hu;rw [gJ,gK];have gL:=D.bound;rw [qbc] at gL;refine zae u31 g3.row.is ?_;rw [zaf];refine zah<|br (λ_=>?_) (λ_=>?_)
 case refine_2=>
   have gM:h=L.length:=oo;rw [gM,qbk] at D;have g9:=D.fin λi hi=>absurd hi zbR
   have gN:ms=zbT n (RP (zaE c) a):=zcp D.len λi hi=>by
     rw [g9 i];exact ⟨λh=>h.resolve_left zbR,.inr⟩
   rw [<-gN];have gO:Ext w1 w4:=(xrf w1).chgI g3.chg oo;exact ⟨gj.t gO,m,rfl,oo,g3.mks⟩
 have hh:h<L.length:=oo;have gP:=zai w4;have M:=g3.step gP;generalize World.drew1 w4=w5 at *;have gq:∀ {w:wD} {lo hi tv L ms},WI w1 w m n lo hi tv L ms->Ext w1 w:=λh=>(xrf w1).chgI h.chg oo;refine zab zbO hA (gq M) λ_ gQ=>zac u31 ty3 (i:=h) M.row.is (by rw [zaf];exact hh) λb1 o1 V=>?_;rw [zaY] at V;refine zad ty3 V (xrf _) λ_=>?_;generalize hx:L[h]=x at *;have gb:L.drop h=x :: L.drop (h+1):=by rw [qax hh,hx]
 have gr:x<n:=(D.tdo x (by rw [gb];simp)).2;refine (zjV gQ (gq M) hc (by rw [hn];exact gr)).mono ?_;rintro gc w6 ⟨gR,gS⟩;have gT:=M.step gR;have gU:=M.h3;have hm6:=M.mks.lt m ss;have gV:SIn2 (zaE c) n a (List.replicate n false) ms (L.drop (h+1)) h x 0:=D.pop (λi=>by rw [gb];simp [or_comm]) (by rw [gb];simp);have hl2:=zfk c x;refine zar (zaE c x).length (λq us w'=>∃ (tv:vL) (lo hi:Nat) (L:List Nat) (ms:List Bool),us=[tv,.int .i64 (q:Int)]/\q<=(zaE c x).length/\h<L.length/\WI w1 w' m n lo hi tv L ms/\SIn2 (zaE c) n a (List.replicate n false) ms (L.drop (h+1)) h x q/\OwnI w5.heap.size w6.heap.size w' gc (zaK (zaE c x))/\(hi<=w5.heap.size\/w6.heap.size<=lo)/\w6.heap.size<=w'.heap.size) 0 (z0 _) ⟨tv,lo,hi,L,ms,rfl,z0 _,hh,gT,gV,gS.toI,.inl gU,qaE _⟩ ?_;rintro q gs _ w7 _ ⟨gt,gx,gy,L7,O,gW,_,gX,Z,g0,U,gY,gZ⟩;obtain ⟨gd,gf⟩:=zcv gW;rw [gd,gf];refine zae u31 U.is ?_;rw [zaf];refine zah<|br (λ_=>?_) (λ_=>?_)
 case refine_2=>refine zaw<|⟨mk-1,oo,h+1,oo,gt,gx,gy,L7,O,rfl,oo,Z,g0.done oo⟩
 have hq:q<(zaE c x).length:=oo
 have gg:∀ {w:wD} {K:vL->Prop} (ho:OwnI w5.heap.size w6.heap.size w gc (zaK (zaE c x))) (k:K (.int .i64 (((zaE c x)[q]:Nat):Int))),RD tp (Instr.indexAt 31 gc (.int .i64 (q:Int))) w λh4=>RD tp (Instr.loadAt 3 h4) w K:=λho k=>by
   refine zac u31 ty3 (i:=q) ho.is (by rw [zaf];exact hq) λb1 o1 V=>?_;rw [zaY] at V;exact zad ty3 V (xrf _) λ_=>k
 have hy:=gC gr (qac hq);refine gg U ?_;have C:=g0.len;refine zac zdj ty4 Z.mks.is (by rw [C];exact hy.1) λ_ _ h5=>zaC ty4 h5 (xrf _)<|zau ?_;have g1:=zaZ (ms:=O) (i:=(zaE c x)[q]) (by rw [C];exact hy.1);refine zaN (λhf=>?_) (λhf=>?_)
 . have gh:¬mkd O (zaE c x)[q]:=by rw [g1];simpa using hf
   refine gg U<|zb5 (α:=Bool) rfl zdj ty4 hy.1<|zbm (α:=Bool) rfl ty4 Z.mks C hy.1 zbM λw8 gz h6=>?_;have gA:=Z.mark gz h6;have g2:ChgI m (m+1) w7 w8:=gz.toI λb hb=>by simp only [qaa,qag,qaz] at hb;omega
   have gB:=U.chg g2 oo;refine gg gB ?_;have h8:=g0.push hq hy.1 gh;generalize (zaE c x)[q]=y at *
   have hLb:L7.length<=2+n:=by
     have h1:=g0.cnt;have h2:=zhm O;rw [qbc] at h1;omega
   refine zdX (x:=(y:Int)) u31 ty3 z3 zc3 dD gA.row (zc2 0 0 io) (by rw [zak,zaf];omega) (by rw [zaf];omega) λh9 _ hd he gi hg hj=>?_;have hk:=gA.push gi hg hj;have hl:=g2.size;have hr:=U.is;refine zaw<|⟨gs-1,oo,q+1,oo,h9,hd,he,L7++[y],_,rfl,oo,by simp;omega,hk,?_,gB.chg gi oo,oo,by have:=gi.size;omega⟩;rw [qb1 oo];exact h8
 have gh:mkd O (zaE c x)[q]:=by rw [g1];simpa using hf
 refine zaw<|⟨gs-1,oo,q+1,oo,gt,gx,gy,L7,O,rfl,oo,gX,Z,g0.skip hq gh,U,gY,gZ⟩
section
variable {P:pG} {w:wD} {α:Type} [Rep α] [Flat α] {lo hi e:Nat} {v:vL} {l:List α}
def zCq {t e b o n cap k by_:Nat} {K:vL->Prop} (ht:P.underlying t=some (.slice e)) (he:tyI P e=some (Rep.size α,by_,Rep.agg α)) (hk:k<=n) (hn:n<=cap) (kk:K (.slice (some ⟨b,o,none⟩) k cap)) :
   RD P (Instr.sliceAt t (.slice (some ⟨b,o,none⟩) n cap) none (some (.int .i64 (k:Int))) none) w K:=by
 refine za9 (λw' _=>?_) kk
 have g0:(Instr.sliceBounds true n cap none (some (.int .i64 (k:Int))) none).run P w'=.ok (0,k,cap) w':=by
   have h5:(k:Int)<=(cap:Int):=oo;simp [Instr.sliceBounds,Instr.sliceBound,asIntOf,h5];intro _;omega
 simp only [Instr.sliceAt,Instr.slice,Sem.run_bind,run_underlying ht,Result.andThen_ok,g0,za6 he];simp [Addr.add_mid]
def zzi (h:RowI lo hi e w v l) (hl:l≠[]) {k:Nat} (hk:k<=l.length):∃ g cap,v=.slice (some ⟨g,0,none⟩) l.length cap/\l.length<=cap/\RowI lo hi e w (.slice (some ⟨g,0,none⟩) k cap) (l.take k):=by
 rcases h with ⟨_,_,h⟩ | ⟨F,⟨xs,_,⟨g0,ho⟩,hc,hF,_⟩,hn,hb⟩
 . exact absurd h hl
 rcases ho with ⟨_,h0⟩ | ⟨g,cap,cur,rfl,_,hg,h1,h2,h3,h4⟩
 . exact absurd (qaj h0) hl
 refine ⟨g,cap,rfl,h1,.inr ⟨F,⟨xs.take (k*Rep.size α),[],⟨?_,.inr ⟨g,cap,cur,?_,z0 _,hg,by rw [qao];omega,h2,h3,?_⟩⟩,?_,?_,Wr.nil w⟩,hn,hb⟩⟩
 . rw [qao,qao,g0,qbH hk];exact qbH (qa6 _ hk)
 . rw [qao,qbH hk]
 . rw [qao,qbH hk,<-h4,List.take_take,qbH (qa6 _ hk)]
 . have e1:l=l.take k++l.drop k:=by simp
   have g1:=Cells.flat (xs:=xs) hc;subst g1;rw [e1] at hc;obtain ⟨_,_,x1,_,_,g2,c1,_⟩:=Cells.split hc;have g4:=Cells.flat (xs:=x1) c1;subst g4;have g3:=Cells.len c1;rw [qao,qbH hk] at g3;rw [g2,List.take_left' g3];exact c1
 have g1:=Cells.flat (xs:=xs) hc;subst g1;rw [hF];rfl
end
def zrU {a:Nat} (h0:Is W0 v0 c) (e0:Ext W0 w) (hc:CodeR c) (ha:a<c.ins.length) :
   CALL tp 244 [v0,.int .i64 (a:Int)] w λr w'=>Ext w w'/\Own w.heap.size w' r (zbT c.ins.length (RP (zaE c) a)):=
 (zkq h0 e0 hc ha).mono λr w' ⟨hx,m,hr,hm,hM⟩=>⟨hx,[m],by rw [hr];exact hM,λb hb=>by simp only [qaa,qag,qaz] at hb;omega⟩
def KAt (W0 w:wD) (b:Nat) (c:DCode):Prop:=∃ F cs,Rep.rep F W0 cs c/\w.rangeAt b 0 cs/\b<w.heap.size
def KAt.at (h:KAt W0 w b c) (hx:Ext W0 w):At w b 0 c:=by
 obtain ⟨F,cs,hr,hc,_⟩:=h;exact ⟨F,cs,zb7 hr hx,hc⟩
def KAt.keep (h:KAt W0 w b c) (hb:w'.heap[b]?=w.heap[b]?) (hs:w.heap.size<=w'.heap.size):KAt W0 w' b c:=by
 obtain ⟨F,cs,hr,hc,_⟩:=h;exact ⟨F,cs,hr,zbx hc hb,oo⟩
def KAt.lt (h:KAt W0 w b c):b<w.heap.size:=by obtain ⟨_,_,_,_,h⟩:=h;exact h
def zqq {b m n a:Nat} {M:List Bool} (hk:KAt W0 w b c) (e0:Ext W0 w) (hc:CodeR c) (hn:c.ins.length=n) (ha:a<n) (hM:Mine [m] w (.slice (some ⟨m,0,none⟩) n n) M) (hl:M.length=n) (h0:W0.heap.size<=m) (hb:b≠m)
   (g9:∀ i,mkd M i->i≠a->∀ j∈zaE c i,mkd M j) :
   CALL tp 75 [.pointer (some ⟨b,0,none⟩),.slice (some ⟨m,0,none⟩) n n,.int .i64 (a:Int)] w λr w'=>r=.tuple #[]/\ChgI m (m+1) w w'/\Mine [m] w' (.slice (some ⟨m,0,none⟩) n n) (zbT n λi=>mkd M i\/RP (zaE c) a i):=by
 refine co (g:=kf [] [(1,140737488351936,[6]),(5,140736414614080,[6,30])] []) Tryz.func75 ?_;have gD:=hc.f.ins;have gh:=λ{i j:Nat}=>zdg hc (i:=i) (j:=j);rw [hn] at gh gD;refine zc8 (x:=(a:Int)) u31 ty3 z3 dD (zcF io) λgi w1 g4 gE=>?_;have gF:WI w w1 m n w.heap.size w1.heap.size gi [a] M:=⟨g4.toI,gE,hM.ext g4,lr _,hM.lt m ss,g4.size,qaE _⟩;have gG:∀ {w':wD} {lo hi tv L ms},WI w w' m n lo hi tv L ms->At w' b 0 c:=λh=>(hk.keep (h.chg.block b hk.lt oo) h.chg.size).at (e0.chgI h.chg h0);refine zar (1+n) (λh us w'=>∃ (tv:vL) (lo hi:Nat) (L:List Nat) (ms:List Bool),us=[tv]/\WI w w' m n lo hi tv L ms/\SInv (zaE c) n a M ms L h) 0 (z0 _) ⟨gi,_,_,[a],_,rfl,gF,SInv.start hl ha⟩ ?_;rintro h mk _ w4 _ ⟨tv,lo,hi,L,ms,hu,C,O⟩;try replace hu:=zbv hu
 rw [hu];have hb4:=O.bound;refine zae u31 C.row.is ?_;rw [zaf];refine zbZ<|br (λ_=>?_) (λ_=>?_)
 case refine_2=>have gH:L=[]:=qaj oo;rw [gH] at O;have g5:=O.fin g9;have gI:ms=zbT n (λi=>mkd M i\/RP (zaE c) a i):=zcp O.len λi hi=>g5 i;rw [<-gI];exact ⟨rfl,C.chg,C.mks⟩
 obtain ⟨z,hz⟩:∃ z,L.length=z+1:=⟨L.length-1,oo⟩;have gj:z<L.length:=oo;have gJ:zaK L≠[]:=λe=>by have:=qat List.length e;rw [zaf,hz] at this;cases this
 refine zae u31 C.row.is ?_;rw [zaf];refine zbp io ?_;have ez:(L.length:Int)-1=(z:Int):=oo;rw [ez];refine zac u31 ty3 (i:=z) C.row.is (by rw [zaf];exact gj) λ_ _ gl=>?_;rw [zaY] at gl;refine zad ty3 gl (xrf _) λ_=>?_;generalize hx:L[z]=x at *;refine zae u31 C.row.is ?_;rw [zaf];refine zbp io ?_;rw [ez];obtain ⟨g,cap,gn,g0,gp⟩:=zzi C.row gJ (k:=z) (by rw [zaf];omega);rw [zaf] at gn g0;rw [gn];refine zCq (α:=Int) u31 ty3 oo g0 ?_
 have gq:L=L.take z++[x]:=by
   have:=tk gj;rw [<-hz,qaM,hx] at this;exact this
 rw [<-zxe] at gp;have g3:WI w w4 m n lo hi (.slice (some ⟨g,0,none⟩) z cap) (L.take z) ms:=⟨C.chg,gp,C.mks,C.l0,C.m1,C.h2,C.h3⟩;have gr:x<n:=(O.tdo x (by rw [gq];simp)).2;refine (zi9 (gG g3) (xrf _) hc (by rw [hn];exact gr)).mono ?_;rintro gK w6 ⟨gL,gs⟩;have gM:=g3.step gL;have gN:=g3.h3;have hm6:=g3.mks.lt m ss
 have gO:∀ i,i∈L↔i∈L.take z\/i=x:=λi=>by
   have:i∈L↔i∈L.take z++[x]:=by rw [<-gq]
   rw [this];simp
 have gP:SIn2 (zaE c) n a M ms (L.take z) h x 0:=O.pop gO (by rw [qao];omega);have hl2:=zfk c x;refine zae u31 gs.is ?_;rw [zaf];refine zar (zaE c x).length (λq us w'=>∃ (tv:vL) (lo hi:Nat) (L:List Nat) (ms:List Bool),us=[tv,.int .i64 (q:Int)]/\q<=(zaE c x).length/\WI w w' m n lo hi tv L ms/\SIn2 (zaE c) n a M ms L h x q/\OwnI w4.heap.size w6.heap.size w' gK (zaK (zaE c x))/\(hi<=w4.heap.size\/w6.heap.size<=lo)/\w6.heap.size<=w'.heap.size) 0 (z0 _) ⟨_,lo,hi,_,ms,rfl,z0 _,gM,gP,gs.toI,.inl gN,qaE _⟩ ?_;rintro q gt _ w7 _ ⟨gx,gy,gz,L7,U,gQ,_,V,Z,gb,gR,gS⟩;obtain ⟨gc,gd⟩:=zcv gQ;rw [gc,gd];refine zah<|br (λ_=>?_) (λ_=>?_)
 case refine_2=>exact ⟨mk-1,oo,h+1,oo,gx,gy,gz,L7,U,rfl,V,Z.done oo⟩
 have hq:q<(zaE c x).length:=oo;have hy:=gh gr (qac hq);refine zac u31 ty3 (i:=q) gb.is (by rw [zaf];exact hq) λ_ _ gA=>?_;rw [zaY] at gA;refine zad ty3 gA (xrf _) λ_=>?_;have D:=Z.len;refine zac zdj ty4 V.mks.is (by rw [D];exact hy.1) λ_ _ gT=>zaC ty4 gT (xrf _)<|zau ?_;have g1:=zaZ (ms:=U) (i:=(zaE c x)[q]) (by rw [D];exact hy.1);refine zaN (λhf=>?_) (λhf=>?_)
 . have gf:¬mkd U (zaE c x)[q]:=by rw [g1];simpa using hf
   refine zb5 (α:=Bool) rfl zdj ty4 hy.1<|zbm (α:=Bool) rfl ty4 V.mks D hy.1 zbM λw8 gB gU=>?_;have gC:=V.mark gB gU;have g2:ChgI m (m+1) w7 w8:=gB.toI λb hb=>by simp only [qaa,qag,qaz] at hb;omega
   have gV:=gb.chg g2 oo;have gW:=Z.push hq hy.1 gf;generalize (zaE c x)[q]=y at *
   have hLb:L7.length<=2+n:=by
     have h1:=Z.cnt;have h2:=zhm U;omega
   refine zdX (x:=(y:Int)) u31 ty3 z3 zc3 dD gC.row (zc2 0 0 io) (by rw [zak,zaf];omega) (by rw [zaf];omega) λgX _ gY gZ gg h4 h5=>?_;have h6:=gC.push gg h4 h5;have h8:=g2.size;refine zaw<|⟨gt-1,oo,q+1,oo,gX,gY,gZ,L7++[y],_,rfl,oo,h6,gW,gV.chg gg oo,oo,by have:=gg.size;omega⟩
 have gf:mkd U (zaE c x)[q]:=by rw [g1];simpa using hf
 refine zaw<|⟨gt-1,oo,q+1,oo,gx,gy,gz,L7,U,rfl,oo,V,Z.skip hq gf,gb,gR,gS⟩
def zzj (ms:List Bool) (n:Nat):List Nat:=(List.range n).filter λi=>ms.getD i false
def zja (ms:List Bool) (n:Nat):zzj ms (n+1)=zzj ms n++(if ms.getD n false then [n] else []):=by
 simp only [zzj,qbC,qbm,List.filter_cons,List.filter_nil]
def zts (ms:List Bool) (n:Nat):(zzj ms n).length<=n:=qal (qbI _ _) ss
def zhn (n:Nat) (p:Nat->Prop):zzj (zbT n p) n=zbb n p:=by
 refine List.filter_congr λi hi=>?_;have g0:=qaL.1 hi;have:=zaM (n:=n) (p:=p) (i:=i);unfold mkd at this;by_cases h:p i
 . rw [this.2 ⟨g0,h⟩];simp [h]
 have h2:(zbT n p).getD i false≠true:=λe=>h (this.1 e).2;simp only [h,qak];cases hh:(zbT n p).getD i false
 . rfl
 exact absurd hh h2
def zfK {ms:List Bool} (h0:Is W0 v0 ms) (e0:Ext W0 w) (hn:ms.length<=1000000) :
   CALL tp 236 [v0] w λr w'=>Ext w w'/\Own w.heap.size w' r (zaK (zzj ms ms.length)):=by
 refine co (g:=kf [] [(3,1048536,[3,4])] []) Tryz.func236 ?_;refine zaI (α:=Int) u31 ty3 λ_ _ g1 g3=>?_;have g4:=g1.size;refine zar ms.length (λk us w'=>∃ (v:vL),us=[v,.int .i64 (k:Int)]/\k<=ms.length/\Ext w w'/\RowI w.heap.size w'.heap.size 3 w' v (zaK (zzj ms k))) 0 (z0 _) ⟨_,rfl,z0 _,g1,g3.mono g4 (lr _)⟩ ?_;rintro k mk _ w2 _ ⟨v,hu,_,C,g0⟩;obtain ⟨g5,g9⟩:=zcv hu;rw [g5,g9];refine zae zdj h0<|zah<|br (λ_=>?_) (λ_=>?_)
 case refine_2=>
   have:k=ms.length:=oo;rw [this] at g0;exact ⟨C,g0.own.own⟩
 have hk:k<ms.length:=oo;have g2:=C.size;have hg:ms.getD k false=ms[k]:=by rw [List.getD_eq_getElem?_getD,List.getElem?_eq_getElem hk];rfl
 have hil:=zts ms k;refine zac zdj ty4 h0 hk λ_ _ gb=>zaC ty4 gb (e0.t C)<|zaN (λhf=>?_) (λhf=>?_)
 . refine zbs (lo2:=w2.heap.size) (hi2:=w2.heap.size) (x:=(k:Int)) u31 ty3 z3 zc3 dD g0 g2 (zc2 _ _ io) (lr _) g2 (by rw [zak,zaf];omega) (by rw [zaf];omega) λgc _ gd gf=>?_;refine zaw<|⟨mk-1,oo,k+1,oo,gc,rfl,oo,C.chgI gd (lr _),?_⟩;rw [zja,hg,hf,qah rfl,zcz];exact gf
 refine zaw<|⟨mk-1,oo,k+1,oo,v,rfl,oo,C,?_⟩;rw [zja,hg,hf];simpa using g0
def zaL (c:DCode) (p:Nat) (i:Nat):Prop:=i=(en c p).toNat\/RP (zaE c) (en c p).toNat i
def zgh (h0:Is W0 v0 c) (e0:Ext W0 w) (hc:CodeR c) (hp:p<c.entry.length) :
   CALL tp 291 [v0,.int .i64 (p:Int)] w λr w'=>Ext w w'/\Own w.heap.size w' r (zbT c.ins.length (zaL c p)):=by
 refine co (g:=kf [] [] [(1,[0,1,2,3,4,5,6,7],0)]) Tryz.func291 ?_;have:=zxd hc hp;refine zbk h0 e0 λw1 g4 hA=>?_;have C:=zai w1;generalize World.drew1 w1=w2 at *;have:=g4.size;have:=C.size;obtain ⟨a,g1⟩:∃ a:Nat,en c p=(a:Int):=⟨(en c p).toNat,oo⟩
 have gc:zaL c p=λi=>i=a\/RP (zaE c) a i:=by
   funext i;unfold zaL;rw [g1];rfl
 have ha:a<c.ins.length:=oo;rw [gc];refine zab zbO hA C λ_ h6=>zaa zbj<|zab zcn (zav hA) C λ_ h8=>zac u31 ty3 h8 hp λ_ _ g5=>?_;rw [zbK hp,g1] at g5;refine zad ty3 g5 C λ_=>?_;refine (zkq h6 C hc ha).mono ?_;rintro _ w3 ⟨g0,m,rfl,_,hM⟩;have:=g0.size;refine zaa zbj<|zab zcn (zav hA) (C.t g0) λ_ gd=>zac u31 ty3 gd hp λ_ _ g9=>?_;rw [zbK hp,g1] at g9;refine zad ty3 g9 (C.t g0) λ_=>zb5 (α:=Bool) rfl zdj ty4 ha<|zbm (α:=Bool) rfl ty4 hM zam ha zbM λw4 gf gb=>?_
 have g2:(zbT c.ins.length (RP (zaE c) a)).set a true=zbT c.ins.length (λi=>i=a\/RP (zaE c) a i):=zcp (by rw [qbD,zam]) λi hi=>by
   rw [zdc (by rw [zam];exact ha),zaM];constructor
   . rintro (⟨_,h⟩ | h)
     . exact .inr h
     exact .inl h
   rintro (h | h)
   . exact .inr h
   exact .inl ⟨hi,h⟩
 rw [g2] at gb;have g3:ChgI m (m+1) w3 w4:=gf.toI λb hb=>by simp only [qaa,qag,qaz] at hb;omega
 exact ⟨((g4.t C).trans g0).chgI g3 oo,[m],gb,λb hb=>by simp only [qaa,qag,qaz] at hb;omega⟩
def zeZ {K:VW} (h0:0<n) (hn:n<=1000000)
   (k:∀ w',Ext w w'->Mine [w.heap.size] w' (.slice (some ⟨w.heap.size,0,none⟩) n n) (List.replicate n false)->K (.slice (some ⟨w.heap.size,0,none⟩) n n) w'):OP tp (Instr.makeSlice 125 (.int .i64 (n:Int)) (.int .i64 (n:Int))) w K:=
 zhG (α:=Bool) zdj ty4 rfl rfl zCZ oo oo λw2 hx2 hr2=>by
   refine k w2 hx2 ?_;obtain ⟨F,hM,hF⟩:=hr2.own;obtain ⟨b,o,cap,hv,hF2⟩:=zfJ hM (by intro e;have:=qat List.length e;simp at this;omega);simp only [Value.slice.injEq,qaq,Addr.mk.injEq,qa8,and_true] at hv;obtain ⟨⟨hb,ho⟩,_⟩:=hv;rw [<-hb] at hF2;rw [hF2] at hM;exact hM
def zdC (n:Nat) {p:Nat->Prop} (h:∀ i,¬p i):List.replicate n false=zbT n p:=
 zcp ss λi _=>⟨λh=>absurd h zbR,λhp=>absurd hp (h i)⟩
def ztt {p p':Nat->Prop} (hq:q<n) (h:∀ i,p' i↔p i\/i=q):(zbT n p).set q true=zbT n p':=
 zcp (by rw [qbD,zam]) λi hi=>by
   rw [zdc (by rw [zam];exact hq),zaM,h];exact ⟨λh=>h.imp (·.2) id,λh=>h.imp (λh=>⟨hi,h⟩) id⟩
def zkP (c:DCode) (p:Nat) (op:Int) (q:Nat):Prop:=∃ i,i<c.ins.length/\zaL c p i/\(zap c i).op=op/\(zap c i).arg=(q:Int)
def zl6 (h0:Is W0 v0 c) (e0:Ext W0 w) (hc:CodeR c) (hp:p<c.entry.length) (hop:op=4\/op=5) :
   CALL tp 242 [v0,.int .i64 (p:Int),.int .i64 op] w λr w'=>Ext w w'/\Own w.heap.size w' r (zaK (zbb c.procs.length (zkP c p op))):=by
 refine co (g:=kf [] [(4,70368744047104,[9])] []) Tryz.func242 ?_;have hil:=hc.f.ins;have h8:=hc.1.procs8;refine zbk h0 e0 λw1 gd hA=>zab zbO hA (xrf _) λ_ gj=>?_;refine (zgh gj (xrf _) hc hp).mono ?_;rintro _ w2 ⟨g2,gl⟩;refine zaa zby<|zab zb9 (zay hA) g2 λ_ gn=>zae u26 gn ?_;have hs1:=gd.size;have hs2:=g2.size;refine zeZ h8.2 oo λw3 g3 g4=>?_;have hs3:=g3.size;have gp:=gl.toI.ext g3;have hm3:=g4.lt _ (qay.2 rfl);have g5:=g2.t g3;generalize hm:w2.heap.size=m at *;rw [zdC c.procs.length (p:=λq=>∃ i,i<0/\zaL c p i/\(zap c i).op=op/\(zap c i).arg=(q:Int)) (λi ⟨_,h,_⟩=>oo)] at g4;refine zar c.ins.length (λk us w'=>us=[.int .i64 (k:Int)]/\k<=c.ins.length/\ChgI m (m+1) w3 w'/\Mine [m] w' (.slice (some ⟨m,0,none⟩) c.procs.length c.procs.length) (zbT c.procs.length λq=>∃ i,i<k/\zaL c p i/\(zap c i).op=op/\(zap c i).arg=(q:Int))) 0 (z0 _) ⟨rfl,z0 _,ChgI.refl _,g4⟩ ?_;rintro k mk _ w4 _ ⟨hu,_,D,M⟩;try replace hu:=zbv hu
 rw [hu];have C:Ext w1 w4:=g5.chgI D oo;have gq:=gp.chg D oo;refine zaa zaH<|zab zcQ (zao hA) C λ_ gr=>zae u32 gr<|zah<|br (λ_=>?_) (λ_=>?_)
 case refine_2=>
   have gs:k=c.ins.length:=oo;rw [gs] at M;refine (zfK M.is (xrf _) (by rw [zam];omega)).mono ?_;rintro r w5 ⟨gt,gf⟩;rw [zam,zhn] at gf;have hsz:=C.size;exact ⟨(gd.t C).trans gt,gf.mono oo⟩
 have hk:k<c.ins.length:=oo
 have gg:¬(zaL c p k/\(zap c k).op=op)->(zbT c.procs.length λq=>∃ i,i<k/\zaL c p i/\(zap c i).op=op/\(zap c i).arg=(q:Int))=zbT c.procs.length λq=>∃ i,i<k+1/\zaL c p i/\(zap c i).op=op/\(zap c i).arg=(q:Int):=λhn=>zaX λq _=>by
   constructor
   . rintro ⟨i,h1,h2⟩;exact ⟨i,oo,h2⟩
   rintro ⟨i,h1,h2,h3,h4⟩;by_cases h:i=k
   . subst h;exact absurd ⟨h2,h3⟩ hn
   exact ⟨i,oo,h2,h3,h4⟩
 refine zac zdj ty4 (i:=k) gq.is (by rw [zam];exact hk) λ_ _ gx=>zaC ty4 gx (xrf _) ?_;have g9:=zaM (n:=c.ins.length) (p:=zaL c p) (i:=k);rw [zaZ (by rw [zam];exact hk)] at g9;refine zaN (λhf=>?_) (λhf=>?_)
 case refine_2=>refine zaw<|⟨mk-1,oo,k+1,oo,rfl,oo,D,?_⟩;rw [<-gg λh=>by rw [g9.2 ⟨hk,h.1⟩] at hf;cases hf];exact M
 have g0:=(g9.1 hf).2;refine zaa zaH<|zab zcQ (zao hA) C λ_ gy=>zac u32 zdw gy hk λ_ _ gh=>?_;rw [zaR] at gh;refine zaa zbE<|zad ty3 (zaD gh) C λ_=>zag<|br (λho=>?_) (λho=>?_)
 case refine_2=>refine zaw<|⟨mk-1,oo,k+1,oo,rfl,oo,D,?_⟩;rw [<-gg λh=>ho h.2];exact M
 have g1:=(zi7 hc hk).2.1;unfold zcy at g1;rw [qad oo,qah oo] at g1;obtain ⟨q,hq⟩:∃ q:Nat,(zap c k).arg=(q:Int):=⟨(zap c k).arg.toNat,oo⟩;have gb:q<c.procs.length:=oo;refine zaa zaH<|zab zcQ (zao hA) C λ_ gz=>zac u32 zdw gz hk λ_ _ gi=>?_;rw [zaR] at gi;refine zaa zbG<|zad ty3 (zaF gi) C λ_=>?_;rw [hq];refine zb5 (α:=Bool) rfl zdj ty4 gb<|zbm (α:=Bool) rfl ty4 M zam gb zbM λw5 gA gB=>?_;have gc:ChgI m (m+1) w4 w5:=gA.toI λ_ hb=>by simp only [qaa,qag,qaz] at hb;omega
 refine zaw<|⟨mk-1,oo,k+1,oo,rfl,oo,D.trans gc,?_⟩;rw [<-ztt (p:=λq=>∃ i,i<k/\zaL c p i/\(zap c i).op=op/\(zap c i).arg=(q:Int)) gb λr=>?_]
 . exact gB
 constructor
 . rintro ⟨i,h1,h2,h3,h4⟩;by_cases h:i=k
   . subst h;right;omega
   exact .inl ⟨i,oo,h2,h3,h4⟩
 rintro (⟨i,h1,h2⟩ | rfl)
 . exact ⟨i,oo,h2⟩
 exact ⟨k,oo,g0,ho,hq⟩
end Go.Proofs.YtkgiigmcbgifdaaGreatDoor
namespace Go.Sh
variable {i k m:Nat}
def zkQ (m n:Nat):Nat:=Nat.bitwise (λa b=>a&&!b) m n
def zdh (m n i:Nat):(zkQ m n).testBit i=(m.testBit i&&!n.testBit i):=Nat.testBit_bitwise rfl m n i
def ziu (m n:Nat):zkQ m n<=m:=Nat.le_of_testBit λi h=>by rw [zdh] at h;simp at h;exact h.1
section
variable {P:pG} {w:wD} {K:vL->Prop} {t:TypeId} {x y:Operand}
def zeS {m n:Nat} (hm:m<4611686018427387904) (hn:n<4611686018427387904) (k:K (.int .i64 ((m &&& n:Nat):Int))):RD P (bin .and t x y (.int .i64 (m:Int)) (.int .i64 (n:Int))) w K:=by
 have:m &&& n<=m:=qa4;refine za9 (λw' _=>?_) k;have e1:IntKind.i64.wrap ((m &&& n:Nat):Int)=((m &&& n:Nat):Int):=IntWalk.i64_in _ oo
 have e2:((BitVec.ofInt 64 (m:Int)) &&& (BitVec.ofInt 64 (n:Int))).toNat=m &&& n:=by
   simp only [BitVec.toNat_and,BitVec.ofInt_natCast,BitVec.toNat_ofNat];rw [qbs oo,qbs oo]
 show (do eqGuard .and t x y (.int .i64 (m:Int)) (.int .i64 (n:Int));binOp .and t (.int .i64 (m:Int)) (.int .i64 (n:Int)):Sem vL).run P w'=_;simp only [eqGuard,binOp,Op.intBits];show Result.ok (Value.int .i64 (IntKind.i64.wrap (((BitVec.ofInt 64 (m:Int)) &&& (BitVec.ofInt 64 (n:Int))).toNat:Nat))) w'=_;rw [e2,e1]
def zho {m n:Nat} (hm:m<4611686018427387904) (hn:n<4611686018427387904) (k:K (.int .i64 ((zkQ m n:Nat):Int))):RD P (bin .andNot t x y (.int .i64 (m:Int)) (.int .i64 (n:Int))) w K:=by
 have hlt:zkQ m n<=m:=ziu m n;refine za9 (λw' _=>?_) k;have e1:IntKind.i64.wrap ((zkQ m n:Nat):Int)=((zkQ m n:Nat):Int):=IntWalk.i64_in _ oo
 have e2:((BitVec.ofInt 64 (m:Int)) &&& ~~~(BitVec.ofInt 64 (n:Int))).toNat=zkQ m n:=by
   apply qbl;intro i;have g0:m<2^64:=oo;have g1:n<2^64:=oo;simp only [BitVec.testBit_toNat,BitVec.getLsbD_and,BitVec.getLsbD_not,BitVec.ofInt_natCast,BitVec.getLsbD_ofNat,zdh];by_cases hi:i<64
   . simp [hi]
   have:m.testBit i=false:=qbn (qan g0 (qaG oo oo));simp [hi,this]
 show (do eqGuard .andNot t x y (.int .i64 (m:Int)) (.int .i64 (n:Int));binOp .andNot t (.int .i64 (m:Int)) (.int .i64 (n:Int)):Sem vL).run P w'=_;simp only [eqGuard,binOp,Op.intBits];show Result.ok (Value.int .i64 (IntKind.i64.wrap (((BitVec.ofInt 64 (m:Int)) &&& ~~~(BitVec.ofInt 64 (n:Int))).toNat:Nat))) w'=_;rw [e2,e1]
def zBe {m n:Nat} {ku:IntKind} (hm:m<4611686018427387904) (k:K (.int .i64 ((m >>> n:Nat):Int))):RD P (bin .shr t x y (.int .i64 (m:Int)) (.int ku (n:Int))) w K:=by
 refine za9 (λw' _=>?_) k;have e0:¬((n:Int)<0):=oo
 have e1:(m:Int).fdiv (2^(min n 64))=((m >>> n:Nat):Int):=by
   rw [qbr];have h2:((2:Int)^(min n 64))=((2^(min n 64):Nat):Int):=by simp
   rw [h2,qcG _ (Int.natCast_nonneg _),<-Int.natCast_ediv];by_cases h:n<=64
   . rw [qbH h]
   rw [Nat.min_eq_right oo,qci oo,qci (qan (by omega:m<2^64) (qaG oo oo))]
 show (do eqGuard .shr t x y (.int .i64 (m:Int)) (.int ku (n:Int));binOp .shr t (.int .i64 (m:Int)) (.int ku (n:Int)):Sem vL).run P w'=_;simp only [eqGuard,binOp,Op.shift,e0,if_false,qaF];show Result.ok (Value.int .i64 ((m:Int).fdiv (2^(min n 64)))) w'=_;rw [e1]
end
def zdP (m:Nat):Nat->List Int
 | 0=>[]
 | k+1=>if m.testBit k then zdP m k++[(k:Int)] else zdP m k
theorem zgi (m:Nat):∀ k,(zdP m k).length<=k
 | 0=>qaE _
 | k+1=>by
   have:=zgi m k;rw [zdP];split
   . simp;omega
   omega
theorem zl7 {m k:Nat} (h:m<2^k):∀ {j:Nat},k<=j->zdP m j=zdP m k
 | 0,hj=>by rw [Nat.le_zero.1 hj]
 | j+1,hj=>by
   by_cases e:k=j+1
   . rw [e]
   rw [zdP,qad,zl7 h oo];rw [qbn (qan h (qaG oo oo))];simp
def zbX (m:Nat):List Int:=zdP m 64
def zoV (h:m<2^k) (hk:k<=64):zbX m=zdP m k:=zl7 h hk
theorem zdQ {m:Nat} {x:Int}:∀ {k:Nat},x∈zdP m k↔∃ i,i<k/\x=(i:Int)/\m.testBit i=true
 | 0=>by simp [zdP]
 | k+1=>by
   rw [zdP];constructor
   . intro h;split at h
     . rename_i hb;rcases qae.1 h with h | h
       . obtain ⟨i,h1,h2,h3⟩:=zdQ.1 h;exact ⟨i,oo,h2,h3⟩
       simp at h;exact ⟨k,oo,h,hb⟩
     obtain ⟨i,h1,h2,h3⟩:=zdQ.1 h;exact ⟨i,oo,h2,h3⟩
   rintro ⟨i,h1,h2,h3⟩;by_cases e:i=k
   . subst e;rw [qah h3];simp [h2]
   have:=(zdQ (m:=m) (x:=x) (k:=k)).2 ⟨i,oo,h2,h3⟩;split
   . simp [this]
   exact this
def zxg (m i:Nat):decide (((m >>> i &&& 1:Nat):Int)=1)=m.testBit i:=by
 have h:m >>> i &&& 1=(m.testBit i).toNat:=by
   rw [qcH,Nat.testBit_eq_decide_div_mod_eq,qbr];rcases qcF (m / 2^i) with h | h<;>simp [h]
 rw [h];cases m.testBit i<;>rfl
theorem zzk (m i:Nat):decide (((m &&& 2^i:Nat):Int)≠0)=m.testBit i:=by
 have hp:0<2^i:=Nat.pow_pos oo;cases hb:m.testBit i with
 | false=>
   have:m &&& 2^i=0:=by
     apply qbl;intro j;rw [qaZ,qaU];by_cases e:i=j
     . subst e;simp [hb]
     simp [e]
   simp [this]
 | true=>
   have:m &&& 2^i≠0:=λe=>by
     have:=qat (·.testBit i) e;simp [qaZ,qaU,hb] at this
   simp only [ne_eq,qau];omega
def ztu:m >>> i=0↔m<2^i:=by
 rw [qbr,Nat.div_eq_zero_iff];have:¬(2^i=0):=by have:0<2^i:=Nat.pow_pos oo;omega
 simp [this]
end Go.Sh
namespace Go.Proofs.YtkgiigmcbgifdaaGreatDoor
open Go Go.Sh Go.Proofs
open Rep (rep)
variable {C:List Nat} {W0 w:wD} {a:Int} {c:DCode} {i m:Nat} {v0:vL}
def zgj   (hm:m<4611686018427387904) (hi:i<4611686018427387904) :
   CALL tp 212 [.int .i64 (m:Int),.int .i64 (i:Int)] w λr w'=>Ext w w'/\(r=.bool (m.testBit i)):=by
 refine co (g:=kf [] [] []) Tryz.func212 ?_;refine zcc kK zlh oo<|zBe oo<|zeS (n:=1) (qaN (Nat.shiftRight_le m i) hm) oo<|zag<|⟨xrf w,?_⟩;rw [zxg]
def zd2   (hm:m<4611686018427387904) :
   CALL tp 161 [.int .i64 (m:Int)] w λr w'=>Ext w w'/\(Own w.heap.size w' r (zbX m)):=by
 refine co (g:=kf [] [(3,524280,[3,4])] []) Tryz.func161 ?_;refine zar (62) (λk us w'=>∃ v:vL,us=[v,.int .i64 (k:Int)]/\Ext w w'/\(RowI w.heap.size w'.heap.size 3 w' v (zdP m k))) (0) oo ⟨_,rfl,xrf w,zbL _ _ _ _⟩ ?_;rintro k m3 _ _ _ ⟨_,hu,y1,C⟩;have σ1:=y1.size;obtain ⟨g1,g2⟩:=zcv hu;try rw [g1]
 try rw [g2]
 try clear g1 g2
 have:=zgi m k;refine zcc kK zlh oo<|zBe oo<|zaJ<|br (λc1=>?_) (λc1=>?_)
 . have:k<62:=by
     rcases qaw k 62 with h | h
     . exact h
     have h1:m<2^k:=qan (show m<2^62 by omega) (qaG oo h);exact absurd (by rw [ztu.2 h1];rfl) c1
   refine (zgj oo oo).mono ?_;rintro _ g3 ⟨y2,rfl⟩;have σ2:=y2.size;refine zaN (λc2=>?_) (λc2=>?_)
   . refine zbs (α:=Int) u31 ty3 z3 zc3 dD (C.ext y2) oo (ownI_int (lo:=g3.heap.size) (hi:=g3.heap.size) (by first | assumption | (unfold I64 at *;omega))) oo oo (by rw [zak];omega) oo λ_ _ g0 g5=>?_;have g4:=g0.size;refine zaw<|⟨m3-1,oo,k+1,oo,_,rfl,(Ext.chgI (y1.t y2) g0 oo),?_⟩;rw [zdP,qah c2];exact g5
   refine zaw<|⟨m3-1,oo,k+1,oo,_,rfl,(y1.t y2),?_⟩;rw [zdP,qad (by simp [c2])];exact (C.ext y2).mono oo oo
 refine ⟨y1,?_⟩;have h1:m >>> k=0:=by have:=qaf.1 c1;omega
 rw [zoV (ztu.1 h1) oo];exact C.own.own
def zgk   (hi:i<62) :
   CALL tp 238 [.int .i64 (i:Int)] w λr w'=>Ext w w'/\(r=.int .i64 ((2^i:Nat):Int)):=by
 refine co (g:=kf [] [] []) Tryz.func238 ?_;refine zcc kK zlh oo<|zeH oo<|⟨xrf w,?_⟩;rfl
def zzl   (hm:m<4611686018427387904) (hi:i<62) :
   CALL tp 246 [.int .i64 (m:Int),.int .i64 (i:Int)] w λr w'=>Ext w w'/\(r=.bool (m.testBit i)):=by
 refine co (g:=kf [] [] []) Tryz.func246 ?_;refine (zgk oo).mono ?_;rintro _ _ ⟨y1,rfl⟩;have:2^i<4611686018427387904:=qan (qaY oo hi) (by omega:2^62<=4611686018427387904);refine zeS oo oo<|zaJ<|⟨y1,?_⟩;rw [zzk]
def ztv    :
   CALL tp 293 [.int .i64 a] w λr w'=>Ext w w'/\(r=.bool (decide (0<=a/\a<=63))):=by
 refine co (g:=kf [] [] []) Tryz.func293 ?_;refine (l01In_ok ).mono ?_;rintro _ _ ⟨y1,rfl⟩;refine ⟨y1,?_⟩;rfl
def zxh (hm:m<64) (hi:i<6):m ||| 2^i<64:=qa0 (n:=6) hm (qaY oo hi)
def orL (sets:List Nat) (l:List Int):Nat:=l.foldl (λa i=>a ||| sets.getD i.toNat 0) 0
def zzm (C:List Nat) (l:List Int) (i:Int):orL C (l++[i])=orL C l ||| C.getD i.toNat 0:=by simp [orL]
def ztw (hs:∀ x∈C,x<256) (l:List Int):orL C l<256:=by
 have g0:∀ (l:List Int) (a:Nat),a<256->l.foldl (λa i=>a ||| C.getD i.toNat 0) a<256:=λl=>by
   induction l with
   | nil=>exact λa h=>h
   | cons i l ih=>
     intro a ha;rw [qbQ];refine ih _ (qa0 (n:=8) ha ?_);rw [List.getD_eq_getElem?_getD];cases h:C[i.toNat]? with
     | none=>simp
     | some x=>exact hs x (List.mem_of_getElem? h)
 exact g0 l 0 oo
def zhO (h0:Is W0 v0 (zaK C)) (e0:Ext W0 w) (hs:∀ x∈C,x<256) (hl:C.length<=8) (hm:m<2^C.length) :
   CALL tp 144 [v0,.int .i64 (m:Int)] w λr w'=>Ext w w'/\r=.int .i64 (orL C (zbX m):Nat):=by
 refine co (g:=kf [] [(3,4192416,[5,11])] []) Tryz.func144 ?_;have gb:2^C.length<=2^8:=qaG oo hl;refine (zd2 (m:=m) oo).mono ?_;rintro _ w1 ⟨g3,g4⟩;have hbl:(zbX m).length<=64:=zgi m 64;refine zae u31 g4.is<|zar (zbX m).length (λk us w'=>us=[.int .i64 ((orL C ((zbX m).take k):Nat):Int),.int .i64 (k:Int)]/\k<=(zbX m).length/\Ext w1 w') 0 (z0 _) ⟨rfl,z0 _,xrf _⟩ ?_;rintro k mk _ _ _ ⟨hu,_,g0⟩;obtain ⟨gc,gd⟩:=zcv hu;rw [gc,gd];refine zah<|br (λ_=>?_) (λ_=>?_)
 case refine_2=>
   have:k=(zbX m).length:=oo;rw [this,qaM];exact ⟨g3.t g0,rfl⟩
 have hk:k<(zbX m).length:=oo;have g1:(zbX m)[k]∈zbX m:=qac hk;obtain ⟨i,_,hi2,g5⟩:=zdQ.1 g1
 have g2:i<C.length:=qbe λ_=>by
   have:=qbn (qan hm (qaG oo (by omega:C.length<=i)));rw [this] at g5;cases g5
 refine zac u31 ty3 (i:=k) g4.is hk λ_ _ gf=>zad ty3 gf g0 λ_=>?_;rw [hi2];refine zac u31 ty3 (i:=i) h0 (by rw [zaf];exact g2) λ_ _ g9=>?_;rw [zaY] at g9;refine zad ty3 g9 ((e0.t g3).trans g0) λ_=>?_;have h1:=ztw hs ((zbX m).take k);have h2:=hs C[i] (qac g2);refine zhb oo oo<|zaw<|⟨mk-1,oo,k+1,oo,?_,oo,g0⟩;rw [tk hk,zzm,hi2,qaF,List.getD_eq_getElem?_getD,List.getElem?_eq_getElem g2];rfl
noncomputable def zl8 (c:DCode) (p:Nat):List Nat:=zbb c.procs.length (zkP c p 4)
def zgM {a:Nat} (h0:Is W0 v0 c) (e0:Ext W0 w) (hc:CodeR c) (ha:a<c.procs.length) :
   CALL tp 177 [v0,.int .i64 (a:Int)] w λr w'=>Ext w w'/\∃ m,r=.slice (some ⟨m,0,none⟩) c.procs.length c.procs.length/\w.heap.size<=m/\Mine [m] w' (.slice (some ⟨m,0,none⟩) c.procs.length c.procs.length) (zbT c.procs.length λi=>i=a\/RP (zl8 c) a i):=by
 refine co (g:=kf [] [(5,288230376151188416,[6,7]),(9,288230374004228672,[6,9])] [(7,[0,1,2,3,4,5,6],0)]) Tryz.func177 ?_;have h8:=hc.1.procs8;have hep:=hc.2.1.1;have g9:∀ x,zl8 c x=zbb c.procs.length (zkP c x 4):=λ_=>rfl;refine zbk h0 e0 λw1 gq hA=>zaa zby<|zab zb9 (zay hA) (xrf _) λ_ gH=>zae u26 gH ?_;generalize hn:c.procs.length=n at *;have gI:∀ {i j:Nat},i<n->j∈zl8 c i->j<n/\True:=λ{i j} _ hj=>by rw [g9] at hj;exact ⟨(zaO.1 hj).1,trivial⟩
 have gb:∀ x,(zl8 c x).length<=n:=λx=>by rw [g9];exact zbe
 refine zeZ h8.2 oo λw2 gr gJ=>?_;have hs1:=gq.size;have hs2:=gr.size;refine zb5 (α:=Bool) rfl zdj ty4 ha<|zbm (α:=Bool) rfl ty4 gJ ss ha zbM λgs gK g0=>?_;have g1:ChgI w1.heap.size (w1.heap.size+1) w2 gs:=gK.toI λb hb=>by simp only [qaa,qag,qaz] at hb;omega
 have gL:=g1.size;have gc:((List.replicate n false).set a true).length=n:=by simp
 have gt:∀ i,mkd ((List.replicate n false).set a true) i↔i=a:=λi=>by
   rw [zdc (by simp;exact ha)];exact ⟨λh=>h.resolve_left zbR,.inr⟩
 generalize (List.replicate n false).set a true=M0 at *;refine zc8 (x:=(a:Int)) u31 ty3 z3 dD (zcF io) λgx w3 gd gM=>?_;have gN:=gd.size;generalize hm:w1.heap.size=m at *;have gO:WI w1 w3 m n gs.heap.size w3.heap.size gx [a] M0:=⟨(gr.toI.trans g1).trans gd.toI,gM,g0.ext gd,oo,by have:=g0.lt m ss;omega,gN,qaE _⟩;generalize zl8 c=nx at *;refine zar (1+n) (λh us w'=>∃ (tv:vL) (lo hi:Nat) (L:List Nat) (ms:List Bool),us=[tv,.int .i64 (h:Int)]/\h<=L.length/\WI w1 w' m n lo hi tv L ms/\SInv nx n a M0 ms (L.drop h) h) 0 (z0 _) ⟨gx,_,_,[a],_,rfl,ss,gO,SInv.start gc ha⟩ ?_;rintro h mk _ w4 _ ⟨tv,lo,hi,L,ms,hu,_,g5,D⟩;obtain ⟨gP,gQ⟩:=zcv hu;rw [gP,gQ];have gR:=D.bound;rw [qbc] at gR;refine zae u31 g5.row.is ?_;rw [zaf];refine zah<|br (λ_=>?_) (λ_=>?_)
 case refine_2=>
   have gS:h=L.length:=oo;rw [gS,qbk] at D;have gf:=D.fin λi hi gT=>absurd ((gt i).1 hi) gT;have gU:ms=zbT n (λi=>i=a\/RP nx a i):=zcp D.len λi hi=>by rw [gf i,gt]
   rw [<-gU];have gV:Ext w1 w4:=(xrf w1).chgI g5.chg oo;exact ⟨gq.t gV,m,rfl,oo,g5.mks⟩
 have hh:h<L.length:=oo;have gW:=zai w4;have M:=g5.step gW;generalize World.drew1 w4=w5 at *;have gy:∀ {w:wD} {lo hi tv L ms},WI w1 w m n lo hi tv L ms->Ext w1 w:=λh=>(xrf w1).chgI h.chg oo;refine zab zbO hA (gy M) λ_ gX=>zac u31 ty3 (i:=h) M.row.is (by rw [zaf];exact hh) λb1 o1 V=>?_;rw [zaY] at V;refine zad ty3 V (xrf _) λ_=>?_;generalize hx:L[h]=x at *;have gg:L.drop h=x :: L.drop (h+1):=by rw [qax hh,hx]
 have gY:x<n:=(D.tdo x (by rw [gg];simp)).2;refine (zl6 gX (gy M) hc oo (.inl rfl)).mono ?_;rintro gh w6 ⟨gZ,gz⟩;rw [hn,<-g9] at gz;have h4:=M.step gZ;have h5:=M.h3;have hm6:=M.mks.lt m ss;have h6:SIn2 nx n a M0 ms (L.drop (h+1)) h x 0:=D.pop (λi=>by rw [gg];simp [or_comm]) (by rw [gg];simp);have hl2:=gb x;refine zar (nx x).length (λq us w'=>∃ (tv:vL) (lo hi:Nat) (L:List Nat) (ms:List Bool),us=[tv,.int .i64 (q:Int)]/\q<=(nx x).length/\h<L.length/\WI w1 w' m n lo hi tv L ms/\SIn2 nx n a M0 ms (L.drop (h+1)) h x q/\OwnI w5.heap.size w6.heap.size w' gh (zaK (nx x))/\(hi<=w5.heap.size\/w6.heap.size<=lo)/\w6.heap.size<=w'.heap.size) 0 (z0 _) ⟨tv,lo,hi,L,ms,rfl,z0 _,hh,h4,h6,gz.toI,.inl h5,qaE _⟩ ?_;rintro q gA _ w7 _ ⟨gB,gC,gD,L7,O,h9,_,hd,Z,g2,U,he,hg⟩;obtain ⟨gi,gj⟩:=zcv h9;rw [gi,gj];refine zae u31 U.is ?_;rw [zaf];refine zah<|br (λ_=>?_) (λ_=>?_)
 case refine_2=>refine zaw<|⟨mk-1,oo,h+1,oo,gB,gC,gD,L7,O,rfl,oo,Z,g2.done oo⟩
 have hq:q<(nx x).length:=oo
 have gl:∀ {w:wD} {K:vL->Prop} (ho:OwnI w5.heap.size w6.heap.size w gh (zaK (nx x))) (k:K (.int .i64 (((nx x)[q]:Nat):Int))),RD tp (Instr.indexAt 31 gh (.int .i64 (q:Int))) w λhk=>RD tp (Instr.loadAt 3 hk) w K:=λho k=>by
   refine zac u31 ty3 (i:=q) ho.is (by rw [zaf];exact hq) λb1 o1 V=>?_;rw [zaY] at V;exact zad ty3 V (xrf _) λ_=>k
 have hy:=gI gY (qac hq);refine gl U ?_;have C:=g2.len;refine zac zdj ty4 Z.mks.is (by rw [C];exact hy.1) λ_ _ hl=>zaC ty4 hl (xrf _)<|zau ?_;have g3:=zaZ (ms:=O) (i:=(nx x)[q]) (by rw [C];exact hy.1);refine zaN (λhf=>?_) (λhf=>?_)
 . have gn:¬mkd O (nx x)[q]:=by rw [g3];simpa using hf
   refine gl U<|zb5 (α:=Bool) rfl zdj ty4 hy.1<|zbm (α:=Bool) rfl ty4 Z.mks C hy.1 zbM λw8 gE hr=>?_;have gF:=Z.mark gE hr;have g4:ChgI m (m+1) w7 w8:=gE.toI λb hb=>by simp only [qaa,qag,qaz] at hb;omega
   have gG:=U.chg g4 oo;refine gl gG ?_;have hs:=g2.push hq hy.1 gn;generalize (nx x)[q]=y at *
   have hLb:L7.length<=2+n:=by
     have h1:=g2.cnt;have h2:=zhm O;rw [qbc] at h1;omega
   refine zdX (x:=(y:Int)) u31 ty3 z3 zc3 dD gF.row (zc2 0 0 io) (by rw [zak,zaf];omega) (by rw [zaf];omega) λht _ hv hw gp hz hB=>?_;have hC:=gF.push gp hz hB;have hD:=g4.size;have hF:=U.is;refine zaw<|⟨gA-1,oo,q+1,oo,ht,hv,hw,L7++[y],_,rfl,oo,by simp;omega,hC,?_,gG.chg gp oo,oo,by have:=gp.size;omega⟩;rw [qb1 oo];exact hs
 have gn:mkd O (nx x)[q]:=by rw [g3];simpa using hf
 refine zaw<|⟨gA-1,oo,q+1,oo,gB,gC,gD,L7,O,rfl,oo,hd,Z,g2.skip hq gn,U,he,hg⟩
end Go.Proofs.YtkgiigmcbgifdaaGreatDoor
