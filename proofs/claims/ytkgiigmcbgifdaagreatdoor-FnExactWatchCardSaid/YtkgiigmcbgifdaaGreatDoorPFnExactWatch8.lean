/-
  Parts of the proof, put together by program.
-/
import Derived.Test.YtkgiigmcbgifdaaGreatDoorPFnExactWatch7
set_option maxRecDepth 20000
set_option linter.defProp false
set_option linter.unusedVariables false
set_option linter.unusedSimpArgs false
set_option linter.unusedSectionVars false
open Go renaming Value→vL,World→wD,Program→pG
namespace Go.Sh
open Rep (rep)
variable {cs ds:List vL} {e g:Nat} {w:wD}
def Blk.uniq {cs g0:List vL} (h:Blk g e w cs) (h':Blk g e w g0):g0=cs:=by
 unfold Blk at h h';rw [h] at h';simp only [qaq,Obj.cells.injEq] at h';have:=h'.1;simpa using this.symm
def ztJ (h:Blk g e w (cs++ds)):w.rangeAt g 0 cs:=(zaP h.range).1
end Go.Sh
namespace Go.Proofs.YtkgiigmcbgifdaaGreatDoor
open Go Go.Sh Go.Proofs
open Rep (rep)
variable {C M out:List Nat} {W W0 w:wD} {b e g g6 g7 g8 i j m n o p q r:Nat} {c:DCode} {cs hd kc:List vL} {op:Int} {v0 x10 x6 x7 x8 x9:vL}
structure WB (W0 w:wD) (b e:Nat) (c:DCode) (kc:List vL) (m:Nat) (x6 x7 x8 x9 x10:vL):Prop where
 ext:Ext W0 w
 blk:Blk b e w (kc++[.slice (some ⟨m,0,none⟩) c.ins.length c.ins.length,x6,x7,x8,x9,x10])
 code:∃ F,rep F W0 kc c
 live:Mine [m] w (.slice (some ⟨m,0,none⟩) c.ins.length c.ins.length) (zbT c.ins.length (zfX c))
 b0:W0.heap.size<=b
 m0:W0.heap.size<=m
 ne:b≠m
section
variable {W0 w w':wD} {b e m:Nat} {c:DCode} {kc:List vL} {x6 x7 x8 x9 x10:vL}
def WB.k5 (h:WB W0 w b e c kc m x6 x7 x8 x9 x10):kc.length=5:=by obtain ⟨_,hr⟩:=h.code;exact Rep.len hr
def WB.cell (h:WB W0 w b e c kc m x6 x7 x8 x9 x10) (i:Nat):(kc++[Value.slice (some ⟨m,0,none⟩) c.ins.length c.ins.length,x6,x7,x8,x9,x10])[5+i]?=[Value.slice (some ⟨m,0,none⟩) c.ins.length c.ins.length,x6,x7,x8,x9,x10][i]?:=by
 rw [List.getElem?_append_right (by rw [h.k5];omega),h.k5,qcp]
def WB.code_at (h:WB W0 w b e c kc m x6 x7 x8 x9 x10):At w b 0 c:=by
 obtain ⟨F,hr⟩:=h.code;exact ⟨F,kc,zb7 hr h.ext,ztJ h.blk⟩
def WB.wl (h:WB W0 w b e c kc m x6 x7 x8 x9 x10):WL w b c:=⟨h.code_at,zgq h.blk (h.cell 0) h.live.is⟩
def WB.step (h:WB W0 w b e c kc m x6 x7 x8 x9 x10) (hx:Ext w w'):WB W0 w' b e c kc m x6 x7 x8 x9 x10:=⟨h.ext.trans hx,h.blk.ext hx,h.code,h.live.ext hx,h.b0,h.m0,h.ne⟩
def WB.chg {F:List Nat} (h:WB W0 w b e c kc m x6 x7 x8 x9 x10) (hc:Chg F w w') (hF:∀ x∈F,W0.heap.size<=x/\x≠b/\x≠m):WB W0 w' b e c kc m x6 x7 x8 x9 x10:=
 ⟨h.ext.chgF hc λx hx=>(hF x hx).1,h.blk.chgF hc λhb=>(hF b hb).2.1 rfl,h.code,h.live.keep λx hx=>by
   simp only [qaa,qag,qaz] at hx;subst hx;exact hc.block x (h.live.lt x ss) λhm=>(hF x hm).2.2 rfl,h.b0,h.m0,h.ne⟩
def WB.cells {y6 y7 y8 y9 y10:vL} (h:WB W0 w b e c kc m x6 x7 x8 x9 x10) (hc:ChgI b (b+1) w w') (hB:Blk b e w' (kc++[.slice (some ⟨m,0,none⟩) c.ins.length c.ins.length,y6,y7,y8,y9,y10])):WB W0 w' b e c kc m y6 y7 y8 y9 y10:=
 ⟨h.ext.chgI hc h.b0,hB,h.code,h.live.keep λx hx=>by
   simp only [qaa,qag,qaz] at hx;subst hx;exact hc.block x (h.live.lt x ss) (by have:=h.ne;omega),h.b0,h.m0,h.ne⟩
def WB.set (h:WB W0 w b e c kc m x6 x7 x8 x9 x10) (i:Nat) (v:vL):(kc++[Value.slice (some ⟨m,0,none⟩) c.ins.length c.ins.length,x6,x7,x8,x9,x10]).set (5+i) v=kc++[Value.slice (some ⟨m,0,none⟩) c.ins.length c.ins.length,x6,x7,x8,x9,x10].set i v:=by
 rw [qbz _ _ (by rw [h.k5];omega),h.k5,qcp]
end
def CS (c:DCode) (out:List Nat) (D:Nat->Nat->Prop):Prop:=out.length=c.procs.length/\∀ q,q<c.procs.length->zax out q=zcU (D q) c.procs.length
def CS.mono {D D':Nat->Nat->Prop} (h:CS c out D) (hD:∀ q r,q<c.procs.length->r<c.procs.length->(D q r↔D' q r)):CS c out D':=⟨h.1,λq hq=>by rw [h.2 q hq];exact zbB λr hr=>hD q r hq hr⟩
def CS.set {D D':Nat->Nat->Prop} (h:CS c out D) {p a:Nat} (hp:p<c.procs.length) (ha:a<c.procs.length) (hD:∀ q r,D' q r↔D q r\/(q=p/\r=a)):CS c (out.set p (zax out p ||| 2^a)) D':=by
 refine ⟨by simp [h.1],λq hq=>?_⟩;rw [zb6 (by rw [h.1];exact hp)];split
 . rename_i e;subst e;rw [h.2 p hp];refine zen λr=>?_;rw [qaX,qaU,qaQ,za4,qau,hD];constructor
   . rintro (⟨h1,h2⟩ | rfl)
     . exact ⟨h1,.inl h2⟩
     exact ⟨ha,.inr ⟨rfl,rfl⟩⟩
   rintro ⟨h1,h2 | ⟨_,h2⟩⟩
   . exact .inl ⟨h1,h2⟩
   exact .inr h2.symm
 rename_i e;rw [h.2 q hq];exact zbB λr _=>⟨λh=>(hD q r).2 (.inl h),λh=>((hD q r).1 h).resolve_right λh=>e h.1.symm⟩
def CS.lt0 {D:Nat->Nat->Prop} (h:CS c out D) (h8:c.procs.length<=8) {q:Nat} (hq:q<c.procs.length):zax out q<256:=by rw [h.2 q hq];exact zbn h8
def CS.zero {D:Nat->Nat->Prop} (hD:∀ q r,¬D q r):CS c (List.replicate c.procs.length 0) D:=⟨ss,λq hq=>by
 rw [<-zbh (by simp;exact hq),qcu];exact zen λr=>by simp [hD]⟩
def CS.eq_cls (h:CS c out λq r=>zkP c q op r):out=cls c op:=by
 refine qaP (by rw [h.1,zhq]) λi h1 h2=>?_;have hi:i<c.procs.length:=by rw [<-h.1];exact h1
 rw [zbh h1,zbh h2,zBh hi,h.2 i hi]
def zuG (j:Nat):Nat:=if j=11 then 6 else if j=14 then 7 else 8
def zC1 (j:Nat):Prop:=j=11\/j=14\/j=17
def fcB (W:wD) (b e:Nat) (hd:List vL) (t9 t10:vL) (w:wD):Prop:=ChgI b (b+1) W w/\∃ x6 x7 x8,Blk b e w (hd++[x6,x7,x8,t9,t10])
def fcR (b e:Nat) (j:Nat) (w w':wD):Prop:=(zC1 j/\ChgI b (b+1) w w'/\∀ cs,Blk b e w cs->∃ v,Blk b e w' (cs.set (zuG j) v))\/(¬zC1 j/\Ext w w')
def fcQ (b e n:Nat):ParQ:=λi u T w=>match i with
 | 0=>u 17=.pointer (some ⟨b,0,none⟩)
 | 1=>u 18=.pointer (some ⟨b,0,none⟩)
 | 2=>u 19=.pointer (some ⟨b,0,none⟩)
 | 3=>u 20=.int .i64 (n:Int)
 | 4=>∃ g,u 21=.slice (some ⟨g,0,none⟩) n n/\(T 4).1<=g/\g<(T 4).2/\g≠b/\Mine [g] w (.slice (some ⟨g,0,none⟩) n n) (zaK (List.replicate n 0))
 | 5=>u 22=.int .i64 (n:Int)
 | 6=>∃ g,u 23=.slice (some ⟨g,0,none⟩) n n/\(T 6).1<=g/\g<(T 6).2/\g≠b/\Mine [g] w (.slice (some ⟨g,0,none⟩) n n) (zaK (List.replicate n 0))
 | 7=>u 24=.int .i64 (n:Int)
 | 8=>∃ g,u 25=.slice (some ⟨g,0,none⟩) n n/\(T 8).1<=g/\g<(T 8).2/\g≠b/\Mine [g] w (.slice (some ⟨g,0,none⟩) n n) (zaK (List.replicate n 0))
 | 9=>u 26=.pointer (some ⟨b,0,none⟩)
 | 10=>u 27=.pointer (some ⟨b,0+6,none⟩)
 | 11=>∃ cs,Blk b e w cs/\cs[6]?=some (u 21)
 | 12=>u 28=.pointer (some ⟨b,0,none⟩)
 | 13=>u 29=.pointer (some ⟨b,0+7,none⟩)
 | 14=>∃ cs,Blk b e w cs/\cs[7]?=some (u 23)
 | 15=>u 30=.pointer (some ⟨b,0,none⟩)
 | 16=>u 31=.pointer (some ⟨b,0+8,none⟩)
 | 17=>∃ cs,Blk b e w cs/\cs[8]?=some (u 25)
 | _=>True
section
variable {b e n:Nat} {w w':wD}
def fcR.sz {j:Nat} (h:fcR b e j w w'):w.heap.size<=w'.heap.size:=by
 rcases h with ⟨_,h,_⟩ | ⟨_,h⟩
 . exact h.size
 exact h.size
def fcR.chg {j:Nat} (h:fcR b e j w w'):ChgI b (b+1) w w':=by
 rcases h with ⟨_,h,_⟩ | ⟨_,h⟩
 . exact h
 exact h.toI
def fcR.mine {j g:Nat} {l:List Int} {v:vL} (h:fcR b e j w w') (hg:g≠b) (hm:Mine [g] w v l):Mine [g] w' v l:=hm.keep λx hx=>by
 simp only [qaa,qag,qaz] at hx;subst hx;exact h.chg.block x (hm.lt x ss) oo
def fcR.cell {j:Nat} {u:vL} {k:Nat} (h:fcR b e j w w') (g0:zC1 j->zuG j≠k) (hc:∃ cs,Blk b e w cs/\cs[k]?=some u):∃ cs,Blk b e w' cs/\cs[k]?=some u:=by
 obtain ⟨cs,hB,hk⟩:=hc;rcases h with ⟨hs,_,h⟩ | ⟨_,h⟩
 . obtain ⟨_,hv⟩:=h cs hB;exact ⟨_,hv,by rw [List.getElem?_set_ne (g0 hs)];exact hk⟩
 exact ⟨cs,hB.ext h,hk⟩
def fcB.step {W:wD} {hd:List vL} {t9 g0:vL} {j:Nat} (h6:hd.length=6) (h:fcB W b e hd t9 g0 w) (hR:fcR b e j w w'):fcB W b e hd t9 g0 w':=by
 obtain ⟨hc,x6,x7,x8,hB⟩:=h;refine ⟨hc.trans hR.chg,?_⟩;rcases hR with ⟨hs,_,hR⟩ | ⟨_,hR⟩
 . obtain ⟨v,hv⟩:=hR _ hB;rcases hs with rfl | rfl | rfl
   . refine ⟨v,x7,x8,?_⟩;rw [qbz _ _ (by rw [h6];decide),h6] at hv;exact hv
   . refine ⟨x6,v,x8,?_⟩;rw [qbz _ _ (by rw [h6];decide),h6] at hv;exact hv
   refine ⟨x6,x7,v,?_⟩;rw [qbz _ _ (by rw [h6];decide),h6] at hv;exact hv
 exact ⟨x6,x7,x8,hB.ext hR⟩
def fcR.ext {j:Nat} (hj:¬zC1 j) (hx:Ext w w'):fcR b e j w w':=.inr ⟨hj,hx⟩
end
def zpe {t9 g1:vL} {K:wD->Prop} (hs:zC1 j) (h6:hd.length=6) (hB:fcB W b e hd t9 g1 w) (k:∀ w',fcR b e j w w'->(∃ cs,Blk b e w' cs/\cs[zuG j]?=some (.slice (some ⟨g,0,none⟩) n n))->K w') :
   OPU tp (Instr.storeAt 31 (.pointer (some ⟨b,0+zuG j,none⟩)) (.slice (some ⟨g,0,none⟩) n n)) w K:=by
 obtain ⟨_,x6,x7,x8,hB⟩:=hB
 have g0:zuG j<(hd++[x6,x7,x8,t9,g1]).length:=by
   rw [qab,h6];show zuG j<11;rcases hs with rfl | rfl | rfl<;>decide
 rw [qba];refine zaW (α:=Raw) (lo:=0) (hi:=0) zcn rfl rfl hB g0 (zcY rfl) λw2 g3 g2=>?_
 have hR:fcR b e j w w2:=.inl ⟨hs,g3,λcs g4=>by
   have:=hB.uniq g4;subst this;exact ⟨_,g2⟩⟩
 exact k w2 hR ⟨_,g2,by rw [List.getElem?_set_self g0]⟩
def zCz (l:List Int):(orL C l).testBit r=true↔∃ x∈l,(zax C x.toNat).testBit r=true:=by
 have g0:∀ (l:List Int) (a:Nat),(l.foldl (λa i=>a ||| C.getD i.toNat 0) a).testBit r=true↔a.testBit r=true\/∃ x∈l,(zax C x.toNat).testBit r=true:=λl=>by
   induction l with
   | nil=>simp
   | cons i l ih=>
     intro a;rw [qbQ,ih,qaX,qaQ,or_assoc];refine or_congr Iff.rfl ?_;simp only [qaa,exists_eq_or_imp];exact Iff.rfl
 have:=g0 l 0;simpa [orL] using this
def zjk {g0:List Nat} (hm:m<2^n) (hn:n<=62):(orL g0 (zbX m)).testBit r=true↔∃ i,i<n/\m.testBit i=true/\(zax g0 i).testBit r=true:=by
 rw [zCz,zoV hm oo];constructor
 . rintro ⟨_,hx,h⟩;obtain ⟨i,h1,rfl,h3⟩:=zdQ.1 hx;exact ⟨i,h1,h3,by simpa using h⟩
 rintro ⟨i,h1,h2,h3⟩;exact ⟨(i:Int),zdQ.2 ⟨i,h1,rfl,h2⟩,by simpa using h3⟩
def zr7 (h:∀ r,m.testBit r=true->r<n):m<2^n:=qcL _ λi hi=>by
 cases e:m.testBit i
 . rfl
 have:=h i e;omega
abbrev sl (g n:Nat):vL:=.slice (some ⟨g,0,none⟩) n n
structure FC (W0 w:wD) (b e:Nat) (c:DCode) (kc:List vL) (m g6 g7 g8:Nat) (c6 c7 c8:List Nat) (x9 x10:vL):Prop where
 wb:WB W0 w b e c kc m (sl g6 c.procs.length) (sl g7 c.procs.length) (sl g8 c.procs.length) x9 x10
 m6:Mine [g6] w (sl g6 c.procs.length) (zaK c6)
 m7:Mine [g7] w (sl g7 c.procs.length) (zaK c7)
 m8:Mine [g8] w (sl g8 c.procs.length) (zaK c8)
 n6:W0.heap.size<=g6/\g6≠b/\g6≠m
 n7:W0.heap.size<=g7/\g7≠b/\g7≠m
 n8:W0.heap.size<=g8/\g8≠b/\g8≠m
 d67:g6≠g7
 d68:g6≠g8
 d78:g7≠g8
section
variable {W0 w w':wD} {b e m g6 g7 g8:Nat} {c:DCode} {kc:List vL} {c6 c7 c8:List Nat} {x9 x10:vL}
def ze1 {F:List Nat} {g:Nat} {v:vL} {l:List Int} (hm:Mine [g] w v l) (hc:Chg F w w') (hg:g∉F):Mine [g] w' v l:=hm.keep λx hx=>by
 simp only [qaa,qag,qaz] at hx;subst hx;exact hc.block x (hm.lt x ss) hg
def FC.step (h:FC W0 w b e c kc m g6 g7 g8 c6 c7 c8 x9 x10) (hx:Ext w w'):FC W0 w' b e c kc m g6 g7 g8 c6 c7 c8 x9 x10:=⟨h.wb.step hx,h.m6.ext hx,h.m7.ext hx,h.m8.ext hx,h.n6,h.n7,h.n8,h.d67,h.d68,h.d78⟩
def FC.set6 {i v:Nat} (h:FC W0 w b e c kc m g6 g7 g8 c6 c7 c8 x9 x10) (hc:Chg [g6] w w') (hm:Mine [g6] w' (sl g6 c.procs.length) ((zaK c6).set i (v:Int))):FC W0 w' b e c kc m g6 g7 g8 (c6.set i v) c7 c8 x9 x10:=
 ⟨h.wb.chg hc (by simp [h.n6]),by rw [zgO];exact hm,ze1 h.m7 hc (by simp [Ne.symm h.d67]),ze1 h.m8 hc (by simp [Ne.symm h.d68]),h.n6,h.n7,h.n8,h.d67,h.d68,h.d78⟩
def FC.set7 {i v:Nat} (h:FC W0 w b e c kc m g6 g7 g8 c6 c7 c8 x9 x10) (hc:Chg [g7] w w') (hm:Mine [g7] w' (sl g7 c.procs.length) ((zaK c7).set i (v:Int))):FC W0 w' b e c kc m g6 g7 g8 c6 (c7.set i v) c8 x9 x10:=
 ⟨h.wb.chg hc (by simp [h.n7]),ze1 h.m6 hc (by simp [h.d67]),by rw [zgO];exact hm,ze1 h.m8 hc (by simp [Ne.symm h.d78]),h.n6,h.n7,h.n8,h.d67,h.d68,h.d78⟩
def FC.set8 {i v:Nat} (h:FC W0 w b e c kc m g6 g7 g8 c6 c7 c8 x9 x10) (hc:Chg [g8] w w') (hm:Mine [g8] w' (sl g8 c.procs.length) ((zaK c8).set i (v:Int))):FC W0 w' b e c kc m g6 g7 g8 c6 c7 (c8.set i v) x9 x10:=
 ⟨h.wb.chg hc (by simp [h.n8]),ze1 h.m6 hc (by simp [h.d68]),ze1 h.m7 hc (by simp [h.d78]),by rw [zgO];exact hm,h.n6,h.n7,h.n8,h.d67,h.d68,h.d78⟩
end
def WB.ins (h:WB W0 w b e c kc m x6 x7 x8 x9 x10):∃ v,(kc++[Value.slice (some ⟨m,0,none⟩) c.ins.length c.ins.length,x6,x7,x8,x9,x10])[0+0+4]?=some v/\Is W0 v c.ins:=by
 obtain ⟨_,hr⟩:=h.code;obtain ⟨_,_,_,_,_,_,_,_,_,_,rfl,rfl,⟨_,_,_,_,rfl,_⟩,⟨_,_,_,_,rfl,_⟩,⟨_,_,_,_,rfl,_⟩,⟨_,_,_,_,rfl,_⟩,g1⟩:=zpM hr;have g0:=g1;obtain ⟨_,_,_,_,rfl,_⟩:=g1;exact ⟨_,rfl,_,_,g0,rfl⟩
def fcD (c:DCode) (op:Int) (p:Nat) (M:List Nat) (j:Nat):Nat->Nat->Prop:=λq r=>(q<p/\zkP c q op r)\/(q=p/\∃ i∈M.take j,(zap c i).op=op/\agN c i=r)
def zBo (g0:∀ x,x∈M.take (j+1)↔x∈M.take j\/x=i) (hn:¬(zap c i).op=op) (q r:Nat):fcD c op p M j q r↔fcD c op p M (j+1) q r:=by
 unfold fcD;refine or_congr Iff.rfl (and_congr Iff.rfl ?_);constructor
 . rintro ⟨x,hx,h⟩;exact ⟨x,(g0 x).2 (.inl hx),h⟩
 rintro ⟨x,hx,h⟩;rcases (g0 x).1 hx with hx | rfl
 . exact ⟨x,hx,h⟩
 exact absurd h.1 hn
def zxS (g0:∀ x,x∈M.take (j+1)↔x∈M.take j\/x=i) (hy:(zap c i).op=op) (q r:Nat):fcD c op p M (j+1) q r↔fcD c op p M j q r\/(q=p/\r=agN c i):=by
 unfold fcD;constructor
 . rintro (h | ⟨h1,x,hx,h⟩)
   . exact .inl (.inl h)
   rcases (g0 x).1 hx with hx | rfl
   . exact .inl (.inr ⟨h1,x,hx,h⟩)
   exact .inr ⟨h1,h.2.symm⟩
 rintro ((h | ⟨h1,x,hx,h⟩) | ⟨h1,h2⟩)
 . exact .inl h
 . exact .inr ⟨h1,x,(g0 x).2 (.inl hx),h⟩
 exact .inr ⟨h1,i,(g0 i).2 (.inr rfl),hy,h2.symm⟩
def zxT (hc:CodeR c) {op:Int} (hop:op=4\/op=5) {p:Nat} {M:List Nat} (hp:p<c.procs.length) (hM:∀ i,i∈M↔zaL c p i) (q r:Nat):fcD c op p M M.length q r↔fcD c op (p+1) [] 0 q r:=by
 have g1:(∃ i∈M.take M.length,(zap c i).op=op/\agN c i=r)↔zkP c p op r:=by
   rw [qaM];constructor
   . rintro ⟨i,hi,h1,h2⟩;have hl:=(hM i).1 hi;have g0:=(zbW hc (by rw [hc.2.1.1];exact hp) hl).1;exact ⟨i,g0,hl,h1,by rw [(zcl hc g0 oo).1,h2]⟩
   rintro ⟨i,g0,hl,h1,h2⟩;have:=(zcl hc g0 oo).1;exact ⟨i,(hM i).2 hl,h1,oo⟩
 unfold fcD;constructor
 . rintro (h | ⟨rfl,h⟩)
   . exact .inl ⟨oo,h.2⟩
   exact .inl ⟨oo,g1.1 h⟩
 rintro (⟨h1,h2⟩ | ⟨_,_,hx,_⟩)
 . by_cases e:q=p
   . subst e;exact .inr ⟨rfl,g1.2 h2⟩
   exact .inl ⟨oo,h2⟩
 simp at hx
def zxU (q r:Nat):fcD c op p [] 0 q r↔fcD c op p M 0 q r:=by
 unfold fcD;simp
def CS.done (h:CS c out (fcD c op c.procs.length [] 0)):out=cls c op:=
 CS.eq_cls (op:=op) (h.mono λq r hq hr=>by unfold fcD;simp [hq])
structure UM (c:DCode) (p m:Nat):Prop where
 lt:m<2^c.procs.length
 self:m.testBit p=true
 snd:∀ r,m.testBit r=true->FromP c p r
def UM.start (hp:p<c.procs.length):UM c p (2^p):=⟨qaY oo hp,by simp [qaU],λr hr=>by simp [qaU] at hr;exact .inl hr.symm⟩
def zj4 (hq:q<c.procs.length):(zax (cls c op) q).testBit r=true↔r<c.procs.length/\zkP c q op r:=by rw [zBh hq,za4]
def UM.more (h8:c.procs.length<=8) {p m:Nat} (h:UM c p m):UM c p (m ||| orL (cls c 4) (zbX m)):=by
 have hb:∀ r,(orL (cls c 4) (zbX m)).testBit r=true->∃ i,i<c.procs.length/\m.testBit i=true/\r<c.procs.length/\zkP c i 4 r:=λr hr=>by
   obtain ⟨i,h1,h2,h3⟩:=(zjk h.lt oo).1 hr;exact ⟨i,h1,h2,(zj4 h1).1 h3⟩
 refine ⟨qa0 h.lt (zr7 λr hr=>by obtain ⟨i,_,_,h3,_⟩:=hb r hr;exact h3),by rw [qaX,h.self];rfl,λr hr=>?_⟩;rw [qaX,qaQ] at hr;rcases hr with hr | hr
 . exact h.snd r hr
 obtain ⟨i,h1,h2,h3,h4⟩:=hb r hr;exact (h.snd i h2).call h3 h4
def UM.fin (h8:c.procs.length<=8) {p m:Nat} (h:UM c p m) (he:m ||| orL (cls c 4) (zbX m)=m):m=zcU (FromP c p) c.procs.length:=by
 have g0:∀ r,m.testBit r=true->r<c.procs.length:=λr hr=>qbe λ_=>by
   have:=qbn (qan h.lt (qaG oo (by omega:c.procs.length<=r)));rw [this] at hr;cases hr
 refine zen λr=>⟨λhr=>⟨g0 r hr,h.snd r hr⟩,λ⟨_,hf⟩=>?_⟩
 have step:∀ i j,m.testBit i=true->j∈zl8 c i->m.testBit j=true:=λi j hi hj=>by
   obtain ⟨g1,g2⟩:=zaO.1 hj;rw [<-he,qaX,(zjk h.lt oo).2 ⟨i,g0 i hi,hi,(zj4 (g0 i hi)).2 ⟨g1,g2⟩⟩];simp
 rcases hf with rfl | hf
 . exact h.self
 exact hf.keeps (p:=λi=>m.testBit i=true) h.self step
def ztK (h8:c.procs.length<=8) (op:Int):∀ x∈cls c op,x<256:=λx hx=>by
 obtain ⟨q,_,rfl⟩:=qa3.1 hx;exact zbn h8
def zEg (h8:c.procs.length<=8):∀ x∈frs c,x<256:=λx hx=>by
 obtain ⟨q,_,rfl⟩:=qa3.1 hx;exact zbn h8
def zqE (H:WB W0 w b e c kc m x6 x7 x8 x9 x10) (hc:CodeR c) :
   CALL tp 76 [.pointer (some ⟨b,0,none⟩)] w λr w'=>r=.tuple #[]/\∃ g6 g7 g8,FC W0 w' b e c kc m g6 g7 g8 (cls c 4) (cls c 5) (frs c) x9 x10:=by
 refine co (g:=⟨extL,[(11,295143401579725455360,[])],[(3,77371252455336258591260776,[33]),(6,38685626227667034078969952,[40]),(16,20769187279396805603449450954491776,[87]),(20,81119734894292398653589812152064,[8,9])],[(10,[0,1,2,3,4,5,6,7,8,9,10,11,12,13],0),(12,[0,1,2,3,4,5,6,7,8,9,10,11,12,13],0)],[],[],[(1,4294836224)]⟩) Tryz.func76 ?_;have h8:=hc.1.procs8;have hy:=hc.f.ins;refine NIL.mk rfl<|zaa zbc<|zaa zby<|zab zb9 (zay H.code_at) (xrf _) λ_ hA=>zae u26 hA ?_;have V:=zai w;have H1:=H.step V;have h6:(kc++[sl m c.ins.length]).length=6:=by rw [qab,H.k5];rfl
 have gU:fcB (World.drew1 w) b e (kc++[sl m c.ins.length]) x9 x10 (World.drew1 w):=⟨ChgI.refl _,x6,x7,x8,by rw [qaA];exact H1.blk⟩;have hbl:=H1.blk.lt;have hsd:(World.drew1 w).heap.size=w.heap.size:=rfl;refine GPAR.mk (fcB (World.drew1 w) b e (kc++[sl m c.ins.length]) x9 x10) (fcR b e) (fcQ b e c.procs.length) gU (λj w1 w2 h1 h2=>h1.step h6 h2) (λj w1 w2 h=>h.sz) ?_ ?_ ?_
 . intro i j u u' T _ _ wb g1 _ hR hd hq
   match i,g1,hd,hq with
   | 0,_,hd,hq=>exact (hd (0,17) dD).1.trans hq
   | 1,_,hd,hq=>exact (hd (1,18) dD).1.trans hq
   | 2,_,hd,hq=>exact (hd (2,19) dD).1.trans hq
   | 3,_,hd,hq=>exact (hd (3,20) dD).1.trans hq
   | 4,_,hd,⟨g,q1,q2,q3,q4,q5⟩=>
     obtain ⟨e1,e2⟩:=hd (4,21) dD;simp only at e1 e2;exact ⟨g,e1.trans q1,by rw [e2];exact q2,by rw [e2];exact q3,q4,hR.mine q4 q5⟩
   | 5,_,hd,hq=>exact (hd (5,22) dD).1.trans hq
   | 6,_,hd,⟨g,q1,q2,q3,q4,q5⟩=>
     obtain ⟨e1,e2⟩:=hd (6,23) dD;simp only at e1 e2;exact ⟨g,e1.trans q1,by rw [e2];exact q2,by rw [e2];exact q3,q4,hR.mine q4 q5⟩
   | 7,_,hd,hq=>exact (hd (7,24) dD).1.trans hq
   | 8,_,hd,⟨g,q1,q2,q3,q4,q5⟩=>
     obtain ⟨e1,e2⟩:=hd (8,25) dD;simp only at e1 e2;exact ⟨g,e1.trans q1,by rw [e2];exact q2,by rw [e2];exact q3,q4,hR.mine q4 q5⟩
   | 9,_,hd,hq=>exact (hd (9,26) dD).1.trans hq
   | 10,_,hd,hq=>exact (hd (10,27) dD).1.trans hq
   | 11,g1,hd,hq=>
     have e1:=(hd (4,21) dD).1;simp only at e1;show ∃ cs,Blk b e wb cs/\cs[6]?=some (u' 21);rw [e1];exact hR.cell (λhs=>by rcases hs with rfl | rfl | rfl<;>first | exact absurd rfl g1 | decide) hq
   | 12,_,hd,hq=>exact (hd (12,28) dD).1.trans hq
   | 13,_,hd,hq=>exact (hd (13,29) dD).1.trans hq
   | 14,g1,hd,hq=>
     have e1:=(hd (6,23) dD).1;simp only at e1;show ∃ cs,Blk b e wb cs/\cs[7]?=some (u' 23);rw [e1];exact hR.cell (λhs=>by rcases hs with rfl | rfl | rfl<;>first | exact absurd rfl g1 | decide) hq
   | 15,_,hd,hq=>exact (hd (15,30) dD).1.trans hq
   | 16,_,hd,hq=>exact (hd (16,31) dD).1.trans hq
   | 17,g1,hd,hq=>
     have e1:=(hd (8,25) dD).1;simp only at e1;show ∃ cs,Blk b e wb cs/\cs[8]?=some (u' 25);rw [e1];exact hR.cell (λhs=>by rcases hs with rfl | rfl | rfl<;>first | exact absurd rfl g1 | decide) hq
   | n+18,_,_,_=>trivial
 . have nf:∀ j,j≠11->j≠14->j≠17->¬zC1 j:=λj _ b _ h=>by rcases h with h | h | h<;>contradiction
   refine ⟨?_,?_,?_,?_,?_,?_,?_,?_,?_,?_,?_,?_,?_,?_,?_,?_,?_,?_,trivial⟩
   . exact λu T w' hB hs _ _=>⟨.ext (nf _ dD dD dD) (xrf _),rfl⟩
   . exact λu T w' hB hs _ _=>⟨.ext (nf _ dD dD dD) (xrf _),rfl⟩
   . exact λu T w' hB hs _ _=>⟨.ext (nf _ dD dD dD) (xrf _),rfl⟩
   . exact λu T w' hB hs _ _=>⟨.ext (nf _ dD dD dD) (xrf _),rfl⟩
   . intro u T w' hB hs _ hp;have q2:u 20=_:=hp.1;rw [q2];exact zd3 h8.2 oo λw4 g2 r=>⟨.ext (nf _ dD dD dD) g2,_,rfl,lr _,r.lt _ (qay.2 rfl),by obtain ⟨_,_,_,_,hb⟩:=hB;have:=hb.lt;omega,r⟩
   . exact λu T w' hB hs _ _=>⟨.ext (nf _ dD dD dD) (xrf _),rfl⟩
   . intro u T w' hB hs _ hp;have q2:u 22=_:=hp.1;rw [q2];exact zd3 h8.2 oo λw4 g2 r=>⟨.ext (nf _ dD dD dD) g2,_,rfl,lr _,r.lt _ (qay.2 rfl),by obtain ⟨_,_,_,_,hb⟩:=hB;have:=hb.lt;omega,r⟩
   . exact λu T w' hB hs _ _=>⟨.ext (nf _ dD dD dD) (xrf _),rfl⟩
   . intro u T w' hB hs _ hp;have q2:u 24=_:=hp.1;rw [q2];exact zd3 h8.2 oo λw4 g2 r=>⟨.ext (nf _ dD dD dD) g2,_,rfl,lr _,r.lt _ (qay.2 rfl),by obtain ⟨_,_,_,_,hb⟩:=hB;have:=hb.lt;omega,r⟩
   . intro u T w' hB hs _ hp;have q:u 17=_:=hp.1;rw [q];exact NIL.mk rfl ⟨.ext (nf _ dD dD dD) (xrf _),rfl⟩
   . intro u T w' hB hs _ hp;have q:u 26=_:=hp.1;rw [q];exact zaa zof ⟨.ext (nf _ dD dD dD) (xrf _),rfl⟩
   . intro u T w' hB hs _ hp;have q:u 27=_:=hp.1;obtain ⟨g,q1,_⟩:=hp.2.1;rw [q,q1];refine zpe (j:=11) (.inl rfl) h6 hB λw2 hR hQ=>⟨hR,?_⟩;show ∃ cs,Blk b e w2 cs/\cs[6]?=some (u 21);rw [q1];exact hQ
   . intro u T w' hB hs _ hp;have q:u 18=_:=hp.1;rw [q];exact NIL.mk rfl ⟨.ext (nf _ dD dD dD) (xrf _),rfl⟩
   . intro u T w' hB hs _ hp;have q:u 28=_:=hp.1;rw [q];exact zaa zrv ⟨.ext (nf _ dD dD dD) (xrf _),rfl⟩
   . intro u T w' hB hs _ hp;have q:u 29=_:=hp.1;obtain ⟨g,q1,_⟩:=hp.2.1;rw [q,q1];refine zpe (j:=14) (.inr (.inl rfl)) h6 hB λw2 hR hQ=>⟨hR,?_⟩;show ∃ cs,Blk b e w2 cs/\cs[7]?=some (u 23);rw [q1];exact hQ
   . intro u T w' hB hs _ hp;have q:u 19=_:=hp.1;rw [q];exact NIL.mk rfl ⟨.ext (nf _ dD dD dD) (xrf _),rfl⟩
   . intro u T w' hB hs _ hp;have q:u 30=_:=hp.1;rw [q];exact zaa zlf ⟨.ext (nf _ dD dD dD) (xrf _),rfl⟩
   intro u T w' hB hs _ hp;have q:u 31=_:=hp.1;obtain ⟨g,q1,_⟩:=hp.2.1;rw [q,q1];refine zpe (j:=17) (.inr (.inr rfl)) h6 hB λw2 hR hQ=>⟨hR,?_⟩;show ∃ cs,Blk b e w2 cs/\cs[8]?=some (u 25);rw [q1];exact hQ
 rintro u T w2 hB hs g3 ⟨-,-,-,-,⟨g6,hC,_,_,hD,hF⟩,-,⟨g7,hG,_,_,hH,hI⟩,-,⟨g8,hJ,_,_,hK,hL⟩,-,-,⟨_,gV,gf⟩,-,-,⟨_,gW,gB⟩,-,-,⟨_,gX,g4⟩,-⟩;have t4:=g3.1 4 dD;have t6:=g3.1 6 dD;have t8:=g3.1 8 dD;have hN:=g3.2 4 dD 6 dD dD;have hO:=g3.2 4 dD 8 dD dD;have hP:=g3.2 6 dD 8 dD dD;obtain ⟨gY,y6,y7,y8,gc⟩:=hB;have u6:=gc.uniq gV;have u7:=gc.uniq gW;have u8:=gc.uniq gX;subst u6 u7 u8;rw [List.getElem?_append_right (by rw [h6];decide),h6,hC] at gf;rw [List.getElem?_append_right (by rw [h6];decide),h6,hG] at gB;rw [List.getElem?_append_right (by rw [h6];decide),h6,hJ] at g4;have e6:y6=sl g6 c.procs.length:=by simpa using gf
 have e7:y7=sl g7 c.procs.length:=by simpa using gB
 have e8:y8=sl g8 c.procs.length:=by simpa using g4
 subst e6 e7 e8;rw [qaA] at gc;have gZ:=H1.cells gY gc;have hml:=H1.live.lt m ss;have hb0:=H.b0;have h4:FC W0 w2 b e c kc m g6 g7 g8 (List.replicate c.procs.length 0) (List.replicate c.procs.length 0) (List.replicate c.procs.length 0) x9 x10:=⟨gZ,hF,hI,hL,⟨oo,hD,oo⟩,⟨oo,hH,oo⟩,⟨oo,hK,oo⟩,oo,oo,oo⟩;clear gf gB g4 gV gW gX gc gZ gY H1 gU g3 hN hO hP t4 t6 t8;have hz:∀ op,CS c (List.replicate c.procs.length 0) (fcD c op 0 [] 0):=λop=>CS.zero λq r h=>by unfold fcD at h;simp at h
 have hS:=hz 4;have hT:=hz 5;have hV:(List.replicate c.procs.length 0).length=c.procs.length:=by simp
 refine zar c.procs.length (λk us w'=>∃ c6 c7,us=[.int .i64 (k:Int)]/\k<=c.procs.length/\FC W0 w' b e c kc m g6 g7 g8 c6 c7 (List.replicate c.procs.length 0) x9 x10/\CS c c6 (fcD c 4 k [] 0)/\CS c c7 (fcD c 5 k [] 0)) 0 (z0 _) ⟨_,_,rfl,z0 _,h4,hS,hT⟩ ?_;rintro p mk _ w3 h5 ⟨c6,c7,hu,hW,gd,gt,gx⟩;try replace hu:=zbv hu
 rw [hu];refine zah<|br (λ_=>?_) (λ_=>?_)
 . have hp:p<c.procs.length:=oo;have h9:p<c.entry.length:=by rw [hc.2.1.1];exact hp
   refine (zhp gd.wb.wl (xrf _) hc hp).mono ?_;rintro ha w4 ⟨g2,he⟩;have gg:=gd.step g2;have hM:∀ i,i∈zbb c.ins.length (zaL c p)↔zaL c p i:=λi=>by rw [zaO];exact ⟨λh=>h.2,λh=>⟨(zbW hc h9 h).1,h⟩⟩
   have hMl:(zbb c.ins.length (zaL c p)).length<=1500:=qal zbe hy;generalize zbb c.ins.length (zaL c p)=M at *;have hg6:=gd.m6.lt g6 ss;have hg7:=gd.m7.lt g7 ss;refine zae u31 he.is ?_;rw [zaf];refine zar M.length (λj us w'=>∃ c6 c7,us=[.int .i64 (j:Int)]/\j<=M.length/\FC W0 w' b e c kc m g6 g7 g8 c6 c7 (List.replicate c.procs.length 0) x9 x10/\CS c c6 (fcD c 4 p M j)/\CS c c7 (fcD c 5 p M j)/\OwnI w3.heap.size w4.heap.size w' ha (zaK M)) 0 (z0 _) ⟨c6,c7,rfl,z0 _,gg,gt.mono λq r _ _=>zxU q r,gx.mono λq r _ _=>zxU q r,he.toI⟩ ?_;rintro j mj u5 w5 _ ⟨g5,g0,hu,_,D,O,U,hf⟩;try replace hu:=zbv hu
   rw [hu];refine zah<|br (λ_=>?_) (λ_=>?_)
   case refine_2=>
     have hX:j=M.length:=oo;rw [hX] at O U;refine zaw<|⟨mk-1,oo,p+1,oo,g5,g0,rfl,oo,D,O.mono λq r _ _=>zxT hc (.inl rfl) hp hM q r,U.mono λq r _ _=>zxT hc (.inr rfl) hp hM q r⟩
   have hj:j<M.length:=oo;refine zac u31 ty3 (i:=j) hf.is (by rw [zaf];exact hj) λ_ _ hg=>?_;rw [zaY] at hg;refine zad ty3 hg (xrf _) λ_=>?_;have gy:=λx=>zbC hj (x:=x);have hY:=(hM M[j]).1 (qac hj);generalize M[j]=i at *;have gC:=(zbW hc h9 hY).1;obtain ⟨_,hZ,j0⟩:=D.wb.ins;refine NIL.mk rfl<|zaa zbc<|zaa zaH<|zaj zcQ D.wb.blk hZ<|zac u32 zdw j0 gC λ_ _ hh=>?_;rw [zaR] at hh;refine zab zdw hh D.wb.ext λ_ hl=>zbN zsM rfl zdw rfl hl D.wb.ext λw6 gz hn hr=>?_;have g9:=D.step gz;have ht:=hf.ext gz;have gh:=zcV hl hr rfl;have j1:=hr.lt;have gD:w5.heap.size≠g6:=by have:=D.m6.lt g6 ss;omega
   generalize w5.heap.size=gI at *;refine JOIN.mk (λus w'=>∃ c6',FC W0 w' b e c kc m g6 g7 g8 c6' g0 (List.replicate c.procs.length 0) x9 x10/\CS c c6' (fcD c 4 p M (j+1))/\OwnI w3.heap.size w4.heap.size w' ha (zaK M)/\AtB W0 w' gI 0 (zap c i)) ?_ ?_
   . refine zaa zbE ?_;refine zad ty3 (zaD hn) (xrf _) λ_=>zag<|br (λc4=>?_) (λc4=>?_)
     . obtain ⟨gE,gi⟩:=zcl hc gC (.inl c4);have V:=zai w6;have gj:=g9.step V;have j2:=ht.ext V;have gF:=gh.ext V;have gG:gI<(World.drew1 w6).heap.size:=qan j1 V.size;generalize World.drew1 w6=w7 at *;have gl:p<g5.length:=by rw [O.1];exact hp
       refine NIL.mk rfl<|zaa zof<|zaj zcn gj.wb.blk (gj.wb.cell 1)<|zac u31 ty3 (i:=p) gj.m6.is (by rw [zaf];exact gl) λb4 o4 gn=>?_;rw [zaS] at gn;refine zad ty3 gn (xrf _) λ_=>?_;have gb:=O.lt0 h8.1 hp;refine zaa zbG<|zad ty3 (zaF hn) V λ_=>?_;rw [gE];have gH:2^agN c i<256:=qan (qaY oo gi) (qaG (n:=2) oo h8.1);refine zcc kK zlh oo<|zeH oo<|zhb (m:=zax g5 p) (n:=2^agN c i) oo oo ?_;have gJ:zax g5 p ||| 2^agN c i<256:=qa0 (n:=8) gb gH;refine zb5 (α:=Int) rfl u31 ty3 hp<|zbm (α:=Int) rfl ty3 gj.m6 (by rw [zaf,O.1]) hp (zbS (v:=zax g5 p ||| 2^agN c i) oo) λ_ g4 j3=>?_;have j4:=gj.set6 (v:=zax g5 p ||| 2^agN c i) g4 j3;exact ⟨_,j4,O.set hp gi λq r=>zxS gy c4 q r,j2.chgF g4 so,gF.keep (g4.block gI gG (by simp;exact gD))⟩
     exact ⟨g5,g9,O.mono λq r _ _=>zBo gy c4 q r,ht,gh⟩
   rintro _ w9 ⟨hv,gK,gp,hw,gL⟩;have gq:=gL.at gK.wb.ext;refine zaa zbE<|zad ty3 (zaD gq) (xrf _) λ_=>zag<|br (λc5=>?_) (λc5=>?_)
   . obtain ⟨gE,gi⟩:=zcl hc gC (.inr c5);have V:=zai w9;have Z:=gK.step V;have gM:=hw.ext V;generalize World.drew1 w9=w10 at *;have gl:p<g0.length:=by rw [U.1];exact hp
     refine NIL.mk rfl<|zaa zrv<|zaj zcn Z.wb.blk (Z.wb.cell 2)<|zac u31 ty3 (i:=p) Z.m7.is (by rw [zaf];exact gl) λb4 o4 gn=>?_;rw [zaS] at gn;refine zad ty3 gn (xrf _) λ_=>?_;have gb:=U.lt0 h8.1 hp;refine zaa zbG<|zad ty3 (zaF gq) V λ_=>?_;rw [gE];have gH:2^agN c i<256:=qan (qaY oo gi) (qaG (n:=2) oo h8.1);refine zcc kK zlh oo<|zeH oo<|zhb (m:=zax g0 p) (n:=2^agN c i) oo oo ?_;have gJ:zax g0 p ||| 2^agN c i<256:=qa0 (n:=8) gb gH;refine zb5 (α:=Int) rfl u31 ty3 hp<|zbm (α:=Int) rfl ty3 Z.m7 (by rw [zaf,U.1]) hp (zbS (v:=zax g0 p ||| 2^agN c i) oo) λ_ gr gN=>?_;have gO:=Z.set7 (v:=zax g0 p ||| 2^agN c i) gr gN;refine zaw<|⟨mj-1,oo,j+1,oo,hv,_,rfl,oo,gO,gp,U.set hp gi λq r=>zxS gy c5 q r,gM.chgF gr so⟩
   refine zaw<|⟨mj-1,oo,j+1,oo,hv,g0,rfl,oo,gK,gp,U.mono λq r _ _=>zBo gy c5 q r,hw⟩
 have gP:p=c.procs.length:=oo;rw [gP] at gt gx;rw [gt.done,gx.done] at gd;clear gt gx h4 h5 hu;have j5:CS c (List.replicate c.procs.length 0) (λq r=>q<0/\FromP c q r):=CS.zero λq r h=>oo;generalize List.replicate c.procs.length 0=c8 at *;refine zar c.procs.length (λk us w'=>∃ c8,us=[.int .i64 (k:Int)]/\k<=c.procs.length/\FC W0 w' b e c kc m g6 g7 g8 (cls c 4) (cls c 5) c8 x9 x10/\CS c c8 (λq r=>q<k/\FromP c q r)) 0 (z0 _) ⟨_,rfl,z0 _,gd,j5⟩ ?_;rintro k mk _ w4 h5 ⟨gQ,hu,hW,gg,C⟩;try replace hu:=zbv hu
 rw [hu];refine zah<|br (λ_=>?_) (λ_=>?_)
 case refine_2=>
   have gP:k=c.procs.length:=oo;rw [gP] at C
   have:gQ=frs c:=by
     refine qaP (by rw [C.1,zj2]) λi h1 h2=>?_;have hi:i<c.procs.length:=by rw [<-C.1];exact h1
     rw [zbh h1,zbh h2,ztz hi,C.2 i hi];exact zbB λr _=>⟨λh=>h.2,λh=>⟨hi,h⟩⟩
   rw [this] at gg;exact ⟨rfl,g6,g7,g8,gg⟩
 have hk:k<c.procs.length:=oo;refine zcc kK zlh oo<|zeH oo ?_;have hU:=UM.start (c:=c) hk;have j6:2^c.procs.length<=256:=qaG (n:=2) oo h8.1;refine LOOPI.mk (λmm us w'=>∃ (s:Nat) (ag:Bool),us=[.int .i64 (s:Int),.bool ag]/\mm=(256-s)+(if ag then 1 else 0)/\FC W0 w' b e c kc m g6 g7 g8 (cls c 4) (cls c 5) gQ x9 x10/\UM c k s/\(ag=false->s=zcU (FromP c k) c.procs.length)) (256-2^k+1) ⟨2^k,true,rfl,rfl,gg,hU,λe=>by cases e⟩ ?_;rintro mm u5 w5 ⟨s,ag,hu,hm,D,gA,gR⟩;obtain ⟨j7,j8⟩:=zcv hu;rw [j7,j8];have gs:s<256:=qan gA.lt j6;refine zaN (λgS=>?_) (λgS=>?_)
 . rw [gS,qah rfl] at hm;refine NIL.mk rfl<|zaa zof<|zaj zcn D.wb.blk (D.wb.cell 1) ?_;refine (zhO D.m6.is (xrf _) (ztK h8.1 4) (by rw [zhq];exact h8.1) (m:=s) (by rw [zhq];exact gA.lt)).mono ?_;rintro _ w6 ⟨gz,rfl⟩;have g9:=D.step gz;have gJ:=ztw (ztK h8.1 4) (zbX s);have hx:=gA.more h8.1;have gT:=gA.fin h8.1;have j9:=λh=>zzt (m:=orL (cls c 4) (zbX s)) (n:=s) h;refine zhb (m:=s) (n:=orL (cls c 4) (zbX s)) oo oo ?_;have ja:s ||| orL (cls c 4) (zbX s)<256:=qa0 (n:=8) gs gJ;generalize s ||| orL (cls c 4) (zbX s)=t at *;refine zaJ ?_;by_cases hts:t=s
   . refine ⟨256-t,oo,t,_,rfl,?_,g9,hx,λ_=>by rw [hts];exact gT hts⟩;rw [hts];simp
   have hd:decide ((t:Int)≠(s:Int))=true:=decide_eq_true λh=>hts (qa7.1 h);have:=j9 hts;rw [hd];exact ⟨256-t+1,oo,t,true,rfl,rfl,g9,hx,λe=>by cases e⟩
 have jb:=gR gS;have gl:k<gQ.length:=by rw [C.1];exact hk
 refine NIL.mk rfl<|zaa zlf<|zaj zcn D.wb.blk (D.wb.cell 3)<|zb5 (α:=Int) rfl u31 ty3 hk<|zbm (α:=Int) rfl ty3 D.m8 (by rw [zaf,C.1]) hk (zbS (v:=s) oo) λw6 gf jc=>?_;have g9:=D.set8 (v:=s) gf jc;refine zaw<|⟨mk-1,oo,k+1,oo,_,rfl,oo,g9,by simp [C.1],λq hq=>?_⟩;rw [zb6 gl];split
 . rename_i e;subst e;rw [jb];exact zbB λr _=>⟨λh=>⟨oo,h⟩,λh=>h.2⟩
 rename_i e;rw [C.2 q hq];exact zbB λr _=>⟨λh=>⟨oo,h.2⟩,λh=>⟨oo,h.2⟩⟩
def zBp {x:Int} (hB:Blk g e w cs) (ho:cs[o]?=some (.int .i64 x)) (hx:I64 x):At w g o x:=by
 refine ⟨[],[.int .i64 x],⟨rfl,rfl,hx⟩,λi _ hi=>?_⟩
 have:i=0:=by
   cases i with
   | zero=>rfl
   | succ i=>simp at hi
 subst this;simp only [List.getElem?_cons_zero,qaq] at hi;subst hi;have:=hB.range o _ ho;rw [qba] at this;exact this
section
variable {W0 w w':wD} {b e m g6 g7 g8:Nat} {c:DCode} {kc:List vL} {c6 c7 c8:List Nat} {x9 x10 y9 y10:vL}
def FC.cells (h:FC W0 w b e c kc m g6 g7 g8 c6 c7 c8 x9 x10) (hc:ChgI b (b+1) w w') (hB:Blk b e w' (kc++[.slice (some ⟨m,0,none⟩) c.ins.length c.ins.length,sl g6 c.procs.length,sl g7 c.procs.length,sl g8 c.procs.length,y9,y10])):FC W0 w' b e c kc m g6 g7 g8 c6 c7 c8 y9 y10:=
 ⟨h.wb.cells hc hB,ze1 h.m6 hc.one (by simp [h.n6]),ze1 h.m7 hc.one (by simp [h.n7]),ze1 h.m8 hc.one (by simp [h.n8]),h.n6,h.n7,h.n8,h.d67,h.d68,h.d78⟩
def FC.store9 {x:Nat} {K:wD->Prop} (h:FC W0 w b e c kc m g6 g7 g8 c6 c7 c8 x9 x10) (k:∀ w',FC W0 w' b e c kc m g6 g7 g8 c6 c7 c8 (.int .i64 (x:Int)) x10->K w'):OPU tp (Instr.storeAt 3 (.pointer (some ⟨b,0+9,none⟩)) (.int .i64 (x:Int))) w K:=by
 have hl:9<(kc++[Value.slice (some ⟨m,0,none⟩) c.ins.length c.ins.length,sl g6 c.procs.length,sl g7 c.procs.length,sl g8 c.procs.length,x9,x10]).length:=by rw [qab,h.wb.k5];simp
 refine zaW (α:=Raw) (lo:=0) (hi:=0) ty3 rfl rfl h.wb.blk hl (zcY rfl) λw2 g1 g0=>?_;have:=h.wb.set 4 (.int .i64 (x:Int));rw [show 5+4=0+9 by omega] at this;rw [this] at g0;exact k w2 (h.cells g1 g0)
def FC.store10 {x:Nat} {K:wD->Prop} (h:FC W0 w b e c kc m g6 g7 g8 c6 c7 c8 x9 x10) (k:∀ w',FC W0 w' b e c kc m g6 g7 g8 c6 c7 c8 x9 (.int .i64 (x:Int))->K w'):OPU tp (Instr.storeAt 3 (.pointer (some ⟨b,0+10,none⟩)) (.int .i64 (x:Int))) w K:=by
 have hl:10<(kc++[Value.slice (some ⟨m,0,none⟩) c.ins.length c.ins.length,sl g6 c.procs.length,sl g7 c.procs.length,sl g8 c.procs.length,x9,x10]).length:=by rw [qab,h.wb.k5];simp
 refine zaW (α:=Raw) (lo:=0) (hi:=0) ty3 rfl rfl h.wb.blk hl (zcY rfl) λw2 g1 g0=>?_;have:=h.wb.set 5 (.int .i64 (x:Int));rw [show 5+5=0+10 by omega] at this;rw [this] at g0;exact k w2 (h.cells g1 g0)
end
def ziy (hA:At w b 0 c) (hc:CodeR c) :
   CALL tp 145 [.pointer (some ⟨b,0,none⟩)] w λr w'=>Ext w w'/\r=.int .i64 (zcX c:Nat):=by
 refine co (g:=kf [] [] []) Tryz.func145 ?_;refine NIL.mk rfl<|zaa zbc<|zaa zby<|zab zb9 (zay hA) (xrf _) λ_ g0=>?_;refine (zil g0 (xrf _)).mono ?_;rintro _ _ ⟨g1,rfl⟩;have:=(ze0 hc).1;unfold zg5 at this;rw [this];exact ⟨g1,rfl⟩
structure RM (c:DCode) (r:Nat):Prop where
 lt:r<2^c.procs.length
 self:r.testBit (zcX c)=true
 snd:∀ q,r.testBit q=true->RootP c q
noncomputable def usR (c:DCode) (r:Nat):Nat:=orL (frs c) (zbX r)
def zr8 (hq:q<c.procs.length):(zax (frs c) q).testBit r=true↔r<c.procs.length/\FromP c q r:=by rw [ztz hq,za4]
def zpf (h8:c.procs.length<=8) {r p:Nat} (h:RM c r):(usR c r).testBit p=true↔∃ q,q<c.procs.length/\r.testBit q=true/\p<c.procs.length/\FromP c q p:=by
 unfold usR;rw [zjk h.lt oo];exact ⟨λ⟨i,h1,h2,h3⟩=>⟨i,h1,h2,(zr8 h1).1 h3⟩,λ⟨i,h1,h2,h3⟩=>⟨i,h1,h2,(zr8 h1).2 h3⟩⟩
def zBq (h8:c.procs.length<=8) {r:Nat} (h:RM c r):usR c r<2^c.procs.length:=zr7 λp hp=>by
 obtain ⟨_,_,_,h3,_⟩:=(zpf h8 h).1 hp;exact h3
def RM.start (hc:CodeR c):RM c (2^zcX c):=⟨qaY oo (ze0 hc).2,by simp [qaU],λq hq=>by simp [qaU] at hq;exact hq▸.main⟩
def RM.more_bit (h8:c.procs.length<=8) {r q:Nat} (h:RM c r):(orL (cls c 5) (zbX (usR c r))).testBit q=true↔∃ p,p<c.procs.length/\(usR c r).testBit p=true/\q<c.procs.length/\zkP c p 5 q:=by
 rw [zjk (zBq h8 h) oo];exact ⟨λ⟨i,h1,h2,h3⟩=>⟨i,h1,h2,(zj4 h1).1 h3⟩,λ⟨i,h1,h2,h3⟩=>⟨i,h1,h2,(zj4 h1).2 h3⟩⟩
def RM.more (h8:c.procs.length<=8) {r:Nat} (h:RM c r):RM c (r ||| orL (cls c 5) (zbX (usR c r))):=by
 refine ⟨qa0 h.lt (zr7 λq hq=>by obtain ⟨_,_,_,h3,_⟩:=(h.more_bit h8).1 hq;exact h3),by rw [qaX,h.self];rfl,λq hq=>?_⟩;rw [qaX,qaQ] at hq;rcases hq with hq | hq
 . exact h.snd q hq
 obtain ⟨_,_,h2,h3,h4⟩:=(h.more_bit h8).1 hq;obtain ⟨s,_,h6,_,h7⟩:=(zpf h8 h).1 h2;exact .spawn (h.snd s h6) h7 h4 h3
def RM.fin (hc:CodeR c) (h8:c.procs.length<=8) {r:Nat} (h:RM c r) (he:r ||| orL (cls c 5) (zbX (usR c r))=r):r=zdi c/\usR c r=zeL c:=by
 have g0:∀ q,RootP c q->r.testBit q=true:=λq hq=>by
   induction hq with
   | main=>exact h.self
   | @spawn s p q h0 h1 h2 hq ih=>
     have hs:=h0.lt hc;rw [<-he,qaX,(h.more_bit h8).2 ⟨p,h1.lt hs,(zpf h8 h).2 ⟨s,hs,ih,h1.lt hs,h1⟩,hq,h2⟩];simp
 refine ⟨zen λq=>⟨λhq=>⟨(h.snd q hq).lt hc,h.snd q hq⟩,λhq=>g0 q hq.2⟩,zen λp=>?_⟩;rw [zpf h8 h];constructor
 . rintro ⟨q,h1,h2,h3,h4⟩;exact ⟨h3,q,h.snd q h2,h4⟩
 rintro ⟨h3,q,h1,h2⟩;exact ⟨q,h1.lt hc,g0 q h1,h3,h2⟩
def zqF (H:FC W0 w b e c kc m g6 g7 g8 (cls c 4) (cls c 5) (frs c) x9 x10) (hc:CodeR c) :
   CALL tp 77 [.pointer (some ⟨b,0,none⟩)] w λr w'=>r=.tuple #[]/\FC W0 w' b e c kc m g6 g7 g8 (cls c 4) (cls c 5) (frs c) (.int .i64 (zdi c:Nat)) (.int .i64 (zeL c:Nat)):=by
 refine co (g:=kf [] [(2,17179868700,[2,3])] [(4,[0,1,2,3,4,5,6,7,8,9,10,11],512)]) Tryz.func77 ?_;have h8:=hc.1.procs8;have:=(ze0 hc).2;refine (ziy H.wb.code_at hc).mono ?_;rintro _ _ ⟨gc,rfl⟩;have H1:=H.step gc;refine zcc kK zlh oo<|zeH oo ?_;have hR:=RM.start hc;have g4:2^c.procs.length<=256:=qaG (n:=2) oo h8.1;refine LOOPI.mk (λmm us w'=>∃ (s:Nat) (ag:Bool) (y:vL),us=[.int .i64 (s:Int),.bool ag]/\mm=(256-s)+(if ag then 1 else 0)/\FC W0 w' b e c kc m g6 g7 g8 (cls c 4) (cls c 5) (frs c) x9 y/\RM c s/\(ag=false->s=zdi c/\y=.int .i64 (zeL c:Nat))) (256-2^zcX c+1) ⟨2^zcX c,true,x10,rfl,rfl,H1,hR,λe=>by cases e⟩ ?_;rintro mm _ _ ⟨s,ag,y,hu,hm,H2,C,g2⟩;obtain ⟨gd,gf⟩:=zcv hu;rw [gd,gf];have g0:s<256:=qan C.lt g4;refine zaN (λg3=>?_) (λg3=>?_)
 . rw [g3,qah rfl] at hm;refine NIL.mk rfl<|zaa zlf<|zaj zcn H2.wb.blk (H2.wb.cell 3) ?_;refine (zhO H2.m8.is (xrf _) (zEg h8.1) (by rw [zj2];exact h8.1) (m:=s) (by rw [zj2];exact C.lt)).mono ?_;rintro _ w3 ⟨gg,rfl⟩;have H3:=H2.step gg;have g5:=zBq h8.1 C;have:usR c s<256:=qan g5 g4;have gh:orL (frs c) (zbX s)=usR c s:=rfl;rw [gh];refine NIL.mk rfl<|zaa zie<|H3.store10 λw4 H4=>?_;have gi:=zai w4;have H5:=H4.step gi;generalize World.drew1 w4=w5 at *;refine NIL.mk rfl<|zaa zrv<|zaj zcn H5.wb.blk (H5.wb.cell 2)<|NIL.mk rfl<|zaa zie<|zaj ty3 H5.wb.blk (H5.wb.cell 5) ?_;refine (zhO H5.m7.is (xrf _) (ztK h8.1 5) (by rw [zhq];exact h8.1) (m:=usR c s) (by rw [zhq];exact g5)).mono ?_;rintro _ _ ⟨g9,rfl⟩;have H6:=H5.step g9;have gj:=ztw (ztK h8.1 5) (zbX (usR c s));have gb:=C.more h8.1;have g1:=C.fin hc h8.1;have gl:=λh=>zzt (m:=orL (cls c 5) (zbX (usR c s))) (n:=s) h;refine ⟨g9,?_⟩;refine zhb (m:=s) (n:=orL (cls c 5) (zbX (usR c s))) oo oo ?_;have:s ||| orL (cls c 5) (zbX (usR c s))<256:=qa0 (n:=8) g0 gj;generalize s ||| orL (cls c 5) (zbX (usR c s))=t at *;refine zaJ ?_;by_cases hts:t=s
   . refine ⟨256-t,oo,t,_,_,rfl,?_,H6,gb,λ_=>?_⟩
     . rw [hts];simp
     rw [(g1 hts).2];exact ⟨by rw [hts];exact (g1 hts).1,rfl⟩
   have hd:decide ((t:Int)≠(s:Int))=true:=decide_eq_true λh=>hts (qa7.1 h);have:=gl hts;rw [hd];exact ⟨256-t+1,oo,t,true,_,rfl,rfl,H6,gb,λe=>by cases e⟩
 obtain ⟨gn,gp⟩:=g2 g3;rw [gp] at H2;refine NIL.mk rfl<|zaa zid<|H2.store9 λw3 H3=>?_;rw [gn] at H3;exact ⟨rfl,H3⟩
def FC.wat (H:FC W0 w b e c kc m g6 g7 g8 (cls c 4) (cls c 5) (frs c) (.int .i64 (zdi c:Nat)) (.int .i64 (zeL c:Nat))) (h8:c.procs.length<=8):WAt w b c:=by
 have:zdi c<256:=zbn h8;have:zeL c<256:=zbn h8;exact ⟨H.wb.wl,zgq H.wb.blk (H.wb.cell 1) H.m6.is,zgq H.wb.blk (H.wb.cell 2) H.m7.is,zgq H.wb.blk (H.wb.cell 3) H.m8.is,zBp H.wb.blk (H.wb.cell 4) io,zBp H.wb.blk (H.wb.cell 5) io⟩
def zuH (h0:Is W0 v0 c) (e0:Ext W0 w) :
   CALL tp 29 [v0] w λr w'=>Ext w w'/\((¬CodeR c/\r=.tuple #[.pointer none,.bool false])\/(CodeR c/\∃ b,r=.tuple #[.pointer (some ⟨b,0,none⟩),.bool true]/\WAt w' b c)):=by
 refine co (g:=kf [] [(5,274876858432,[20])] [(3,[0,1,2,3,4,5,6,7],16)]) Tryz.func29 ?_;refine zbk h0 e0 λ_ gl hA=>zab zbO hA (xrf _) λ_ h7=>?_;refine (ziY h7 (xrf _)).mono ?_;rintro _ w2 ⟨gn,rfl⟩;refine za0<|br (λhn=>?_) (λhy=>?_)
 . exact ⟨gl.t gn,.inl ⟨hn,rfl⟩⟩
 have hc:CodeR c:=qaf.1 hy;have h8:=hc.1.procs8;have gp:=hc.f.ins;have hz0:=(zeT hc h8.2).2.2;have gE:=zai w2;have M:=gn.t gE;generalize World.drew1 w2=w3 at *;refine zab zbO hA M λ_ gF=>zaa zaH<|zab zcQ (zao hA) M λ_ gG=>zae u32 gG<|zeZ oo oo λw4 gc gq=>?_;have hs4:=gc.size;have hm4:=gq.lt _ (qay.2 rfl);generalize hm:w3.heap.size=m at *;have g1:=gF.ext M;have g0:=znG g1;obtain ⟨F,kc,hr,gr⟩:=g1;obtain ⟨a0,a1,a2,a3,a4,n0,n1,n2,n3,n4,k0,k1,k2,k3,k4,g4⟩:=g0
 have gd:kc=[.slice a0 n0 k0,.slice a1 n1 k1,.slice a2 n2 k2,.slice a3 n3 k3,.slice a4 n4 k4]:=by
   rw [gr] at g4;have:(Value.agg kc.toArray)=.agg #[.slice a0 n0 k0,.slice a1 n1 k1,.slice a2 n2 k2,.slice a3 n3 k3,.slice a4 n4 k4]:=g4;simpa using this
 rw [g4];refine ⟨gc,?_⟩;refine zas (cells:=#[.slice a0 n0 k0,.slice a1 n1 k1,.slice a2 n2 k2,.slice a3 n3 k3,.slice a4 n4 k4,sl m c.ins.length,.slice none 0 0,.slice none 0 0,.slice none 0 0,.int .i64 0,.int .i64 0]) kK<|zrz λw5 gs gt=>?_;have gf:Blk w4.heap.size 127 w5 (kc++[sl m c.ins.length,.slice none 0 0,.slice none 0 0,.slice none 0 0,.int .i64 0,.int .i64 0]):=by rw [gd];exact gt
 have gx:kc.length=5:=Rep.len hr;clear gt g4 gr;have gy:=gq.ext gs;have g2:Ext w3 w5:=gc.t gs;generalize hb:w4.heap.size=b at *;refine zaa zbj<|zab zcn (zav hA) (M.t g2) λ_ g5=>?_;have g5:=g5.ext M;refine zae u31 g5 ?_;have gH:c.entry.length=c.procs.length:=hc.2.1.1;rw [gH];have g3:List.replicate c.ins.length false=zbT c.ins.length (λi=>∃ p,p<0/\zaL c p i):=zdC _ λi ⟨p,h,_⟩=>oo;rw [g3] at gy;have C:∀ {x1 x2 x3 x4 x5:vL},(kc++[sl m c.ins.length,x1,x2,x3,x4,x5])[0+5]?=some (sl m c.ins.length):=by intros;rw [List.getElem?_append_right (by rw [gx];omega),gx];rfl
 refine zar c.procs.length (λk us w'=>us=[.int .i64 (k:Int)]/\k<=c.procs.length/\Ext w3 w'/\Blk b 127 w' (kc++[sl m c.ins.length,.slice none 0 0,.slice none 0 0,.slice none 0 0,.int .i64 0,.int .i64 0])/\Mine [m] w' (sl m c.ins.length) (zbT c.ins.length λi=>∃ p,p<k/\zaL c p i)) 0 (z0 _) ⟨rfl,z0 _,g2,gf,gy⟩ ?_;rintro k mk _ w6 _ ⟨hu,_,gg,gh,gi⟩;try replace hu:=zbv hu
 rw [hu];refine zah<|br (λ_=>?_) (λ_=>?_)
 . have hk:k<c.procs.length:=oo;have O:k<c.entry.length:=oo;obtain ⟨gI,g9,_⟩:=zgP hc O;refine zac u31 ty3 (i:=k) g5 O λ_ _ gz=>?_;rw [zbK O,gI] at gz;refine zad ty3 gz gg λ_=>NIL.mk rfl<|zaa zoe<|zaj zcR gh C<|zb5 (α:=Bool) rfl zdj ty4 g9<|zbm (α:=Bool) rfl ty4 gi zam g9 zbM λw7 gA gJ=>?_;have gb:=gh.chgF gA so;have gB:Ext w3 w7:=gg.chgF gA (by simp [hm])
   have D:∀ i,mkd ((zbT c.ins.length λi=>∃ p,p<k/\zaL c p i).set (eN c k) true) i↔(i<c.ins.length/\∃ p,p<k/\zaL c p i)\/i=eN c k:=λi=>by
     rw [zdc (by rw [zam];exact g9),zaM]
   have gK:((zbT c.ins.length λi=>∃ p,p<k/\zaL c p i).set (eN c k) true).length=c.ins.length:=by rw [qbD,zam]
   generalize (zbT c.ins.length λi=>∃ p,p<k/\zaL c p i).set (eN c k) true=ms7 at *;refine NIL.mk rfl<|zaa zoe<|zaj zcR gb C ?_;have gL:KAt w3 w7 b c:=⟨F,kc,hr,ztJ gb,gb.lt⟩;refine (zqq gL gB hc rfl g9 gJ gK oo oo ?_).mono ?_
   . intro i hi gM j hj;rcases (D i).1 hi with ⟨h1,p,h2,h3⟩ | h
     . have gp:=zdg hc h1 hj;exact (D j).2 (.inl ⟨gp.1,p,h2,zxj h3 hj⟩)
     exact absurd h gM
   rintro _ w8 ⟨rfl,gC,gD⟩
   have gj:(zbT c.ins.length λi=>mkd ms7 i\/RP (zaE c) (eN c k) i)=zbT c.ins.length λi=>∃ p,p<k+1/\zaL c p i:=zaX λi hi=>by
     rw [D];constructor
     . rintro ((⟨_,p,h2,h3⟩ | h) | h)
       . exact ⟨p,oo,h3⟩
       . exact ⟨k,oo,.inl h⟩
       exact ⟨k,oo,.inr h⟩
     rintro ⟨p,h2,h3⟩;by_cases e:p=k
     . subst e;rcases h3 with h3 | h3
       . exact .inl (.inr h3)
       exact .inr h3
     exact .inl (.inl ⟨hi,p,oo,h3⟩)
   rw [gj] at gD;refine zaw<|⟨mk-1,oo,k+1,oo,rfl,oo,gB.chgI gC oo,gb.chgI gC oo,gD⟩
 have O:k=c.procs.length:=oo;have gN:(zbT c.ins.length λi=>∃ p,p<k/\zaL c p i)=zbT c.ins.length (zfX c):=by rw [O];rfl
 rw [gN] at gi;have HW:WB w3 w6 b 127 c kc m (.slice none 0 0) (.slice none 0 0) (.slice none 0 0) (.int .i64 0) (.int .i64 0):=⟨gg,gh,⟨F,hr⟩,gi,oo,oo,oo⟩;refine (zqE HW hc).mono ?_;rintro _ w7 ⟨rfl,_,_,_,H7⟩;refine (zqF H7 hc).mono ?_;rintro _ w8 ⟨rfl,H8⟩;exact ⟨gl.t (M.t H8.wb.ext),.inr ⟨hc,b,rfl,H8.wat h8.1⟩⟩
open Go.Shelf
def Tryz.sortRace_ren:Go.Shelf.Ren:=⟨fun | 6=>154 | 15=>168 | 14=>215 | 28=>228 | 29=>229 | 20=>267 | 21=>268 | 22=>269 | 23=>270 | 24=>271 | 25=>272 | 26=>273 | 27=>274 | 46=>303 | 47=>285 | 48=>286 | 49=>304 | 50=>305 | 57=>315 | n=>n,fun | 22=>38 | 24=>46 | 25=>195 | 3=>3 | 39=>187 | 0=>0 | 53=>258 | 55=>207 | 4=>4 | 46=>252 | 45=>251 | 50=>226 | 5=>5 | 9=>9 | 66=>291 | 70=>177 | 76=>308 | 77=>309 | n=>n,fun | n=>n⟩
def Tryz.sortRace:SlLaysF0.n6 tp Tryz.sortRace_ren:={
 mixed:=by kernel_rfl,
 f6:=⟨Tryz.f154.name,kK,Tryz.func154.trans (qat some kK)⟩,
 f14:=⟨Tryz.f215.name,kK,Tryz.func215.trans (qat some kK)⟩,
 f15:=Tryz.func168.trans (qat some kK),
 f20:=⟨Tryz.f267.name,kK,Tryz.func267.trans (qat some kK)⟩,
 f21:=⟨Tryz.f268.name,kK,Tryz.func268.trans (qat some kK)⟩,
 f22:=⟨Tryz.f269.name,kK,Tryz.func269.trans (qat some kK)⟩,
 f23:=⟨Tryz.f270.name,kK,Tryz.func270.trans (qat some kK)⟩,
 f24:=⟨Tryz.f271.name,kK,Tryz.func271.trans (qat some kK)⟩,
 f25:=⟨Tryz.f272.name,kK,Tryz.func272.trans (qat some kK)⟩,
 f26:=⟨Tryz.f273.name,kK,Tryz.func273.trans (qat some kK)⟩,
 f27:=⟨Tryz.f274.name,kK,Tryz.func274.trans (qat some kK)⟩,
 f28:=Tryz.func228.trans (qat some kK),
 f29:=Tryz.func229.trans (qat some kK),
 f46:=⟨Tryz.f303.name,kK,Tryz.func303.trans (qat some kK)⟩,
 f47:=Tryz.func285.trans (qat some kK),
 f48:=Tryz.func286.trans (qat some kK),
 f49:=⟨Tryz.f304.name,kK,Tryz.func304.trans (qat some kK)⟩,
 f50:=⟨Tryz.f305.name,kK,Tryz.func305.trans (qat some kK)⟩,
 f57:=⟨Tryz.f315.name,kK,Tryz.func315.trans (qat some kK)⟩,
 t0:=Tryz.underlying0,
 a0:=Tryz.isAgg0,
 z0:=Tryz.sizeOf0,
 v0:=Tryz.zeroValue0,
 t3:=Tryz.underlying3,
 a3:=Tryz.isAgg3,
 z3:=Tryz.sizeOf3,
 v3:=Tryz.zeroValue3,
 t4:=Tryz.underlying4,
 a4:=Tryz.isAgg4,
 z4:=Tryz.sizeOf4,
 v4:=Tryz.zeroValue4,
 t5:=Tryz.underlying5,
 a5:=Tryz.isAgg5,
 z5:=Tryz.sizeOf5,
 v5:=Tryz.zeroValue5,
 t9:=Tryz.underlying9,
 a9:=Tryz.isAgg9,
 z9:=Tryz.sizeOf9,
 v9:=Tryz.zeroValue9,
 t22:=Tryz.underlying38,
 a22:=Tryz.isAgg38,
 z22:=Tryz.sizeOf38,
 v22:=Tryz.zeroValue38,
 t25:=Tryz.underlying195,
 a25:=Tryz.isAgg195,
 z25:=Tryz.sizeOf195,
 v25:=Tryz.zeroValue195,
 t39:=Tryz.underlying187,
 a39:=Tryz.isAgg187,
 z39:=Tryz.sizeOf187,
 v39:=Tryz.zeroValue187,
 t45:=Tryz.underlying251,
 a45:=Tryz.isAgg251,
 z45:=Tryz.sizeOf251,
 v45:=Tryz.zeroValue251,
 t46:=Tryz.underlying252,
 a46:=Tryz.isAgg252,
 z46:=Tryz.sizeOf252,
 v46:=Tryz.zeroValue252,
 t50:=Tryz.underlying226,
 a50:=Tryz.isAgg226,
 z50:=Tryz.sizeOf226,
 v50:=Tryz.zeroValue226,
 t53:=Tryz.underlying258,
 a53:=Tryz.isAgg258,
 z53:=Tryz.sizeOf258,
 v53:=Tryz.zeroValue258,
 t55:=Tryz.underlying207,
 a55:=Tryz.isAgg207,
 z55:=Tryz.sizeOf207,
 v55:=Tryz.zeroValue207,
 t66:=Tryz.underlying291,
 a66:=Tryz.isAgg291,
 z66:=Tryz.sizeOf291,
 v66:=Tryz.zeroValue291,
 t70:=Tryz.underlying177,
 a70:=Tryz.isAgg177,
 z70:=Tryz.sizeOf177,
 v70:=Tryz.zeroValue177,
 t76:=Tryz.underlying308,
 a76:=Tryz.isAgg308,
 z76:=Tryz.sizeOf308,
 v76:=Tryz.zeroValue308,
 t77:=Tryz.underlying309,
 a77:=Tryz.isAgg309,
 z77:=Tryz.sizeOf309,
 v77:=Tryz.zeroValue309 }
def Tryz.sortOrder_ren:Go.Shelf.Ren:=⟨fun | 6=>162 | 15=>168 | 14=>218 | 28=>228 | 29=>229 | 20=>275 | 21=>276 | 22=>277 | 23=>278 | 24=>279 | 25=>280 | 26=>281 | 27=>282 | 46=>306 | 47=>285 | 48=>286 | 49=>307 | 50=>308 | 57=>316 | n=>n,fun | 22=>141 | 24=>199 | 25=>204 | 3=>3 | 39=>187 | 0=>0 | 53=>258 | 55=>207 | 4=>4 | 46=>252 | 45=>251 | 50=>226 | 5=>5 | 9=>9 | 66=>291 | 70=>177 | 76=>308 | 77=>309 | n=>n,fun | n=>n⟩
def Tryz.sortOrder:SlLaysF0.n6 tp Tryz.sortOrder_ren:={
 mixed:=by kernel_rfl,
 f6:=⟨Tryz.f162.name,kK,Tryz.func162.trans (qat some kK)⟩,
 f14:=⟨Tryz.f218.name,kK,Tryz.func218.trans (qat some kK)⟩,
 f15:=Tryz.func168.trans (qat some kK),
 f20:=⟨Tryz.f275.name,kK,Tryz.func275.trans (qat some kK)⟩,
 f21:=⟨Tryz.f276.name,kK,Tryz.func276.trans (qat some kK)⟩,
 f22:=⟨Tryz.f277.name,kK,Tryz.func277.trans (qat some kK)⟩,
 f23:=⟨Tryz.f278.name,kK,Tryz.func278.trans (qat some kK)⟩,
 f24:=⟨Tryz.f279.name,kK,Tryz.func279.trans (qat some kK)⟩,
 f25:=⟨Tryz.f280.name,kK,Tryz.func280.trans (qat some kK)⟩,
 f26:=⟨Tryz.f281.name,kK,Tryz.func281.trans (qat some kK)⟩,
 f27:=⟨Tryz.f282.name,kK,Tryz.func282.trans (qat some kK)⟩,
 f28:=Tryz.func228.trans (qat some kK),
 f29:=Tryz.func229.trans (qat some kK),
 f46:=⟨Tryz.f306.name,kK,Tryz.func306.trans (qat some kK)⟩,
 f47:=Tryz.func285.trans (qat some kK),
 f48:=Tryz.func286.trans (qat some kK),
 f49:=⟨Tryz.f307.name,kK,Tryz.func307.trans (qat some kK)⟩,
 f50:=⟨Tryz.f308.name,kK,Tryz.func308.trans (qat some kK)⟩,
 f57:=⟨Tryz.f316.name,kK,Tryz.func316.trans (qat some kK)⟩,
 t0:=Tryz.underlying0,
 a0:=Tryz.isAgg0,
 z0:=Tryz.sizeOf0,
 v0:=Tryz.zeroValue0,
 t3:=Tryz.underlying3,
 a3:=Tryz.isAgg3,
 z3:=Tryz.sizeOf3,
 v3:=Tryz.zeroValue3,
 t4:=Tryz.underlying4,
 a4:=Tryz.isAgg4,
 z4:=Tryz.sizeOf4,
 v4:=Tryz.zeroValue4,
 t5:=Tryz.underlying5,
 a5:=Tryz.isAgg5,
 z5:=Tryz.sizeOf5,
 v5:=Tryz.zeroValue5,
 t9:=Tryz.underlying9,
 a9:=Tryz.isAgg9,
 z9:=Tryz.sizeOf9,
 v9:=Tryz.zeroValue9,
 t22:=Tryz.underlying141,
 a22:=Tryz.isAgg141,
 z22:=Tryz.sizeOf141,
 v22:=Tryz.zeroValue141,
 t25:=Tryz.underlying204,
 a25:=Tryz.isAgg204,
 z25:=Tryz.sizeOf204,
 v25:=Tryz.zeroValue204,
 t39:=Tryz.underlying187,
 a39:=Tryz.isAgg187,
 z39:=Tryz.sizeOf187,
 v39:=Tryz.zeroValue187,
 t45:=Tryz.underlying251,
 a45:=Tryz.isAgg251,
 z45:=Tryz.sizeOf251,
 v45:=Tryz.zeroValue251,
 t46:=Tryz.underlying252,
 a46:=Tryz.isAgg252,
 z46:=Tryz.sizeOf252,
 v46:=Tryz.zeroValue252,
 t50:=Tryz.underlying226,
 a50:=Tryz.isAgg226,
 z50:=Tryz.sizeOf226,
 v50:=Tryz.zeroValue226,
 t53:=Tryz.underlying258,
 a53:=Tryz.isAgg258,
 z53:=Tryz.sizeOf258,
 v53:=Tryz.zeroValue258,
 t55:=Tryz.underlying207,
 a55:=Tryz.isAgg207,
 z55:=Tryz.sizeOf207,
 v55:=Tryz.zeroValue207,
 t66:=Tryz.underlying291,
 a66:=Tryz.isAgg291,
 z66:=Tryz.sizeOf291,
 v66:=Tryz.zeroValue291,
 t70:=Tryz.underlying177,
 a70:=Tryz.isAgg177,
 z70:=Tryz.sizeOf177,
 v70:=Tryz.zeroValue177,
 t76:=Tryz.underlying308,
 a76:=Tryz.isAgg308,
 z76:=Tryz.sizeOf308,
 v76:=Tryz.zeroValue308,
 t77:=Tryz.underlying309,
 a77:=Tryz.isAgg309,
 z77:=Tryz.sizeOf309,
 v77:=Tryz.zeroValue309 }
def Tryz.sortInts_ren:Go.Shelf.Ren:=⟨fun | 6=>89 | 15=>168 | 14=>167 | 28=>228 | 29=>229 | 20=>220 | 21=>221 | 22=>222 | 23=>223 | 24=>224 | 25=>225 | 26=>226 | 27=>227 | 46=>284 | 47=>285 | 48=>286 | 49=>287 | 50=>288 | 57=>309 | n=>n,fun | 22=>40 | 24=>31 | 25=>146 | 3=>3 | 39=>187 | 0=>0 | 53=>258 | 55=>207 | 4=>4 | 46=>252 | 45=>251 | 50=>226 | 5=>5 | 9=>9 | 66=>291 | 70=>177 | 76=>308 | 77=>309 | n=>n,fun | n=>n⟩
def Tryz.sortInts:SlLaysF.n6 tp Tryz.sortInts_ren:={
 mixed:=by kernel_rfl,
 f6:=⟨Tryz.f89.name,kK,Tryz.func89.trans (qat some kK)⟩,
 f14:=⟨Tryz.f167.name,kK,Tryz.func167.trans (qat some kK)⟩,
 f15:=Tryz.func168.trans (qat some kK),
 f20:=⟨Tryz.f220.name,kK,Tryz.func220.trans (qat some kK)⟩,
 f21:=⟨Tryz.f221.name,kK,Tryz.func221.trans (qat some kK)⟩,
 f22:=⟨Tryz.f222.name,kK,Tryz.func222.trans (qat some kK)⟩,
 f23:=⟨Tryz.f223.name,kK,Tryz.func223.trans (qat some kK)⟩,
 f24:=⟨Tryz.f224.name,kK,Tryz.func224.trans (qat some kK)⟩,
 f25:=⟨Tryz.f225.name,kK,Tryz.func225.trans (qat some kK)⟩,
 f26:=⟨Tryz.f226.name,kK,Tryz.func226.trans (qat some kK)⟩,
 f27:=⟨Tryz.f227.name,kK,Tryz.func227.trans (qat some kK)⟩,
 f28:=Tryz.func228.trans (qat some kK),
 f29:=Tryz.func229.trans (qat some kK),
 f46:=⟨Tryz.f284.name,kK,Tryz.func284.trans (qat some kK)⟩,
 f47:=Tryz.func285.trans (qat some kK),
 f48:=Tryz.func286.trans (qat some kK),
 f49:=⟨Tryz.f287.name,kK,Tryz.func287.trans (qat some kK)⟩,
 f50:=⟨Tryz.f288.name,kK,Tryz.func288.trans (qat some kK)⟩,
 f57:=⟨Tryz.f309.name,kK,Tryz.func309.trans (qat some kK)⟩,
 t0:=Tryz.underlying0,
 a0:=Tryz.isAgg0,
 z0:=Tryz.sizeOf0,
 v0:=Tryz.zeroValue0,
 t3:=Tryz.underlying3,
 a3:=Tryz.isAgg3,
 z3:=Tryz.sizeOf3,
 v3:=Tryz.zeroValue3,
 t4:=Tryz.underlying4,
 a4:=Tryz.isAgg4,
 z4:=Tryz.sizeOf4,
 v4:=Tryz.zeroValue4,
 t5:=Tryz.underlying5,
 a5:=Tryz.isAgg5,
 z5:=Tryz.sizeOf5,
 v5:=Tryz.zeroValue5,
 t9:=Tryz.underlying9,
 a9:=Tryz.isAgg9,
 z9:=Tryz.sizeOf9,
 v9:=Tryz.zeroValue9,
 t22:=Tryz.underlying40,
 a22:=Tryz.isAgg40,
 z22:=Tryz.sizeOf40,
 v22:=Tryz.zeroValue40,
 a24:=Tryz.isAgg31,
 z24:=Tryz.sizeOf31,
 t25:=Tryz.underlying146,
 a25:=Tryz.isAgg146,
 z25:=Tryz.sizeOf146,
 v25:=Tryz.zeroValue146,
 t39:=Tryz.underlying187,
 a39:=Tryz.isAgg187,
 z39:=Tryz.sizeOf187,
 v39:=Tryz.zeroValue187,
 t45:=Tryz.underlying251,
 a45:=Tryz.isAgg251,
 z45:=Tryz.sizeOf251,
 v45:=Tryz.zeroValue251,
 t46:=Tryz.underlying252,
 a46:=Tryz.isAgg252,
 z46:=Tryz.sizeOf252,
 v46:=Tryz.zeroValue252,
 t50:=Tryz.underlying226,
 a50:=Tryz.isAgg226,
 z50:=Tryz.sizeOf226,
 v50:=Tryz.zeroValue226,
 t53:=Tryz.underlying258,
 a53:=Tryz.isAgg258,
 z53:=Tryz.sizeOf258,
 v53:=Tryz.zeroValue258,
 t55:=Tryz.underlying207,
 a55:=Tryz.isAgg207,
 z55:=Tryz.sizeOf207,
 v55:=Tryz.zeroValue207,
 t66:=Tryz.underlying291,
 a66:=Tryz.isAgg291,
 z66:=Tryz.sizeOf291,
 v66:=Tryz.zeroValue291,
 t70:=Tryz.underlying177,
 a70:=Tryz.isAgg177,
 z70:=Tryz.sizeOf177,
 v70:=Tryz.zeroValue177,
 t76:=Tryz.underlying308,
 a76:=Tryz.isAgg308,
 z76:=Tryz.sizeOf308,
 v76:=Tryz.zeroValue308,
 t77:=Tryz.underlying309,
 a77:=Tryz.isAgg309,
 z77:=Tryz.sizeOf309,
 v77:=Tryz.zeroValue309 }
variable {W0 W1 w:wD} {a:Int} {c:DCode} {hi lo:Nat} {v0 v1:vL} {x:DRace}
def zjl {x:DTouch} (h1:I64 x.at_) (h2:I64 x.global) (h3:I64 x.held):OwnI lo hi w (.agg #[.int .i64 x.at_,.int .i64 x.global,.bool x.write,.int .i64 x.held]) x:=
 ⟨[],zwb h1 h2 h3,ss⟩
def zcA (c:DCode) (a:Int) (held:Int) (i:DIns):Nat->List DTouch
 | 0=>[]
 | k+1=>zcA c a held i k++(if c.globals.getD k ByteArray.empty∈zbf i.term then [⟨a,k,false,held⟩] else [])++(if i.op=1/\i.arg=k then [⟨a,k,true,held⟩] else [])
def zep (c:DCode) (a:Int) (held:Int):List DTouch:=
 if (zap c a.toNat).op=1\/(zap c a.toNat).op=2 then zcA c a held (zap c a.toNat) c.globals.length else []
theorem zgT (c:DCode) (a held:Int) (i:DIns):∀ k,(zcA c a held i k).length<=2*k
 | 0=>by simp [zcA]
 | k+1=>by
   have:=zgT c a held i k;rw [zcA,qab,qab];split<;>split<;>simp<;>omega
def zr9 (c:DCode) (a held:Int):(zep c a held).length<=2*c.globals.length:=by
 unfold zep;split
 . exact zgT _ _ _ _ _
 simp
def zqG {held:Int}  (h0:Is W0 v0 c) (e0:Ext W0 w) (hc:CodeR c) (ha:0<=a) (ha2:a<c.ins.length) (hh:I64 held) :
   CALL tp 149 [v0,.int .i64 a,.int .i64 held] w λr w'=>Ext w w'/\(Own w.heap.size w' r (zep c a held)):=by
 refine co (g:=kf [(4,33423424,[]),(11,70300024701440,[9])] [(7,9223372034707295744,[9,31])] []) Tryz.func149 ?_;have:=hc.f.ins;have:c.globals.length<=6:=by have h1:=hc.1.1;simp only [qap,qau] at h1;omega
 have σe0:=e0.size;refine za2 zbO rfl h0 e0 λg2 y1 g5 _=>?_;have σ1:=y1.size;refine zaa zaH<|zab zcQ (zao g5) (xrf g2) λ_ gi=>zdo u32 zdw gi oo oo λ_ _ g3=>?_;rw [zaR] at g3;obtain ⟨i,hi⟩:∃ i,i=zap c a.toNat:=⟨_,rfl⟩;rw [<-hi] at g3;refine zab zdw g3 (xrf g2) λ_ gj=>zbN zsM rfl zdw rfl gj (xrf g2) λV y2 Z gl=>?_;have σ2:=y2.size;have:=gl.lt;refine JOIN.mk (λus w'=>us=[]/\Ext V w'/\(i.op=1\/i.op=2)) ?_ ?_
 . refine zaa zbE ?_;refine zad ty3 (zaD Z) (xrf V) λ_=>zaJ<|br (λc1=>?_) (λc1=>?_)
   . refine zaa zbE ?_;refine zad ty3 (zaD Z) (xrf V) λ_=>zaJ<|br (λc2=>?_) (λc2=>?_)
     . refine ⟨(y1.t y2),?_⟩;unfold zep;rw [<-hi,qad oo];exact zk8 rfl
     refine ⟨ss,xrf V,?_⟩;omega
   refine ⟨ss,xrf V,?_⟩;omega
 rintro _ _ ⟨hu,y3,gn⟩;have σ3:=y3.size;try replace hu:=zbv hu
 clear hu;refine zaa zgZ<|zab zcD (zcZ Z) y3 λ_ gp=>?_;refine (zfU gp y3).mono ?_;rintro _ g0 ⟨y4,gq⟩;have σ4:=y4.size;refine zaa zez<|zab zb9 (zbH g5) (y2.t (y3.t y4)) λ_ g4=>?_;have:=zan g4;refine zae u26 g4<|zar (c.globals.length) (λk us w'=>∃ v:vL,us=[v,.int .i64 (k:Int)]/\Ext g0 w'/\(RowI g0.heap.size w'.heap.size 134 w' v (zcA c a held i k))) (0) oo ⟨_,rfl,xrf g0,zbL _ _ _ _⟩ ?_;rintro k m7 _ _ _ ⟨_,hu,y5,M⟩;have σ5:=y5.size;obtain ⟨g9,gb⟩:=zcv hu;clear hu;try rw [g9]
 try rw [gb]
 try clear g9 gb
 have:=zgT c a held i k;refine zah<|br (λc3=>?_) (λc3=>?_)
 . refine zac u26 ty9 g4 oo λ_ _ gr=>?_;refine zaq ty9 gr (y2.t (y3.t (y4.t y5))) λ_=>JOIN.mk (λus w'=>∃ v:vL,us=[v]/\Ext g0 w'/\(RowI g0.heap.size w'.heap.size 134 w' v (zcA c a held i k++(if c.globals.getD k ByteArray.empty∈zbf i.term then [⟨a,k,false,held⟩] else [])))) ?_ ?_
   . have gc:c.globals[k]'(by omega)=c.globals.getD k ByteArray.empty:=by rw [List.getD_eq_getElem?_getD,List.getElem?_eq_getElem oo];rfl
     refine (zcb gq y5).mono ?_;rintro _ g1 ⟨y7,rfl⟩;have σ7:=y7.size;refine br (λc4=>?_) (λc4=>?_)
     . refine zas (cells:=#[.int .i64 a,.int .i64 (k:Int),.bool false,.int .i64 held]) kK ?_;have gd:OwnI g1.heap.size g1.heap.size g1 (.agg #[.int .i64 a,.int .i64 (k:Int),.bool false,.int .i64 held]) (⟨a,k,false,held⟩:DTouch):=zjl (x:=⟨a,k,false,held⟩) (by show I64 a;unfold I64;omega) (by show I64 (k:Int);unfold I64;omega) hh;refine zbs (α:=DTouch) zpH zee zEu zuc dD (M.ext y7) oo (gd.ext (xrf g1)) oo oo (by rw [zak];omega) oo λ_ _ O gs=>?_;have gf:=O.size;have:=(gd.ext (xrf g1)).chg O oo;refine ⟨_,rfl,(Ext.chgI (y5.t y7) O oo),?_⟩;rw [qah (by rw [<-gc];exact c4)];exact gs
     refine ⟨_,rfl,(y5.t y7),?_⟩;rw [qad (by rw [<-gc];exact c4),qaJ];exact (M.ext y7).mono oo oo
   rintro _ D ⟨_,hu,y8,C⟩;have σ8:=y8.size;try replace hu:=zbv hu
   try rw [hu]
   try clear hu
   refine zaa zbE<|zad ty3 (zaD Z) (y3.t (y4.t y8)) λ_=>zag<|br (λc5=>?_) (λc5=>?_)
   . refine zaa zbG ?_;refine zad ty3 (zaF Z) (y3.t (y4.t y8)) λ_=>zag<|br (λc6=>?_) (λc6=>?_)
     . refine zas (cells:=#[.int .i64 a,.int .i64 (k:Int),.bool true,.int .i64 held]) kK ?_;have gg:OwnI D.heap.size D.heap.size D (.agg #[.int .i64 a,.int .i64 (k:Int),.bool true,.int .i64 held]) (⟨a,k,true,held⟩:DTouch):=zjl (x:=⟨a,k,true,held⟩) (by show I64 a;unfold I64;omega) (by show I64 (k:Int);unfold I64;omega) hh;refine zbs (α:=DTouch) zpH zee zEu zuc dD (C.ext (xrf D)) oo (gg.ext (xrf D)) oo oo (by rw [zak,qab];split<;>simp<;>omega) (by rw [qab];split<;>simp<;>omega) λ_ _ U gt=>?_;have gh:=U.size;have:=(gg.ext (xrf D)).chg U oo;refine zaw<|⟨m7-1,oo,k+1,oo,_,rfl,(Ext.chgI y8 U oo),?_⟩;rw [zcA,qah (c:=i.op=1/\i.arg=k) ⟨oo,oo⟩];exact gt
     refine zaw<|⟨m7-1,oo,k+1,oo,_,rfl,y8,?_⟩;rw [zcA,qad (c:=i.op=1/\i.arg=k) (λh=>c6 h.2),qaJ];exact (C.ext (xrf D)).mono oo oo
   refine zaw<|⟨m7-1,oo,k+1,oo,_,rfl,y8,?_⟩;rw [zcA,qad (c:=i.op=1/\i.arg=k) (λh=>c5 h.1),qaJ];exact (C.ext (xrf D)).mono oo oo
 refine ⟨(y1.t (y2.t (y3.t (y4.t y5)))),?_⟩;unfold zep;rw [<-hi,qah gn,<-show k=c.globals.length by omega];exact M.own.own.mono oo
def zzw {held:Int}  (h0:Is W0 v0 c) (e0:Ext W0 w) (hc:CodeR c) (ha:0<=a) (ha2:a<c.ins.length) (hh:I64 held) :
   CALL tp 175 [v0,.int .i64 a,.int .i64 held] w λr w'=>Ext w w'/\(Own w.heap.size w' r (zep c a held)):=by
 refine co (g:=kf [(5,66977856,[]),(11,1125831187366016,[7])] [(7,73786976294301336704,[7,10])] []) Tryz.func175 ?_;have:=hc.f.ins;have:c.globals.length<=6:=by have h1:=hc.1.1;simp only [qap,qau] at h1;omega
 have σe0:=e0.size;refine za2 zbO rfl h0 e0 λ_ y1 g2 _=>?_;have σ1:=y1.size;refine zaI (α:=DTouch) zpH zee λgi _ y2 g3=>?_;have σ2:=y2.size;refine zaa zaH<|zab zcQ (zao g2) y2 λ_ gj=>zdo u32 zdw gj oo oo λ_ _ g4=>?_;rw [zaR] at g4;obtain ⟨i,hi⟩:∃ i,i=zap c a.toNat:=⟨_,rfl⟩;rw [<-hi] at g4;refine zab zdw g4 y2 λ_ gl=>zbN zsM rfl zdw rfl gl y2 λV y3 Z gn=>?_;have σ3:=y3.size;have:=gn.lt;refine JOIN.mk (λus w'=>us=[]/\Ext V w'/\(i.op=1\/i.op=2)) ?_ ?_
 . refine zaa zbE ?_;refine zad ty3 (zaD Z) (xrf V) λ_=>zaJ<|br (λc1=>?_) (λc1=>?_)
   . refine zaa zbE ?_;refine zad ty3 (zaD Z) (xrf V) λ_=>zaJ<|br (λc2=>?_) (λc2=>?_)
     . refine ⟨(y1.t (y2.t y3)),?_⟩;unfold zep;rw [<-hi,qad oo];exact (g3.ext y3).own.own.mono oo
     refine ⟨ss,xrf V,?_⟩;omega
   refine ⟨ss,xrf V,?_⟩;omega
 rintro _ _ ⟨hu,y4,gp⟩;have σ4:=y4.size;try replace hu:=zbv hu
 clear hu;refine zaa zgZ<|zab zcD (zcZ Z) y4 λ_ gq=>?_;refine (zfV gq y4).mono ?_;rintro _ g0 ⟨y5,gr⟩;have σ5:=y5.size;refine zar (c.globals.length) (λk us w'=>∃ v:vL,us=[v,.int .i64 (k:Int)]/\Ext g0 w'/\(RowI g0.heap.size w'.heap.size 134 w' v (zcA c a held i k))) (0) oo ⟨_,rfl,xrf g0,zcg _ _ _ _ _⟩ ?_;rintro k m7 _ _ _ ⟨_,hu,y6,U⟩;have σ6:=y6.size;obtain ⟨g9,gb⟩:=zcv hu;clear hu;try rw [g9]
 try rw [gb]
 try clear g9 gb
 have:=zgT c a held i k;refine zaa zez<|zab zb9 (zbH g2) (y2.t (y3.t (y4.t (y5.t y6)))) λ_ gc=>?_;have:=zan gc;refine zae u26 gc<|zah<|br (λc3=>?_) (λc3=>?_)
 . refine JOIN.mk (λus w'=>∃ v:vL,us=[v]/\Ext g0 w'/\(RowI g0.heap.size w'.heap.size 134 w' v (zcA c a held i k++(if c.globals.getD k ByteArray.empty∈zbf i.term then [⟨a,k,false,held⟩] else [])))) ?_ ?_
   . refine zaa zez ?_;refine zab zb9 (zbH g2) (y2.t (y3.t (y4.t (y5.t y6)))) λ_ gs=>zac u26 ty9 gs oo λ_ _ gt=>zaq ty9 gt (y2.t (y3.t (y4.t (y5.t y6)))) λ_=>?_;have gd:c.globals[k]'(by omega)=c.globals.getD k ByteArray.empty:=by rw [List.getD_eq_getElem?_getD,List.getElem?_eq_getElem oo];rfl
     refine (ziV gr y6).mono ?_;rintro _ g1 ⟨y8,rfl⟩;have σ8:=y8.size;refine br (λc4=>?_) (λc4=>?_)
     . refine zas (cells:=#[.int .i64 a,.int .i64 (k:Int),.bool false,.int .i64 held]) kK ?_;have gf:OwnI g1.heap.size g1.heap.size g1 (.agg #[.int .i64 a,.int .i64 (k:Int),.bool false,.int .i64 held]) (⟨a,k,false,held⟩:DTouch):=zjl (x:=⟨a,k,false,held⟩) (by show I64 a;unfold I64;omega) (by show I64 (k:Int);unfold I64;omega) hh;refine zbs (α:=DTouch) zpH zee zEu zuc dD (U.ext y8) oo (gf.ext (xrf g1)) oo oo (by rw [zak];omega) oo λ_ _ M gx=>?_;have gg:=M.size;have:=(g3.ext (y3.t (y4.t (y5.t (y6.t y8))))).chg M oo;have:=(gf.ext (xrf g1)).chg M oo;refine ⟨_,rfl,(Ext.chgI (y6.t y8) M oo),?_⟩;rw [qah (by rw [<-gd];exact c4)];exact gx
     refine ⟨_,rfl,(y6.t y8),?_⟩;rw [qad (by rw [<-gd];exact c4),qaJ];exact (U.ext y8).mono oo oo
   rintro _ O ⟨gi,hu,y9,D⟩;have σ9:=y9.size;try replace hu:=zbv hu
   try rw [hu]
   try clear hu
   refine zaa zbE<|zad ty3 (zaD Z) (y4.t (y5.t y9)) λ_=>zag<|br (λc5=>?_) (λc5=>?_)
   . refine zaa zbG ?_;refine zad ty3 (zaF Z) (y4.t (y5.t y9)) λ_=>zag<|br (λc6=>?_) (λc6=>?_)
     . refine zas (cells:=#[.int .i64 a,.int .i64 (k:Int),.bool true,.int .i64 held]) kK ?_;have gh:OwnI O.heap.size O.heap.size O (.agg #[.int .i64 a,.int .i64 (k:Int),.bool true,.int .i64 held]) (⟨a,k,true,held⟩:DTouch):=zjl (x:=⟨a,k,true,held⟩) (by show I64 a;unfold I64;omega) (by show I64 (k:Int);unfold I64;omega) hh;refine zbs (α:=DTouch) zpH zee zEu zuc dD (D.ext (xrf O)) oo (gh.ext (xrf O)) oo oo (by rw [zak,qab];split<;>simp<;>omega) (by rw [qab];split<;>simp<;>omega) λ_ _ C gy=>?_;have g5:=C.size;have:=(g3.ext (y3.t (y4.t (y5.t y9)))).chg C oo;have:=(gh.ext (xrf O)).chg C oo;refine zaw<|⟨m7-1,oo,k+1,oo,_,rfl,(Ext.chgI y9 C oo),?_⟩;rw [zcA,qah (c:=i.op=1/\i.arg=k) ⟨oo,oo⟩];exact gy
     refine zaw<|⟨m7-1,oo,k+1,oo,_,rfl,y9,?_⟩;rw [zcA,qad (c:=i.op=1/\i.arg=k) (λh=>c6 h.2),qaJ];exact (D.ext (xrf O)).mono oo oo
   refine zaw<|⟨m7-1,oo,k+1,oo,_,rfl,y9,?_⟩;rw [zcA,qad (c:=i.op=1/\i.arg=k) (λh=>c5 h.1),qaJ];exact (D.ext (xrf O)).mono oo oo
 refine ⟨(y1.t (y2.t (y3.t (y4.t (y5.t y6))))),?_⟩;unfold zep;rw [<-hi,qah gp,<-show k=c.globals.length by omega];exact U.own.own.mono oo
def ztL {n:Int}    :
   CALL tp 152 [.int .i64 n] w λr w'=>Ext w w'/\(r=.bool (decide (0<=n/\n<=63))):=by
 refine co (g:=kf [] [] []) Tryz.func152 ?_;refine zcH<|br (λc1=>?_) (λc1=>?_)
 . refine zdJ ?_;refine ⟨xrf w,?_⟩;simp [c1]
 refine ⟨xrf w,?_⟩;simp [c1]
def zfn (a b:DTouch):Prop:=a.global=b.global/\(a.write=true\/b.write=true)/\(0<=a.held/\a.held<=63)/\(0<=b.held/\b.held<=63)/\a.held.toNat &&& b.held.toNat=0
instance (a b:DTouch):Decidable (zfn a b):=by unfold zfn;infer_instance
def zzx {a:DTouch} {b:DTouch}  (h0:Is W0 v0 a) (e0:Ext W0 w) (h1:Is W1 v1 b) (e1:Ext W1 w)  :
   CALL tp 80 [v0,v1] w λr w'=>Ext w w'/\(r=.bool (decide (zfn a b))):=by
 refine co (g:=kf [(3,1048560,[])] [] []) Tryz.func80 ?_;refine za2 zee rfl h0 e0 λ_ y1 g0 _=>za2 zee rfl h1 (e1.trans y1) λC y2 g1 _=>JOIN.mk (λus w'=>us=[]/\Ext C w'/\(a.global=b.global/\(a.write=true\/b.write=true))) ?_ ?_
 . refine zaa zjz ?_;refine zad ty3 (zeh g0) y2 λ_=>zaa zjz<|zad ty3 (zeh g1) (xrf C) λ_=>zaJ<|br (λc1=>?_) (λc1=>?_)
   . refine ⟨(y1.t y2),?_⟩;have:¬zfn a b:=λh=>c1 h.1;simp only [this,qak]
   refine zaa zog<|zaC ty4 (zgD g0) y2<|zau<|zub (λc2=>?_) (λc2=>?_)
   . refine zaa zog ?_;refine zaC ty4 (zgD g1) (xrf C)<|zau<|zaN (λc3=>?_) (λc3=>?_)
     . refine ⟨(y1.t y2),?_⟩;have:¬zfn a b:=λh=>by rcases h.2.1 with h | h<;>simp_all
       simp only [this,qak]
     refine ⟨ss,xrf C,?_⟩;exact ⟨oo,.inr (by simpa using c3)⟩
   refine ⟨ss,xrf C,?_⟩;exact ⟨oo,.inl (by simpa using c2)⟩
 rintro _ _ ⟨hu,y3,g2,g3⟩;try replace hu:=zbv hu
 clear hu;refine zaa zjA<|zad ty3 (zei g0) (y2.t y3) λ_=>?_;refine (ztL ).mono ?_;rintro _ _ ⟨y4,rfl⟩;refine br (λc4=>?_) (λc4=>?_)
 . refine zaa zjA ?_;refine zad ty3 (zei g1) (y3.t y4) λ_=>?_;refine (ztL ).mono ?_;rintro _ _ ⟨y5,rfl⟩;refine br (λc5=>?_) (λc5=>?_)
   . refine zaa zjA ?_;refine zad ty3 (zei g0) (y2.t (y3.t (y4.t y5))) λ_=>zaa zjA<|zad ty3 (zei g1) (y3.t (y4.t y5)) λ_=>?_;obtain ⟨m,hm⟩:=qb0 c4.1;obtain ⟨n,hn⟩:=qb0 c5.1;rw [hm,hn];refine zeS oo oo<|zag<|⟨(y1.t (y2.t (y3.t (y4.t y5)))),?_⟩
     have:zfn a b↔m &&& n=0:=by
       have e1:a.held.toNat=m:=oo;have e2:b.held.toNat=n:=oo;unfold zfn;rw [e1,e2];exact ⟨λh=>h.2.2.2.2,λh=>⟨g2,g3,c4,c5,h⟩⟩
     congr 1;rw [decide_eq_decide,this];omega
   refine ⟨(y1.t (y2.t (y3.t (y4.t y5)))),?_⟩;have:¬zfn a b:=λh=>c5 h.2.2.2.1;simp only [this,qak]
 refine ⟨(y1.t (y2.t (y3.t y4))),?_⟩;have:¬zfn a b:=λh=>c4 h.2.2.1;simp only [this,qak]
def zg3 (a b:DTouch):DRace:=⟨a.global,min a.at_ b.at_,max a.at_ b.at_⟩
def zxV {a b:DTouch} (h0:Is W0 v0 a) (e0:Ext W0 w) (h1:Is W1 v1 b) (e1:Ext W1 w) :
   CALL tp 82 [v0,v1] w λr w'=>Ext w w'/\∀ lo hi,OwnI lo hi w' r (zg3 a b):=by
 refine co (g:=kf [] [] []) Tryz.func82 ?_;refine zbk h0 e0 λ_ g1 hA=>zbk h1 (e1.trans g1) λ_ g2 hB=>zck (α:=DRace) zED λw3 g0 hv=>?_;have:=g1.size;have:=g2.size;have:=g0.size;have C:=g2.t g0;refine zaa zjz<|zad ty3 (zeh hA) C λg4=>zaa zfR<|zad ty3 (zcw hA) C λ_=>zaa zfR<|zad ty3 (zcw hB) g0 λ_=>zDE<|zaa zfR<|zad ty3 (zcw hA) C λ_=>zaa zfR<|zad ty3 (zcw hB) g0 λ_=>zDD ?_;have hm:∀ (w:wD) lo hi,OwnI lo hi w (.agg #[.int .i64 a.global,.int .i64 (min a.at_ b.at_),.int .i64 (max a.at_ b.at_)]) (zg3 a b):=λw lo hi=>⟨[],zv5 (x:=zg3 a b) g4 (by unfold I64 zg3 at *;simp only;omega) (by unfold I64 zg3 at *;simp only;omega),ss⟩;refine zas (cells:=#[.int .i64 a.global,.int .i64 (min a.at_ b.at_),.int .i64 (max a.at_ b.at_)]) kK ?_;have:=hv.lt;refine zb0 (lo:=w3.heap.size) (hi:=w3.heap.size) zfY hv (hm w3 _ _) oo λ_ g3 g5=>?_;have:=g3.size;refine zhA zfY g5 (xrf _) λr hr=>⟨Ext.chgI (g1.t C) g3 oo,λlo hi=>?_⟩;obtain ⟨_,hM,_⟩:=hr;obtain ⟨_,h,_⟩:=hM.own;have hF:=Flat.flat h;subst hF;exact ⟨[],hM,ss⟩
instance (x y:DRace):Decidable (ltR x y):=by unfold ltR;infer_instance
def zsa {y:DRace}  (h0:Is W0 v0 x) (e0:Ext W0 w) (h1:Is W1 v1 y) (e1:Ext W1 w)  :
   CALL tp 179 [v0,v1] w λr w'=>Ext w w'/\(r=.bool (decide (ltR x y))):=by
 refine co (g:=kf [] [] []) Tryz.func179 ?_;refine za2 zfY rfl h0 e0 λ_ y1 C _=>za2 zfY rfl h1 (e1.trans y1) λD y2 M _=>zaa ziK<|zad ty3 (zeg C) y2 λ_=>zaa ziK<|zad ty3 (zeg M) (xrf D) λ_=>zaJ<|br (λc1=>?_) (λc1=>?_)
 . refine zaa ziK ?_;refine zad ty3 (zeg C) y2 λ_=>zaa ziK<|zad ty3 (zeg M) (xrf D) λ_=>zah<|⟨(y1.t y2),?_⟩;congr 1;rw [decide_eq_decide];unfold ltR;omega
 refine zaa zkf<|zad ty3 (ze4 C) y2 λ_=>zaa zkf<|zad ty3 (ze4 M) (xrf D) λ_=>zaJ<|br (λc2=>?_) (λc2=>?_)
 . refine zaa zkf ?_;refine zad ty3 (ze4 C) y2 λ_=>zaa zkf<|zad ty3 (ze4 M) (xrf D) λ_=>zah<|⟨(y1.t y2),?_⟩;congr 1;rw [decide_eq_decide];unfold ltR;omega
 refine zaa znb<|zad ty3 (zhB C) y2 λ_=>zaa znb<|zad ty3 (zhB M) (xrf D) λ_=>zah<|⟨(y1.t y2),?_⟩;congr 1;rw [decide_eq_decide];unfold ltR;omega
def zhU (x:DRace):¬ltR x x:=by unfold ltR;omega
def zjm {x y z:DRace} (h:ltR x y) (k:ltR y z):ltR x z:=by unfold ltR at *;omega
def zmp {x y:DRace} (h:¬ltR x y) (k:¬ltR y x):x=y:=by
 unfold ltR at *;exact DRace.ext_iff.2 ⟨oo,oo,oo⟩
def znH (r:DRace):List DRace->List DRace
 | []=>[r]
 | x :: l=>if ltR x r then x :: znH r l else if x=r then x :: l else r :: x :: l
def ahd (r:DRace):List DRace->Nat
 | []=>0
 | x :: l=>if ltR x r then ahd r l+1 else 0
theorem ztM (r:DRace):∀ l,znH r l=if h:ahd r l<l.length then (if l[ahd r l]=r then l else l.take (ahd r l)++(r :: l.drop (ahd r l))) else l++[r]
 | []=>rfl
 | x :: l=>by
   rw [znH];by_cases h:ltR x r
   . have e:ahd r (x :: l)=ahd r l+1:=by rw [ahd,qah h]
     rw [qah h,ztM r l];by_cases h2:ahd r l<l.length
     . rw [dif_pos h2,dif_pos (by rw [e];simpa using h2)];have e2:(x :: l)[ahd r (x :: l)]'(by rw [e];simpa using h2)=l[ahd r l]:=by simp [e]
       rw [e2];split
       . rfl
       simp [e]
     rw [dif_neg h2,dif_neg (by rw [e];simpa using h2)];rfl
   have e:ahd r (x :: l)=0:=by rw [ahd,qad h]
   rw [qad h,dif_pos (by rw [e];simp)];have e2:(x :: l)[ahd r (x :: l)]'(by rw [e];simp)=x:=by simp [e]
   rw [e2];split
   . rfl
   simp [e]
theorem zxW {r:DRace}:∀ {l:List DRace} {k:Nat} (hk:k<=l.length),(∀ j (h:j<k),ltR (l[j]'(by omega)) r)->(∀ h:k<l.length,¬ltR l[k] r)->ahd r l=k
 | [],0,_,_,_=>rfl
 | x :: l,0,_,_,h=>by
   have h':¬ltR x r:=h ss;rw [ahd,qad h']
 | x :: l,k+1,hk,h1,h2=>by
   have e:ltR x r:=h1 0 oo;rw [ahd,qah e,zxW (k:=k) (by simpa using hk) (λj hj=>h1 (j+1) oo) λh=>h2 (by simpa using h)]
theorem zpg {r x:DRace}:∀ {l:List DRace},x∈znH r l↔x=r\/x∈l
 | []=>by simp [znH]
 | y :: l=>by
   rw [znH];split
   . rw [qaa,zpg,qaa];exact ⟨λh=>by rcases h with h | h | h<;>simp [h],λh=>by rcases h with h | h | h<;>simp [h]⟩
   split
   . rename_i h;subst h;simp
   simp
theorem zmq {r:DRace}:∀ {l:List DRace},l.Pairwise ltR->(znH r l).Pairwise ltR
 | [],_=>by simp [znH]
 | y :: l,h=>by
   rw [qaW] at h;rw [znH];split
   . rename_i hy;refine qaW.2 ⟨λz hz=>?_,zmq h.2⟩;rcases zpg.1 hz with rfl | hz
     . exact hy
     exact h.1 z hz
   rename_i hy;split
   . exact qaW.2 h
   rename_i hne;have hry:ltR r y:=qbe λhc=>hne (zmp hy hc);refine qaW.2 ⟨λz hz=>?_,qaW.2 h⟩;rcases qaa.1 hz with rfl | hz
   . exact hry
   exact zjm hry (h.1 z hz)
theorem znI:∀ {l m:List DRace},l.Pairwise ltR->m.Pairwise ltR->(∀ x,x∈l↔x∈m)->l=m
 | [],[],_,_,_=>rfl
 | [],y :: m,_,_,h=>by have:=(h y).2 ss;cases this
 | x :: l,[],_,_,h=>by have:=(h x).1 ss;cases this
 | x :: l,y :: m,h1,h2,h=>by
   rw [qaW] at h1 h2
   have hxy:x=y:=by
     rcases qaa.1 ((h x).1 ss) with e | hm
     . exact e
     rcases qaa.1 ((h y).2 ss) with e | hl
     . exact e.symm
     exact absurd (zjm (h1.1 y hl) (h2.1 x hm)) (zhU x)
   subst hxy;congr 1;refine znI h1.2 h2.2 λz=>⟨λhz=>?_,λhz=>?_⟩
   . rcases qaa.1 ((h z).1 (by simp [hz])) with rfl | h'
     . exact absurd (h1.1 z hz) (zhU z)
     exact h'
   rcases qaa.1 ((h z).2 (by simp [hz])) with rfl | h'
   . exact absurd (h2.1 z hz) (zhU z)
   exact h'
open Go.Sort
variable {U:List Nat} {W0 w:wD} {b hi i k lo m n p r:Nat} {c:DCode} {v v0:vL} {x:DRace} {y:Int}
instance:Inhabited DRace:=⟨⟨0,0,0⟩⟩
def zC2 (x:DRace):List vL:=[.int .i64 x.g,.int .i64 x.a,.int .i64 x.b]
def zzy:∀ {F:List Nat} {w:wD} {cs:List vL} {x:DRace},Rep.rep F w cs x->cs=zC2 x:=by
 intro F w cs x h;obtain ⟨_,_,_,_,rfl,rfl,⟨rfl,rfl,_⟩,⟨_,_,_,_,rfl,rfl,⟨rfl,rfl,_⟩,⟨rfl,rfl,_⟩⟩⟩:=h;rfl
def zfo {x y:DRace}:ltOf zy9 x y=decide (ltR x y):=by
 unfold ltOf;rw [decide_eq_decide];exact zCd
def zCA:SWO (ltOf zy9):=by
 refine ⟨λx=>?_,λx y z h k=>?_,λx y z h k=>?_⟩
 . rw [zfo,decide_eq_false_iff_not];exact zhU x
 . rw [zfo,qau] at *;exact zjm h k
 rw [zfo,decide_eq_false_iff_not] at *;intro _;unfold ltR at *;omega
def srt (l:List DRace):List DRace:=l.mergeSort λx y=>!(ltOf zy9) y x
def ztN (l:List DRace):(srt l).Perm l:=qcE l _
def zxX (l:List DRace):(srt l).length=l.length:=(ztN l).length_eq
def zEh (l:List DRace):(srt l).Pairwise λx y=>¬ltR y x:=by
 have:=qcq (le:=λx y=>!(ltOf zy9) y x) (λa b _ _ _=>by
   simp only [zfo,qaT,decide_eq_false_iff_not] at *;unfold ltR at *;omega) (λa b=>by
   simp only [zfo,qaQ,qaT,decide_eq_false_iff_not];unfold ltR;omega) l
 exact this.imp λh=>by simpa [zfo] using h
def zzz {l:List DRace} (h:OwnI lo hi w v l) (hn:l.length<=1073741824) :
   CALL tp 154 [v,.func (.func 155) #[] #[]] w λ_ w'=>ChgI lo hi w w'/\OwnI lo hi w' v (srt l):=by
 obtain ⟨F,hM,hF⟩:=h;by_cases hne:l=[]
 . subst hne
   obtain ⟨a,cap,hv⟩:∃ a cap,v=.slice a 0 cap:=by
     obtain ⟨_,⟨a,cap,_,xs,h,_⟩,hv⟩:=hM.own;exact ⟨a,cap,by rw [hv,h];rfl⟩
   subst hv;refine ⟨(AnyF.slices_SortFunc_none Tryz.sortRace a cap _ w).mono ?_⟩;rintro e w' ⟨he,rfl⟩;refine ⟨_,he,ChgI.refl _,F,?_,hF⟩;have:srt []=[]:=qaj (by rw [zxX];rfl);rw [this];exact hM
 obtain ⟨b,o,cap,xs,rfl,rfl,h1,h2,g4,g5,g9⟩:=ze6 hM hne;have g0:=@zzy;have hk:∀ x,(zC2 x).length=Rep.size DRace:=λ_=>rfl;obtain ⟨c,e,g1⟩:=g9;have hb:b<w.heap.size:=(Array.getElem?_eq_some_iff.1 g1).1
 have g2:CmpLays tp 155 #[] zC2 3 zy9 b o l.toArray.size w:=λm os dk _ x y=>by
   have:=zlT (w:=sortWorldK zC2 3 w b o m dk os) (x:=x) (y:=y);obtain ⟨h⟩:=this;refine h.mono ?_;rintro e w' ⟨v,he,hv,q,gb,g3⟩;exact ⟨by rw [he,hv],q,gb,g3⟩
 refine ⟨(AnyQ.slices_SortFunc_total Tryz.sortRace 3 Tryz.isAgg46 Tryz.sizeOf46 zC2 (λ_=>rfl) (λx v hv=>by
     simp only [zC2,qaa,qag,qaz] at hv;rcases hv with rfl | rfl | rfl<;>rfl) zy9 zCA 155 #[] b o cap l.toArray w (zex (ent 155 dD kK)) g2 (zlP g0 hk ⟨c,e,g1⟩ g4 g5) hb so (λx y h k=>by
     rw [zfo,decide_eq_false_iff_not] at *;exact zmp h k)).mono ?_⟩
 rintro _ w' ⟨he,_,os,g3⟩;have hs:=zlQ g0 hk (cap:=cap) g3 ⟨c,e,g1⟩ g4 g5 h1 h2 ss (λx hx=>by simpa [List.mem_mergeSort] using hx);refine ⟨_,he,?_,[b],?_,hF⟩
 . exact hs.1.toI (λi hi=>hF i hi)
 exact hs.2
def zjn {α:Type} [Rep α] [Flat α] {w:wD} {lo hi:Nat} {v:vL} {x:α} (h:Is w v x):OwnI lo hi w v x:=by
 obtain ⟨_,cs,hr,hv⟩:=h;have hF:=Flat.flat hr;subst hF;exact ⟨[],⟨⟨cs,hr,hv⟩,qas,Wr.nil w⟩,ss⟩
theorem zsb {z:DRace}:∀ {l:List DRace} {x:DRace},z∈x :: ddg x l↔z∈x :: l
 | [],x=>Iff.rfl
 | y :: l,x=>by
   rw [ddg];split
   . rename_i h;subst h;rw [zsb (l:=l)];simp
   rw [qaa,zsb (l:=l),qaa (a:=z) (b:=x)]
theorem zxY:∀ {l:List DRace} {x:DRace},(x :: l).Pairwise (λa b=>¬ltR b a)->(x :: ddg x l).Pairwise ltR
 | [],x,_=>by simp [ddg]
 | y :: l,x,h=>by
   rw [ddg];rw [qaW] at h;have hy:=h.2;rw [qaW] at hy;split
   . rename_i e;subst e;exact zxY h.2
   rename_i hne;have ih:=zxY h.2;have hxy:ltR x y:=qbe λhc=>hne (zmp (h.1 y ss) hc);refine qaW.2 ⟨λz hz=>?_,ih⟩;rcases qaa.1 hz with rfl | hz
   . exact hxy
   exact zjm hxy ((qaW.1 ih).1 z hz)
theorem zCB {l:List DRace} {z:DRace}:z∈ddp l↔z∈l:=by
 cases l with
 | nil=>exact Iff.rfl
 | cons x l=>exact zsb
theorem zEi {l:List DRace} (h:l.Pairwise (λa b=>¬ltR b a)):(ddp l).Pairwise ltR:=by
 cases l with
 | nil=>exact List.Pairwise.nil
 | cons x l=>exact zxY h
def zht (l:List DRace):List DRace:=l.foldl (λacc r=>znH r acc) []
def zuI (l:List DRace) (r:DRace):zht (l++[r])=znH r (zht l):=by simp [zht]
theorem znJ {x:DRace}:∀ {l acc:List DRace},x∈l.foldl (λacc r=>znH r acc) acc↔x∈acc\/x∈l
 | [],acc=>by simp
 | y :: l,acc=>by
   rw [qbQ,znJ,zpg,qaa];constructor
   . rintro ((h | h) | h)<;>simp [h]
   rintro (h | h | h)<;>simp [h]
def zqH {l:List DRace}:x∈zht l↔x∈l:=by unfold zht;rw [znJ];simp
theorem zqI:∀ {l acc:List DRace},acc.Pairwise ltR->(l.foldl (λacc r=>znH r acc) acc).Pairwise ltR
 | [],acc,h=>h
 | y :: l,acc,h=>by
   rw [qbQ];exact zqI (zmq h)
def zzA (l:List DRace):(zht l).Pairwise ltR:=zqI List.Pairwise.nil
theorem ztO (r:DRace):∀ l:List DRace,(znH r l).length<=l.length+1
 | []=>by simp [znH]
 | x :: l=>by
   have:=ztO r l;rw [znH];split
   . simpa using this
   split<;>simp
theorem znK:∀ (l acc:List DRace),(l.foldl (λacc r=>znH r acc) acc).length<=acc.length+l.length
 | [],acc=>by simp
 | y :: l,acc=>by
   have h1:=znK l (znH y acc);have h2:=ztO y acc;rw [qbQ,qam];omega
def zqJ (l:List DRace):(zht l).length<=l.length:=by have:=znK l [];simpa [zht] using this
def zCC (l:List DRace):ddp (srt l)=zht l:=znI (zEi (zEh l)) (zzA l) λx=>by rw [zCB,zqH,(ztN l).mem_iff]
def zfP {α β:Type} {f:α->List β} {l:List α} (h:k<l.length):(l.take (k+1)).flatMap f=(l.take k).flatMap f++f l[k]:=by
 rw [tk h,qaO];simp
def zhV {β:Type} {f:Nat->List β} (n:Nat):(List.range (n+1)).flatMap f=(List.range n).flatMap f++f n:=by
 rw [qbC,qaO];simp
theorem znL {c:DCode} {a held:Int} {i:DIns} {x:DTouch}:∀ {k:Nat},x∈zcA c a held i k->x.at_=a/\x.held=held
 | 0,h=>by simp [zcA] at h
 | k+1,h=>by
   rw [zcA,qae,qae] at h;rcases h with (h | h) | h
   . exact znL h
   . split at h
     . simp only [qaa,qag,qaz] at h;subst h;exact ⟨rfl,rfl⟩
     simp at h
   split at h
   . simp only [qaa,qag,qaz] at h;subst h;exact ⟨rfl,rfl⟩
   simp at h
def zgr {a held:Int} {x:DTouch} (h:x∈zep c a held):x.at_=a/\x.held=held:=by
 unfold zep at h;split at h
 . exact znL h
 simp at h
def StP (c:DCode) (r p i:Nat):Prop:=zaL c p i/\(zap c i).op=5/\agN c i=r
noncomputable def zfp (c:DCode) (r:Nat):List Nat:=(zbb c.procs.length (UsedP c)).flatMap λp=>zbb c.ins.length (StP c r p)
theorem zsc {p q:Nat->Prop} {f:Nat->Bool} (h:∀ i,i<n->(f i=true↔q i)):(zbb n p).filter f=zbb n λi=>p i/\q i:=by
 induction n with
 | zero=>rfl
 | succ n ih=>
   have ih:=ih λi _=>h i oo;by_cases hp:p n
   . rw [zdf hp,qbm,ih];by_cases hq:q n
     . rw [zdf ⟨hp,hq⟩];simp [(h n oo).2 hq]
     rw [zdz λe=>hq e.2]
     have:f n=false:=by
       cases e:f n
       . rfl
       exact absurd ((h n oo).1 e) hq
     simp [this]
   rw [zdz hp,zdz λe=>hp e.1,ih]
theorem zhW {α β:Type} {f:α->List β} {B:Nat}:∀ {l:List α},(∀ a∈l,(f a).length<=B)->(l.flatMap f).length<=l.length*B
 | [],_=>by simp
 | a :: l,h=>by
   have h1:=h a ss;have h2:=zhW (l:=l) λb hb=>h b (by simp [hb]);simp only [qbG,qab,qam,qbu];omega
def znM (hc:CodeR c) {r i:Nat} (h:i∈zfp c r):i<c.ins.length:=by
 unfold zfp at h;obtain ⟨_,_,h⟩:=qaV.1 h;exact (zaO.1 h).1
def znN (hW:WAt W0 b c) (e0:Ext W0 w) (hc:CodeR c) :
   CALL tp 265 [.pointer (some ⟨b,0,none⟩),.int .i64 (zeL c:Nat),.int .i64 5,.int .i64 (r:Int)] w λv w'=>Ext w w'/\Own w.heap.size w' v (zaK (zfp c r)):=by
 refine co (g:=kf [] [(3,576460752303303168,[9,17]),(6,288230376118166016,[9,25])] []) Tryz.func265 ?_;have h8:=hc.1.procs8;have gx:=hc.f.ins;have gi:zeL c<256:=zbn h8.1;refine (zd2 (m:=zeL c) oo).mono ?_;rintro _ w1 ⟨g0,g1⟩;unfold zeL at g1;rw [zeo oo] at g1;have gy:∀ p∈zbb c.procs.length (UsedP c),p<c.procs.length:=λp hp=>(zaO.1 hp).1;have hul:=zbe (n:=c.procs.length) (p:=UsedP c);unfold zfp;generalize zbb c.procs.length (UsedP c)=U at *;refine zae u31 g1.is ?_;rw [zaf]
 have gz:∀ k,((U.take k).flatMap λp=>zbb c.ins.length (StP c r p)).length<=20000:=λk=>by
   have:=zhW (l:=U.take k) (f:=λp=>zbb c.ins.length (StP c r p)) (B:=1500) λ_ _=>qal zbe gx;have h2:=qcg k U;have:(U.take k).length*1500<=8*1500:=qa6 _ oo;omega
 refine zar U.length (λk us w'=>∃ out,us=[out,.int .i64 (k:Int)]/\k<=U.length/\Ext w1 w'/\RowI w1.heap.size w'.heap.size 3 w' out (zaK ((U.take k).flatMap λp=>zbb c.ins.length (StP c r p)))) 0 (z0 _) ⟨_,rfl,z0 _,xrf _,zbL _ _ _ _⟩ ?_;rintro k mk _ w2 _ ⟨out,hu,_,O,g4⟩;obtain ⟨gA,gB⟩:=zcv hu;rw [gA,gB];refine zah<|br (λ_=>?_) (λ_=>?_)
 case refine_2=>
   have gC:k=U.length:=oo;rw [gC,qaM] at g4;exact ⟨g0.t O,g4.own.own.mono (by have:=g0.size;omega)⟩
 have hk:k<U.length:=oo;have hp:=gy U[k] (qac _);have gj:=zfP (f:=λp=>zbb c.ins.length (StP c r p)) hk;refine zac u31 ty3 (i:=k) g1.is (by rw [zaf];exact hk) λ_ _ gl=>?_;rw [zaY] at gl;generalize U[k]=p at *;refine zad ty3 gl O λ_=>?_;refine (zhp hW.wl (e0.t (g0.t O)) hc hp).mono ?_;rintro gD _ ⟨g5,gn⟩;have g9:∀ i∈zbb c.ins.length (zaL c p),i<c.ins.length:=λi hi=>(zaO.1 hi).1;have gE:(zbb c.ins.length (zaL c p)).filter (λi=>decide ((zap c i).op=5/\agN c i=r))=zbb c.ins.length (StP c r p):=zsc λi hi=>by rw [qau]
 have hLl:=zbe (n:=c.ins.length) (p:=zaL c p);rw [<-gE] at gj;have hfk:=gz k;generalize zbb c.ins.length (zaL c p)=L at *;generalize (U.take k).flatMap (λp=>zbb c.ins.length (StP c r p))=Op at *;refine zae u31 gn.is ?_;rw [zaf];have gF:=g5.size;have hs2:=O.size;obtain ⟨F3,gG,gH⟩:=gn;refine zar L.length (λj us w'=>∃ out lo hi,us=[out,.int .i64 (j:Int)]/\j<=L.length/\Ext w1 w'/\Mine F3 w' gD (zaK L)/\w1.heap.size<=lo/\hi<=w'.heap.size/\RowI lo hi 3 w' out (zaK (Op++(L.take j).filter (λi=>decide ((zap c i).op=5/\agN c i=r))))/\∀ b∈F3,b<lo\/hi<=b) 0 (z0 _) ⟨out,w1.heap.size,w2.heap.size,rfl,z0 _,O.t g5,gG,lr _,gF,by simpa using g4.ext g5,λb hb=>.inr (gH b hb)⟩ ?_;rintro j mj _ _ _ ⟨C,lo,hi,gI,_,D,M,g2,gb,V,hd⟩;obtain ⟨gc,gd⟩:=zcv gI;rw [gc,gd];refine zah<|br (λ_=>?_) (λ_=>?_)
 case refine_2=>refine zaw<|⟨mk-1,oo,k+1,oo,C,rfl,oo,D,?_⟩;rw [qai oo] at V;rw [gj];exact V.mono g2 gb
 have hj:j<L.length:=oo;have gf:=g9 L[j] (qac _);have gp:L.take (j+1)=L.take j++[L[j]]:=tk hj;refine zac u31 ty3 (i:=j) M.is (by rw [zaf];exact hj) λ_ _ gq=>?_;rw [zaY] at gq
 have gJ:(Op++(L.take j).filter (λi=>decide ((zap c i).op=5/\agN c i=r))).length<=100000:=by
   have:=qbI (λi=>decide ((zap c i).op=5/\agN c i=r)) (L.take j);have h2:=qcg j L;rw [qab];omega
 generalize L[j]=i at *;refine zad ty3 gq (xrf _) λ_=>?_;have g3:=e0.t (g0.t D)
 have gr:¬((zap c i).op=5/\agN c i=r)->(L.take (j+1)).filter (λi=>decide ((zap c i).op=5/\agN c i=r))=(L.take j).filter (λi=>decide ((zap c i).op=5/\agN c i=r)):=λh=>by
   rw [gp,qbm];simp [h]
 have gg:((zap c i).op=5/\agN c i=r)->(L.take (j+1)).filter (λi=>decide ((zap c i).op=5/\agN c i=r))=(L.take j).filter (λi=>decide ((zap c i).op=5/\agN c i=r))++[i]:=λh=>by
   rw [gp,qbm];simp [h]
 refine NIL.mk rfl<|zaa zbc<|zaa zaH<|zab zcQ (zao hW.wl.code) g3 λ_ gK=>zac u32 zdw (i:=i) gK gf λ_ _ gs=>?_;rw [zaR] at gs;refine zaa zbE<|zad ty3 (zaD gs) g3 λ_=>zag<|br (λh5=>?_) (λh5=>?_)
 case refine_2=>refine zaw<|⟨mj-1,oo,j+1,oo,C,lo,hi,rfl,oo,D,M,g2,gb,by rw [gr λh=>h5 h.1];exact V,hd⟩
 obtain ⟨gL,_⟩:=zcl hc gf (.inr h5);refine NIL.mk rfl<|zaa zbc<|zaa zaH<|zab zcQ (zao hW.wl.code) g3 λ_ gM=>zac u32 zdw (i:=i) gM gf λ_ _ gt=>?_;rw [zaR] at gt;refine zaa zbG<|zad ty3 (zaF gt) g3 λ_=>zag<|br (λha=>?_) (λha=>?_)
 case refine_2=>refine zaw<|⟨mj-1,oo,j+1,oo,C,lo,hi,rfl,oo,D,M,g2,gb,by rw [gr λh=>ha (by rw [gL,h.2])];exact V,hd⟩
 refine zdX (x:=(i:Int)) u31 ty3 z3 zc3 dD V (lo2:=0) (hi2:=0) (zc2 _ _ io) (by rw [zak,zaf];omega) (by rw [zaf];omega) λv' w' gN hi2 gh gO _=>?_;have hs7:=gh.size;have hs6:=D.size;refine zaw<|⟨mj-1,oo,j+1,oo,v',gN,hi2,rfl,oo,D.chgI gh g2,M.keep λb hb=>gh.block b (M.lt b hb) (hd b hb),oo,oo,?_,λb hb=>?_⟩
 . rw [gg ⟨h5,oo⟩,<-qaA,zcz];exact gO
 have:=hd b hb;have:=M.lt b hb;omega
def zku (h0:Is W0 v0 c) (e0:Ext W0 w) (hc:CodeR c) :
   CALL tp 243 [v0,.int .i64 (r:Int)] w λv w'=>Ext w w'/\Own w.heap.size w' v (zaK (zfp c r)):=by
 refine co (g:=kf [] [(4,147573952589676405664,[5,7]),(9,147573952581086478880,[5,9])] []) Tryz.func243 ?_;have h8:=hc.1.procs8;have gz:=hc.f.ins;have he:=hc.2.1.1;refine zbk h0 e0 λ_ gp hA=>zaI (α:=Int) u31 ty3 λ_ _ gc _=>zab zbO hA gc λ_ gA=>?_;refine (zhQ gA gc hc).mono ?_;rintro _ w3 ⟨gB,gC⟩;have U:=gc.t gB;have hs1:=gp.size;have gD:=U.size
 have gE:∀ k,k<=8->((zbb k (UsedP c)).flatMap λp=>zbb c.ins.length (StP c r p)).length<=20000:=λk _=>by
   have h1:=zhW (l:=zbb k (UsedP c)) (f:=λp=>zbb c.ins.length (StP c r p)) (B:=1500) λ_ _=>qal zbe gz;have h2:=zbe (n:=k) (p:=UsedP c);have:(zbb k (UsedP c)).length*1500<=8*1500:=qa6 _ oo;omega
 refine zar c.procs.length (λk us w'=>∃ out,us=[out,.int .i64 (k:Int)]/\k<=c.procs.length/\Ext w3 w'/\RowI w3.heap.size w'.heap.size 3 w' out (zaK ((zbb k (UsedP c)).flatMap λp=>zbb c.ins.length (StP c r p)))) 0 (z0 _) ⟨_,rfl,z0 _,xrf _,zcg _ _ _ _ _⟩ ?_;rintro p mk _ w4 _ ⟨out,hu,_,g1,g9⟩;obtain ⟨gF,gG⟩:=zcv hu;rw [gF,gG];have C:=U.t g1;refine zaa zby<|zab zb9 (zay hA) C λ_ gH=>zae u26 gH<|zah<|br (λ_=>?_) (λ_=>?_)
 case refine_2=>
   have gI:p=c.procs.length:=oo;rw [gI] at g9;exact ⟨gp.t C,g9.own.own.mono oo⟩
 have hp:p<c.procs.length:=oo;have gd:=zaM (n:=c.procs.length) (p:=UsedP c) (i:=p);rw [zaZ (by rw [zam];exact hp)] at gd;refine zac zdj ty4 (i:=p) gC.is (by rw [zam];exact hp) λ_ _ gJ=>zaC ty4 gJ g1<|zau<|zaN (λhf=>?_) (λhf=>?_)
 . have gK:¬UsedP c p:=λh=>by rw [gd.2 ⟨hp,h⟩] at hf;cases hf
   refine zaw<|⟨mk-1,oo,p+1,oo,out,rfl,oo,g1,by rw [zdz gK];exact g9⟩
 have hU:UsedP c p:=(gd.1 (by simpa using hf)).2
 have gq:(zbb (p+1) (UsedP c)).flatMap (λp=>zbb c.ins.length (StP c r p))=(zbb p (UsedP c)).flatMap (λp=>zbb c.ins.length (StP c r p))++zbb c.ins.length (StP c r p):=by
   rw [zdf hU,qaO];simp
 have hfk:=gE p oo;refine zab zbO hA C λ_ gL=>?_;refine (zgh gL C hc (by rw [he];exact hp)).mono ?_;rintro gr w5 ⟨gb,gM⟩;have g2:=C.t gb;obtain ⟨gN,_,_⟩:=zgP hc (p:=p) (by rw [he];exact hp);obtain ⟨_,gO,_⟩:=zeT hc hp;have hze:=(zmY hc (p:=p) (by rw [he];exact hp)).2.1
 have gs:∀ i,zaL c p i->eN c p<=i/\i<=zN c p:=λi hi=>by
   have h1:=zbW hc (by rw [he];exact hp) hi;obtain ⟨q,_,_,h4⟩:=zeF hc h1.1;have:q=p:=by have:=h1.2;omega
   subst this;exact h4
 have gP:zbb (eN c p) (StP c r p)=[]:=by
   rw [zjf (n:=0) (z0 _) λi _ h2 hs=>by have:=gs i hs.1;omega];rfl
 have gQ:zbb c.ins.length (StP c r p)=zbb (zN c p+1) (StP c r p):=zjf oo λi h1 _ hs=>by have:=gs i hs.1;omega
 rw [gQ] at gq;refine zaa zbj<|zab zcn (zav hA) g2 λ_ gR=>zac u31 ty3 (i:=p) gR (by rw [he];exact hp) λ_ _ gS=>zad ty3 gS g2 λ_=>?_;rw [zbK,gN];generalize hOp:(zbb p (UsedP c)).flatMap (λp=>zbb c.ins.length (StP c r p))=Op at *;obtain ⟨F5,gT,gU⟩:=gM;have gf:=gb.size;have gV:=g1.size;have gW:RowI w3.heap.size w4.heap.size 3 w5 out (zaK (Op++zbb (eN c p) (StP c r p))):=by rw [gP];simpa using g9.ext gb
 refine zar (zN c p+1) (λj us w'=>∃ out lo hi,us=[out,.int .i64 (j:Int)]/\eN c p<=j/\j<=zN c p+1/\Ext w3 w'/\Mine F5 w' gr (zbT c.ins.length (zaL c p))/\w3.heap.size<=lo/\hi<=w'.heap.size/\RowI lo hi 3 w' out (zaK (Op++zbb j (StP c r p)))/\∀ b∈F5,b<lo\/hi<=b) (eN c p) oo ⟨out,w3.heap.size,w4.heap.size,rfl,lr _,oo,g1.t gb,gT,lr _,gf,gW,λb hb=>.inr (gU b hb)⟩ ?_;rintro i mj _ _ _ ⟨V,lo,hi,gX,gt,_,gx,gY,gg,_,gZ,hd⟩;obtain ⟨gh,gi⟩:=zcv gX;rw [gh,gi];have Z:=U.t gx;refine zab zbO hA Z λ_ h6=>?_;refine (zff h6 Z (p:=(p:Int)) oo oo hc.2.1.nonneg).mono ?_;rintro _ w7 ⟨g3,rfl⟩;rw [gO];have M:=Z.t g3;have O:=gx.t g3;have g4:=gY.ext g3;have gj:=gZ.ext g3;have h9:=g3.size;refine zdJ<|br (λ_=>?_) (λ_=>?_)
 case refine_2=>
   have gt:i=zN c p+1:=oo;refine zaw<|⟨mk-1,oo,p+1,oo,V,rfl,oo,O,?_⟩;rw [gq,<-gt];exact gj.mono gg oo
 have g0:i<c.ins.length:=oo
 have hg:(Op++zbb i (StP c r p)).length<=100000:=by
   have:=zbe (n:=i) (p:=StP c r p);rw [qab];omega
 have gl:=zaM (n:=c.ins.length) (p:=zaL c p) (i:=i);rw [zaZ (by rw [zam];exact g0)] at gl
 have D:¬StP c r p i->∃ m',m'<mj/\∃ k',k'+m'=zN c p+1/\∃ out lo hi,[V,Value.int .i64 ((i+1:Nat):Int)]=[out,.int .i64 (k':Int)]/\eN c p<=k'/\k'<=zN c p+1/\Ext w3 w7/\Mine F5 w7 gr (zbT c.ins.length (zaL c p))/\w3.heap.size<=lo/\hi<=w7.heap.size/\RowI lo hi 3 w7 out (zaK (Op++zbb k' (StP c r p)))/\∀ b∈F5,b<lo\/hi<=b:=λhn=>
   ⟨mj-1,oo,i+1,oo,V,lo,hi,rfl,oo,oo,O,g4,gg,oo,by rw [zdz hn];exact gj,hd⟩
 refine zac zdj ty4 (i:=i) g4.is (by rw [zam];exact g0) λ_ _ hh=>zaC ty4 hh (xrf _)<|zaN (λhf=>?_) (λhf=>?_)
 case refine_2=>refine zaw<|D λh=>by rw [gl.2 ⟨g0,h.1⟩] at hf;cases hf
 have hL:=(gl.1 hf).2;refine zaa zaH<|zab zcQ (zao hA) M λ_ hj=>zac u32 zdw (i:=i) hj g0 λ_ _ gy=>?_;rw [zaR] at gy;refine zaa zbE<|zad ty3 (zaD gy) M λ_=>zag<|br (λh5=>?_) (λh5=>?_)
 case refine_2=>refine zaw<|D λh=>h5 h.2.1
 obtain ⟨hk,_⟩:=zcl hc g0 (.inr h5);refine zaa zaH<|zab zcQ (zao hA) M λ_ hl=>zac u32 zdw (i:=i) hl g0 λ_ _ g5=>?_;rw [zaR] at g5;refine zaa zbG<|zad ty3 (zaF g5) M λ_=>zag<|br (λha=>?_) (λha=>?_)
 case refine_2=>refine zaw<|D λh=>ha (by rw [hk,h.2.2])
 refine zdX (x:=(i:Int)) u31 ty3 z3 zc3 dD gj (lo2:=0) (hi2:=0) (zc2 _ _ io) (by rw [zak,zaf];omega) (by rw [zaf];omega) λv' w' hq hi2 gn hr _=>?_;have hs8:=gn.size;have ht:=O.size;refine zaw<|⟨mj-1,oo,i+1,oo,v',hq,hi2,rfl,oo,oo,O.chgI gn gg,g4.keep λb hb=>gn.block b (g4.lt b hb) (hd b hb),oo,oo,?_,λb hb=>?_⟩
 . rw [zdf (⟨hL,h5,oo⟩:StP c r p i),<-qaA,zcz];exact hr
 have:=hd b hb;have:=g4.lt b hb;omega
def zph {l:List Int} (hk:k<l.length) (h:y∉l.take k) (c:¬l[k]=y):y∉l.take (k+1):=by
 rw [tk hk];simp only [qae,qaa,qag,qaz,not_or];exact ⟨h,λe=>c e.symm⟩
def zxZ {l:(List Int)}  (h0:Is W0 v0 l) (e0:Ext W0 w)  :
   CALL tp 245 [v0,.int .i64 y] w λr w'=>Ext w w'/\(r=.bool (decide (y∈l))):=by
 refine co (g:=kf [] [(2,262128,[5])] []) Tryz.func245 ?_;refine zar (l.length) (λk us w'=>us=[.int .i64 (k:Int)]/\Ext w w'/\(y∉l.take k)) (0) oo ⟨ss,xrf w,ss⟩ ?_;rintro k m2 _ _ _ ⟨hu,y1,C⟩;try replace hu:=zbv hu
 try rw [hu]
 try clear hu
 have g0:=zan h0;refine zae u31 h0<|zah<|br (λc1=>?_) (λc1=>?_)
 . refine zac u31 ty3 h0 oo λ_ _ g1=>?_;refine zad ty3 g1 (e0.t y1) λ_=>zag<|br (λc2=>?_) (λc2=>?_)
   . refine ⟨y1,?_⟩;have:y∈l:=c2▸qac _;simp [this]
   refine zaw<|⟨m2-1,oo,k+1,oo,ss,y1,?_⟩;exact zph oo C c2
 refine ⟨y1,?_⟩;rw [qai oo] at C;simp [C]
def zBr (h:At W0 b 0 c) (hx:Ext W0 w):KAt W0 w b c:=by
 obtain ⟨F,cs,hr,hc⟩:=h;have hl:=Rep.len hr;have hp:0<cs.length:=by rw [hl];exact Rep.pos
 have g0:=zbw hc hx;refine ⟨F,cs,hr,g0,qbe λ_=>?_⟩;have:=g0 0 cs[0] (List.getElem?_eq_getElem hp);simp only [World.cell?] at this;rw [Array.getElem?_eq_none oo] at this;cases this
def zzB {b a:Nat} (hW:WAt W0 b c) (e0:Ext W0 w) (hc:CodeR c) (ha:a<c.ins.length) :
   CALL tp 266 [.pointer (some ⟨b,0,none⟩),.int .i64 (a:Int)] w λv w'=>Ext w w'/\Own w.heap.size w' v (zbT c.ins.length (RP (zaE c) a)):=by
 refine co (g:=kf [] [] []) Tryz.func266 ?_;have hil:=hc.f.ins;refine NIL.mk rfl<|zaa zbc<|zaa zaH<|zab zcQ (zao hW.wl.code) e0 λ_ g1=>zae u32 g1 ?_;have g2:=zBr hW.wl.code e0;have hbl:=g2.lt;refine zeZ oo oo λ_ g0 g3=>?_;have hs1:=g0.size;have e0s:=e0.size;refine (zqq (zBr hW.wl.code (e0.t g0)) (e0.t g0) hc rfl ha g3 ss oo oo λi hi=>absurd hi zbR).mono ?_;rintro _ _ ⟨rfl,g4,g5⟩;refine ⟨g0.chgI g4 (lr _),[w.heap.size],?_,λb hb=>by simp at hb;omega⟩;have:(zbT c.ins.length λi=>mkd (List.replicate c.ins.length false) i\/RP (zaE c) a i)=zbT c.ins.length (RP (zaE c) a):=zaX λi _=>⟨λh=>h.resolve_left zbR,.inr⟩;rw [<-this];exact g5
def zqK (hW:WAt W0 b c) (e0:Ext W0 w) (hr:r<c.procs.length) :
   CALL tp 264 [.pointer (some ⟨b,0,none⟩),.int .i64 (r:Int)] w λv w'=>Ext w w'/\v=.bool true:=by
 refine co (g:=kf [] [] []) Tryz.func264 ?_;refine zcH<|br (λ_=>?_) (λ_=>oo);refine NIL.mk rfl<|zaa zbc<|zaa zby<|zab zb9 (zay hW.wl.code) e0 λ_ g0=>zae u26 g0<|zah<|⟨xrf _,by simp;omega⟩
def zuJ (c:DCode) (r a:Nat):Prop:=zfp c r=[a]/\zaA c a=(zcX c:Int)/\¬RP (zaE c) a a/\zfp c (zcX c)=[]/\¬ ∃ p,UsedP c p/\zkP c p 4 (zcX c)
def ze2 (c:DCode) (r:Nat):Prop:=(r=zcX c/\zfp c r=[])\/(r≠zcX c/\∃ a,zuJ c r a)
noncomputable instance (c:DCode) (r:Nat):Decidable (ze2 c r):=Classical.propDecidable _
def zgs:ze2 c (zcX c)↔zfp c (zcX c)=[]:=
 ⟨λh=>h.elim (·.2) λh=>absurd rfl h.1,λh=>.inl ⟨rfl,h⟩⟩
def zkY (hr:r≠zcX c):ze2 c r↔∃ a,zuJ c r a:=
 ⟨λh=>h.elim (λh=>absurd h.1 hr) (·.2),λh=>.inr ⟨hr,h⟩⟩
def zqL {l:List Nat}:((l.length:Int)=0)↔l=[]:=by
 rw [<-List.length_eq_zero_iff];omega
def zqM:(zeL c).testBit p=true↔p<c.procs.length/\UsedP c p:=za4
def znO:(zdi c).testBit p=true↔p<c.procs.length/\RootP c p:=za4
def zx0 (hc:CodeR c) {p:Nat} (h:UsedP c p):p<c.procs.length:=by
 obtain ⟨_,hr,hf⟩:=h;exact hf.lt (hr.lt hc)
def zuK (hc:CodeR c) {q:Nat} (hq:q<c.procs.length):(orL (cls c 4) (zbX (zeL c))).testBit q=true↔∃ p,UsedP c p/\zkP c p 4 q:=by
 have:=hc.1.procs8;rw [zjk (m:=zeL c) (n:=c.procs.length) zjU oo];constructor
 . rintro ⟨i,h1,h2,h3⟩;exact ⟨i,(zqM.1 h2).2,((zj4 h1).1 h3).2⟩
 rintro ⟨i,h1,h2⟩;have hi:=zx0 hc h1;exact ⟨i,hi,zqM.2 ⟨hi,h1⟩,(zj4 hi).2 ⟨hq,h2⟩⟩
def znP (hW:WAt W0 b c) (e0:Ext W0 w) (hc:CodeR c) :
   CALL tp 214 [.pointer (some ⟨b,0,none⟩),.int .i64 (zcX c:Nat)] w λv w'=>Ext w w'/\v=.bool (decide (ze2 c (zcX c))):=by
 refine co (g:=kf [] [] [(7,[0,1,2,3,4,5,6,7,8,9,10,12,11,13,14,15,16,17,18,19,21,22,23,20,24,25,26],1050624),(9,[0,1,2,3,4,5,6,7,8,9,10,11,13,12,14,15,16,17],4096)]) Tryz.func214 ?_;have h8:=hc.1.procs8;have g1:=(ze0 hc).2;have:zdi c<256:=zbn h8.1;refine (zqK hW e0 g1).mono ?_;rintro _ _ ⟨g2,rfl⟩;refine zau<|zaN (λh=>by cases h) (λ_=>?_);refine NIL.mk rfl<|zaa zid<|zad ty3 hW.roots (e0.t g2) λ_=>?_;refine (zgj (m:=zdi c) (i:=zcX c) oo oo).mono ?_;rintro _ _ ⟨g3,rfl⟩;rw [znO.2 ⟨g1,.main⟩];refine zau<|zaN (λh=>by cases h) (λ_=>?_);have g0:=g2.t g3;refine (ziy (hW.wl.code.ext (e0.t g0)) hc).mono ?_;rintro _ _ ⟨g4,rfl⟩;have C:=g0.t g4;refine NIL.mk rfl<|zaa zie<|zad ty3 hW.used (e0.t C) λ_=>?_;refine (znN (r:=zcX c) hW (e0.t C) hc).mono ?_;rintro _ _ ⟨g5,g9⟩;refine zag<|br (λ_=>?_) (λh=>absurd rfl h);refine zae u31 g9.is<|zag ?_;rw [zaf];exact ⟨C.t g5,by congr 1;rw [decide_eq_decide,zgs,zqL]⟩
def zx1 (hW:WAt W0 b c) (e0:Ext W0 w) (hc:CodeR c) (hr:RootP c r) :
   CALL tp 214 [.pointer (some ⟨b,0,none⟩),.int .i64 (r:Int)] w λv w'=>Ext w w'/\v=.bool (decide (ze2 c r)):=by
 by_cases hm:r=zcX c
 . subst hm;exact znP hW e0 hc
 refine co (g:=kf [] [] [(7,[0,1,2,3,4,5,6,7,8,9,10,12,11,13,14,15,16,17,18,19,21,22,23,20,24,25,26],1050624),(9,[0,1,2,3,4,5,6,7,8,9,10,11,13,12,14,15,16,17],4096)]) Tryz.func214 ?_;have h8:=hc.1.procs8;have gz:=(ze0 hc).2;have gj:=hr.lt hc;have gl:zdi c<256:=zbn h8.1;have g0:zeL c<2^c.procs.length:=zjU;refine (zqK hW e0 gj).mono ?_;rintro _ _ ⟨gn,rfl⟩;refine zau<|zaN (λh=>by cases h) (λ_=>?_);refine NIL.mk rfl<|zaa zid<|zad ty3 hW.roots (e0.t gn) λ_=>?_;refine (zgj (m:=zdi c) (i:=r) oo oo).mono ?_;rintro _ _ ⟨gA,rfl⟩;rw [znO.2 ⟨gj,hr⟩];refine zau<|zaN (λh=>by cases h) (λ_=>?_);have g1:=gn.t gA;refine (ziy (hW.wl.code.ext (e0.t g1)) hc).mono ?_;rintro _ _ ⟨gB,rfl⟩;have O:=g1.t gB;refine NIL.mk rfl<|zaa zie<|zad ty3 hW.used (e0.t O) λ_=>?_;refine (znN (r:=r) hW (e0.t O) hc).mono ?_;rintro gC gp ⟨gD,gE⟩;refine zag<|br (λh=>absurd oo hm) (λ_=>?_);have gq:=zai gp;have D:=O.t (gD.t gq);have gc:=gE.is.ext gq;generalize World.drew1 gp=w4 at *;have Z:=λa (ha:a∈zfp c r)=>znM hc ha;have M:(¬ ∃ a,zuJ c r a)->Value.bool false=.bool (decide (ze2 c r)):=λh=>by rw [decide_eq_false λh2=>h ((zkY hm).1 h2)]
 refine zae u31 gc<|zaJ ?_;rw [zaf];refine br (λgd=>?_) (λgF=>?_)
 . exact ⟨D,M λ⟨a,h⟩=>gd (by rw [h.1];rfl)⟩
 have gG:(zfp c r).length=1:=by have:=qaf.1 gF;omega
 obtain ⟨a,ha⟩:∃ a,zfp c r=[a]:=qbf.1 gG;have g5:a<c.ins.length:=Z a (by rw [ha];simp);rw [ha] at gc
 have U:∀ {w:wD} {K:vL->Prop},Ext w4 w->(K (.int .i64 (a:Int)))->RD tp (Instr.indexAt 31 gC (.int .i64 0)) w λx=>RD tp (Instr.loadAt 3 x) w K:=λhx kk=>by
   refine zac u31 ty3 (i:=0) gc (by simp [zaK]) λ_ _ gr=>?_;rw [show (zaK [a])[0]'(by simp [zaK])=(a:Int) from rfl] at gr;exact zad ty3 gr hx λ_=>kk
 have g2:∀ a',zuJ c r a'->a'=a:=λa' h=>by have:=h.1;rw [ha] at this;simpa using this.symm
 refine NIL.mk rfl<|zaa zbc<|zab zbO hW.wl.code (e0.t D) λ_ gH=>U (xrf _) ?_;refine (zqn (a:=(a:Int)) gH (e0.t D) hc oo oo).mono ?_;rintro _ _ ⟨g9,rfl⟩;refine ⟨g9,?_⟩;have V:=D.t g9;refine zaJ<|br (λgd=>?_) (λgf=>?_)
 . exact ⟨V,M λ⟨a',h⟩=>gd (by have:=g2 a' h;subst this;exact h.2.1)⟩
 refine U g9<|U g9 ?_;refine (zzB (a:=a) hW (e0.t V) hc g5).mono ?_;rintro _ w6 ⟨gs,gI⟩;refine ⟨gs,?_⟩;have g3:=V.t gs;have gg:=zaM (n:=c.ins.length) (p:=RP (zaE c) a) (i:=a);rw [zaZ (by rw [zam];exact g5)] at gg;refine zac zdj ty4 (i:=a) gI.is (by rw [zam];exact g5) λ_ _ gJ=>zaC ty4 gJ (xrf _)<|zaN (λgb=>?_) (λgb=>?_)
 . exact ⟨g3,M λ⟨a',h⟩=>by have:=g2 a' h;subst this;exact h.2.2.1 (gg.1 gb).2⟩
 have gK:¬RP (zaE c) a a:=λh=>by rw [gg.2 ⟨g5,h⟩] at gb;cases gb
 have gh:=zai w6;have g4:=g3.t gh;generalize World.drew1 w6=w7 at *;refine (znP hW (e0.t g4) hc).mono ?_;rintro _ _ ⟨gL,rfl⟩;have C:=g4.t gL;refine br (λZ=>?_) (λZ=>?_)
 case refine_2=>exact ⟨C,M λ⟨a',h⟩=>Z (zgs.2 h.2.2.2.1)⟩
 refine NIL.mk rfl<|zaa zof<|zab zcn hW.calls (e0.t C) λ_ gM=>NIL.mk rfl<|zaa zie<|zad ty3 hW.used (e0.t C) λ_=>?_
 have gt:∀ x∈cls c 4,x<256:=λx hx=>by
   obtain ⟨p,_,rfl⟩:=qa3.1 hx;exact zbn h8.1
 refine (zhO (m:=zeL c) gM (e0.t C) gt (by rw [zhq];omega) (by rw [zhq];exact g0)).mono ?_;rintro _ _ ⟨gx,rfl⟩;refine ⟨gx,?_⟩;have gy:=ztw gt (zbX (zeL c));refine (zgj (m:=orL (cls c 4) (zbX (zeL c))) (i:=zcX c) oo oo).mono ?_;rintro _ _ ⟨gi,rfl⟩;refine zau<|⟨C.t (gx.t gi),?_⟩;have gN:=zuK hc gz
 have:ze2 c r↔¬(orL (cls c 4) (zbX (zeL c))).testBit (zcX c)=true:=by
   rw [zkY hm,gN];constructor
   . rintro ⟨a',h⟩;exact h.2.2.2.2
   intro h;exact ⟨a,ha,qaf.1 gf,gK,zgs.1 Z,h⟩
 congr 1;cases hb:(orL (cls c 4) (zbX (zeL c))).testBit (zcX c)
 . rw [decide_eq_true (this.2 (by rw [hb];simp))];rfl
 rw [decide_eq_false (λh=>this.1 h hb)];rfl
def zjo (h0:Is W0 v0 c) (e0:Ext W0 w) (hc:CodeR c) :
   CALL tp 178 [v0,.int .i64 (zcX c:Nat)] w λv w'=>Ext w w'/\v=.bool (decide (ze2 c (zcX c))):=by
 refine co (g:=kf [] [(9,1180587117117783933200,[8])] [(5,[0,1,2,3,4,5,6,7,9,8,10,11,12,13,14,15,16,18,19,20,17,21,22,23,24,25,26,27,28,29],131328)]) Tryz.func178 ?_;have g1:=ze0 hc;refine zbk h0 e0 λ_ g2 hA=>zab zbO hA (xrf _) λ_ h9=>?_;refine (zhM h9 (xrf _)).mono ?_;rintro _ _ ⟨g0,rfl⟩;rw [g1.1];refine zab zbO hA g0 λ_ g3=>?_;refine (zku (r:=zcX c) g3 g0 hc).mono ?_;rintro _ _ ⟨g4,g5⟩;refine zag<|br (λ_=>?_) (λh=>absurd rfl h);refine zae u31 g5.is<|zag ?_;rw [zaf];exact ⟨g2.t (g0.t g4),by congr 1;rw [decide_eq_decide,zgs,zqL]⟩
def zqN (h0:Is W0 v0 c) (e0:Ext W0 w) (hc:CodeR c) :
   CALL tp 178 [v0,.int .i64 (r:Int)] w λv w'=>Ext w w'/\v=.bool (decide (ze2 c r)):=by
 by_cases hm:r=zcX c
 . subst hm;exact zjo h0 e0 hc
 refine co (g:=kf [] [(9,1180587117117783933200,[8])] [(5,[0,1,2,3,4,5,6,7,9,8,10,11,12,13,14,15,16,18,19,20,17,21,22,23,24,25,26,27,28,29],131328)]) Tryz.func178 ?_;have h8:=hc.1.procs8;have he:=hc.2.1.1;have gt:=ze0 hc;refine zbk h0 e0 λ_ g2 hA=>zab zbO hA (xrf _) λ_ h9=>?_;refine (zhM h9 (xrf _)).mono ?_;rintro _ _ ⟨gg,rfl⟩;rw [gt.1];refine zab zbO hA gg λ_ gB=>?_;refine (zku (r:=r) gB gg hc).mono ?_;rintro gC w3 ⟨gD,gE⟩;refine zag<|br (λh=>absurd oo hm) (λ_=>?_);have gx:=zai w3;have M:=gg.t (gD.t gx);have gh:=gE.is.ext gx;generalize World.drew1 w3=w4 at *;have g3:=λa (ha:a∈zfp c r)=>znM hc ha;have D:(¬ ∃ a,zuJ c r a)->Value.bool false=.bool (decide (ze2 c r)):=λh=>by rw [decide_eq_false λh2=>h ((zkY hm).1 h2)]
 refine zae u31 gh<|zaJ ?_;rw [zaf];refine br (λgi=>?_) (λgF=>?_)
 . exact ⟨g2.t M,D λ⟨a,h⟩=>gi (by rw [h.1];rfl)⟩
 have gG:(zfp c r).length=1:=by have:=qaf.1 gF;omega
 obtain ⟨a,ha⟩:∃ a,zfp c r=[a]:=qbf.1 gG;have gc:a<c.ins.length:=g3 a (by rw [ha];simp);rw [ha] at gh
 have g1:∀ {w:wD} {K:vL->Prop},Ext w4 w->(K (.int .i64 (a:Int)))->RD tp (Instr.indexAt 31 gC (.int .i64 0)) w λx=>RD tp (Instr.loadAt 3 x) w K:=λhx kk=>by
   refine zac u31 ty3 (i:=0) gh (by simp [zaK]) λ_ _ gy=>?_;rw [show (zaK [a])[0]'(by simp [zaK])=(a:Int) from rfl] at gy;exact zad ty3 gy hx λ_=>kk
 have g4:∀ a',zuJ c r a'->a'=a:=λa' h=>by have:=h.1;rw [ha] at this;simpa using this.symm
 refine zab zbO hA M λ_ gH=>g1 (xrf _) ?_;refine (zf6 (a:=(a:Int)) gH M).mono ?_;rintro _ _ ⟨gd,rfl⟩;refine ⟨gd,?_⟩;have O:=M.t gd;refine zaJ<|br (λgi=>?_) (λgj=>?_)
 . exact ⟨g2.t O,D λ⟨a',h⟩=>gi (by have:=g4 a' h;subst this;exact h.2.1)⟩
 refine zab zbO hA O λ_ gI=>g1 gd<|g1 gd ?_;refine (zrU (a:=a) gI O hc gc).mono ?_;rintro _ _ ⟨gz,gJ⟩;refine ⟨gz,?_⟩;have U:=O.t gz;have gl:=zaM (n:=c.ins.length) (p:=RP (zaE c) a) (i:=a);rw [zaZ (by rw [zam];exact gc)] at gl;refine zac zdj ty4 (i:=a) gJ.is (by rw [zam];exact gc) λ_ _ gK=>zaC ty4 gK (xrf _)<|zaN (λgf=>?_) (λgf=>?_)
 . exact ⟨g2.t U,D λ⟨a',h⟩=>by have:=g4 a' h;subst this;exact h.2.2.1 (gl.1 gf).2⟩
 have gL:¬RP (zaE c) a a:=λh=>by rw [gl.2 ⟨gc,h⟩] at gf;cases gf
 refine zab zbO hA U λ_ gM=>?_;refine (zjo gM U hc).mono ?_;rintro _ _ ⟨gN,rfl⟩;have V:=U.t gN;refine za0<|br (λg3=>?_) (λg3=>?_)
 . exact ⟨g2.t V,D λ⟨a',h⟩=>g3 (zgs.2 h.2.2.2.1)⟩
 have gn:=qaf.1 g3;refine zab zbO hA V λ_ gO=>?_;refine (zhQ gO V hc).mono ?_;rintro _ w9 ⟨gP,gQ⟩;have gp:=V.t gP;refine zar c.procs.length (λk us w'=>us=[.int .i64 (k:Int)]/\k<=c.procs.length/\Ext w9 w'/\∀ p,p<k->UsedP c p->¬zkP c p 4 (zcX c)) 0 (z0 _) ⟨rfl,z0 _,xrf _,λp h=>oo⟩ ?_;rintro p mk _ _ _ ⟨hu,_,Z,hD⟩;try replace hu:=zbv hu
 rw [hu];have C:=gp.t Z;refine zaa zby<|zab zb9 (zay hA) C λ_ gR=>zae u26 gR<|zah<|br (λ_=>?_) (λ_=>?_)
 case refine_2=>have:ze2 c r:=(zkY hm).2 ⟨a,ha,qaf.1 gj,gL,zgs.1 gn,λ⟨p,h1,h2⟩=>hD p (by have:=zx0 hc h1;omega) h1 h2⟩;exact ⟨g2.t C,by rw [decide_eq_true this]⟩
 have hp:p<c.procs.length:=oo
 have g0:(UsedP c p->¬zkP c p 4 (zcX c))->∀ q,q<p+1->UsedP c q->¬zkP c q 4 (zcX c):=λh q _=>by
   by_cases e:q=p
   . subst e;exact h
   exact hD q oo
 have gq:=zaM (n:=c.procs.length) (p:=UsedP c) (i:=p);rw [zaZ (by rw [zam];exact hp)] at gq;refine zac zdj ty4 (i:=p) gQ.is (by rw [zam];exact hp) λ_ _ gr=>zaC ty4 gr Z<|zaN (λhf=>?_) (λhf=>?_)
 case refine_2=>refine zaw<|⟨mk-1,oo,p+1,oo,rfl,oo,Z,g0 λh=>by rw [gq.2 ⟨hp,h⟩] at hf;cases hf⟩
 have hU:=(gq.1 hf).2;refine zab zbO hA C λ_ gS=>?_;refine (zl6 (p:=p) gS C hc (by rw [he];exact hp) (.inl rfl)).mono ?_;rintro _ _ ⟨g5,gs⟩;refine (zxZ (y:=(zcX c:Nat)) gs.is (xrf _)).mono ?_;rintro _ _ ⟨g9,rfl⟩;have gb:=C.t (g5.t g9)
 have gA:((zcX c:Nat):Int)∈zaK (zbb c.procs.length (zkP c p 4))↔zkP c p 4 (zcX c):=by
   unfold zaK;rw [qa3];constructor
   . rintro ⟨x,hx,e⟩;have:x=zcX c:=oo;subst this;exact (zaO.1 hx).2
   intro h;exact ⟨_,zaO.2 ⟨gt.2,h⟩,rfl⟩
 refine br (λhy=>?_) (λgT=>?_)
 . exact ⟨g2.t gb,D λ⟨a',h⟩=>h.2.2.2.2 ⟨p,hU,gA.1 hy⟩⟩
 refine zaw<|⟨mk-1,oo,p+1,oo,rfl,oo,Z.t (g5.t g9),g0 λ_ h=>gT (gA.2 h)⟩
noncomputable def zsd (c:DCode):Nat:=zcU (λr=>RootP c r/\ze2 c r) c.procs.length
def RtP (c:DCode) (i r:Nat):Prop:=zfX c i/\RootP c r/\FromP c r (zaA c i).toNat
noncomputable def rtN (c:DCode) (i:Nat):Nat:=zcU (RtP c i) c.procs.length
def zx2 (hc:CodeR c) (i:Nat):rtN c i<256:=zbn hc.1.procs8.1
def zzC (hc:CodeR c):zsd c<256:=zbn hc.1.procs8.1
def AccB (U:List Nat) (P:Nat->Prop) (k m:Nat):Prop:=m<256/\∀ r,m.testBit r=true↔r∈U.take k/\P r
def AccB.yes {P:Nat->Prop} (h:AccB U P k m) (hk:k<U.length) (h8:U[k]<8) (hp:P U[k]):AccB U P (k+1) (m ||| 2^U[k]):=by
 refine ⟨qa0 (n:=8) h.1 (qaY oo h8),λ_=>?_⟩;rw [qaX,qaQ,h.2,zbC hk,qaU,qau];constructor
 . rintro (⟨h1,h2⟩ | rfl)
   . exact ⟨.inl h1,h2⟩
   exact ⟨.inr rfl,hp⟩
 rintro ⟨h1 | rfl,h2⟩
 . exact .inl ⟨h1,h2⟩
 exact .inr rfl
def AccB.no {P:Nat->Prop} (h:AccB U P k m) (hk:k<U.length) (hp:¬P U[k]):AccB U P (k+1) m:=by
 refine ⟨h.1,λ_=>?_⟩;rw [h.2,zbC hk];constructor
 . rintro ⟨h1,h2⟩;exact ⟨.inl h1,h2⟩
 rintro ⟨h1 | rfl,h2⟩
 . exact ⟨h1,h2⟩
 exact absurd h2 hp
def AccB.fin {Q P:Nat->Prop} (h:AccB (zbb n Q) P k m) (hk:(zbb n Q).length<=k):m=zcU (λr=>Q r/\P r) n:=by
 refine zen λr=>?_;rw [h.2,qai hk,zaO];exact ⟨λ⟨⟨a,b⟩,d⟩=>⟨a,b,d⟩,λ⟨a,b,d⟩=>⟨⟨a,b⟩,d⟩⟩
def AccB.start (U:List Nat) (P:Nat->Prop):AccB U P 0 0:=⟨oo,λr=>by simp⟩
def zuL (hW:WAt W0 b c) (e0:Ext W0 w) (hc:CodeR c) :
   CALL tp 151 [.pointer (some ⟨b,0,none⟩)] w λv w'=>Ext w w'/\v=.int .i64 (zsd c:Nat):=by
 refine co (g:=kf [] [(3,33550376,[3,12])] []) Tryz.func151 ?_;have h8:=hc.1.procs8;have g3:zdi c<256:=zbn h8.1;refine NIL.mk rfl<|zaa zid<|zad ty3 hW.roots e0 λ_=>?_;refine (zd2 (m:=zdi c) oo).mono ?_;rintro _ w1 ⟨g4,g0⟩;unfold zdi at g0;rw [zeo oo] at g0;refine zae u31 g0.is ?_;rw [zaf];have hUl:=zbe (n:=c.procs.length) (p:=RootP c);have gc:∀ r∈zbb c.procs.length (RootP c),r<c.procs.length/\RootP c r:=λr hr=>zaO.1 hr;have g1:∀ {k m},AccB (zbb c.procs.length (RootP c)) (ze2 c) k m->(zbb c.procs.length (RootP c)).length<=k->m=zsd c:=λh hk=>h.fin hk;generalize zbb c.procs.length (RootP c)=U at *;refine zar U.length (λk us w'=>∃ m:Nat,us=[.int .i64 (m:Int),.int .i64 (k:Int)]/\k<=U.length/\Ext w1 w'/\AccB U (ze2 c) k m) 0 (z0 _) ⟨0,rfl,z0 _,xrf _,AccB.start _ _⟩ ?_;rintro k mk _ _ _ ⟨m,hu,_,C,hB⟩;obtain ⟨gd,gf⟩:=zcv hu;rw [gd,gf];refine zah<|br (λ_=>?_) (λ_=>?_)
 case refine_2=>rw [g1 hB oo];exact ⟨g4.t C,rfl⟩
 have hk:k<U.length:=oo;obtain ⟨_,gg⟩:=gc U[k] (qac _);refine zac u31 ty3 (i:=k) g0.is (by rw [zaf];exact hk) λ_ _ g5=>?_;rw [zaY] at g5;have g2:=λhp=>hB.yes hk oo hp;have gh:=λhp=>hB.no hk hp;generalize U[k]=r at *;refine zad ty3 g5 C λ_=>?_;have g9:=hB.1;refine (zx1 (r:=r) hW (e0.t (g4.t C)) hc gg).mono ?_;rintro _ _ ⟨gb,rfl⟩;refine br (λhs=>?_) (λhs=>?_)
 . refine zcc kK zlh oo ?_;refine zeH oo ?_;have:2^r<256:=qaY (m:=r) (n:=8) oo oo;refine zhb oo oo<|zaw<|⟨mk-1,oo,k+1,oo,m ||| 2^r,rfl,oo,C.t gb,g2 hs⟩
 refine zaw<|⟨mk-1,oo,k+1,oo,m,rfl,oo,C.t gb,gh hs⟩
def zuM (hW:WAt W0 b c) (e0:Ext W0 w) (hc:CodeR c) (hi:i<c.ins.length) :
   CALL tp 150 [.pointer (some ⟨b,0,none⟩),.int .i64 (i:Int)] w λv w'=>Ext w w'/\v=.int .i64 (rtN c i:Nat):=by
 refine co (g:=kf [] [(5,36028794871480480,[5,31])] [(7,[0,1,2,3,4,5,6,7,8,9,10,11,12,13],4096)]) Tryz.func150 ?_;have h8:=hc.1.procs8;have gd:zdi c<256:=zbn h8.1;obtain ⟨q,hq,gf,_⟩:=zeF hc hi;refine NIL.mk rfl<|zaa zbc<|zab zbO hW.wl.code e0 λ_ gp=>?_;refine (zux (a:=(i:Int)) gp e0).mono ?_;rintro _ _ ⟨C,rfl⟩;refine za0<|br (λh=>absurd ⟨oo,oo⟩ h) (λ_=>?_);refine NIL.mk rfl<|zaa zoe<|zab zcR hW.wl.live (e0.t C) λ_ gq=>?_;have g4:=zaM (n:=c.ins.length) (p:=zfX c) (i:=i);rw [zaZ (by rw [zam];exact hi)] at g4;refine zac zdj ty4 (i:=i) gq (by rw [zam];exact hi) λ_ _ gr=>zaC ty4 gr (e0.t C)<|zau<|zaN (λhf=>?_) (λhf=>?_)
 . have gs:¬zfX c i:=λh=>by rw [g4.2 ⟨hi,h⟩] at hf;cases hf
   have:rtN c i=0:=(zen (m:=0) λr=>by simp;exact λ_ h=>gs h.1).symm;rw [this];exact ⟨C,rfl⟩
 have hL:zfX c i:=(g4.1 (by simpa using hf)).2;refine NIL.mk rfl<|zaa zid<|zad ty3 hW.roots (e0.t C) λ_=>?_;refine (zd2 (m:=zdi c) oo).mono ?_;rintro _ w2 ⟨gt,g3⟩;unfold zdi at g3;rw [zeo oo] at g3;refine zae u31 g3.is ?_;rw [zaf];have hUl:=zbe (n:=c.procs.length) (p:=RootP c);have gx:∀ r∈zbb c.procs.length (RootP c),r<c.procs.length/\RootP c r:=λr hr=>zaO.1 hr
 have g5:∀ {k m},AccB (zbb c.procs.length (RootP c)) (λr=>FromP c r q) k m->(zbb c.procs.length (RootP c)).length<=k->m=rtN c i:=λh hk=>by
   rw [h.fin hk];unfold rtN;refine zbB λr _=>?_;unfold RtP;rw [gf];exact ⟨λh=>⟨hL,h.1,h.2⟩,λh=>h.2⟩
 generalize zbb c.procs.length (RootP c)=U at *;have g0:=C.t gt;refine zar U.length (λk us w'=>∃ m:Nat,us=[.int .i64 (m:Int),.int .i64 (k:Int)]/\k<=U.length/\Ext w2 w'/\AccB U (λr=>FromP c r q) k m) 0 (z0 _) ⟨0,rfl,z0 _,xrf _,AccB.start _ _⟩ ?_;rintro k mk _ w3 _ ⟨m,hu,_,g9,hB⟩;obtain ⟨gy,gz⟩:=zcv hu;rw [gy,gz];refine zah<|br (λ_=>?_) (λ_=>?_)
 case refine_2=>rw [g5 hB oo];exact ⟨g0.t g9,rfl⟩
 have hk:k<U.length:=oo;obtain ⟨gb,_⟩:=gx U[k] (qac _);refine zac u31 ty3 (i:=k) g3.is (by rw [zaf];exact hk) λ_ _ gg=>?_;rw [zaY] at gg;have gc:=λhp=>hB.yes hk oo hp;have gA:=λhp=>hB.no hk hp;generalize U[k]=r at *;refine zad ty3 gg g9 λ_=>?_;have gh:=hB.1;have gB:=zai w3;have g1:=g9.t gB;generalize World.drew1 w3=w4 at *;have e4:=e0.t (g0.t g1);refine NIL.mk rfl<|zaa zlf<|zab zcn hW.frm e4 λ_ gC=>zac u31 ty3 (i:=r) gC (by rw [zaf,zj2];exact gb) λ_ _ gi=>?_;rw [zaS] at gi;refine zad ty3 gi e4 λ_=>NIL.mk rfl<|zaa zbc<|zab zbO hW.wl.code e4 λ_ gD=>?_;refine (zqn (a:=(i:Int)) gD e4 hc oo oo).mono ?_;rintro _ _ ⟨gj,rfl⟩;refine ⟨gj,?_⟩;rw [gf];have gl:=zr8 (c:=c) (r:=q) gb;have gn:zax (frs c) r<256:=by rw [ztz gb];exact zbn h8.1
 refine (zgj (m:=zax (frs c) r) (i:=q) oo oo).mono ?_;rintro _ _ ⟨gE,rfl⟩;have g2:=g1.t (gj.t gE);refine zaN (λhs=>?_) (λhs=>?_)
 . refine zcc kK zlh oo ?_;refine zeH oo ?_;have:2^r<256:=qaY (m:=r) (n:=8) oo oo;refine zhb oo oo<|zaw<|⟨mk-1,oo,k+1,oo,m ||| 2^r,rfl,oo,g2,gc (gl.1 hs).2⟩
 refine zaw<|⟨mk-1,oo,k+1,oo,m,rfl,oo,g2,gA λh=>by rw [gl.2 ⟨hq,h⟩] at hs;cases hs⟩
variable {F:List Nat} {W0 W1 w w' w0 wb:wD} {b fr hi i j l lo m o p to:Nat} {c:DCode} {v v0 v1:vL} {x:DRace}
structure DOrder where
 fr:Int
 to:Int
 at_:Int
def DOrder.ext_iff {x y:DOrder}:x=y↔(x.fr=y.fr/\x.to=y.to/\x.at_=y.at_):=⟨λh=>by rw [h];exact ⟨rfl,rfl,rfl⟩,λh=>by obtain ⟨h0,h1,h2⟩:=h;cases x;cases y;simp only at h0 h1 h2;simp only [h0,h1,h2]⟩
instance:DecidableEq DOrder:=λx y=>decidable_of_iff (x.fr=y.fr/\x.to=y.to/\x.at_=y.at_) DOrder.ext_iff.symm
instance:Rep DOrder:=Rep.via λx=>(x.fr,x.to,x.at_)
def zmr {x:DOrder} (h:At w b o x):At w b (o+0) x.fr:=zcB (α:=Int) (β:=Int×Int) (p:=(x.fr,x.to,x.at_)) h
def zms {x:DOrder} (h:At w b o x):At w b (o+1) x.to:=zcB (α:=Int) (β:=Int) (p:=(x.to,x.at_)) (zbi (α:=Int) (β:=Int×Int) (p:=(x.fr,x.to,x.at_)) h)
instance:RepZ DOrder:=⟨⟨(RepZ.zv:Int),(RepZ.zv:Int),(RepZ.zv:Int)⟩,RepZ.zc (Int×Int×Int),λw=>RepZ.zr (α:=Int×Int×Int) w⟩
instance:Flat DOrder:=⟨λh=>Flat.flat (α:=Int×Int×Int) h⟩
def zx3 (x:DOrder):List Int:=[x.fr,x.to,x.at_]
def zzD (x y:DOrder):Int:=zwR (zx3 x) (zx3 y)
def zx4 {x y:DOrder}:CALL tp 163 [.agg (i3 x.fr x.to x.at_),.agg (i3 y.fr y.to y.at_)] w λr w'=>r=.int .i64 (zzD x y)/\ziq w w':=by
 refine co (g:=kf [] [] []) Tryz.func163 ?_;refine zjN ?_;have g0:Blk w.heap.size 199 (w.alloc (.cells (i3 x.fr x.to x.at_) 199)) (vI (zx3 x)):=heap_alloc_new w _;refine zjN ?_;generalize hw1:w.alloc (.cells (i3 x.fr x.to x.at_) 199)=w1 at *;have g1:Blk w1.heap.size 199 (w1.alloc (.cells (i3 y.fr y.to y.at_) 199)) (vI (zx3 y)):=heap_alloc_new w1 _;have g2:=zaU w1 (.cells (i3 y.fr y.to y.at_) 199);generalize hw2:w1.alloc (.cells (i3 y.fr y.to y.at_) 199)=w2 at *;have C:=g0.ext g2;refine zaa zoh<|zaj ty3 C rfl<|zaa zoi<|zaj ty3 C rfl<|zaa zv2<|zaj ty3 C rfl<|zhJ u31 ty3 zEx ?_;have g3:=zaU w2 (.cells (vI [x.fr,x.to,x.at_]).toArray 3);have g4:Blk w2.heap.size 3 (w2.alloc (.cells (vI [x.fr,x.to,x.at_]).toArray 3)) (vI (zx3 x)):=heap_alloc_new w2 _;generalize hw3:w2.alloc (.cells (vI [x.fr,x.to,x.at_]).toArray 3)=w3 at *;have D:=g1.ext g3;refine zaa zoh<|zaj ty3 D rfl<|zaa zoi<|zaj ty3 D rfl<|zaa zv2<|zaj ty3 D rfl<|zhJ u31 ty3 zEx ?_;have g5:=zaU w3 (.cells (vI [y.fr,y.to,y.at_]).toArray 3);have g9:Blk w3.heap.size 3 (w3.alloc (.cells (vI [y.fr,y.to,y.at_]).toArray 3)) (vI (zx3 y)):=heap_alloc_new w3 _;have hg:ziq w (w3.alloc (.cells (vI [y.fr,y.to,y.at_]).toArray 3)):=by rw [<-hw3,<-hw2,<-hw1];exact zko _ _ _ _
 refine (zlR (l:=zx3 x) (m:=zx3 y) (g4.ext g5) g9 (by simp [zx3]) (by simp [zx3])).mono ?_;rintro _ _ ⟨rfl,rfl⟩;exact ⟨rfl,hg⟩
def ltO (x y:DOrder):Prop:=x.fr<y.fr\/(x.fr=y.fr/\(x.to<y.to\/(x.to=y.to/\x.at_<y.at_)))
def zCD {x y:DOrder}:zzD x y<0↔ltO x y:=by
 unfold zzD zx3 ltO;simp only [zwR];rcases qbU x.fr y.fr with h | h | h
 . rw [zjO h];simp;omega
 . rw [zjQ h];rcases qbU x.to y.to with h2 | h2 | h2
   . rw [zjO h2];simp;omega
   . rw [zjQ h2];rcases qbU x.at_ y.at_ with h3 | h3 | h3
     . rw [zjO h3];simp;omega
     . rw [zjQ h3];simp;omega
     rw [zjP h3];simp;omega
   rw [zjP h2];simp;omega
 rw [zjP h];simp;omega
instance (x y:DOrder):Decidable (ltO x y):=by unfold ltO;infer_instance
def zhX (x:DOrder):¬ltO x x:=by unfold ltO;omega
def zqO {x y z:DOrder} (h:ltO x y) (k:ltO y z):ltO x z:=by unfold ltO at *;omega
def zqP {x y:DOrder} (h:¬ltO x y) (k:¬ltO y x):x=y:=by
 unfold ltO at *;exact DOrder.ext_iff.2 ⟨oo,oo,oo⟩
theorem zmt:∀ {l m:List DOrder},l.Pairwise ltO->m.Pairwise ltO->(∀ x,x∈l↔x∈m)->l=m
 | [],[],_,_,_=>rfl
 | [],y :: m,_,_,h=>by have:=(h y).2 ss;cases this
 | x :: l,[],_,_,h=>by have:=(h x).1 ss;cases this
 | x :: l,y :: m,h1,h2,h=>by
   rw [qaW] at h1 h2
   have hxy:x=y:=by
     rcases qaa.1 ((h x).1 ss) with e | hm
     . exact e
     rcases qaa.1 ((h y).2 ss) with e | hl
     . exact e.symm
     exact absurd (zqO (h1.1 y hl) (h2.1 x hm)) (zhX x)
   subst hxy;congr 1;refine zmt h1.2 h2.2 λz=>⟨λhz=>?_,λhz=>?_⟩
   . rcases qaa.1 ((h z).1 (by simp [hz])) with rfl | h'
     . exact absurd (h1.1 z hz) (zhX z)
     exact h'
   rcases qaa.1 ((h z).2 (by simp [hz])) with rfl | h'
   . exact absurd (h2.1 z hz) (zhX z)
   exact h'
instance:Inhabited DOrder:=⟨⟨0,0,0⟩⟩
def zC3 (x:DOrder):List vL:=[.int .i64 x.fr,.int .i64 x.to,.int .i64 x.at_]
def zzE:∀ {F:List Nat} {w:wD} {cs:List vL} {x:DOrder},Rep.rep F w cs x->cs=zC3 x:=by
 intro F w cs x h;obtain ⟨_,_,_,_,rfl,rfl,⟨rfl,rfl,_⟩,⟨_,_,_,_,rfl,rfl,⟨rfl,rfl,_⟩,⟨rfl,rfl,_⟩⟩⟩:=h;rfl
def zfq {x y:DOrder}:ltOf zzD x y=decide (ltO x y):=by
 unfold ltOf;rw [decide_eq_decide];exact zCD
def zCE:SWO (ltOf zzD):=by
 refine ⟨λx=>?_,λx y z h k=>?_,λx y z h k=>?_⟩
 . rw [zfq,decide_eq_false_iff_not];exact zhX x
 . rw [zfq,qau] at *;exact zqO h k
 rw [zfq,decide_eq_false_iff_not] at *;intro _;unfold ltO at *;omega
def zCF (l:List DOrder):List DOrder:=l.mergeSort λx y=>!(ltOf zzD) y x
def zmu (l:List DOrder):(zCF l).Perm l:=qcE l _
def zzF (l:List DOrder):(zCF l).length=l.length:=(zmu l).length_eq
def zCG (l:List DOrder):(zCF l).Pairwise λx y=>¬ltO y x:=by
 have:=qcq (le:=λx y=>!(ltOf zzD) y x) (λa b _ _ _=>by
   simp only [zfq,qaT,decide_eq_false_iff_not] at *;unfold ltO at *;omega) (λa b=>by
   simp only [zfq,qaQ,qaT,decide_eq_false_iff_not];unfold ltO;omega) l
 exact this.imp λh=>by simpa [zfq] using h
def zzG {l:List DOrder} (h:OwnI lo hi w v l) (hn:l.length<=1073741824) :
   CALL tp 162 [v,.func (.func 163) #[] #[]] w λ_ w'=>ChgI lo hi w w'/\OwnI lo hi w' v (zCF l):=by
 obtain ⟨F,hM,hF⟩:=h;by_cases hne:l=[]
 . subst hne
   obtain ⟨a,cap,hv⟩:∃ a cap,v=.slice a 0 cap:=by
     obtain ⟨_,⟨a,cap,_,xs,h,_⟩,hv⟩:=hM.own;exact ⟨a,cap,by rw [hv,h];rfl⟩
   subst hv;refine ⟨(AnyF.slices_SortFunc_none Tryz.sortOrder a cap _ w).mono ?_⟩;rintro e w' ⟨he,rfl⟩;refine ⟨_,he,ChgI.refl _,F,?_,hF⟩;have:zCF []=[]:=qaj (by rw [zzF];rfl);rw [this];exact hM
 obtain ⟨b,o,cap,xs,rfl,rfl,h1,h2,g4,g5,g9⟩:=ze6 hM hne;have g0:=@zzE;have hk:∀ x,(zC3 x).length=Rep.size DOrder:=λ_=>rfl;obtain ⟨c,e,g1⟩:=g9;have hb:b<w.heap.size:=(Array.getElem?_eq_some_iff.1 g1).1
 have g2:CmpLays tp 163 #[] zC3 3 zzD b o l.toArray.size w:=λm os dk _ x y=>by
   have:=zx4 (w:=sortWorldK zC3 3 w b o m dk os) (x:=x) (y:=y);obtain ⟨h⟩:=this;refine h.mono ?_;rintro e w' ⟨v,he,hv,q,gb,g3⟩;exact ⟨by rw [he,hv],q,gb,g3⟩
 refine ⟨(AnyQ.slices_SortFunc_total Tryz.sortOrder 3 Tryz.isAgg199 Tryz.sizeOf199 zC3 (λ_=>rfl) (λx v hv=>by
     simp only [zC3,qaa,qag,qaz] at hv;rcases hv with rfl | rfl | rfl<;>rfl) zzD zCE 163 #[] b o cap l.toArray w (zex (ent 163 dD kK)) g2 (zlP g0 hk ⟨c,e,g1⟩ g4 g5) hb so (λx y h k=>by
     rw [zfq,decide_eq_false_iff_not] at *;exact zqP h k)).mono ?_⟩
 rintro _ w' ⟨he,_,os,g3⟩;have hs:=zlQ g0 hk (cap:=cap) g3 ⟨c,e,g1⟩ g4 g5 h1 h2 ss (λx hx=>by simpa [List.mem_mergeSort] using hx);refine ⟨_,he,?_,[b],?_,hF⟩
 . exact hs.1.toI (λi hi=>hF i hi)
 exact hs.2
def OrdP (c:DCode) (fr to i:Nat):Prop:=MetP c i/\(zap c i).op=6/\agN c i=to/\MayP c i fr
def mkO (fr to i:Nat):DOrder:=⟨fr,to,i⟩
theorem MayP.locks (hc:CodeR c) {i l:Nat} (h:MayP c i l):l<c.locks.length:=by
 induction h with
 | lock hm ho ha hj=>subst ha;exact (zdA hc (hm.lt hc) (.inl ho)).2.1
 | pass _ _ _ _ _ ih=>exact ih
 | call _ _ _ ih=>exact ih
 | back _ _ _ _ _ ih=>exact ih
open Classical in
noncomputable def zg7 (c:DCode) (fr to i:Nat):List DOrder:=if OrdP c fr to i then [mkO fr to i] else []
noncomputable def zmv (c:DCode) (fr to:Nat):List DOrder:=(List.range c.ins.length).flatMap (zg7 c fr to)
noncomputable def zjp (c:DCode) (fr:Nat):List DOrder:=(List.range c.locks.length).flatMap (zmv c fr)
noncomputable def ze3 (c:DCode):List DOrder:=(List.range c.locks.length).flatMap (zjp c)
def zhu {x:DOrder}:x∈zg7 c fr to i↔OrdP c fr to i/\x=mkO fr to i:=by
 unfold zg7;split
 . rename_i h;simp [h]
 rename_i h;simp [h]
def zkZ (hc:CodeR c) {x:DOrder}:x∈ze3 c↔∃ fr to i,OrdP c fr to i/\x=mkO fr to i:=by
 unfold ze3 zjp zmv;simp only [qaV,qaL,zhu];constructor
 . rintro ⟨fr,_,to,_,i,_,h⟩;exact ⟨fr,to,i,h⟩
 rintro ⟨fr,to,i,h,e⟩;have hi:=h.1.lt hc;exact ⟨fr,h.2.2.2.locks hc,to,h.2.2.1▸(zdA hc hi (.inl h.2.1)).2.1,i,hi,h,e⟩
theorem zj5 {α β:Type} {f:α->List β} {B:Nat}:∀ {l:List α},(∀ a∈l,(f a).length<=B)->(l.flatMap f).length<=l.length*B
 | [],_=>by simp
 | a :: l,h=>by
   have h1:=h a ss;have h2:=zj5 (l:=l) λb hb=>h b (by simp [hb]);simp only [qbG,qab,qam,qbu];omega
def zx5 (c:DCode) (fr to i:Nat):(zg7 c fr to i).length<=1:=by unfold zg7;split<;>simp
def zqQ (c:DCode) (fr to k:Nat):((List.range k).flatMap (zg7 c fr to)).length<=k:=by
 have:=zj5 (l:=List.range k) λa _=>zx5 c fr to a;simpa using this
def zqR (hn:c.ins.length<=1500) (fr k:Nat):((List.range k).flatMap (zmv c fr)).length<=k*1500:=by
 have:=zj5 (l:=List.range k) (f:=zmv c fr) (B:=1500) λa _=>qal (zqQ c fr a _) hn;rw [qbN] at this;exact this
def zqS (hn:c.ins.length<=1500) (hl:c.locks.length<=6) (k:Nat):((List.range k).flatMap (zjp c)).length<=k*9000:=by
 have:=zj5 (l:=List.range k) (f:=zjp c) (B:=9000) λa _=>by
   have:=zqR hn a c.locks.length;unfold zjp;omega
 rw [qbN] at this;exact this
def ztP (hc:CodeR c):(ze3 c).length<=54000:=by
 have h6:=hc.1.locks6;exact qal (zqS hc.f.ins h6 _) oo
def zse (c:DCode):(ze3 c).Pairwise ltO:=by
 unfold ze3 zjp zmv;have hr:∀ n,(List.range n).Pairwise (λa b=>a<b):=λn=>qcr;refine qbK.2 ⟨λ_ _=>qbK.2 ⟨λ_ _=>qbK.2 ⟨λ_ _=>?_,(hr _).imp ?_⟩,(hr _).imp ?_⟩,(hr _).imp ?_⟩
 . unfold zg7;split<;>simp
 . intro a b C x hx y hy;obtain ⟨_,rfl⟩:=zhu.1 hx;obtain ⟨_,rfl⟩:=zhu.1 hy;exact .inr ⟨rfl,.inr ⟨rfl,qc7.2 C⟩⟩
 . intro a b C x hx y hy;simp only [qaV,zhu] at hx hy;obtain ⟨_,_,_,rfl⟩:=hx;obtain ⟨_,_,_,rfl⟩:=hy;exact .inr ⟨rfl,.inl (qc7.2 C)⟩
 intro a b C x hx y hy;simp only [qaV,zhu] at hx hy;obtain ⟨_,_,_,_,_,rfl⟩:=hx;obtain ⟨_,_,_,_,_,rfl⟩:=hy;exact .inl (qc7.2 C)
def zBs (c:DCode) (i:Nat) (l:Int):DOrder:=⟨l,agN c i,i⟩
open Classical in
noncomputable def zvl (c:DCode) (i:Nat):List DOrder:=if MetP c i/\(zap c i).op=6 then (zbX (zax (zqr c) i)).map (zBs c i) else []
noncomputable def zrk (c:DCode) (k:Nat):List DOrder:=(List.range k).flatMap (zvl c)
def zqT (hm:m<64) {x:Int}:x∈zbX m↔∃ i:Nat,x=(i:Int)/\m.testBit i=true:=by
 unfold zbX;rw [zdQ];constructor
 . rintro ⟨i,_,h⟩;exact ⟨i,h⟩
 rintro ⟨i,h,hb⟩;exact ⟨i,by have:=zgN hm hb;omega,h,hb⟩
theorem zmw (m:Nat):∀ k,(zdP m k).Pairwise (λa b=>a<b)
 | 0=>by simp [zdP]
 | k+1=>by
   rw [zdP];split
   . refine qce.2 ⟨zmw m k,ss,λa ha b hb=>?_⟩;obtain ⟨i,hi,rfl,_⟩:=zdQ.1 ha;simp only [qay] at hb;omega
   exact zmw m k
def ztQ {x:DOrder} (hi:i<c.ins.length):x∈zvl c i↔∃ fr to,OrdP c fr to i/\fr<6/\x=mkO fr to i:=by
 unfold zvl;split
 . rename_i h;rw [zrX hi];simp only [qa3,zqT zl9,znz];constructor
   . rintro ⟨_,⟨l,rfl,h6,hm⟩,rfl⟩;exact ⟨l,agN c i,⟨h.1,h.2,rfl,hm⟩,h6,rfl⟩
   rintro ⟨fr,to,hp,h6,rfl⟩;refine ⟨fr,⟨fr,rfl,h6,hp.2.2.2⟩,?_⟩;unfold zBs mkO;rw [hp.2.2.1]
 rename_i h;constructor
 . intro h;cases h
 rintro ⟨fr,to,hp,_⟩;exact absurd ⟨hp.1,hp.2.1⟩ h
def zzH:(zvl c i).length<=64:=by
 unfold zvl;split
 . rw [qaD];exact zgi _ 64
 simp
def zzI (c:DCode) (k:Nat):(zrk c k).length<=k*64:=by
 have:=zj5 (l:=List.range k) λa _=>zzH (c:=c) (i:=a);rw [qbN] at this;exact this
def zuN (x y:DOrder):ltO x y\/x=y\/ltO y x:=by
 by_cases h1:ltO x y
 . exact .inl h1
 by_cases h2:ltO y x
 . exact .inr (.inr h2)
 exact .inr (.inl (zqP h1 h2))
def zx6 (hc:CodeR c):zCF (zrk c c.ins.length)=ze3 c:=by
 have g0:∀ x,x∈zrk c c.ins.length↔x∈ze3 c:=λx=>by
   rw [zkZ hc];unfold zrk;simp only [qaV,qaL];constructor
   . rintro ⟨i,hi,hx⟩;obtain ⟨fr,to,h,_,e⟩:=(ztQ hi).1 hx;exact ⟨fr,to,i,h,e⟩
   rintro ⟨fr,to,i,h,e⟩;have hi:=h.1.lt hc;have:=h.2.2.2.locks hc;have h6:=hc.1.locks6;exact ⟨i,hi,(ztQ hi).2 ⟨fr,to,h,oo,e⟩⟩
 have g1:(zrk c c.ins.length).Pairwise (λx y=>x≠y):=by
   unfold zrk;refine qbK.2 ⟨λi _=>?_,List.pairwise_lt_range.imp ?_⟩
   . unfold zvl;split
     . refine qbA.2 ((zmw _ _).imp λ{a b} h e=>?_);have:=qat DOrder.fr e;unfold zBs at this;simp only at this;omega
     simp
   intro a b _ x hx y hy e
   have h1:∀ {i:Nat} {x:DOrder},x∈zvl c i->x.at_=i:=λ{i x} hx=>by
     unfold zvl at hx;split at hx
     . obtain ⟨_,_,rfl⟩:=qa3.1 hx;rfl
     cases hx
   have:=h1 hx;have h2:=h1 hy;rw [e,h2] at this;omega
 refine zmt ?_ (zse c) λx=>(zmu _).mem_iff.trans (g0 x);have h1:=zCG (zrk c c.ins.length);have h2:(zCF (zrk c c.ins.length)).Pairwise (λx y=>x≠y):=(zmu _).symm.pairwise g1 (λh e=>h e.symm);refine (qc8.2 ⟨h1,h2⟩).imp λ{x y} h=>?_;rcases zuN x y with h3 | h3 | h3
 . exact h3
 . exact absurd h3 h.2
 exact absurd h3 h.1
def zBt {a b d:Int} (ha:I64 a) (hb:I64 b) (hd:I64 d):Is w (.agg #[.int .i64 a,.int .i64 b,.int .i64 d]) (⟨a,b,d⟩:DOrder):=
 ⟨[],_,⟨[],[],[.int .i64 a],_,rfl,rfl,⟨rfl,rfl,ha⟩,⟨[],[],[.int .i64 b],_,rfl,rfl,⟨rfl,rfl,hb⟩,⟨rfl,rfl,hd⟩⟩⟩,rfl⟩
structure OI (wb w:wD) (out:vL) (L:List DOrder):Prop where
 ext:Ext wb w
 row:∃ lo hi,wb.heap.size<=lo/\hi<=w.heap.size/\RowI lo hi 199 w out L
def OI.step {out:vL} {L:List DOrder} (h:OI wb w out L) (hx:Ext w w'):OI wb w' out L:=by
 obtain ⟨lo,hi,h1,h2,hr⟩:=h.row;exact ⟨h.ext.trans hx,lo,hi,h1,qal h2 hx.size,hr.ext hx⟩
def OI.own {out:vL} {L:List DOrder} (h:OI wb w out L):Own wb.heap.size w out L:=by
 obtain ⟨_,_,_,_,hr⟩:=h.row;exact hr.own.own.mono oo
def zx7 (hW:WAt W0 b c) (e0:Ext W0 w) (hc:CodeR c) :
   CALL tp 86 [.pointer (some ⟨b,0,none⟩)] w λr w'=>Ext w w'/\Own w.heap.size w' r (ze3 c):=by
 refine co (g:=kf [] [(5,72057594035831520,[5,21]),(9,36024398972453408,[5,42])] []) Tryz.func86 ?_;have hil:=hc.f.ins;have g0:=hW.wl.code;refine (zBl hW e0 hc).mono ?_;rintro _ _ ⟨gl,gn⟩;refine (zEf hW (e0.t gl) gn.is (xrf _) hc).mono ?_;rintro _ w2 ⟨gp,gF⟩;have C:=gl.t gp;have gG:=gn.is.ext gp;have gH:=gF.is;have gI:=C.size;refine NIL.mk rfl<|zaa zbc<|zaa zaH<|zab zcQ (zao g0) (e0.t C) λ_ gq=>zae u32 gq ?_;have gr:(zg9 c).length=c.ins.length:=by unfold zg9;rw [zam]
 have gJ:=zzI c;have gK:OI w2 w2 (.slice none 0 0) (zrk c 0):=⟨xrf _,w2.heap.size,w2.heap.size,lr _,qaE _,zbL _ _ _ _⟩;refine zar c.ins.length (λk us w'=>∃ out,us=[out,.int .i64 (k:Int)]/\k<=c.ins.length/\OI w2 w' out (zrk c k)) 0 (z0 _) ⟨_,rfl,z0 _,gK⟩ ?_;rintro k mk _ w3 _ ⟨out,hu,_,M⟩;obtain ⟨gL,gM⟩:=zcv hu;rw [gL,gM];have O:zrk c (k+1)=zrk c k++zvl c k:=zhV k;have gb:=gJ k;refine zah<|br (λ_=>?_) (λ_=>?_)
 case refine_2=>
   have gN:k=c.ins.length:=oo;rw [gN] at M gb;obtain ⟨lo,hi,h1,h2,hr⟩:=M.row;refine (zzG hr.own oo).mono ?_;rintro _ w4 ⟨gO,gs⟩;rw [zx6 hc] at gs;exact ⟨(C.t M.ext).chgI gO oo,gs.own.mono oo⟩
 have hk:k<c.ins.length:=oo;refine zac u32 zdw gq hk λ_ _ gt=>?_;rw [zaR] at gt;refine zab zdw gt ((e0.t C).trans M.ext) λ_ gx=>zbN zsM rfl zdw rfl gx ((e0.t C).trans M.ext) λw4 gy gP gz=>?_;have U:=M.step gy;have hgl:w3.heap.size<w4.heap.size:=gz.lt;have gc:=zcV gx gz rfl;have gQ:=zaZ (ms:=zg9 c) (i:=k) (by rw [gr];exact hk)
 have g1:(zg9 c)[k]=true↔MetP c k:=by
   rw [<-gQ];unfold zg9;rw [zaM];exact ⟨λh=>h.2,λh=>⟨oo,h⟩⟩
 refine zaa zbE<|zad ty3 (zaD gP) (xrf _) λ_=>zaJ ?_
 have gA:¬(MetP c k/\(zap c k).op=6)->zrk c (k+1)=zrk c k:=λh=>by
   rw [O];unfold zvl;rw [qad h,qaJ]
 refine br (λgR=>?_) (λgS=>?_)
 . refine zaw ?_;exact ⟨mk-1,oo,k+1,oo,out,rfl,oo,by rw [gA λh=>gR h.2];exact U⟩
 have h6:(zap c k).op=6:=qaf.1 gS;refine zac zdj ty4 (i:=k) gG (by rw [gr];exact hk) λ_ _ gT=>zaC ty4 gT U.ext<|zau<|zaN (λhf=>?_) (λhf=>?_)
 . have gU:¬MetP c k:=λh=>by rw [g1.2 h] at hf;cases hf
   refine zaw<|⟨mk-1,oo,k+1,oo,out,rfl,oo,by rw [gA λh=>gU h.1];exact U⟩
 have gV:MetP c k:=g1.1 (by simpa using hf);have gW:=(zdA hc hk (.inl h6)).1;have hA:zvl c k=(zbX (zax (zqr c) k)).map (zBs c k):=by unfold zvl;rw [qah ⟨gV,h6⟩]
 rw [hA] at O;refine zac u31 ty3 (i:=k) gH (by rw [zaf,zkU];exact hk) λ_ _ gB=>?_;rw [zaS] at gB;refine zad ty3 gB U.ext λ_=>?_;have g2:=zdI (zxq c) k;generalize hmm:zax (zqr c) k=m at *;refine (zd2 (m:=m) oo).mono ?_;rintro gX w5 ⟨g4,gC⟩;have gY:=U.step g4;have gZ:=zgi m 64;have hbL:(zbX m).length<=64:=gZ;refine zae u31 gC.is ?_;obtain ⟨Fb,gD,h4⟩:=gC;have hs5:=g4.size;have hlb:=gD.lt;refine zar (zbX m).length (λj us w'=>∃ out',us=[out',.int .i64 (j:Int)]/\j<=(zbX m).length/\Ext w2 w'/\w5.heap.size<=w'.heap.size/\Mine Fb w' gX (zbX m)/\AtB W0 w' w3.heap.size 0 (zap c k)/\∃ lo hi,w2.heap.size<=lo/\hi<=w'.heap.size/\RowI lo hi 199 w' out' (zrk c k++((zbX m).take j).map (zBs c k))/\(w3.heap.size<lo\/hi<=w3.heap.size)/\∀ b∈Fb,b<lo\/hi<=b) 0 (z0 _) ⟨out,rfl,z0 _,gY.ext,lr _,gD,gc.ext g4,?_⟩ ?_
 . obtain ⟨lo,hi,h1,h2,hr⟩:=M.row;refine ⟨lo,hi,h1,oo,by simpa using (hr.ext (gy.t g4)),.inr h2,λb hb=>.inr ?_⟩;have:=h4 b hb;omega
 rintro j mj _ _ _ ⟨gd,h5,_,D,_,g5,g3,lo,hi,h1,h2,gf,h8,gE⟩;obtain ⟨gg,gh⟩:=zcv h5;rw [gg,gh];refine zah<|br (λ_=>?_) (λ_=>?_)
 case refine_2=>refine zaw<|⟨mk-1,oo,k+1,oo,gd,rfl,oo,?_⟩;rw [O];rw [qai oo] at gf;exact ⟨D,lo,hi,h1,h2,gf⟩
 have hj:j<(zbX m).length:=oo;refine zac u31 ty3 (i:=j) g5.is hj λ_ _ h9=>zad ty3 h9 (xrf _) λ_=>?_;have gi:=g3.at ((e0.t C).trans D);refine zaa zbG<|zad ty3 (zaF gi) (xrf _) λ_=>zas (cells:=#[.int .i64 (zbX m)[j],.int .i64 (zap c k).arg,.int .i64 (k:Int)]) kK ?_;obtain ⟨_,_,gj⟩:=(zqT g2).1 (qac hj);have hl6:=zgN g2 gj;have hW:zBs c k (zbX m)[j]=⟨(zbX m)[j],(zap c k).arg,k⟩:=by unfold zBs;rw [gW]
 have ha:=(zdA hc hk (.inl h6)).2.2
 have hd:(zrk c k++((zbX m).take j).map (zBs c k)).length<=200000:=by
   simp only [qab,qaD,qao];omega
 refine zdX (x:=(⟨(zbX m)[j],(zap c k).arg,k⟩:DOrder)) zAU zpI zE4 zDv dD gf (lo2:=0) (hi2:=0) (zjn (zBt io io io)) (by rw [zak];omega) oo λv' w' he hg g9 hh _=>?_;have hs7:=g9.size;have hl:=D.size;refine zaw<|⟨mj-1,oo,j+1,oo,v',rfl,oo,D.chgI g9 h1,oo,g5.keep λb hb=>?_,g3.keep ?_,he,hg,oo,oo,?_,oo,λb hb=>?_⟩
 . exact g9.block b (g5.lt b hb) (gE b hb)
 . exact g9.block _ oo h8
 . rw [tk hj,qbh,<-qaA];simp only [qbX,qcy];rw [hW];exact hh
 have:=gE b hb;have:=g5.lt b hb;omega
def zx8 (h0:Is W0 v0 c) (e0:Ext W0 w) (hc:CodeR c) :
   CALL tp 180 [v0] w λr w'=>Ext w w'/\Own w.heap.size w' r (ze3 c):=by
 refine co (g:=kf [] [(4,75557863725914323417320,[3,5]),(7,75557863725914323157192,[3,6]),(10,75557863725914289864840,[3,7])] []) Tryz.func180 ?_;have gt:=hc.f.ins;have gD:=hc.1.locks6;refine zbk h0 e0 λ_ gE hA=>zaI (α:=DOrder) zAU zpI λa8 _ gd _=>?_;have g0:=gE.t gd;refine zab zbO hA gd λ_ h9=>?_;refine (zqD h9 gd hc).mono ?_;rintro _ w3 ⟨gx,_,rfl,gh,gi⟩;have g1:=g0.t gx;have V:=gd.t gx;have hs2:=g0.size;have gy:(zg9 c).length=c.ins.length:=by unfold zg9;rw [zam]
 generalize hwb:w3=wb at *;have gF:OI wb wb (.slice (some a8) 0 0) ((List.range 0).flatMap (zjp c)):=⟨xrf _,wb.heap.size,wb.heap.size,lr _,qaE _,zcg _ _ _ _ _⟩;refine zar c.locks.length (λk us w'=>∃ out,us=[out,.int .i64 (k:Int)]/\k<=c.locks.length/\OI wb w' out ((List.range k).flatMap (zjp c))) 0 (z0 _) ⟨_,rfl,z0 _,gF⟩ ?_;rintro fr mk _ _ _ ⟨out,hu,_,Z⟩;obtain ⟨gG,gH⟩:=zcv hu;rw [gG,gH];refine zaa zdM<|zab zb9 (zbq hA) (V.t Z.ext) λ_ gI=>zae u26 gI<|zah<|br (λ_=>?_) (λ_=>?_)
 case refine_2=>
   have g2:fr=c.locks.length:=oo;rw [g2] at Z;exact ⟨g1.t Z.ext,Z.own.mono (by have:=g1.size;omega)⟩
 have hfr:fr<c.locks.length:=oo;refine zar c.locks.length (λk us w'=>∃ out,us=[out,.int .i64 (k:Int)]/\k<=c.locks.length/\OI wb w' out ((List.range fr).flatMap (zjp c)++(List.range k).flatMap (zmv c fr))) 0 (z0 _) ⟨_,rfl,z0 _,by simpa using Z⟩ ?_;rintro to gJ _ _ _ ⟨gj,gK,_,gf⟩;obtain ⟨gl,gn⟩:=zcv gK;rw [gl,gn];refine zaa zdM<|zab zb9 (zbq hA) (V.t gf.ext) λ_ gL=>zae u26 gL<|zah<|br (λ_=>?_) (λ_=>?_)
 case refine_2=>
   have g2:to=c.locks.length:=oo;rw [g2] at gf;refine zaw<|⟨mk-1,oo,fr+1,oo,gj,rfl,oo,by rw [zhV];exact gf⟩
 have hto:to<c.locks.length:=oo;refine zar c.ins.length (λk us w'=>∃ out,us=[out,.int .i64 (k:Int)]/\k<=c.ins.length/\OI wb w' out ((List.range fr).flatMap (zjp c)++(List.range to).flatMap (zmv c fr)++(List.range k).flatMap (zg7 c fr to))) 0 (z0 _) ⟨_,rfl,z0 _,by simpa using gf⟩ ?_;rintro i O _ _ _ ⟨D,gp,_,C⟩;obtain ⟨g3,g4⟩:=zcv gp;rw [g3,g4];have M:=V.t C.ext;refine zaa zaH<|zab zcQ (zao hA) M λ_ gM=>zae u32 gM<|zah<|br (λ_=>?_) (λ_=>?_)
 case refine_2=>
   have g2:i=c.ins.length:=oo;rw [g2] at C;refine zaw<|⟨gJ-1,oo,to+1,oo,D,rfl,oo,by rw [zhV,<-qaA];exact C⟩
 have hi:i<c.ins.length:=oo
 have g5:(List.range fr).flatMap (zjp c)++(List.range to).flatMap (zmv c fr)++(List.range (i+1)).flatMap (zg7 c fr to)=(List.range fr).flatMap (zjp c)++(List.range to).flatMap (zmv c fr)++(List.range i).flatMap (zg7 c fr to)++zg7 c fr to i:=by
   rw [zhV,<-qaA]
 have gN:((List.range fr).flatMap (zjp c)++(List.range to).flatMap (zmv c fr)++(List.range i).flatMap (zg7 c fr to)).length<=100000:=by
   have h1:=zqS gt gD fr;have h2:=zqR gt fr to;have h3:=zqQ c fr to i;simp only [qab];omega
 generalize (List.range fr).flatMap (zjp c)++(List.range to).flatMap (zmv c fr)=Lp at *
 have gg:¬OrdP c fr to i->Lp++(List.range (i+1)).flatMap (zg7 c fr to)=Lp++(List.range i).flatMap (zg7 c fr to):=λh=>by
   rw [g5];unfold zg7;rw [qad h,qaJ]
 have gq:OrdP c fr to i->Lp++(List.range (i+1)).flatMap (zg7 c fr to)=Lp++(List.range i).flatMap (zg7 c fr to)++[mkO fr to i]:=λh=>by
   rw [g5];congr 1;unfold zg7;rw [qah h]
 refine NIL.mk rfl<|zaa zif<|zab zcR gh C.ext λ_ gO=>?_;have gP:=zaZ (ms:=zg9 c) (i:=i) (by rw [gy];exact hi)
 have g9:(zg9 c)[i]=true↔MetP c i:=by
   rw [<-gP];unfold zg9;rw [zaM];exact ⟨λh=>h.2,λh=>⟨oo,h⟩⟩
 refine zac zdj ty4 (i:=i) gO (by rw [gy];exact hi) λ_ _ gQ=>zaC ty4 gQ C.ext<|zaN (λht=>?_) (λhf=>?_)
 case refine_2=>
   have gR:¬MetP c i:=λh=>by rw [g9.2 h] at hf;cases hf
   refine zaw<|⟨O-1,oo,i+1,oo,D,rfl,oo,by rw [gg λh=>gR h.1];exact C⟩
 have hM:=g9.1 ht;refine zaa zaH<|zab zcQ (zao hA) M λ_ gS=>zac u32 zdw gS hi λ_ _ gz=>?_;rw [zaR] at gz;refine zaa zbE<|zad ty3 (zaD gz) M λ_=>zag<|br (λh6=>?_) (λh6=>?_)
 case refine_2=>refine zaw<|⟨O-1,oo,i+1,oo,D,rfl,oo,by rw [gg λh=>h6 h.2.1];exact C⟩
 obtain ⟨gT,_,_⟩:=zdA hc hi (.inl h6);refine zaa zaH<|zab zcQ (zao hA) M λ_ gU=>zac u32 zdw gU hi λ_ _ gA=>?_;rw [zaR] at gA;refine zaa zbG<|zad ty3 (zaF gA) M λ_=>zag<|br (λgb=>?_) (λgb=>?_)
 case refine_2=>refine zaw<|⟨O-1,oo,i+1,oo,D,rfl,oo,by rw [gg λh=>gb (by rw [gT,h.2.2.1])];exact C⟩
 refine NIL.mk rfl<|zaa zgB<|zab zcn gi C.ext λ_ gV=>zac u31 ty3 (i:=i) gV (by rw [zaf,zkU];exact hi) λ_ _ gB=>?_;rw [zaS] at gB;refine zad ty3 gB C.ext λ_=>?_;have gW:=zdI (zxq c) i;refine (zzl (m:=zax (zqr c) i) (i:=fr) oo oo).mono ?_;rintro _ _ ⟨gr,rfl⟩
 have gc:(zax (zqr c) i).testBit fr=true↔MayP c i fr:=by
   rw [zrX hi,znz];exact ⟨λh=>h.2,λh=>⟨oo,h⟩⟩
 have U:=C.step gr;refine zaN (λhb=>?_) (λhb=>?_)
 case refine_2=>refine zaw<|⟨O-1,oo,i+1,oo,D,rfl,oo,by rw [gg λh=>by rw [gc.2 h.2.2.2] at hb;cases hb];exact U⟩
 have hP:OrdP c fr to i:=⟨hM,h6,oo,gc.1 hb⟩;refine zas (cells:=#[.int .i64 fr,.int .i64 to,.int .i64 i]) kK ?_;obtain ⟨_,_,h1,h2,hr⟩:=U.row;refine zdX (x:=(mkO fr to i:DOrder)) zAU zpI zE4 zDv dD hr (lo2:=0) (hi2:=0) (zjn (zBt io io io)) (by rw [zak];omega) oo λv' w' gX gs gC gY _=>?_;have hs7:=gC.size;have gZ:=U.ext.size;refine zaw<|⟨O-1,oo,i+1,oo,v',rfl,oo,U.ext.chgI gC h1,gX,gs,oo,oo,?_⟩;rw [gq hP];exact gY
def zx9 {ms:List Bool} (h0:Is W0 v0 ms) (e0:Ext W0 w) (hn:ms.length<=2000000) :
   CALL tp 147 [v0] w λr w'=>Ext w w'/\Own w.heap.size w' r (zaK (zzj ms ms.length)):=by
 refine co (g:=kf [] [(3,524088,[3,8])] []) Tryz.func147 ?_;refine zae zdj h0<|zar ms.length (λk us w'=>∃ (v:vL),us=[v,.int .i64 (k:Int)]/\k<=ms.length/\Ext w w'/\RowI w.heap.size w'.heap.size 3 w' v (zaK (zzj ms k))) 0 (z0 _) ⟨_,rfl,z0 _,xrf _,zbL _ _ _ _⟩ ?_;rintro k mk _ w2 _ ⟨v,hu,_,C,g0⟩;obtain ⟨g2,g3⟩:=zcv hu;rw [g2,g3];refine zah<|br (λ_=>?_) (λ_=>?_)
 case refine_2=>
   have:k=ms.length:=oo;rw [this] at g0;exact ⟨C,g0.own.own⟩
 have hk:k<ms.length:=oo;have g1:=C.size;have hg:ms.getD k false=ms[k]:=by rw [List.getD_eq_getElem?_getD,List.getElem?_eq_getElem hk];rfl
 have hil:=zts ms k;refine zac zdj ty4 h0 hk λ_ _ g4=>zaC ty4 g4 (e0.t C)<|zaN (λhf=>?_) (λhf=>?_)
 . refine zbs (lo2:=w2.heap.size) (hi2:=w2.heap.size) (x:=(k:Int)) u31 ty3 z3 zc3 dD g0 g1 (zc2 _ _ io) (lr _) g1 (by rw [zak,zaf];omega) (by rw [zaf];omega) λg5 _ g9 gb=>?_;refine zaw<|⟨mk-1,oo,k+1,oo,g5,rfl,oo,C.chgI g9 (lr _),?_⟩;rw [zja,hg,hf,qah rfl,zcz];exact gb
 refine zaw<|⟨mk-1,oo,k+1,oo,v,rfl,oo,C,?_⟩;rw [zja,hg,hf];simpa using g0
def zBu (a b s:Nat):Prop:=∃ r t,a.testBit r=true/\b.testBit t=true/\(r≠t\/s.testBit r=false)
def zzJ:∀ a,a<256->a &&& (a-1)≠0->∃ r,r<8/\∃ t,t<8/\r≠t/\a.testBit r=true/\a.testBit t=true:=by decide +kernel
def zCH:∀ a,a<256->∀ r,r<8->∀ t,t<8->(a &&& (a-1)=0/\a.testBit r=true/\a.testBit t=true->r=t):=by decide +kernel
def zya (h:m<256) (hb:m.testBit l=true):l<8:=qbe λhc=>by
 have:=qbn (qan (show m<2^8 from h) (qaG oo (by omega:8<=l)));rw [this] at hb;cases hb
def zpi (h:m≠0):∃ i,m.testBit i=true:=Nat.exists_testBit_of_ne_zero h
def zyb (h:m=0) (i:Nat):¬m.testBit i=true:=by rw [h];simp
def zzK {a b s:Nat} (ha:a<256) (hb:b<256) (hs:s<256) :
   CALL tp 81 [.int .i64 (a:Int),.int .i64 (b:Int),.int .i64 (s:Int)] w λv w'=>Ext w w'/\∃ x:Bool,v=.bool x/\(x=true↔zBu a b s):=by
 refine co (g:=kf [] [] []) Tryz.func81 ?_;refine zag<|br (λh=>?_) (λ_=>?_)
 . exact ⟨xrf _,false,rfl,⟨λe=>(by cases e),λ⟨r,t,h1,_⟩=>absurd h1 (zyb oo r)⟩⟩
 refine zag<|br (λh=>?_) (λ_=>?_)
 . exact ⟨xrf _,false,rfl,⟨λe=>(by cases e),λ⟨r,t,_,h1,_⟩=>absurd h1 (zyb oo t)⟩⟩
 have hle:=qa4 (n:=a) (m:=b);refine zeS (m:=a) (n:=b) oo oo<|zho (m:=a &&& b) (n:=s) oo oo<|zaJ<|br (λh=>?_) (λh=>?_)
 . obtain ⟨i,hi⟩:=zpi (m:=zkQ (a &&& b) s) oo;rw [zdh,qaZ] at hi;simp only [qap,qaT] at hi;exact ⟨xrf _,true,rfl,⟨λ_=>⟨i,i,hi.1.1,hi.1.2,.inr hi.2⟩,λ_=>rfl⟩⟩
 have hz:zkQ (a &&& b) s=0:=by have:=qaf.1 h;omega
 refine zaJ<|br (λg0=>?_) (λg1=>?_)
 . refine ⟨xrf _,true,rfl,⟨λ_=>?_,λ_=>rfl⟩⟩;refine qbd λhn=>?_;have C:∀ r t,a.testBit r=true->b.testBit t=true->r=t:=λr t h1 h2=>qbd λe=>hn ⟨r,t,h1,h2,.inl e⟩;obtain ⟨r,hr⟩:=zpi (m:=a) oo;obtain ⟨t,ht⟩:=zpi (m:=b) oo;have g2:=C r t hr ht;subst g2
   have:a=b:=qbl λi=>by
     cases e1:a.testBit i<;>cases e2:b.testBit i
     . rfl
     . have:=C r i hr e2;subst this;rw [hr] at e1;cases e1
     . have:=C i r e1 ht;subst this;rw [ht] at e2;cases e2
     rfl
   exact g0 (by rw [this])
 have g3:a=b:=by have:=qaf.1 g1;omega
 subst g3;refine zbp io ?_;rw [show (a:Int)-1=((a-1:Nat):Int) by omega];refine zeS (m:=a) (n:=a-1) oo oo<|zaJ<|⟨xrf _,_,rfl,?_⟩;rw [qau];constructor
 . intro h;obtain ⟨r,_,t,_,h1,h2,h3⟩:=zzJ a ha oo;exact ⟨r,t,h2,h3,.inl h1⟩
 rintro ⟨r,t,h1,h2,h3⟩ _;have:=zCH a ha r (zya ha h1) t (zya ha h2) ⟨oo,h1,h2⟩;subst this;have hb:=zyb hz r;rw [zdh,qaZ,h1] at hb;rcases h3 with h3 | h3
 . exact h3 rfl
 rw [h3] at hb;simp at hb
def zuO (hW:WAt W0 b c) (e0:Ext W0 w) (hc:CodeR c) :
   CALL tp 79 [.pointer (some ⟨b,0,none⟩)] w λv w'=>Ext w w'/\∃ u,v=.tuple #[u,.int .i64 (zsd c:Nat)]/\Own w.heap.size w' u (zaK ((List.range c.ins.length).map (rtN c))):=by
 refine co (g:=kf [] [(3,33521696,[15])] []) Tryz.func79 ?_;have g9:=hc.f.ins
 have g0:0<c.ins.length:=by
   have:=hc.1.procs8;have:=(zeT hc this.2).2.2;omega
 refine NIL.mk rfl<|zaa zbc<|zaa zaH<|zab zcQ (zao hW.wl.code) e0 λ_ gb=>zae u32 gb ?_;have hn:c.ins.length=c.ins.length:=rfl;generalize hnn:c.ins.length=n at hn;rw [hnn] at g9 g0;refine zd3 g0 oo λw1 gc g4=>zj0 u31 ?_;generalize hg:w.heap.size=g at *;have hg1:=g4.lt g ss
 have gd:Mine [g] w1 (.slice (some ⟨g,0,none⟩) n n) (zaK ((List.range n).map λi=>if i<0 then rtN c i else 0)):=by
   have:(List.replicate n 0)=((List.range n).map λi=>if i<0 then rtN c i else 0):=by
     apply qaP
     . simp
     intro i h1 h2;simp
   rw [<-this];exact g4
 refine zar n (λk us w'=>us=[.int .i64 (k:Int)]/\k<=n/\ChgI g (g+1) w1 w'/\Mine [g] w' (.slice (some ⟨g,0,none⟩) n n) (zaK ((List.range n).map λi=>if i<k then rtN c i else 0))) 0 (z0 _) ⟨rfl,z0 _,ChgI.refl _,gd⟩ ?_;rintro k mk u w2 _ ⟨hu,_,g5,g1⟩;try replace hu:=zbv hu
 rw [hu];have g2:Ext w w2:=gc.chgI g5 oo;refine zah<|br (λ_=>?_) (λ_=>?_)
 case refine_2=>
   have hke:k=n:=oo;refine (zuL hW (e0.t g2) hc).mono ?_;rintro _ w3 ⟨C,rfl⟩;refine ⟨g2.t C,_,rfl,[g],?_,λb hb=>by simp at hb;omega⟩
   have:((List.range n).map λi=>if i<k then rtN c i else 0)=(List.range n).map (rtN c):=qa5 λi hi=>by
     have:=qaL.1 hi;rw [qah oo]
   rw [this] at g1;exact g1.ext C
 have hk:k<n:=oo;refine (zuM (i:=k) hW (e0.t g2) hc oo).mono ?_;rintro _ w3 ⟨C,rfl⟩;have hrt:=zx2 hc k;refine zb5 (α:=Int) (i:=k) rfl u31 ty3 hk<|zbm (α:=Int) rfl ty3 (g1.ext C) (by simp [zaK]) hk (zbS (v:=rtN c k) oo) λw4 gf gg=>?_;have g3:ChgI g (g+1) w3 w4:=zfl gf;refine zaw<|⟨mk-1,oo,k+1,oo,rfl,oo,(g5.trans C.toI).trans g3,?_⟩
 have:(zaK ((List.range n).map λi=>if i<k then rtN c i else 0)).set k (rtN c k:Nat)=zaK ((List.range n).map λi=>if i<k+1 then rtN c i else 0):=by
   unfold zaK;apply qaP
   . simp
   intro i h1 h2;simp only [qaD,qbN] at h2;rw [qcj];by_cases e:k=i
   . subst e;simp
   rw [qad e];simp only [qbM,qcJ];by_cases h:i<k
   . rw [qah h,qah oo]
   rw [qad h,qad oo]
 rw [<-this];exact gg
noncomputable def ztR (c:DCode) (i:Nat):List DTouch:=zep c (i:Int) ((zax (zjY c) i:Nat):Int)
noncomputable def znQ (c:DCode):List DTouch:=(zbb c.ins.length (MetP c)).flatMap (ztR c)
def zgU (hc:CodeR c) (a h:Int):(zep c a h).length<=12:=by
 have:=zr9 c a h;have h2:=hc.1.1;simp only [qap,qau] at h2;omega
def zmx (hc:CodeR c) (U:List Nat) (hU:U.length<=1500):(U.flatMap (ztR c)).length<=18000:=by
 have:=zhW (l:=U) (f:=ztR c) (B:=12) λ_ _=>zgU hc _ _;omega
def zuP (hW:WAt W0 b c) (e0:Ext W0 w) (hc:CodeR c) :
   CALL tp 78 [.pointer (some ⟨b,0,none⟩)] w λv w'=>Ext w w'/\Own w.heap.size w' v (znQ c):=by
 refine co (g:=kf [] [(4,1073733712,[4,13])] [(6,[0,1,2,3,4,5,6,7,8,9,10,11,12],1024)]) Tryz.func78 ?_;have hil:=hc.f.ins;refine (zCu hW e0 hc).mono ?_;rintro _ _ ⟨g4,gf⟩;refine (zBl hW (e0.t g4) hc).mono ?_;rintro _ _ ⟨g5,gg⟩;have g9:(zg9 c).length=c.ins.length:=by unfold zg9;rw [zam]
 refine (zx9 gg.is (xrf _) (by rw [g9];omega)).mono ?_;rintro _ w3 ⟨gb,M⟩;have C:=g4.t (g5.t gb);rw [g9] at M;unfold zg9 at M;rw [zhn] at M;have gh:=gf.is.ext (g5.t gb);have hUl:=zbe (n:=c.ins.length) (p:=MetP c);have gi:∀ i∈zbb c.ins.length (MetP c),i<c.ins.length:=λi hi=>(zaO.1 hi).1;unfold znQ;generalize zbb c.ins.length (MetP c)=U at *;refine zae u31 M.is ?_;rw [zaf];have gj:=C.size;refine zar U.length (λk us w'=>∃ out,us=[out,.int .i64 (k:Int)]/\k<=U.length/\Ext w3 w'/\RowI w3.heap.size w'.heap.size 134 w' out ((U.take k).flatMap (ztR c))) 0 (z0 _) ⟨_,rfl,z0 _,xrf _,zbL _ _ _ _⟩ ?_;rintro k mk _ w4 _ ⟨out,hu,_,g0,g2⟩;obtain ⟨gl,gn⟩:=zcv hu;rw [gl,gn];refine zah<|br (λ_=>?_) (λ_=>?_)
 case refine_2=>
   have gp:k=U.length:=oo;rw [gp,qaM] at g2;exact ⟨C.t g0,g2.own.own.mono oo⟩
 have hk:k<U.length:=oo;have hi:=gi U[k] (qac _);have gq:=zfP (f:=ztR c) hk;have hlk:=zmx hc (U.take k) (by rw [qao];omega);refine zac u31 ty3 (i:=k) M.is (by rw [zaf];exact hk) λ_ _ gc=>?_;rw [zaY] at gc;generalize U[k]=i at *;refine zad ty3 gc g0 λ_=>?_;have g3:=zai w4;have D:=g0.t g3;have gr:=g2.ext g3;have hsd:=g3.size;generalize World.drew1 w4=w5 at *;have e5:=e0.t (C.t D);refine NIL.mk rfl<|zaa zbc<|zab zbO hW.wl.code e5 λ_ gs=>zac u31 ty3 (i:=i) gh (by rw [zaf,zje];exact hi) λ_ _ gd=>?_;rw [zaS] at gd;refine zad ty3 gd D λ_=>?_;have gt:=zdI (zo0 c) i;refine (zqG (a:=(i:Int)) (held:=(zax (zjY c) i:Nat)) gs e5 hc oo oo io).mono ?_;rintro _ _ ⟨g1,gx⟩;refine ⟨g1,?_⟩;have h12:(ztR c i).length<=12:=zgU hc (i:Int) (zax (zjY c) i:Nat);have gy:=g0.size;have gz:=g1.size;refine zek (m:=ztR c i) zpH zee zuc (gr.ext g1) oo gx.is (xrf _) (by rw [zak];omega) oo λgA _ gB gC=>zaw<|⟨mk-1,oo,k+1,oo,gA,rfl,oo,(D.t g1).chgI gB (lr _),?_⟩;rw [gq];exact gC
def zyc (h0:Is W0 v0 c) (e0:Ext W0 w) (hc:CodeR c) :
   CALL tp 93 [v0] w λv w'=>Ext w w'/\Own w.heap.size w' v (znQ c):=by
 refine co (g:=kf [] [(5,34359705672,[3,6])] [(8,[0,1,2,3,4,5,6,7,8,9],128)]) Tryz.func93 ?_;have hil:=hc.f.ins;refine zbk h0 e0 λ_ gb hA=>zaI (α:=DTouch) zpH zee λ_ _ g4 _=>zab zbO hA g4 λ_ h8=>?_;refine (zuC h8 g4 hc).mono ?_;rintro _ _ ⟨gg,gh⟩;have M:=g4.t gg;refine zab zbO hA M λ_ gi=>?_;refine (zqD gi M hc).mono ?_;rintro _ w4 ⟨gc,_,rfl,g5,_⟩;have C:=M.t gc;have gj:=gh.is.ext gc;refine NIL.mk rfl<|zaa zif<|zab zcR g5 (xrf _) λ_ gl=>?_;have gd:(zg9 c).length=c.ins.length:=by unfold zg9;rw [zam]
 have hs1:=gb.size;have gn:=C.size;refine zar c.ins.length (λk us w'=>∃ out,us=[out,.int .i64 (k:Int)]/\k<=c.ins.length/\Ext w4 w'/\RowI w4.heap.size w'.heap.size 134 w' out ((zbb k (MetP c)).flatMap (ztR c))) 0 (z0 _) ⟨_,rfl,z0 _,xrf _,zcg _ _ _ _ _⟩ ?_;rintro i mk _ w5 _ ⟨out,hu,_,O,g2⟩;obtain ⟨gp,gq⟩:=zcv hu;rw [gp,gq];have g0:=C.t O;refine zaa zaH<|zab zcQ (zao hA) g0 λ_ gr=>zae u32 gr<|zah<|br (λ_=>?_) (λ_=>?_)
 case refine_2=>
   have gs:i=c.ins.length:=oo;rw [gs] at g2;exact ⟨gb.t g0,g2.own.own.mono oo⟩
 have hi:i<c.ins.length:=oo;have gt:=zaZ (ms:=zg9 c) (i:=i) (by rw [gd];exact hi)
 have g1:(zg9 c)[i]=true↔MetP c i:=by
   rw [<-gt];unfold zg9;rw [zaM];exact ⟨λh=>h.2,λh=>⟨hi,h⟩⟩
 refine zac zdj ty4 (i:=i) gl (by rw [gd];exact hi) λ_ _ gx=>zaC ty4 gx O<|zaN (λht=>?_) (λhf=>?_)
 case refine_2=>
   have gy:¬MetP c i:=λh=>by rw [g1.2 h] at hf;cases hf
   refine zaw<|⟨mk-1,oo,i+1,oo,out,rfl,oo,O,by rw [zdz gy];exact g2⟩
 have hM:=g1.1 ht
 have gz:(zbb (i+1) (MetP c)).flatMap (ztR c)=(zbb i (MetP c)).flatMap (ztR c)++ztR c i:=by
   rw [zdf hM,qaO];simp
 have hlk:=zmx hc (zbb i (MetP c)) (by have:=zbe (n:=i) (p:=MetP c);omega);have g9:=zai w5;have D:=O.t g9;have gA:=g2.ext g9;have hsd:=g9.size;generalize World.drew1 w5=w6 at *;refine zab zbO hA (C.t D) λ_ gB=>zac u31 ty3 (i:=i) gj (by rw [zaf,zje];exact hi) λ_ _ gf=>?_;rw [zaS] at gf;refine zad ty3 gf D λ_=>?_;have gC:=zdI (zo0 c) i;refine (zzw (a:=(i:Int)) (held:=(zax (zjY c) i:Nat)) gB (C.t D) hc oo oo io).mono ?_;rintro _ _ ⟨g3,gD⟩;refine ⟨g3,?_⟩;have h12:(ztR c i).length<=12:=zgU hc (i:Int) (zax (zjY c) i:Nat);have gE:=O.size;have gF:=g3.size;refine zek (m:=ztR c i) zpH zee zuc (gA.ext g3) oo gD.is (xrf _) (by rw [zak];omega) oo λgG _ gH gI=>zaw<|⟨mk-1,oo,i+1,oo,gG,rfl,oo,(D.t g3).chgI gH (lr _),?_⟩;rw [gz];exact gI
def zyd {b:Bool} {Q kt kf ks:Prop} (hq:b=true->Q) (key:Q->kt) (rest:(Q->kt)->b=false->kf):GBR (.bool b) kt kf ks:=
 zub (λh=>key (hq h)) (λh=>rest key h)
structure KQ2 (Q:List Nat->wD->Prop):Prop where
 keep:∀ {F:List Nat} {w w':wD},Q F w->(∀ b∈F,w'.heap[b]?=w.heap[b]?)->Q F w'
 lt:∀ {F:List Nat} {w:wD},Q F w->∀ b∈F,b<w.heap.size
structure TT (Q1 Q2:List Nat->wD->Prop) (wb w:wD) (F1 F2:List Nat):Prop where
 ext:Ext wb w
 q1:Q1 F1 w
 q2:Q2 F2 w
 b1:∀ b∈F1,wb.heap.size<=b
 b2:∀ b∈F2,wb.heap.size<=b
 dis:∀ b∈F1,b∉F2
section
variable {Q1 Q1' Q2:List Nat->wD->Prop} {wb w w1 w':wD} {F1 F2 F':List Nat}
def TT.swap (h:TT Q1 Q2 wb w F1 F2):TT Q2 Q1 wb w F2 F1:=⟨h.ext,h.q2,h.q1,h.b2,h.b1,λb hb hF=>h.dis b hF hb⟩
def TT.step (k1:KQ2 Q1) (k2:KQ2 Q2) (h:TT Q1 Q2 wb w F1 F2) (hx:Ext w w'):TT Q1 Q2 wb w' F1 F2:=
 ⟨h.ext.trans hx,k1.keep h.q1 λb hb=>hx.heap (k1.lt h.q1 b hb),k2.keep h.q2 λb hb=>hx.heap (k2.lt h.q2 b hb),h.b1,h.b2,h.dis⟩
def TT.grow (k1:KQ2 Q1) (k2:KQ2 Q2) (h:TT Q1 Q2 wb w F1 F2) {GX:List Nat} (hx:Ext w w1) (hc:Chg F1 w1 w') (hr:Q1' F' w') (hs:∀ c∈F',c∈F1\/c∈GX\/w.heap.size<=c) (hG:∀ c∈GX,wb.heap.size<=c/\c∉F2):TT Q1' Q2 wb w' F' F2:=by
 have h1:=h.step k1 k2 hx;refine ⟨h1.ext.chgF hc h.b1,hr,k2.keep h1.q2 λb hb=>hc.block b (k2.lt h1.q2 b hb) λhF=>h.dis b hF hb,λb hb=>?_,h.b2,λb hb hF=>?_⟩
 . rcases hs b hb with h2 | h2 | h2
   . exact h.b1 b h2
   . exact (hG b h2).1
   have:=h.ext.size;omega
 rcases hs b hb with h2 | h2 | h2
 . exact h.dis b h2 hF
 . exact (hG b h2).2 hF
 have:=k2.lt h.q2 b hF;omega
end
def zzL {α:Type} [Rep α] (e:TypeId) (v:vL) (L:List α) (F:List Nat) (w:wD):Prop:=RowG F e w v L/\F.Nodup
def zkv {α:Type} [Rep α] (e:TypeId) (v:vL) (L:List α):KQ2 (zzL e v L):=⟨λh hk=>⟨h.1.keep hk,h.2⟩,λh=>h.1.lt⟩
def zjw (c:DCode) (a b r s:Nat):Prop:=RootP c r/\RootP c s/\FromP c r a/\FromP c s b/\(r≠s\/¬ze2 c r)
def ziz (c:DCode) (a b:Nat):Prop:=∃ r s,zjw c a b r s
noncomputable instance (c:DCode) (r:Nat):Decidable (RootP c r):=Classical.propDecidable _
noncomputable def zjq (c:DCode) (k:Nat):List (List Bool):=(List.range k).map λr=>zbT c.procs.length (FromP c r)
noncomputable def zj6 (c:DCode) (k:Nat):List Bool:=(List.range k).map λr=>decide (RootP c r/\ze2 c r)
noncomputable def zvm (c:DCode) (k:Nat):List (List Bool):=(List.range k).map λa=>zbT c.procs.length (ziz c a)
def zuQ (c:DCode) (k:Nat):zjq c (k+1)=zjq c k++[zbT c.procs.length (FromP c k)]:=by unfold zjq;rw [qbC,qbh];rfl
def zuR (c:DCode) (k:Nat):zj6 c (k+1)=zj6 c k++[decide (RootP c k/\ze2 c k)]:=by unfold zj6;rw [qbC,qbh];rfl
def zye (c:DCode) (k:Nat):zvm c (k+1)=zvm c k++[zbT c.procs.length (ziz c k)]:=by unfold zvm;rw [qbC,qbh];rfl
def zuS (b:Bool):Mine [] w (.bool b) b:=by
 exact ⟨⟨_,⟨rfl,rfl⟩,rfl⟩,qas,Wr.nil _⟩
def zsf (h0:Is W0 v0 c) (e0:Ext W0 w) (hc:CodeR c) :
   CALL tp 94 [v0] w λv w'=>Ext w w'/\Own w.heap.size w' v (zvm c c.procs.length):=by
 refine co (g:=kf [] [(5,4398046380144,[4,5,6]),(11,5316911983139663491615219445028364160,[7,8]),(15,332306998946228968207937366560611328,[10]),(18,332306998946228965920108755856398336,[11]),(21,332306998946228673078046585717264384,[12])] []) Tryz.func94 ?_;have h8:=hc.1.procs8;have he:=hc.2.1.1;refine zbk h0 e0 λ_ h5 hA=>zab zbO hA (xrf _) λ_ hI=>?_;refine (zgR hI (xrf _) hc).mono ?_;rintro _ _ ⟨hJ,hK⟩;refine zaI (α:=List Bool) zud zcR λhL _ hM _=>zaI (α:=Bool) zdj ty4 λhN wb hO _=>?_;have gd:=hM.t hO;have V:=hJ.t gd;have gy:=hK.is.ext gd;have hs1:=h5.size;have hP:=V.size
 have hQ:TT (zzL 125 (.slice (some hL) 0 0) (zjq c 0)) (zzL 4 (.slice (some hN) 0 0) (zj6 c 0)) wb wb [] []:=
   ⟨xrf _,⟨.inl ⟨_,rfl,rfl,rfl⟩,qas⟩,⟨.inl ⟨_,rfl,rfl,rfl⟩,qas⟩,ss,ss,ss⟩
 refine zar c.procs.length (λk us w'=>∃ fv sv F1 F2,us=[fv,sv,.int .i64 (k:Int)]/\k<=c.procs.length/\TT (zzL 125 fv (zjq c k)) (zzL 4 sv (zj6 c k)) wb w' F1 F2) 0 (z0 _) ⟨_,_,_,_,rfl,z0 _,hQ⟩ ?_;rintro k mk _ w5 _ ⟨fv,sv,F1,F2,hu,_,U⟩;obtain ⟨hT,hU,hV⟩:=zEC hu;rw [hT,hU,hV];have Z:=V.t U.ext;refine zaa zby<|zab zb9 (zay hA) Z λ_ hW=>zae u26 hW<|zah ?_;have hX:(zjq c k).length=k:=by simp [zjq]
 have h6:(zj6 c k).length=k:=by simp [zj6]
 refine br (λ_=>?_) (λ_=>?_)
 case refine_1=>
   have hk:k<c.procs.length:=oo;refine zab zbO hA Z λ_ hY=>?_;refine (zgM (a:=k) hY Z hc hk).mono ?_;rintro _ w6 ⟨g3,m,rfl,_,h9⟩;have gz:=U.step (zkv _ _ _) (zkv _ _ _) g3;have hZ:m∉F2:=λhF=>by have:=U.q2.1.lt m hF;omega
   have j0:m∉F1:=λhF=>by have:=U.q1.1.lt m hF;omega
   have j1:=U.ext.size;have j2:(zbT c.procs.length λi=>i=k\/RP (zl8 c) k i)=zbT c.procs.length (FromP c k):=rfl;rw [j2] at h9;refine zdD (x:=zbT c.procs.length (FromP c k)) (K:=λ_=>_) zud zcR zEG zBR dD gz.q1.1 gz.q1.2 h9 (λb hb hF=>by simp at hb;subst hb;exact j0 hF) (by rw [zak];omega) oo (λw7 v' w8 G' gf j3 hd j4 hh=>?_) λ_ _ _ h=>h;rw [<-zuQ] at hd
   have hj:=gz.grow (Q1':=zzL 125 v' (zjq c (k+1))) (zkv _ _ _) (zkv _ _ _) gf j3 ⟨hd,j4⟩ hh λb hb=>by
     simp only [qaa,qag,qaz] at hb;subst hb;exact ⟨oo,hZ⟩
   have g4:Ext wb w8:=hj.ext;have gA:=zaM (n:=c.procs.length) (p:=RootP c) (i:=k);rw [zaZ (by rw [zam];exact hk)] at gA
   have gg:∀ {w9:wD} (x:Bool),(x=decide (RootP c k/\ze2 c k))->Ext w8 w9->OP tp (Instr.buildSlice 125 1 #[(0,.bool x)]) w9 λj5 w=>OP tp (Builtin.append_ #[125,125] 125 [sv,j5].toArray) w λj6 w=>RD tp (bin .add 3 (.tmp 0) (.const undef) (.int .i64 (k:Int)) (.int .i64 1)) w λj7=>∃ m',m'<mk/\∃ k',k'+m'=c.procs.length/\∃ fv sv F1 F2,[v',j6,j7]=[fv,sv,.int .i64 (k':Int)]/\k'<=c.procs.length/\TT (zzL 125 fv (zjq c k')) (zzL 4 sv (zj6 c k')) wb w F1 F2:=λ{w9} x gB gh=>by
     have gC:=hj.step (zkv _ _ _) (zkv _ _ _) gh;refine zdD (x:=x) (K:=λ_=>_) zdj ty4 z4 zc4 dD gC.q2.1 gC.q2.2 (zuS x) ss (by rw [zak];omega) oo (λg5 hl j8 _ O M gi gD gE=>?_) λ_ _ _ h=>h;rw [gB,<-zuR] at gi;have gF:=(gC.swap.grow (Q1':=zzL 4 hl (zj6 c (k+1))) (zkv _ _ _) (zkv _ _ _) (GX:=[]) O M ⟨gi,gD⟩ gE ss).swap;refine zaw<|⟨mk-1,oo,k+1,oo,v',hl,_,_,rfl,oo,gF⟩
   refine zac zdj ty4 (i:=k) gy (by rw [zam];exact hk) λ_ _ j9=>zaC ty4 j9 g4<|zaN (λhf=>?_) (λhf=>?_)
   . have hR:=(gA.1 hf).2;refine zab zbO hA (V.t g4) λ_ ja=>?_;refine (zqN (r:=k) ja (V.t g4) hc).mono ?_;rintro _ w9 ⟨gh,rfl⟩;exact gg _ (by rw [decide_eq_decide];exact ⟨λh=>⟨hR,h⟩,λh=>h.2⟩) gh
   have hR:¬RootP c k:=λh=>by rw [gA.2 ⟨hk,h⟩] at hf;cases hf
   exact gg false (by rw [decide_eq_false λh=>hR h.1]) (xrf _)
 have jb:k=c.procs.length:=oo;rw [jb] at U;clear hX h6;have ht:=U.q1.1.own.is;have jc:=U.q2.1.own.is;have j1:=U.ext.size;refine zaI (α:=List Bool) zud zcR λ_ wT g0 _=>?_;have D:=Z.t g0;have gG:=g0;have hsT:=g0.size;have gH:Ext wb wT:=U.ext.trans g0;refine zar c.procs.length (λk us w'=>∃ ov FO,us=[ov,.int .i64 (k:Int)]/\k<=c.procs.length/\Ext wT w'/\RowG FO 125 w' ov (zvm c k)/\FO.Nodup/\∀ b∈FO,wT.heap.size<=b) 0 (z0 _) ⟨_,[],rfl,z0 _,xrf _,.inl ⟨_,rfl,rfl,rfl⟩,qas,ss⟩ ?_;rintro a jd _ w6 _ ⟨ov,FO,je,_,g3,gb,hv,gI⟩;obtain ⟨gJ,gK⟩:=zcv je;rw [gJ,gK];refine zaa zby<|zab zb9 (zay hA) (D.t g3) λ_ jf=>zae u26 jf<|zah<|br (λ_=>?_) (λ_=>?_)
 case refine_2=>
   have gL:a=c.procs.length:=oo;rw [gL] at gb;exact ⟨h5.t (D.t g3),FO,⟨gb.own,hv,gb.wr⟩,λb hb=>by have:=gI b hb;have:=D.size;omega⟩
 have ha:a<c.procs.length:=oo;refine zaa zby<|zab zb9 (zay hA) (D.t g3) λ_ jg=>zae u26 jg<|zeZ h8.2 oo λw7 gf gM=>?_;have hh:=gf.size;generalize hg:w6.heap.size=g at *;have hgl:g<w7.heap.size:=gM.lt g ss;have jh:=g3.size;have hw:g∉FO:=λhF=>by have:=gb.lt g hF;omega
 rw [zdC c.procs.length (p:=λq=>q<0/\ziz c a q) (λi h=>oo)] at gM;generalize hn:c.procs.length=n at *;refine zar n (λb us w'=>us=[.int .i64 (b:Int)]/\b<=n/\ChgI g (g+1) w7 w'/\Mine [g] w' (.slice (some ⟨g,0,none⟩) n n) (zbT n λq=>q<b/\ziz c a q)) 0 (z0 _) ⟨rfl,z0 _,ChgI.refl _,gM⟩ ?_;rintro b ji _ w8 _ ⟨gN,_,gc,gO⟩;try replace gN:=zbv gN
 rw [gN];have gj:∀ {w:wD},ChgI g (g+1) w7 w->Ext wT w:=λh=>(g3.t gf).chgI h oo;refine zaa zby<|zab zb9 (zay hA) (D.t (gj gc)) λ_ jj=>zae u26 jj ?_;rw [hn];refine zah<|br (λ_=>?_) (λ_=>?_)
 case refine_2=>
   have hbe:b=n:=oo;have:(zbT n λq=>q<b/\ziz c a q)=zbT n (ziz c a):=zaX λq hq=>⟨λh=>h.2,λh=>⟨oo,h⟩⟩;rw [this] at gO
   have jk:RowG FO 125 w8 ov (zvm c a):=gb.keep λq hq=>by
     have h1:=gb.lt q hq;rw [gc.block q oo (by have:q≠g:=λe=>hw (e▸hq);omega),gf.heap oo]
   have htl:(zvm c a).length=a:=by simp [zvm]
   refine zdD (x:=zbT n (ziz c a)) (K:=λ_=>_) zud zcR zEG zBR dD jk hv gO (λq hq hF=>by simp at hq;subst hq;exact hw hF) (by rw [zak];omega) oo (λw9 v' g5 G' gh gl jl jm jn=>?_) λ_ _ _ h=>h;have hs8:=gc.size;refine zaw<|⟨jd-1,oo,a+1,oo,v',G',rfl,oo,((gj gc).trans gh).chgF gl gI,?_,jm,λq hq=>?_⟩
   . rw [zye,hn];exact jl
   rcases jn q hq with h | h | h
   . exact gI q h
   . simp at h;omega
   have:=(gj gc).size;omega
 have hb:b<n:=oo
 have gP:Mine [g] w8 (.slice (some ⟨g,0,none⟩) n n) (zbT n λq=>(q<b/\ziz c a q)\/(q=b/\∃ r,r<0/\∃ s,zjw c a b r s)):=by
   have:(zbT n λq=>(q<b/\ziz c a q)\/(q=b/\∃ r,r<0/\∃ s,zjw c a b r s))=zbT n λq=>q<b/\ziz c a q:=zaX λq _=>⟨λh=>h.resolve_right λ⟨_,r,h,_⟩=>oo,.inl⟩;rw [this];exact gO
 refine zar n (λr us w'=>us=[.int .i64 (r:Int)]/\r<=n/\ChgI g (g+1) w7 w'/\Mine [g] w' (.slice (some ⟨g,0,none⟩) n n) (zbT n λq=>(q<b/\ziz c a q)\/(q=b/\∃ r',r'<r/\∃ s,zjw c a b r' s))) 0 (z0 _) ⟨rfl,z0 _,gc,gP⟩ ?_;rintro r jo _ w9 _ ⟨gQ,_,gl,gR⟩;try replace gQ:=zbv gQ
 rw [gQ];refine zaa zby<|zab zb9 (zay hA) (D.t (gj gl)) λ_ jp=>zae u26 jp ?_;rw [hn];refine zah ?_;have gn:∀ {r s},zjw c a b r s->r<n/\s<n:=λh=>⟨hn▸h.1.lt hc,hn▸h.2.1.lt hc⟩;refine br (λ_=>?_) (λ_=>?_)
 case refine_2=>
   have:(zbT n λq=>(q<b/\ziz c a q)\/(q=b/\∃ r',r'<r/\∃ s,zjw c a b r' s))=zbT n λq=>q<b+1/\ziz c a q:=zaX λq _=>by
     constructor
     . rintro (h | ⟨rfl,r',_,s,h⟩)
       . exact ⟨oo,h.2⟩
       exact ⟨oo,r',s,h⟩
     rintro ⟨h1,h2⟩;by_cases e:q=b
     . subst e;obtain ⟨r',s,h⟩:=h2;exact .inr ⟨rfl,r',by have:=(gn h).1;omega,s,h⟩
     exact .inl ⟨oo,h2⟩
   rw [this] at gR;refine zaw<|⟨ji-1,oo,b+1,oo,rfl,oo,gl,gR⟩
 have hr:r<n:=oo
 have gS:Mine [g] w9 (.slice (some ⟨g,0,none⟩) n n) (zbT n λq=>(q<b/\ziz c a q)\/(q=b/\((∃ r',r'<r/\∃ s,zjw c a b r' s)\/∃ s,s<0/\zjw c a b r s))):=by
   have:(zbT n λq=>(q<b/\ziz c a q)\/(q=b/\((∃ r',r'<r/\∃ s,zjw c a b r' s)\/∃ s,s<0/\zjw c a b r s)))=zbT n λq=>(q<b/\ziz c a q)\/(q=b/\∃ r',r'<r/\∃ s,zjw c a b r' s):=zaX λq _=>or_congr Iff.rfl (and_congr Iff.rfl ⟨λh=>h.resolve_right λ⟨s,h,_⟩=>oo,.inl⟩);rw [this];exact gR
 refine zar n (λs us w'=>us=[.int .i64 (s:Int)]/\s<=n/\ChgI g (g+1) w7 w'/\Mine [g] w' (.slice (some ⟨g,0,none⟩) n n) (zbT n λq=>(q<b/\ziz c a q)\/(q=b/\((∃ r',r'<r/\∃ s,zjw c a b r' s)\/∃ s',s'<s/\zjw c a b r s')))) 0 (z0 _) ⟨rfl,z0 _,gl,gS⟩ ?_;rintro s gT _ g5 _ ⟨g9,h6,M,g1⟩;try replace g9:=zbv g9
 rw [g9];have O:=gj M;refine zaa zby<|zab zb9 (zay hA) (D.t O) λ_ jq=>zae u26 jq ?_;rw [hn];refine zah<|br (λ_=>?_) (λ_=>?_)
 case refine_2=>
   have:(zbT n λq=>(q<b/\ziz c a q)\/(q=b/\((∃ r',r'<r/\∃ s,zjw c a b r' s)\/∃ s',s'<s/\zjw c a b r s')))=zbT n λq=>(q<b/\ziz c a q)\/(q=b/\∃ r',r'<r+1/\∃ s,zjw c a b r' s):=zaX λq _=>or_congr Iff.rfl (and_congr Iff.rfl (by
     constructor
     . rintro (⟨r',h,s',h2⟩ | ⟨s',_,h2⟩)
       . exact ⟨r',oo,s',h2⟩
       exact ⟨r,oo,s',h2⟩
     rintro ⟨r',h,s',h2⟩;by_cases e:r'=r
     . subst e;exact .inr ⟨s',by have:=(gn h2).2;omega,h2⟩
     exact .inl ⟨r',oo,s',h2⟩))
   rw [this] at g1;refine zaw<|⟨jo-1,oo,r+1,oo,rfl,oo,M,g1⟩
 have hs:s<n:=oo
 have C:¬zjw c a b r s->RD tp (bin .add 3 (.tmp 0) (.const undef) (.int .i64 (s:Int)) (.int .i64 1)) g5 λjr=>∃ m',m'<gT/\∃ k',k'+m'=n/\[jr]=[.int .i64 (k':Int)]/\k'<=n/\ChgI g (g+1) w7 g5/\Mine [g] g5 (.slice (some ⟨g,0,none⟩) n n) (zbT n λq=>(q<b/\ziz c a q)\/(q=b/\((∃ r',r'<r/\∃ s,zjw c a b r' s)\/∃ s',s'<k'/\zjw c a b r s'))):=λjs=>by
   refine zaw<|⟨gT-1,oo,s+1,oo,rfl,oo,M,?_⟩
   have:(zbT n λq=>(q<b/\ziz c a q)\/(q=b/\((∃ r',r'<r/\∃ s,zjw c a b r' s)\/∃ s',s'<s+1/\zjw c a b r s')))=zbT n λq=>(q<b/\ziz c a q)\/(q=b/\((∃ r',r'<r/\∃ s,zjw c a b r' s)\/∃ s',s'<s/\zjw c a b r s')):=zaX λq _=>or_congr Iff.rfl (and_congr Iff.rfl (or_congr Iff.rfl (by
     constructor
     . rintro ⟨s',h,h2⟩;by_cases e:s'=s
       . subst e;exact absurd h2 js
       exact ⟨s',oo,h2⟩
     rintro ⟨s',h,h2⟩;exact ⟨s',oo,h2⟩)))
   rw [this];exact g1
 have gU:=zaM (n:=n) (p:=RootP c) (i:=r);have gV:=zaM (n:=n) (p:=RootP c) (i:=s);rw [zaZ (by rw [zam];exact hr)] at gU;rw [zaZ (by rw [zam];exact hs)] at gV;have hx:Ext wb g5:=gH.trans O;refine zac zdj ty4 (i:=r) gy (by rw [zam];exact hr) λ_ _ jt=>zaC ty4 jt hx<|zaN (λhf=>?_) (λhf=>C λh=>by rw [gU.2 ⟨hr,h.1⟩] at hf;cases hf);have hR:=(gU.1 hf).2;refine zac zdj ty4 (i:=s) gy (by rw [zam];exact hs) λ_ _ ju=>zaC ty4 ju hx<|zaN (λgs=>?_) (λgs=>C λh=>by rw [gV.2 ⟨hs,h.2.1⟩] at gs;cases gs);have hy:=(gV.1 gs).2;have eF:Ext w5 g5:=gG.t O;have gp:(zjq c n).length=n:=by simp [zjq]
 have g2:∀ (i:Nat) (hi:i<(zjq c n).length),(zjq c n)[i]=zbT n (FromP c i):=λi hi=>by simp [zjq,hn]
 have gW:=zaM (n:=n) (p:=FromP c r) (i:=a);have gX:=zaM (n:=n) (p:=FromP c s) (i:=b);rw [zaZ (by rw [zam];exact ha)] at gW;rw [zaZ (by rw [zam];exact hb)] at gX;refine zac zud zcR (i:=r) ht (by rw [gp];exact hr) λ_ _ hz=>?_;rw [g2] at hz;refine zab zcR hz eF λ_ jv=>zac zdj ty4 (i:=a) jv (by rw [zam];exact ha) λ_ _ jw=>zaC ty4 jw eF<|zaN (λgt=>?_) (λgt=>C λh=>by rw [gW.2 ⟨ha,h.2.2.1⟩] at gt;cases gt);have hC:=(gW.1 gt).2;refine zac zud zcR (i:=s) ht (by rw [gp];exact hs) λ_ _ hD=>?_;rw [g2] at hD;refine zab zcR hD eF λ_ jx=>zac zdj ty4 (i:=b) jx (by rw [zam];exact hb) λ_ _ jy=>zaC ty4 jy eF<|zaN (λgx=>?_) (λgx=>C λh=>by rw [gX.2 ⟨hb,h.2.2.2.1⟩] at gx;cases gx);have hG:=(gX.1 gx).2;refine zaJ<|zyd (Q:=zjw c a b r s) (λh=>⟨hR,hy,hC,hG,.inl (by have:=of_decide_eq_true h;omega)⟩) (λhB=>?_) (λjz h=>?_)
 . refine zb5 (α:=Bool) (i:=b) rfl zdj ty4 hb ?_;refine zbm (α:=Bool) rfl ty4 g1 zam hb zbM λj8 gY gZ=>zaw<|⟨gT-1,oo,s+1,oo,rfl,oo,M.trans (zfl gY),?_⟩
   have h4:=ztt (n:=n) (q:=b) (p:=λq=>(q<b/\ziz c a q)\/(q=b/\((∃ r',r'<r/\∃ s,zjw c a b r' s)\/∃ s',s'<s/\zjw c a b r s'))) (p':=λq=>(q<b/\ziz c a q)\/(q=b/\((∃ r',r'<r/\∃ s,zjw c a b r' s)\/∃ s',s'<s+1/\zjw c a b r s'))) hb λq=>by
     constructor
     . rintro (h | ⟨e,_⟩)
       . exact .inl (.inl h)
       exact .inr e
     rintro ((h | ⟨e,h | ⟨s',h1,h2⟩⟩) | e)
     . exact .inl h
     . exact .inr ⟨e,.inl h⟩
     . exact .inr ⟨e,.inr ⟨s',oo,h2⟩⟩
     exact .inr ⟨e,.inr ⟨s,oo,hB⟩⟩
   rw [<-h4];exact gZ
 have jA:r=s:=by have:=of_decide_eq_false h;omega
 have gq:(zj6 c n).length=n:=by simp [zj6]
 refine zac zdj ty4 (i:=r) jc (by rw [gq];exact hr) λ_ _ hH=>?_;rw [show (zj6 c n)[r]'(by rw [gq];exact hr)=decide (RootP c r/\ze2 c r) by simp only [zj6,qbM,qcJ]] at hH;refine zaC ty4 hH eF<|zau<|zaN (λgr=>jz ⟨hR,hy,hC,hG,.inr λhS=>?_⟩) (λgr=>C λhB=>?_)
 . rw [decide_eq_true (⟨hR,hS⟩:RootP c r/\ze2 c r)] at gr;cases gr
 rcases hB.2.2.2.2 with h2 | h2
 . exact h2 jA
 rw [decide_eq_false (λh3:RootP c r/\ze2 c r=>h2 h3.2)] at gr;cases gr
instance flatRawM:Flat Raw:=⟨λh=>h.1⟩
section
variable {w0 w w':wD} {lo hi g n:Nat} {out:vL} {L:List DRace} {vs:List Raw} {T:Nat->List DTouch}
end
def zsg {l:List DRace} (h:Is w0 v l) (hx:Ext w0 w) (hn:l.length<=1000000000) :
   CALL tp 83 [v] w λr w'=>Ext w w'/\Own w.heap.size w' r (zht l):=by
 refine co (g:=kf [] [] []) Tryz.func83 ?_;refine (zxa h hx oo).mono ?_;rintro _ _ ⟨g1,g2⟩;refine (zzz g2.toI oo).mono ?_;rintro _ _ ⟨g3,g4⟩;refine (zuu g4 (by rw [zxX];omega)).mono ?_;rintro _ _ ⟨g5,g9⟩;refine (zzg g9).mono ?_;rintro _ _ ⟨gb,g0⟩;rw [zCC] at g0;exact ⟨((g1.chgI g3 (lr _)).chgI g5 (lr _)).trans gb,g0.own⟩
def zuT {l:List DRace} (h:Mine F w v l) (h1:Is W1 v1 x) (e1:Ext W1 w) (hn:l.length<=1000000000) :
   CALL tp 96 [v,v1] w λr w'=>Ext w w'/\∃ F',Mine F' w' r (znH x l)/\∀ b∈F',b∈F\/w.heap.size<=b:=by
 refine co (g:=kf [(4,2097056,[5]),(6,17177772048,[])] [(2,2097056,[5])] [(2,[0,1,2,3,4,5,6,7,8,9,10,11],0),(4,[0,1,2,3,4,5,6,7,8,9,10,11],0)]) Tryz.func96 ?_;have hI:=h.is;refine zbk h1 e1 λw1 Z hA=>JOIN.mk (λus w'=>∃ k:Nat,us=[.int .i64 (k:Int)]/\Ext w1 w'/\k<=l.length/\ahd x l=k) ?_ ?_
 . refine zar l.length (λk us w'=>us=[.int .i64 (k:Int)]/\Ext w1 w'/\k<=l.length/\∀ j (h:j<k) (h2:j<l.length),ltR l[j] x) 0 (z0 _) ⟨rfl,xrf w1,z0 _,λj h=>oo⟩ ?_;rintro k mk u w2 _ ⟨hu,g1,g0,g2⟩;try replace hu:=zbv hu
   rw [hu];have O:=zai w2;have C:=g1.t O;generalize World.drew1 w2=w3 at *;refine zae u38 hI<|zah<|br (λhk=>?_) (λhk=>?_)
   . have V:k<l.length:=oo;refine zac u38 zfY hI V λb1 o1 g3=>zab zfY g3 (Z.t C) λgg g4=>zab zfY hA C λgh g5=>?_;refine (zsa g4 (Z.t C) g5 C).mono ?_;rintro _ w4 ⟨M,rfl⟩;refine zaN (λhc=>?_) (λhc=>?_)
     . refine zaw ?_;refine ⟨mk-1,oo,k+1,oo,rfl,C.t M,oo,λj hj gi=>?_⟩;by_cases hjk:j<k
       . exact g2 j hjk gi
       have:j=k:=oo;subst this;simpa using hc
     exact ⟨k,rfl,C.t M,g0,zxW g0 (λj hj=>g2 j hj oo) λh=>by simpa using hc⟩
   exact ⟨k,rfl,C,g0,zxW g0 (λj hj=>g2 j hj oo) λh=>oo⟩
 rintro u w2 ⟨k,hu,g1,g0,gj⟩;try replace hu:=zbv hu
 rw [hu];have D:=ztM x l;rw [gj] at D;refine JOIN.mk (λus w'=>Ext w1 w'/\znH x l=l.take k++(x :: l.drop k)) ?_ ?_
 . have O:=zai w2;have C:=g1.t O;generalize World.drew1 w2=w3 at *;refine zae u38 hI<|zah<|br (λhk=>?_) (λhk=>?_)
   . have V:k<l.length:=oo;rw [dif_pos V] at D;refine zac u38 zfY hI V λb1 o1 g3=>zab zfY g3 (Z.t C) λgg g4=>zab zfY hA C λgh g5=>zl3 g4 g5<|br (λhc=>?_) (λhc=>?_)
     . rw [qah hc] at D;have hx:=Z.t C;exact ⟨hx,F,by rw [D];exact h.ext hx,λb hb=>.inl hb⟩
     rw [qad hc] at D;exact ⟨C,D⟩
   have V:k=l.length:=oo;subst V;rw [dif_neg oo] at D;exact ⟨C,by rw [D];simp⟩
 rintro _ w3 ⟨O,gl⟩;rw [gl];have U:=Z.t O;have gn:=U.size;refine zaI (α:=DRace) u38 zfY λ_ w4 M gp=>?_;have hs4:=M.size;refine zlv (i:=(k:Int)) u38 zfY hI oo oo λ_ gq=>zek u38 zfY zDr gp (lr _) gq (U.t M) (by simp [maxLen];omega) so λ_ w5 gb gr=>?_;have hs5:=gb.size;have g9:=(xrf w4).chgI gb (lr _);refine zab zfY hA (O.t (M.t g9)) λ_ gs=>zbs (lo2:=w5.heap.size) (hi2:=w5.heap.size) u38 zfY z46 zDr dD gr oo (zjn (gs.ext (O.t (M.t g9)))) (lr _) oo (by simp [maxLen];omega) so λ_ w6 gc gt=>?_;have hs6:=gc.size;refine zgA (i:=(k:Int)) u38 zfY hI oo oo λ_ gx=>?_;have gd:Ext w w6:=(U.t (M.t g9)).chgI gc oo;refine zek u38 zfY zDr gt oo gx gd (by simp [maxLen];omega) so λ_ _ gf gy=>?_;have hs7:=gf.size;refine ⟨gd.chgI gf oo,?_⟩;obtain ⟨F',hM,hF⟩:=gy.own;refine ⟨F',?_,λb hb=>.inr (by have:=hF b hb;omega)⟩;simpa using hM
open Classical in
noncomputable def rc1 (c:DCode) (a b:DTouch):List DRace:=if zfn a b/\ziz c (zaA c a.at_).toNat (zaA c b.at_).toNat then [zg3 a b] else []
def zCI (c:DCode) (a b:DTouch):(rc1 c a b).length<=1:=by unfold rc1;split<;>simp
noncomputable def zsh (c:DCode) (T:List DTouch) (i:Nat):List DRace:=match T.drop i with
 | []=>[]
 | a :: r=>(a :: r).flatMap (rc1 c a)
noncomputable def zhv (c:DCode) (T:List DTouch) (n:Nat):List DRace:=(List.range n).flatMap (zsh c T)
def zk0 {T:List DTouch} (hi:i<T.length):zsh c T i=(T.drop i).flatMap (rc1 c T[i]):=by
 unfold zsh;rw [qax hi]
def zsi (c:DCode) (a:DTouch) (L:List DTouch):(L.flatMap (rc1 c a)).length<=L.length:=by
 have:=zhW (l:=L) (f:=rc1 c a) (B:=1) λb _=>zCI c a b;omega
def zyf (c:DCode) (T:List DTouch) (i:Nat):(zsh c T i).length<=T.length:=by
 rcases qaw i T.length with h | h
 . rw [zk0 h];have:=zsi c T[i] (T.drop i);rw [qbc] at this;omega
 unfold zsh;rw [qb5 h];simp
def zmy {T:List DTouch} (hT:T.length<=18000) {n:Nat} (hn:n<=18000):(zhv c T n).length<=324000000:=by
 have h1:=zhW (l:=List.range n) (f:=zsh c T) (B:=18000) λi _=>qal (zyf c T i) hT;rw [qbN] at h1;have:n*18000<=18000*18000:=qa6 _ hn;unfold zhv;omega
def znR (c:DCode) (T:List DTouch) (n:Nat):zhv c T (n+1)=zhv c T n++zsh c T n:=by
 unfold zhv;rw [qbC,qaO];simp
def zk1 (hc:CodeR c):(znQ c).length<=18000:=zmx hc _ (qal zbe hc.f.ins)
structure TouR (c:DCode) (x:DTouch) (p:Nat):Prop where
 at_:x.at_=(p:Int)
 lt:p<c.ins.length
 met:MetP c p
 h0:0<=x.held
 h1:x.held<=63
def ztS (hc:CodeR c) {x:DTouch} (h:x∈znQ c):∃ p,TouR c x p:=by
 unfold znQ at h;obtain ⟨i,hi,hx⟩:=qaV.1 h;obtain ⟨h1,_⟩:=zgr hx;have:=zdI (zo0 c) i;obtain ⟨h3,h4⟩:=zaO.1 hi;exact ⟨i,h1,h3,h4,oo,oo⟩
def zCJ (c:DCode):(znQ c).Pairwise λa b=>a.at_<=b.at_:=by
 unfold znQ;refine qbK.2 ⟨λi _=>?_,?_⟩
 . refine List.pairwise_iff_forall_sublist.2 λ{a b} h=>?_;have h1:=zgr (h.subset (by simp:a∈[a,b]));have h2:=zgr (h.subset (by simp:b∈[a,b]));rw [h1.1,h2.1];omega
 have hr:(zbb c.ins.length (MetP c)).Pairwise (λa b=>a<b):=by
   unfold zbb;exact List.pairwise_lt_range.filter _
 refine hr.imp λ{i _} _ _ hx _ hy=>?_;have h1:=zgr hx;have h2:=zgr hy;rw [h1.1,h2.1];omega
def znS (h:zaL c p i) (hj:j∈zaE c i):zaL c p j:=by
 rcases h with rfl | h
 . exact .inr (.one hj)
 exact .inr (h.trans (.one hj))
theorem ztT (hc:CodeR c) {i:Nat} (h:MetP c i):zfX c i:=by
 induction h with
 | root h=>exact ⟨_,h.lt hc,.inl rfl⟩
 | call h ho _=>exact ⟨_,(zcl hc (h.lt hc) (.inl ho)).2,.inl rfl⟩
 | next _ _ hj ih=>obtain ⟨p,hp,hl⟩:=ih;exact ⟨p,hp,znS hl hj⟩
 | back _ _ _ hj ih _=>obtain ⟨p,hp,hl⟩:=ih;exact ⟨p,hp,znS hl hj⟩
def zyg (hc:CodeR c) {i j:Nat} (hi:MetP c i) (hj:MetP c j):zBu (rtN c i) (rtN c j) (zsd c)↔ziz c (zaA c i).toNat (zaA c j).toNat:=by
 have h1:=ztT hc hi;have h2:=ztT hc hj;have hb:∀ k r,(rtN c k).testBit r=true↔r<c.procs.length/\RtP c k r:=λk r=>za4
 have hs:∀ r,r<c.procs.length->RootP c r->((zsd c).testBit r=false↔¬ze2 c r):=λr hr hR=>by
   have:=za4 (n:=c.procs.length) (p:=λr=>RootP c r/\ze2 c r) (i:=r);unfold zsd;constructor
   . intro h hS;rw [this.2 ⟨hr,hR,hS⟩] at h;cases h
   intro h;cases e:(zcU (λr=>RootP c r/\ze2 c r) c.procs.length).testBit r
   . rfl
   exact absurd (this.1 e).2.2 h
 constructor
 . rintro ⟨r,t,hr,ht,h⟩;obtain ⟨g3,_,C,g1⟩:=(hb _ _).1 hr;obtain ⟨_,_,g0,g2⟩:=(hb _ _).1 ht;exact ⟨r,t,C,g0,g1,g2,h.imp id (hs r g3 C).1⟩
 rintro ⟨r,t,C,g0,g1,g2,h⟩;exact ⟨r,t,(hb _ _).2 ⟨C.lt hc,h1,C,g1⟩,(hb _ _).2 ⟨g0.lt hc,h2,g0,g2⟩,h.imp id (hs r (C.lt hc) C).2⟩
end Go.Proofs.YtkgiigmcbgifdaaGreatDoor
