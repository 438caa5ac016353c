/-
  Parts of the proof, put together by program.
-/
import Derived.Test.YtkgiigmcbgifdaaGreatDoorPFnExactWatch5
set_option maxRecDepth 20000
set_option linter.defProp false
set_option linter.unusedVariables false
set_option linter.unusedSimpArgs false
set_option linter.unusedSectionVars false
open Go renaming Value→vL,World→wD,Program→pG
namespace Go.Proofs.YtkgiigmcbgifdaaGreatDoor
open Go Go.Sh Go.Proofs
open Rep (rep)
variable {F G out:List Nat} {K:vL->Prop} {P:pG} {W0 W1 w:wD} {ag:Bool} {b h i j k l m n o p q r:Nat} {c:DCode} {op:Int} {v0 v1:vL}
noncomputable def m6 (p:Nat->Prop):Nat:=zcU p 6
def znz {p:Nat->Prop}:(m6 p).testBit l=true↔l<6/\p l:=za4
def zl9 {p:Nat->Prop}:m6 p<64:=zjU (n:=6)
def zgN (h:m<64) (hb:m.testBit l=true):l<6:=qbe λhc=>by
 have:=qbn (qan (show m<2^6 from h) (qaG oo (by omega:6<=l)));rw [this] at hb;cases hb
def zxi {p:Nat->Prop} (h:m<64) (hb:∀ l,l<6->(m.testBit l=true↔p l)):m=m6 p:=
 zen λl=>⟨λe=>⟨zgN h e,(hb l (zgN h e)).1 e⟩,λe=>(hb l e.1).2 e.2⟩
def ztx {p q:Nat->Prop} (h:∀ l,l<6->(p l↔q l)):m6 p=m6 q:=zbB h
def zgl (h:¬m.testBit l=false):m.testBit l=true:=by simpa using h
def zax (l:List Nat) (i:Nat):Nat:=l.getD i 0
def zbh {l:List Nat} (h:i<l.length):l[i]=zax l i:=by unfold zax;rw [List.getD_eq_getElem?_getD,List.getElem?_eq_getElem h];rfl
def zb6 {l:List Nat} {i j v:Nat} (hi:i<l.length):zax (l.set i v) j=if i=j then v else zax l j:=by
 unfold zax;rw [List.getD_eq_getElem?_getD,List.getD_eq_getElem?_getD,List.getElem?_set];by_cases h:i=j
 . subst h;simp [hi]
 simp [h]
theorem zjW:∀ {l:List Nat} {i v:Nat},i<l.length->(l.set i v).sum+zax l i=l.sum+v
 | x :: l,0,v,_=>by simp [zax];omega
 | x :: l,i+1,v,h=>by
   have:=zjW (l:=l) (i:=i) (v:=v) (by simpa using h);simp only [zax,List.set_cons_succ,qcV,List.getD_cons_succ] at this ⊢;omega
def zgO (l:List Nat) (i v:Nat):zaK (l.set i v)=(zaK l).set i (v:Int):=by simp [zaK,qdd]
theorem sum_le {l:List Nat} (h:∀ x∈l,x<=b):l.sum<=l.length*b:=by
 induction l with
 | nil=>simp
 | cons x l ih=>
   have:=ih λy hy=>h y (by simp [hy]);have:=h x ss;rw [qcV,qam,qbu];omega
def zoW {l:List Nat} (h:i<l.length):zax l i∈l:=by rw [<-zbh h];exact qac h
def zaS {l:List Nat} (h:i<(zaK l).length):(zaK l)[i]=(zax l i:Int):=by rw [zaY,zbh]
def eN (c:DCode) (p:Nat):Nat:=(en c p).toNat
def zN (c:DCode) (p:Nat):Nat:=(zet c p-1).toNat
def agN (c:DCode) (i:Nat):Nat:=(zap c i).arg.toNat
def zgP (hc:CodeR c) {p:Nat} (hp:p<c.entry.length):en c p=(eN c p:Int)/\eN c p<c.ins.length/\zaA c (eN c p)=p:=by
 have h:=zxd hc hp;unfold eN;rw [qbi h.1];exact ⟨rfl,oo,h.2.2⟩
def zmY (hc:CodeR c) {p:Nat} (hp:p<c.entry.length):zet c p=(zN c p:Int)+1/\eN c p<=zN c p/\zN c p<c.ins.length:=by
 have:=hc.f.lt p hp;have:=hc.f.nonneg hp;have h4:=hc.f.lt p hp;have:zet c p<=c.ins.length:=h4.2;unfold zN eN;omega
def zbW (hc:CodeR c) {p i:Nat} (hp:p<c.entry.length) (h:zaL c p i):i<c.ins.length/\zaA c i=p:=by
 have he:=zgP hc hp;rcases h with rfl | h
 . exact ⟨he.2.1,he.2.2⟩
 refine h.keeps (p:=λi=>i<c.ins.length/\zaA c i=p) ⟨he.2.1,he.2.2⟩ λi _ hi hj=>?_;have:=zdg hc hi.1 hj;exact ⟨this.1,this.2.trans hi.2⟩
def zxj (h:zaL c p i) (hj:j∈zaE c i):zaL c p j:=by
 rcases h with rfl | h
 . exact .inr (.one hj)
 exact .inr (.more h hj)
def zrV (hc:CodeR c) {p i:Nat} (hi:i<c.ins.length) (hp:p<c.entry.length) (h:zaA c i=p):eN c p<=i/\i<=zN c p:=by
 obtain ⟨q,_,_,_,_⟩:=hc.f.find hc.1.procs8.2 (a:=(i:Int)) oo oo;have:q=p:=oo;subst this;have h4:=zmY hc hp;have h5:=zgP hc hp;omega
def zoX (hc:CodeR c) {p i:Nat} (hp:p<c.entry.length) (h1:eN c p<=i) (h2:i<=zN c p):zaA c i=p:=by
 have:=zmY hc hp;have:=zgP hc hp;exact hc.f.proc hp oo oo
def zcl (hc:CodeR c) {i:Nat} (hi:i<c.ins.length) (ho:(zap c i).op=4\/(zap c i).op=5):(zap c i).arg=(agN c i:Int)/\agN c i<c.procs.length:=by
 have g0:=(zi7 hc hi).2.1;unfold zcy at g0;rw [qad oo,qah oo] at g0;unfold agN;omega
def zdA (hc:CodeR c) {i:Nat} (hi:i<c.ins.length) (ho:(zap c i).op=6\/(zap c i).op=7):(zap c i).arg=(agN c i:Int)/\agN c i<c.locks.length/\agN c i<6:=by
 have:=zzh hc hi ho;have:=hc.1.locks6;unfold agN;omega
def zD6 (c:DCode) (K G:Nat->Nat->Prop) (i l:Nat):Prop:=((zap c i).op=7/\agN c i=l)\/((zap c i).op=4/\¬K (agN c i) l/\¬G (agN c i) l)
def zxk (c:DCode) (G:Nat->Nat->Prop) (i l:Nat):Prop:=¬((zap c i).op=6/\agN c i=l)/\¬((zap c i).op=4/\G (agN c i) l)
inductive LostP (c:DCode) (K G:Nat->Nat->Prop) (p:Nat) (h:Nat->Prop):Nat->Nat->Prop
 | ent {l:Nat} (h0:¬h l):LostP c K G p h (eN c p) l
 | gen {i j l:Nat} (h0:zaL c p i) (hj:j∈zaE c i) (h1:zD6 c K G i l):LostP c K G p h j l
 | pass {i j l:Nat} (h0:zaL c p i) (hj:j∈zaE c i) (h1:LostP c K G p h i l) (h2:zxk c G i l):LostP c K G p h j l
theorem LostP.mono {K K' G G':Nat->Nat->Prop} {h h':Nat->Prop} (hK:∀ q l,K' q l->K q l) (hG:∀ q l,G' q l->G q l) (hh:∀ l,h' l->h l) {i l:Nat} (hl:LostP c K G p h i l):LostP c K' G' p h' i l:=by
 induction hl with
 | ent h0=>exact .ent λe=>h0 (hh _ e)
 | gen h0 hj h1=>exact .gen h0 hj (h1.imp id λ⟨a,b,d⟩=>⟨a,λe=>b (hK _ _ e),λe=>d (hG _ _ e)⟩)
 | pass h0 hj _ h2 ih=>exact .pass h0 hj ih ⟨h2.1,λ⟨a,b⟩=>h2.2 ⟨a,hG _ _ b⟩⟩
abbrev Tab:=List (Nat×Nat)
def tbl (T:Tab) (q:Nat):Nat×Nat:=T.getD q (0,0)
def tK (T:Tab) (q l:Nat):Prop:=(tbl T q).1.testBit l=true
def tG (T:Tab) (q l:Nat):Prop:=(tbl T q).2.testBit l=true
def zjX {T:Tab} (h:q<T.length):T[q]=tbl T q:=by unfold tbl;rw [List.getD_eq_getElem?_getD,List.getElem?_eq_getElem h];rfl
def zCr {T:Tab} {v:Nat×Nat} (h:q<T.length):tbl (T.set q v) r=if q=r then v else tbl T r:=by
 unfold tbl;rw [List.getD_eq_getElem?_getD,List.getD_eq_getElem?_getD,List.getElem?_set];by_cases e:q=r
 . subst e;simp [h]
 simp [e]
def zxl (c:DCode) (T:Tab):Prop:=T.length=c.procs.length/\∀ q,(tbl T q).1<64/\(tbl T q).2<64
def aft (c:DCode) (T:Tab) (i m:Nat):Nat:=
 if (zap c i).op=6 then m ||| 2^agN c i else if (zap c i).op=7 then zkQ m (2^agN c i) else if (zap c i).op=4 then (m &&& (tbl T (agN c i)).1) ||| (tbl T (agN c i)).2 else m
def zBf {T:Tab} (hc:CodeR c) (hT:zxl c T) {i m:Nat} (hi:i<c.ins.length) (hm:m<64):aft c T i m<64:=by
 unfold aft;split
 . rename_i h;exact zxh hm (zdA hc hi (.inl h)).2.2
 split
 . exact qaN (ziu _ _) hm
 split
 . exact qa0 (n:=6) (qaN qa4 hm) (hT.2 _).2
 exact hm
def zma {T:Tab}:(aft c T i m).testBit l=false↔zD6 c (tK T) (tG T) i l\/(zxk c (tG T) i l/\m.testBit l=false):=by
 unfold aft zD6 zxk tK tG;split
 . rename_i h;rw [qaX,qaU];have e6:((zap c i).op=6)=True:=eq_true h;have e4:((zap c i).op=4)=False:=eq_false oo;have e7:((zap c i).op=7)=False:=eq_false oo;simp only [e6,e4,e7,true_and,false_and,false_or,qaz,not_false_eq_true,and_true,Bool.or_eq_false_iff,decide_eq_false_iff_not];exact ⟨λ⟨a,b⟩=>⟨b,a⟩,λ⟨a,b⟩=>⟨b,a⟩⟩
 rename_i h6;have e6:((zap c i).op=6)=False:=eq_false h6;split
 . rename_i h;have e7:((zap c i).op=7)=True:=eq_true h;have e4:((zap c i).op=4)=False:=eq_false oo;rw [zdh,qaU];simp only [e6,e4,e7,true_and,false_and,false_or,qaz,not_false_eq_true,and_true,qbJ,qb8,qau];exact ⟨λh=>h.elim .inr .inl,λh=>h.elim .inr .inl⟩
 rename_i h7;have e7:((zap c i).op=7)=False:=eq_false h7;split
 . rename_i h;have e4:((zap c i).op=4)=True:=eq_true h;rw [qaX,qaZ];simp only [e6,e4,e7,true_and,false_and,false_or,not_false_eq_true];cases (tbl T (agN c i)).1.testBit l<;>cases (tbl T (agN c i)).2.testBit l<;>cases m.testBit l<;>simp
 rename_i h4;simp [h6,h7,h4]
noncomputable def zcE (c:DCode) (T:Tab) (p h:Nat):List Nat:=(List.range c.ins.length).map λi=>m6 λl=>¬LostP c (tK T) (tG T) p (λl=>h.testBit l=true) i l
def zeD (c:DCode) (T:Tab) (p h:Nat):(zcE c T p h).length=c.ins.length:=by simp [zcE]
def zkR {T:Tab} (hi:i<c.ins.length):zax (zcE c T p h) i=m6 λl=>¬LostP c (tK T) (tG T) p (λl=>h.testBit l=true) i l:=by
 rw [<-zbh (by rw [zeD];exact hi)];simp [zcE]
def zjb {T:Tab}:∀ x∈zcE c T p h,x<64:=λx hx=>by
 unfold zcE at hx;obtain ⟨i,_,rfl⟩:=qa3.1 hx;exact zl9
structure FL (c:DCode) (T:Tab) (p h:Nat) (out:List Nat):Prop where
 len:out.length=c.ins.length
 lt:∀ x∈out,x<64
 snd:∀ i l,i<c.ins.length->l<6->(zax out i).testBit l=false->LostP c (tK T) (tG T) p (λl=>h.testBit l=true) i l
 ent:∀ l,l<6->h.testBit l=false->(zax out (eN c p)).testBit l=false
def FL.lt0 {T:Tab} (h:FL c T p h out) (i:Nat):zax out i<64:=by
 rcases qaw i out.length with hi | hi
 . exact h.lt _ (zoW hi)
 unfold zax;rw [List.getD_eq_getElem?_getD,List.getElem?_eq_none hi];simp
def zjc (h:l<6):(63:Nat).testBit l=true:=by
 have:l=0\/l=1\/l=2\/l=3\/l=4\/l=5:=oo;rcases this with rfl | rfl | rfl | rfl | rfl | rfl<;>rfl
def FL.start {T:Tab} (hc:CodeR c) (hp:p<c.entry.length) (hh:h<64):FL c T p h ((List.replicate c.ins.length 63).set (eN c p) h):=by
 have he:=(zgP hc hp).2.1;have hr:(List.replicate c.ins.length 63).length=c.ins.length:=by simp
 have hg:∀ i,i<c.ins.length->zax (List.replicate c.ins.length 63) i=63:=λi hi=>by rw [<-zbh (by rw [hr];exact hi)];simp
 refine ⟨ss,λ_ hx=>?_,λi l hi hl hb=>?_,λl hl hb=>?_⟩
 . rcases zit hx with rfl | hx
   . exact hh
   rw [(qcI.1 hx).2];omega
 . rw [zb6 (by rw [hr];exact he)] at hb;split at hb
   . rename_i e;subst e;exact .ent (by rw [hb];simp)
   rw [hg i hi,zjc hl] at hb;cases hb
 rw [zb6 (by rw [hr];exact he),qah rfl];exact hb
def FL.upd {T:Tab} (hF:FL c T p h out) (hc:CodeR c) (hp:p<c.entry.length) (hT:zxl c T) {i j:Nat} (hi:zaL c p i) (hj:j∈zaE c i) :
   FL c T p h (out.set j (zax out j &&& aft c T i (zax out i))):=by
 have g0:=(zbW hc hp hi).1;have g1:=(zdg hc g0 hj).1;refine ⟨by simp [hF.len],λx hx=>?_,λk l hk hl hb=>?_,λl hl hb=>?_⟩
 . rcases zit hx with rfl | hx
   . exact qaN qa4 (hF.lt0 j)
   exact hF.lt x hx
 . rw [zb6 (by rw [hF.len];exact g1)] at hb;split at hb
   . rename_i e;subst e;rw [qaZ,qbJ] at hb;rcases hb with hb | hb
     . exact hF.snd j l hk hl hb
     rcases zma.1 hb with h1 | ⟨h1,h2⟩
     . exact .gen hi hj h1
     exact .pass hi hj (hF.snd i l g0 hl h2) h1
   exact hF.snd k l hk hl hb
 rw [zb6 (by rw [hF.len];exact g1)];split
 . rename_i e;rw [qaZ,e,hF.ent l hl hb];rfl
 exact hF.ent l hl hb
def zBg {a b:Nat} (h:a &&& b≠a):a &&& b<a:=by
 have:a &&& b<=a:=qa4;omega
def zD7 (c:DCode) (T:Tab) (out:List Nat) (i:Nat):Prop:=∀ j∈zaE c i,zax out j &&& aft c T i (zax out i)=zax out j
def FL.fin {T:Tab} (hF:FL c T p h out) (hc:CodeR c) (hp:p<c.entry.length) (hs:∀ i,zaL c p i->zD7 c T out i):out=zcE c T p h:=by
 refine qaP (by rw [hF.len,zeD]) λi h1 h2=>?_;rw [zbh h1,zbh h2,zkR (by rw [<-hF.len];exact h1)];refine zxi (hF.lt0 i) λl hl=>⟨λhb hn=>?_,λhn=>zgl λhb=>hn (hF.snd i l (by rw [<-hF.len];exact h1) hl hb)⟩
 have g0:∀ {i l:Nat},LostP c (tK T) (tG T) p (λl=>h.testBit l=true) i l->l<6->(zax out i).testBit l=false:=λ{i l} hn=>by
   induction hn with
   | ent h0=>exact λhl=>hF.ent _ hl (by simpa using h0)
   | gen h0 hj h1=>
     intro hl;rw [<-hs _ h0 _ hj,qaZ,zma.2 (.inl h1),qbp]
   | pass h0 hj _ h2 ih=>
     intro hl;rw [<-hs _ h0 _ hj,qaZ,zma.2 (.inr ⟨h2,ih hl⟩),qbp]
 rw [g0 hn hl] at hb;cases hb
def FromP (c:DCode) (p q:Nat):Prop:=q=p\/RP (zl8 c) p q
def FromP.lt (hp:p<c.procs.length) (h:FromP c p q):q<c.procs.length:=by
 rcases h with rfl | h
 . exact hp
 exact h.keeps (p:=λi=>i<c.procs.length) hp λi _ _ hj=>(zaO.1 hj).1
def FromP.trans (h:FromP c p q) (k:FromP c q r):FromP c p r:=by
 rcases h with rfl | h
 . exact k
 rcases k with rfl | k
 . exact .inr h
 exact .inr (h.trans k)
def FromP.call (h:FromP c p q) (hr:r<c.procs.length) (k:zkP c q 4 r):FromP c p r:=h.trans (.inr (.one (zaO.2 ⟨hr,k⟩)))
noncomputable def zgm (c:DCode) (p:Nat):Nat:=m6 λl=>¬ ∃ q i,q<c.procs.length/\FromP c p q/\zaL c q i/\(zap c i).op=7/\agN c i=l
inductive LostE (c:DCode):Nat->Nat->Nat->Prop
 | ent {p l:Nat}:LostE c p (eN c p) l
 | unl {p i j l:Nat} (h0:zaL c p i) (hj:j∈zaE c i) (ho:(zap c i).op=7) (ha:agN c i=l):LostE c p j l
 | cal {p i j l:Nat} (h0:zaL c p i) (hj:j∈zaE c i) (ho:(zap c i).op=4) (hk:(zgm c (agN c i)).testBit l=false) (h1:LostE c (agN c i) (zN c (agN c i)) l):LostE c p j l
 | bck {p i j l:Nat} (h0:zaL c p i) (hj:j∈zaE c i) (ho:(zap c i).op=4) (h2:LostE c p i l) (h1:LostE c (agN c i) (zN c (agN c i)) l):LostE c p j l
 | pass {p i j l:Nat} (h0:zaL c p i) (hj:j∈zaE c i) (h6:¬((zap c i).op=6/\agN c i=l)) (h4:¬(zap c i).op=4) (h1:LostE c p i l):LostE c p j l
noncomputable def zdt (c:DCode):Tab:=(List.range c.procs.length).map λp=>(zgm c p,m6 λl=>¬LostE c p (zN c p) l)
def zoY (c:DCode):(zdt c).length=c.procs.length:=by simp [zdt]
def zxm (hp:p<c.procs.length):tbl (zdt c) p=(zgm c p,m6 λl=>¬LostE c p (zN c p) l):=by
 rw [<-zjX (by rw [zoY];exact hp)];simp [zdt]
def zxn {T:Tab} (hl:T.length=c.procs.length) (h:∀ q,q<c.procs.length->(tbl T q).1<64/\(tbl T q).2<64):zxl c T:=⟨hl,λq=>by
 rcases qaw q c.procs.length with hq | hq
 . exact h q hq
 unfold tbl;rw [List.getD_eq_getElem?_getD,List.getElem?_eq_none oo];simp⟩
def zhP (c:DCode):zxl c (zdt c):=zxn (zoY c) λq hq=>by rw [zxm hq];exact ⟨zl9,zl9⟩
noncomputable def zeE (c:DCode) (T:Tab) (p:Nat):Nat:=zax (zcE c T p 0) (zN c p)
def zjd (hc:CodeR c) {T:Tab} {p l:Nat} (hp:p<c.procs.length) (hl:l<6):(zeE c T p).testBit l=false↔LostP c (tK T) (tG T) p (λl=>(0:Nat).testBit l=true) (zN c p) l:=by
 have hz:=(zmY hc (p:=p) (by rw [hc.2.1.1];exact hp)).2.2;unfold zeE;rw [zkR hz];constructor
 . intro h;refine qbd λhn=>?_;rw [znz.2 ⟨hl,hn⟩] at h;cases h
 intro h;cases e:(m6 λl=>¬LostP c (tK T) (tG T) p (λl=>(0:Nat).testBit l=true) (zN c p) l).testBit l
 . rfl
 exact absurd h (znz.1 e).2
def zkS (hc:CodeR c) {T:Tab} {p:Nat} (hp:p<c.procs.length):zeE c T p<64:=by
 have hz:=(zmY hc (p:=p) (by rw [hc.2.1.1];exact hp)).2.2;unfold zeE;rw [zkR hz];exact zl9
structure EI (c:DCode) (T:Tab):Prop where
 tab:zxl c T
 keep:∀ p,p<c.procs.length->(tbl T p).1=zgm c p
 snd:∀ p l,p<c.procs.length->l<6->(tbl T p).2.testBit l=false->LostE c p (zN c p) l
 desc:∀ p l,p<c.procs.length->l<6->(tbl T p).2.testBit l=false->(zeE c T p).testBit l=false
theorem EI.lost (hc:CodeR c) {T:Tab} (h:EI c T) {p i l:Nat} (hp:p<c.procs.length) (hl:l<6) (k:LostP c (tK T) (tG T) p (λl=>(0:Nat).testBit l=true) i l):LostE c p i l:=by
 have he:=hc.2.1.1
 induction k with
 | ent _=>exact .ent
 | gen h0 hj h1=>
   have hi:=(zbW hc (by rw [he];exact hp) h0).1;rcases h1 with ⟨h1,h2⟩ | ⟨h1,h2,h3⟩
   . exact .unl h0 hj h1 h2
   have hq:=(zcl hc hi (.inl h1)).2;refine .cal h0 hj h1 ?_ (h.snd _ _ hq hl (by unfold tG at h3;simpa using h3));unfold tK at h2;rw [h.keep _ hq] at h2;simpa using h2
 | @pass i j l h0 hj _ h2 ih=>
   have hi:=(zbW hc (by rw [he];exact hp) h0).1;by_cases h4:(zap c i).op=4
   . have hq:=(zcl hc hi (.inl h4)).2;refine .bck h0 hj h4 (ih hl) (h.snd _ _ hq hl ?_);have:=h2.2;unfold tG at this;simpa [h4] using this
   exact .pass h0 hj h2.1 h4 (ih hl)
def EI.start (c:DCode) (hc:CodeR c):EI c ((List.range c.procs.length).map λp=>(zgm c p,63)):=by
 have hl:((List.range c.procs.length).map λp=>(zgm c p,63)).length=c.procs.length:=by simp
 have g0:∀ p,p<c.procs.length->tbl ((List.range c.procs.length).map λp=>(zgm c p,63)) p=(zgm c p,63):=λp hp=>by
   rw [<-zjX (by rw [hl];exact hp)];simp
 refine ⟨zxn hl λq hq=>by rw [g0 q hq];exact ⟨zl9,oo⟩,λp hp=>by rw [g0 p hp],λp l hp h6 hb=>?_,λp l hp h6 hb=>?_⟩
 . rw [g0 p hp,zjc h6] at hb;cases hb
 rw [g0 p hp,zjc h6] at hb;cases hb
def EI.upd (hc:CodeR c) {T:Tab} (h:EI c T) {p:Nat} (hp:p<c.procs.length):EI c (T.set p ((tbl T p).1,zeE c T p)):=by
 have g0:p<T.length:=by rw [h.tab.1];exact hp
 have D:=λr=>zCr (T:=T) (q:=p) (r:=r) (v:=((tbl T p).1,zeE c T p)) g0
 have g1:∀ q l,l<6->(tbl T q).2.testBit l=false->(tbl (T.set p ((tbl T p).1,zeE c T p)) q).2.testBit l=false:=λq l hl hb=>by
   rw [D];split
   . rename_i e;subst e;exact h.desc p l hp hl hb
   exact hb
 have C:∀ {q l:Nat},q<c.procs.length->l<6->(zeE c T q).testBit l=false->(zeE c (T.set p ((tbl T p).1,zeE c T p)) q).testBit l=false:=λ{q l} hq hl hb=>by
   rw [zjd hc hq hl] at hb ⊢
   have g2:∀ {i l:Nat},l<6->LostP c (tK T) (tG T) q (λl=>(0:Nat).testBit l=true) i l->LostP c (tK (T.set p ((tbl T p).1,zeE c T p))) (tG (T.set p ((tbl T p).1,zeE c T p))) q (λl=>(0:Nat).testBit l=true) i l:=λ{i l} hl k=>by
     have hK:∀ r l,tK (T.set p ((tbl T p).1,zeE c T p)) r l↔tK T r l:=λr l=>by
       unfold tK;rw [D];split
       . rename_i e;rw [<-e]
       exact Iff.rfl
     have hG:∀ r,tG (T.set p ((tbl T p).1,zeE c T p)) r l->tG T r l:=λr e=>by
       unfold tG at e ⊢;refine zgl λhf=>?_;rw [g1 r l hl hf] at e;cases e
     clear hb
     induction k with
     | ent h0=>exact .ent h0
     | gen h0 hj h1=>exact .gen h0 hj (h1.imp id λ⟨a,b,d⟩=>⟨a,λe=>b ((hK _ _).1 e),λe=>d (hG _ e)⟩)
     | pass h0 hj _ h2 ih=>exact .pass h0 hj (ih hl hG) ⟨h2.1,λ⟨a,b⟩=>h2.2 ⟨a,hG _ b⟩⟩
   exact g2 hl hb
 refine ⟨⟨by simp [h.tab.1],λq=>?_⟩,λq hq=>?_,λq l hq hl hb=>?_,λq l hq hl hb=>?_⟩
 . rw [D];split
   . exact ⟨(h.tab.2 p).1,zkS hc hp⟩
   exact h.tab.2 q
 . rw [D];split
   . rename_i e;subst e;exact h.keep p hp
   exact h.keep q hq
 . rw [D] at hb;split at hb
   . rename_i e;subst e;exact h.lost hc hp hl ((zjd hc hp hl).1 hb)
   exact h.snd q l hq hl hb
 rw [D] at hb;split at hb
 . rename_i e;subst e;exact C hp hl hb
 exact C hq hl (h.desc q l hq hl hb)
def EI.le (hc:CodeR c) {T:Tab} (h:EI c T) {p:Nat} (hp:p<c.procs.length):zeE c T p<=(tbl T p).2:=by
 refine Nat.le_of_testBit λl hb=>?_;have hl:=zgN (zkS hc hp) hb;refine zgl λhf=>?_;rw [h.desc p l hp hl hf] at hb;cases hb
def EI.fin (hc:CodeR c) {T:Tab} (h:EI c T) (hs:∀ p,p<c.procs.length->zeE c T p=(tbl T p).2):T=zdt c:=by
 refine qaP (by rw [h.tab.1,zoY]) λp h1 h2=>?_;have hp:p<c.procs.length:=by rw [<-h.tab.1];exact h1
 rw [zjX h1,zjX h2,zxm hp]
 have g0:∀ {p i l:Nat},LostE c p i l->p<c.procs.length->l<6->LostP c (tK T) (tG T) p (λl=>(0:Nat).testBit l=true) i l:=λ{p i l} k=>by
   have hz:∀ {i l:Nat},(zap c i).op=4->i<c.ins.length->l<6->(agN c i<c.procs.length->l<6->LostP c (tK T) (tG T) (agN c i) (λl=>(0:Nat).testBit l=true) (zN c (agN c i)) l)->¬tG T (agN c i) l:=λ{i l} ho hi hl k1=>by
     have hq:=(zcl hc hi (.inl ho)).2;have:=(zjd hc hq hl).2 (k1 hq hl);rw [hs _ hq] at this;unfold tG;rw [this];simp
   induction k with
   | ent=>exact λ_ _=>.ent ss
   | unl h0 hj ho ha=>exact λ_ _=>.gen h0 hj (.inl ⟨ho,ha⟩)
   | cal h0 hj ho hk _ ih=>
     intro hp hl;have hi:=(zbW hc (by rw [hc.2.1.1];exact hp) h0).1;have hq:=(zcl hc hi (.inl ho)).2;refine .gen h0 hj (.inr ⟨ho,?_,hz ho hi hl ih⟩);unfold tK;rw [h.keep _ hq,hk];simp
   | bck h0 hj ho _ _ ih2 ih1=>
     intro hp hl;have hi:=(zbW hc (by rw [hc.2.1.1];exact hp) h0).1;exact .pass h0 hj (ih2 hp hl) ⟨λh=>oo,λh=>hz ho hi hl ih1 h.2⟩
   | pass h0 hj h6 h4 _ ih=>exact λhp hl=>.pass h0 hj (ih hp hl) ⟨h6,λh=>h4 h.1⟩
 refine Prod.ext (h.keep p hp) (zxi (h.tab.2 p).2 λl hl=>⟨λhb hn=>?_,λhn=>zgl λhb=>hn (h.snd p l hp hl hb)⟩);have:=(zjd hc hp hl).2 (g0 hn hp hl);rw [hs p hp] at this;rw [this] at hb;cases hb
def zxo (T:Tab):Nat:=(T.map (·.2)).sum
def zzn {T:Tab} {v:Nat×Nat} (hp:p<T.length):zxo (T.set p v)+(tbl T p).2=zxo T+v.2:=by
 unfold zxo;rw [qdd];have:=zjW (l:=T.map (·.2)) (i:=p) (v:=v.2) (by simpa using hp);rw [<-zbh (by simpa using hp)] at this;rw [<-zjX hp];simpa using this
def zcX (c:DCode):Nat:=(plc zg5 c.procs).toNat
inductive RootP (c:DCode):Nat->Prop
 | main:RootP c (zcX c)
 | spawn {r p q:Nat} (h0:RootP c r) (h1:FromP c r p) (h2:zkP c p 5 q) (hq:q<c.procs.length):RootP c q
def UsedP (c:DCode) (p:Nat):Prop:=∃ r,RootP c r/\FromP c r p
def ze0 (hc:CodeR c):plc zg5 c.procs=(zcX c:Int)/\zcX c<c.procs.length:=by
 have:=zCo hc;have:=hc.2.1.1;unfold zcX;omega
theorem RootP.lt (hc:CodeR c) {r:Nat} (h:RootP c r):r<c.procs.length:=by
 cases h with
 | main=>exact (ze0 hc).2
 | spawn _ _ _ hq=>exact hq
def UsedP.lt (hc:CodeR c) {p:Nat} (h:UsedP c p):p<c.procs.length:=by
 obtain ⟨_,h1,h2⟩:=h;exact h2.lt (h1.lt hc)
def UsedP.call (h:UsedP c p) (hq:q<c.procs.length) (k:zkP c p 4 q):UsedP c q:=by
 obtain ⟨r,h1,h2⟩:=h;exact ⟨r,h1,h2.call hq k⟩
inductive LostM (c:DCode) (K G:Nat->Nat->Prop):Nat->Option Nat->Nat->Prop
 | root {p l:Nat} (h:RootP c p):LostM c K G p none l
 | call {p i l:Nat} (hu:UsedP c p) (h0:zaL c p i) (ho:(zap c i).op=4) (h:LostM c K G p (some i) l):LostM c K G (agN c i) none l
 | ent {p l:Nat} (h:LostM c K G p none l):LostM c K G p (some (eN c p)) l
 | gen {p i j l:Nat} (h0:zaL c p i) (hj:j∈zaE c i) (h1:zD6 c K G i l):LostM c K G p (some j) l
 | pass {p i j l:Nat} (h0:zaL c p i) (hj:j∈zaE c i) (h1:LostM c K G p (some i) l) (h2:zxk c G i l):LostM c K G p (some j) l
noncomputable def zty (c:DCode) (p:Nat):Nat:=m6 λl=>¬LostM c (tK (zdt c)) (tG (zdt c)) p none l
noncomputable def zCs (c:DCode):List Nat:=(List.range c.procs.length).map (zty c)
def zkT (c:DCode):(zCs c).length=c.procs.length:=by simp [zCs]
def zrW (hp:p<c.procs.length):zax (zCs c) p=zty c p:=by rw [<-zbh (by rw [zkT];exact hp)];simp [zCs]
structure BI (c:DCode) (out:List Nat):Prop where
 len:out.length=c.procs.length
 lt:∀ x∈out,x<64
 snd:∀ p l,p<c.procs.length->l<6->(zax out p).testBit l=false->LostM c (tK (zdt c)) (tG (zdt c)) p none l
 root:∀ p l,RootP c p->l<6->(zax out p).testBit l=false
def BI.lt0 (h:BI c out) (i:Nat):zax out i<64:=by
 rcases qaw i out.length with hi | hi
 . exact h.lt _ (zoW hi)
 unfold zax;rw [List.getD_eq_getElem?_getD,List.getElem?_eq_none hi];simp
def zoZ {T:Tab} (hi:i<c.ins.length) (hl:l<6):(zax (zcE c T p h) i).testBit l=false↔LostP c (tK T) (tG T) p (λl=>h.testBit l=true) i l:=by
 rw [zkR hi];constructor
 . intro h;refine qbd λhn=>?_;rw [znz.2 ⟨hl,hn⟩] at h;cases h
 intro k;cases e:(m6 λl=>¬LostP c (tK T) (tG T) p (λl=>h.testBit l=true) i l).testBit l
 . rfl
 exact absurd k (znz.1 e).2
def BI.start (hc:CodeR c) (out:List Nat) (hl:out.length=c.procs.length) (h:∀ p,p<c.procs.length->(RootP c p->zax out p=0)/\(¬RootP c p->zax out p=63)):BI c out:=by
 refine ⟨hl,λ_ hx=>?_,λp l hp h6 hb=>?_,λp l hr h6=>?_⟩
 . obtain ⟨i,hi,rfl⟩:=qcD hx;rw [zbh hi];have:=h i oo;by_cases hr:RootP c i
   . rw [this.1 hr];omega
   rw [this.2 hr];omega
 . by_cases hr:RootP c p
   . exact .root hr
   rw [(h p hp).2 hr,zjc h6] at hb;cases hb
 rw [(h p (hr.lt hc)).1 hr];simp
theorem BI.lost (h:BI c out) {p i l:Nat} (hp:p<c.procs.length) (hl:l<6) (k:LostP c (tK (zdt c)) (tG (zdt c)) p (λl=>(zax out p).testBit l=true) i l):LostM c (tK (zdt c)) (tG (zdt c)) p (some i) l:=by
 induction k with
 | ent h0=>exact .ent (h.snd p _ hp hl (by simpa using h0))
 | gen h0 hj h1=>exact .gen h0 hj h1
 | pass h0 hj _ h2 ih=>exact .pass h0 hj (ih hl) h2
def BI.upd (hc:CodeR c) {out:List Nat} (h:BI c out) {p i:Nat} (hu:UsedP c p) (hi:zaL c p i) (ho:(zap c i).op=4) :
   BI c (out.set (agN c i) (zax out (agN c i) &&& zax (zcE c (zdt c) p (zax out p)) i)):=by
 have hp:=hu.lt hc;have g0:=(zbW hc (by rw [hc.2.1.1];exact hp) hi).1;have hq:=(zcl hc g0 (.inl ho)).2;refine ⟨by simp [h.len],λx hx=>?_,λr l hr hl hb=>?_,λr l hr hl=>?_⟩
 . rcases zit hx with rfl | hx
   . exact qaN qa4 (h.lt0 _)
   exact h.lt x hx
 . rw [zb6 (by rw [h.len];exact hq)] at hb;split at hb
   . rename_i e;subst e;rw [qaZ,qbJ] at hb;rcases hb with hb | hb
     . exact h.snd _ l hr hl hb
     refine .call hu hi ho<|h.lost hp hl ((zoZ g0 hl).1 hb)
   exact h.snd r l hr hl hb
 rw [zb6 (by rw [h.len];exact hq)];split
 . rename_i e;rw [qaZ,e,h.root r l hr hl];rfl
 exact h.root r l hr hl
def BI.fin (hc:CodeR c) {out:List Nat} (h:BI c out) (hs:∀ p i,UsedP c p->zaL c p i->(zap c i).op=4->zax out (agN c i) &&& zax (zcE c (zdt c) p (zax out p)) i=zax out (agN c i)):out=zCs c:=by
 refine qaP (by rw [h.len,zkT]) λp h1 h2=>?_;have hp:p<c.procs.length:=by rw [<-h.len];exact h1
 rw [zbh h1,zbh h2,zrW hp]
 have g0:∀ {p:Nat} {o:Option Nat} {l:Nat},LostM c (tK (zdt c)) (tG (zdt c)) p o l->l<6->match o with
     | none=>(zax out p).testBit l=false
     | some i=>LostP c (tK (zdt c)) (tG (zdt c)) p (λl=>(zax out p).testBit l=true) i l:=λ{p o l} k=>by
   induction k with
   | root hr=>exact λhl=>h.root _ _ hr hl
   | @call p i l hu h0 ho _ ih=>
     intro hl;have g1:=(zbW hc (by rw [hc.2.1.1];exact hu.lt hc) h0).1;simp only;rw [<-hs p i hu h0 ho,qaZ,(zoZ g1 hl).2 (ih hl),qbp]
   | ent _ ih=>exact λhl=>.ent (by have:=ih hl;simp only at this;rw [this];simp)
   | gen h0 hj h1=>exact λhl=>.gen h0 hj h1
   | pass h0 hj _ h2 ih=>exact λhl=>.pass h0 hj (ih hl) h2
 refine zxi (h.lt0 p) λl hl=>⟨λhb hn=>?_,λhn=>zgl λhb=>hn (h.snd p l hp hl hb)⟩;have:=g0 hn hl;simp only at this;rw [this] at hb;cases hb
noncomputable def zgn (c:DCode) (i:Nat):Nat:=@ite _ (UsedP c (zaA c i).toNat) (Classical.propDecidable _) (zax (zcE c (zdt c) (zaA c i).toNat (zty c (zaA c i).toNat)) i) 63
noncomputable def zjY (c:DCode):List Nat:=(List.range c.ins.length).map (zgn c)
def zje (c:DCode):(zjY c).length=c.ins.length:=by simp [zjY]
def zzo (hi:i<c.ins.length):zax (zjY c) i=zgn c i:=by rw [<-zbh (by rw [zje];exact hi)];simp [zjY]
def zdI {l:List Nat} (h:∀ x∈l,x<64) (i:Nat):zax l i<64:=by
 rcases qaw i l.length with hi | hi
 . exact h _ (zoW hi)
 unfold zax;rw [List.getD_eq_getElem?_getD,List.getElem?_eq_none hi];simp
def zxp (c:DCode) (i:Nat):zgn c i<64:=by
 unfold zgn;split
 . exact zdI zjb i
 omega
def zo0 (c:DCode):∀ x∈zjY c,x<64:=λx hx=>by
 obtain ⟨i,_,rfl⟩:=qa3.1 hx;exact zxp c i
def zmb (hp:zaA c i=p) (hu:UsedP c p):zgn c i=zax (zcE c (zdt c) p (zty c p)) i:=by
 unfold zgn;rw [hp,qaF,qah hu]
def znA (hp:zaA c i=p) (hu:¬UsedP c p):zgn c i=63:=by
 unfold zgn;rw [hp,qaF,qad hu]
inductive MetP (c:DCode):Nat->Prop
 | root {p:Nat} (h:RootP c p):MetP c (eN c p)
 | call {i:Nat} (h:MetP c i) (ho:(zap c i).op=4):MetP c (eN c (agN c i))
 | next {i j:Nat} (h:MetP c i) (ho:¬(zap c i).op=4) (hj:j∈zaE c i):MetP c j
 | back {i j:Nat} (h:MetP c i) (ho:(zap c i).op=4) (hz:MetP c (zN c (agN c i))) (hj:j∈zaE c i):MetP c j
theorem MetP.lt (hc:CodeR c) {i:Nat} (h:MetP c i):i<c.ins.length:=by
 induction h with
 | root h=>exact (zgP hc (by rw [hc.2.1.1];exact h.lt hc)).2.1
 | call _ ho ih=>exact (zgP hc (by rw [hc.2.1.1];exact (zcl hc ih (.inl ho)).2)).2.1
 | next _ _ hj ih=>exact (zdg hc ih hj).1
 | back _ _ _ hj ih _=>exact (zdg hc ih hj).1
inductive MayP (c:DCode):Nat->Nat->Prop
 | lock {i j l:Nat} (h:MetP c i) (ho:(zap c i).op=6) (ha:agN c i=l) (hj:j∈zaE c i):MayP c j l
 | pass {i j l:Nat} (h:MetP c i) (ho:¬(zap c i).op=4) (ha:¬((zap c i).op=7/\agN c i=l)) (hm:MayP c i l) (hj:j∈zaE c i):MayP c j l
 | call {i l:Nat} (h:MetP c i) (ho:(zap c i).op=4) (hm:MayP c i l):MayP c (eN c (agN c i)) l
 | back {i j l:Nat} (h:MetP c i) (ho:(zap c i).op=4) (hz:MetP c (zN c (agN c i))) (hm:MayP c (zN c (agN c i)) l) (hj:j∈zaE c i):MayP c j l
noncomputable def zg9 (c:DCode):List Bool:=zbT c.ins.length (MetP c)
noncomputable def zqr (c:DCode):List Nat:=(List.range c.ins.length).map λi=>m6 (MayP c i)
def zkU (c:DCode):(zqr c).length=c.ins.length:=by simp [zqr]
def zrX (hi:i<c.ins.length):zax (zqr c) i=m6 (MayP c i):=by rw [<-zbh (by rw [zkU];exact hi)];simp [zqr]
def zxq (c:DCode):∀ x∈zqr c,x<64:=λx hx=>by
 obtain ⟨i,_,rfl⟩:=qa3.1 hx;exact zl9
structure MetC (c:DCode) (M:Nat->Prop):Prop where
 root:∀ p,RootP c p->M (eN c p)
 call:∀ i,M i->(zap c i).op=4->M (eN c (agN c i))
 next:∀ i j,M i->¬(zap c i).op=4->j∈zaE c i->M j
 back:∀ i j,M i->(zap c i).op=4->M (zN c (agN c i))->j∈zaE c i->M j
theorem MetC.all {M:Nat->Prop} (h:MetC c M) {i:Nat} (k:MetP c i):M i:=by
 induction k with
 | root h1=>exact h.root _ h1
 | call _ ho ih=>exact h.call _ ih ho
 | next _ ho hj ih=>exact h.next _ _ ih ho hj
 | back _ ho _ hj ih1 ih2=>exact h.back _ _ ih1 ho ih2 hj
structure MayC (c:DCode) (H:Nat->Nat->Prop):Prop where
 lock:∀ i j,MetP c i->(zap c i).op=6->j∈zaE c i->H j (agN c i)
 pass:∀ i j l,MetP c i->l<6->¬(zap c i).op=4->¬((zap c i).op=7/\agN c i=l)->H i l->j∈zaE c i->H j l
 call:∀ i l,MetP c i->l<6->(zap c i).op=4->H i l->H (eN c (agN c i)) l
 back:∀ i j l,MetP c i->l<6->(zap c i).op=4->MetP c (zN c (agN c i))->H (zN c (agN c i)) l->j∈zaE c i->H j l
theorem MayC.all {H:Nat->Nat->Prop} (h:MayC c H) {i l:Nat} (hl:l<6) (k:MayP c i l):H i l:=by
 induction k with
 | lock hm ho ha hj=>exact ha▸h.lock _ _ hm ho hj
 | pass hm ho ha _ hj ih=>exact h.pass _ _ _ hm hl ho ha (ih hl) hj
 | call hm ho _ ih=>exact h.call _ _ hm hl ho (ih hl)
 | back hm ho hz _ hj ih=>exact h.back _ _ _ hm hl ho hz (ih hl) hj
structure DEffect where
 keep:Int
 gen:Int
def DEffect.ext_iff {x y:DEffect}:x=y↔(x.keep=y.keep/\x.gen=y.gen):=⟨λh=>by rw [h];exact ⟨rfl,rfl⟩,λh=>by obtain ⟨h0,h1⟩:=h;cases x;cases y;simp only at h0 h1;simp only [h0,h1]⟩
instance:DecidableEq DEffect:=λx y=>decidable_of_iff (x.keep=y.keep/\x.gen=y.gen) DEffect.ext_iff.symm
instance:Rep DEffect:=Rep.via λx=>(x.keep,x.gen)
def zkr {x:DEffect} (h:At w b o x):At w b (o+0) x.keep:=zcB (α:=Int) (β:=Int) (p:=(x.keep,x.gen)) h
def zfL {x:DEffect} (h:At w b o x):At w b (o+1) x.gen:=zbi (α:=Int) (β:=Int) (p:=(x.keep,x.gen)) h
instance:RepZ DEffect:=⟨⟨(RepZ.zv:Int),(RepZ.zv:Int)⟩,RepZ.zc (Int×Int),λw=>RepZ.zr (α:=Int×Int) w⟩
def zmZ {γ:Type} {H:List Nat->wD->γ->Prop} {x:DEffect} {upd:DEffect->γ} (h:Lens H F w b o G x upd) :
   ∃ G1,Lens H F w b (o+1) G1 x.gen (λy=>upd ⟨x.keep,y⟩):=by
 have h':Lens H F w b o G (x.keep,x.gen) (λp:Int×Int=>upd ⟨p.1,p.2⟩):=⟨h.here,h.sub,λw' G' _ hc hO hs=>h.back w' G' _ hc hO hs⟩;obtain ⟨_,h'⟩:=h'.snd;exact ⟨_,h'⟩
def zuy {x:DEffect} (h_keep:I64 x.keep) (h_gen:I64 x.gen):Mine [] w (.agg #[.int .i64 x.keep,.int .i64 x.gen]) x:=⟨⟨[.int .i64 x.keep,.int .i64 x.gen],⟨[],[],[.int .i64 x.keep],[.int .i64 x.gen],rfl,rfl,⟨rfl,rfl,h_keep⟩,⟨rfl,rfl,h_gen⟩⟩,rfl⟩,qas,Wr.nil w⟩
instance:Flat DEffect:=⟨λh=>Flat.flat (α:=Int×Int) h⟩
def zyA (x:Nat×Nat):DEffect:=⟨(x.1:Int),(x.2:Int)⟩
def zh7 (T:Tab):List DEffect:=T.map zyA
def zfM (T:Tab):(zh7 T).length=T.length:=by simp [zh7]
def zgQ {T:Tab} (h:q<(zh7 T).length):(zh7 T)[q]=zyA (tbl T q):=by
 have h':q<T.length:=by rw [<-zfM];exact h
 rw [<-zjX h'];simp [zh7]
def zzp (T:Tab) (q:Nat) (v:Nat×Nat):zh7 (T.set q v)=(zh7 T).set q (zyA v):=by simp [zh7,qdd]
def zfW (h:n<6):2^n<64:=qaY (n:=6) oo h
def FL.updM {T:Tab} (hF:FL c T p h out) (hc:CodeR c) (hp:p<c.entry.length) {i j:Nat} (hi:zaL c p i) (hj:j∈zaE c i)
   (hm:∀ l,l<6->m.testBit l=false->LostP c (tK T) (tG T) p (λl=>h.testBit l=true) i l):FL c T p h (out.set j (zax out j &&& aft c T i m)):=by
 have g1:=(zbW hc hp hi).1;have g0:=(zdg hc g1 hj).1;refine ⟨by simp [hF.len],λx hx=>?_,λk l hk hl hb=>?_,λl hl hb=>?_⟩
 . rcases zit hx with rfl | hx
   . exact qaN qa4 (hF.lt0 j)
   exact hF.lt x hx
 . rw [zb6 (by rw [hF.len];exact g0)] at hb;split at hb
   . rename_i e;subst e;rw [qaZ,qbJ] at hb;rcases hb with hb | hb
     . exact hF.snd j l hk hl hb
     rcases zma.1 hb with h1 | ⟨h1,h2⟩
     . exact .gen hi hj h1
     exact .pass hi hj (hm l hl h2) h1
   exact hF.snd k l hk hl hb
 rw [zb6 (by rw [hF.len];exact g0)];split
 . rename_i e;rw [qaZ,e,hF.ent l hl hb];rfl
 exact hF.ent l hl hb
def zxr {T:Tab} (h0:Is W0 v0 (zap c i)) (e0:Ext W0 w) (h1:Is W1 v1 (zh7 T)) (e1:Ext W1 w) (hc:CodeR c) (hT:zxl c T) (hi:i<c.ins.length) (hm:m<64) :
   CALL tp 263 [v0,v1,.int .i64 (m:Int)] w λr w'=>Ext w w'/\r=.int .i64 (aft c T i m:Nat):=by
 refine co (g:=kf [] [] [(7,[0,1,2,3,4,5,6,7,8,9,10,11,12,13,14,15],0)]) Tryz.func263 ?_;refine zbk h0 e0 λw1 g2 hA=>?_;have g3:=λh=>zcl hc hi (.inl h);have g0:=λh=>zdA hc hi h;have:=hc.1.procs8;have g1:aft c T i m=if (zap c i).op=6 then m ||| 2^agN c i else if (zap c i).op=7 then zkQ m (2^agN c i) else if (zap c i).op=4 then (m &&& (tbl T (agN c i)).1) ||| (tbl T (agN c i)).2 else m:=rfl;rw [g1];clear g1;generalize agN c i=q at *;generalize zap c i=I at *;refine zaa zbE<|zad ty3 (zaD hA) (xrf _) λ_=>zag<|br (λc6=>?_) (λc6=>?_)
 . obtain ⟨ha,_,hq⟩:=g0 (.inl c6);have hp:=zfW hq;rw [qah c6];refine zaa zbG<|zad ty3 (zaF hA) (xrf _) λ_=>?_;rw [ha];refine zcc kK zlh oo<|zeH oo<|zhb oo oo<|⟨g2,rfl⟩
 rw [qad c6];refine zag<|br (λc7=>?_) (λc7=>?_)
 . obtain ⟨ha,_,hq⟩:=g0 (.inr c7);have hp:=zfW hq;rw [qah c7];refine zaa zbG<|zad ty3 (zaF hA) (xrf _) λ_=>?_;rw [ha];refine zcc kK zlh oo<|zeH oo<|zho oo oo<|⟨g2,rfl⟩
 rw [qad c7];refine zag<|br (λc4=>?_) (λc4=>?_)
 . obtain ⟨ha,hq⟩:=g3 c4;rw [qah c4];have g4:=zai w1;generalize World.drew1 w1=w2 at *;have g5:q<(zh7 T).length:=by rw [zfM,hT.1];exact hq
   have:=hT.2 q;have C:=g2.t g4;refine zaa zbG<|zad ty3 (zaF hA) g4 λ_=>?_;rw [ha];refine zac zv3 zmU h1 g5 λ_ _ hE=>?_;rw [zgQ] at hE;refine zaa zv4<|zad ty3 (zkr hE) (e1.trans C) λ_=>zeS (n:=(tbl T q).1) oo oo<|zaa zbG<|zad ty3 (zaF hA) g4 λ_=>?_;rw [ha];refine zac zv3 zmU h1 g5 λ_ _ g9=>?_;rw [zgQ] at g9;refine zaa zlk<|zad ty3 (zfL g9) (e1.trans C) λ_=>?_;have:=qa4 (n:=m) (m:=(tbl T q).1);refine zhb (n:=(tbl T q).2) oo oo<|⟨C,rfl⟩
 rw [qad c4];exact ⟨g2,rfl⟩
def zjZ {a:Nat}   (ha:a<64) (hb:b<64) :
   CALL tp 239 [.int .i64 (a:Int),.int .i64 (b:Int)] w λr w'=>Ext w w'/\(r=.int .i64 ((a &&& (63-b):Nat):Int)):=by
 refine co (g:=kf [] [] []) Tryz.func239 ?_;refine (ztv ).mono ?_;rintro _ _ ⟨y1,rfl⟩;refine za0<|br (λc1=>?_) (λc1=>?_)
 . refine ⟨y1,?_⟩
   first | rfl | (exfalso;omega)
 refine (ztv ).mono ?_;rintro _ _ ⟨y2,rfl⟩;refine za0<|br (λc2=>?_) (λc2=>?_)
 . refine ⟨(y1.t y2),?_⟩
   first | rfl | (exfalso;omega)
 have g0:(63:Int)-(b:Int)=((63-b:Nat):Int):=oo;refine zbp io ?_;rw [g0];refine zeS oo oo<|⟨(y1.t y2),?_⟩
 first | rfl | (exfalso;omega)
def ziv {a b:Nat} (ha:a<64) (hb:b<64):a &&& (63-b)=zkQ a b:=by
 refine qbl λl=>?_;rw [qaZ,zdh];cases h:a.testBit l
 . rfl
 have hl:=zgN ha h;have:=Nat.testBit_two_pow_sub_succ (n:=6) (x:=b) hb l;rw [show 2^6-(b+1)=63-b by omega] at this;rw [this,decide_eq_true hl,qbZ]
def zrY {T:Tab} (h0:Is W0 v0 (zap c i)) (e0:Ext W0 w) (h1:Is W1 v1 (zh7 T)) (e1:Ext W1 w) (hc:CodeR c) (hT:zxl c T) (hi:i<c.ins.length) (hm:m<64) :
   CALL tp 292 [v0,v1,.int .i64 (m:Int)] w λr w'=>Ext w w'/\r=.int .i64 (aft c T i m:Nat):=by
 refine co (g:=kf [] [] [(7,[0,1,2,3,4,5,6,7,8,9,10,11,12,13,14,15],0)]) Tryz.func292 ?_;refine zbk h0 e0 λw1 g2 hA=>?_;have g3:=λh=>zcl hc hi (.inl h);have g0:=λh=>zdA hc hi h;have:=hc.1.procs8;have g1:aft c T i m=if (zap c i).op=6 then m ||| 2^agN c i else if (zap c i).op=7 then zkQ m (2^agN c i) else if (zap c i).op=4 then (m &&& (tbl T (agN c i)).1) ||| (tbl T (agN c i)).2 else m:=rfl;rw [g1];clear g1;generalize agN c i=q at *;generalize zap c i=I at *;refine zaa zbE<|zad ty3 (zaD hA) (xrf _) λ_=>zag<|br (λc6=>?_) (λc6=>?_)
 . obtain ⟨ha,_,hq⟩:=g0 (.inl c6);have hp:=zfW hq;rw [qah c6];refine zaa zbG<|zad ty3 (zaF hA) (xrf _) λ_=>?_;rw [ha];refine (zgk oo).mono ?_;rintro _ w2 ⟨C,rfl⟩;refine zhb oo oo<|⟨g2.t C,rfl⟩
 rw [qad c6];refine zag<|br (λc7=>?_) (λc7=>?_)
 . obtain ⟨ha,_,hq⟩:=g0 (.inr c7);have hp:=zfW hq;rw [qah c7];refine zaa zbG<|zad ty3 (zaF hA) (xrf _) λ_=>?_;rw [ha];refine (zgk oo).mono ?_;rintro _ w2 ⟨C,rfl⟩;refine (zjZ hm hp).mono ?_;rintro _ _ ⟨g9,rfl⟩;exact ⟨(g2.t C).trans g9,by rw [ziv hm hp]⟩
 rw [qad c7];refine zag<|br (λc4=>?_) (λc4=>?_)
 . obtain ⟨ha,hq⟩:=g3 c4;rw [qah c4];have C:=zai w1;generalize World.drew1 w1=w2 at *;have g4:q<(zh7 T).length:=by rw [zfM,hT.1];exact hq
   have:=hT.2 q;have D:=g2.t C;refine zaa zbG<|zad ty3 (zaF hA) C λ_=>?_;rw [ha];refine zac zv3 zmU h1 g4 λ_ _ hE=>?_;rw [zgQ] at hE;refine zaa zv4<|zad ty3 (zkr hE) (e1.trans D) λ_=>zeS (n:=(tbl T q).1) oo oo<|zaa zbG<|zad ty3 (zaF hA) C λ_=>?_;rw [ha];refine zac zv3 zmU h1 g4 λ_ _ g5=>?_;rw [zgQ] at g5;refine zaa zlk<|zad ty3 (zfL g5) (e1.trans D) λ_=>?_;have:=qa4 (n:=m) (m:=(tbl T q).1);refine zhb (n:=(tbl T q).2) oo oo<|⟨D,rfl⟩
 rw [qad c4];exact ⟨g2,rfl⟩
def zfX (c:DCode) (i:Nat):Prop:=∃ p,p<c.procs.length/\zaL c p i
structure WL (W0:wD) (b:Nat) (c:DCode):Prop where
 code:At W0 b 0 c
 live:At W0 b (0+5) (zbT c.ins.length (zfX c))
theorem zjf {p:Nat->Prop} (h:n<=m) (hp:∀ i,n<=i->i<m->¬p i):zbb m p=zbb n p:=by
 induction m with
 | zero=>(have:n=0:=by omega);subst this;rfl
 | succ m ih=>
   by_cases e:n=m+1
   . rw [e]
   rw [zdz (hp m oo oo),ih oo λi h1 _=>hp i h1 oo]
def zhp (hW:WL W0 b c) (e0:Ext W0 w) (hc:CodeR c) (hp:p<c.procs.length) :
   CALL tp 143 [.pointer (some ⟨b,0,none⟩),.int .i64 (p:Int)] w λr w'=>Ext w w'/\Own w.heap.size w' r (zaK (zbb c.ins.length (zaL c p))):=by
 refine co (g:=kf [] [(3,68719444064,[5,6])] []) Tryz.func143 ?_;have D:p<c.entry.length:=by rw [hc.2.1.1];exact hp
 have hil:=hc.f.ins;have h8:=hc.1.procs8;obtain ⟨g9,_,_⟩:=zgP hc D;obtain ⟨gb,_,_⟩:=zmY hc D
 have g4:∀ i,zaL c p i->eN c p<=i/\i<=zN c p:=λi h=>by
   have:=zbW hc D h;exact zrV hc this.1 D this.2
 refine NIL.mk rfl<|zaa zbc<|zaa zbj<|zab zcn (zav hW.code) e0 λ_ gc=>zac u31 ty3 gc D λ_ _ g5=>?_;rw [zbK D,g9] at g5;refine zad ty3 g5 e0 λ_=>?_;generalize hE:eN c p=E at *;generalize hZ:zN c p=Z at *
 have h0:zbb E (zaL c p)=[]:=by
   rw [zjf (n:=0) (z0 _) λi _ h2 h3=>by have:=g4 i h3;omega];rfl
 refine zar (Z+1-E) (λk us w'=>∃ (v:vL),us=[v,.int .i64 ((E+k:Nat):Int)]/\E+k<=Z+1/\Ext w w'/\RowI w.heap.size w'.heap.size 3 w' v (zaK (zbb (E+k) (zaL c p)))) 0 (z0 _) ⟨_,rfl,oo,xrf _,by rw [qck,h0];exact zbL _ _ _ _⟩ ?_;rintro k mk _ _ _ ⟨v,hu,_,O,g2⟩;obtain ⟨gd,gf⟩:=zcv hu;rw [gd,gf];have M:=e0.t O;have hs2:=O.size;refine NIL.mk rfl<|zaa zbc<|zab zbO hW.code M λ_ gg=>?_;refine (zdO gg M oo).mono ?_;rintro _ w3 ⟨C,rfl⟩;rw [gb];have g0:=M.t C;refine zah<|br (λ_=>?_) (λ_=>?_)
 case refine_2=>
   have hk:E+k=Z+1:=oo;refine ⟨O.t C,?_⟩;rw [zjf (n:=Z+1) oo λi h1 _ h3=>by have:=g4 i h3;omega,<-hk];exact (g2.ext C).own.own
 have hk:E+k<c.ins.length:=oo;refine NIL.mk rfl<|zaa zoe<|zab zcR hW.live g0 λ_ gh=>zac zdj ty4 (i:=E+k) gh (by rw [zam];exact hk) λ_ _ gi=>zaC ty4 gi g0 ?_;have g3:=zaM (n:=c.ins.length) (p:=zfX c) (i:=E+k);rw [zaZ (by rw [zam];exact hk)] at g3
 have g1:zfX c (E+k)↔zaL c p (E+k):=by
   constructor
   . rintro ⟨q,hq,hl⟩;have h1:=zbW hc (by rw [hc.2.1.1];exact hq) hl;have h2:=zoX hc (p:=p) (i:=E+k) D oo oo;have:q=p:=oo;rwa [this] at hl
   exact λh=>⟨p,hp,h⟩
 have hsl:=zbe (n:=E+k) (p:=zaL c p);refine zaN (λhf=>?_) (λhf=>?_)
 . refine zbs (lo2:=w3.heap.size) (hi2:=w3.heap.size) (x:=((E+k:Nat):Int)) u31 ty3 z3 zc3 dD (g2.ext C) (by have:=C.size;omega) (zc2 _ _ io) (by have:=C.size;omega) (by have:=C.size;omega) (by rw [zak,zaf];omega) (by rw [zaf];omega) λgj _ gl gn=>?_;refine zaw<|⟨mk-1,oo,k+1,oo,gj,rfl,oo,(O.t C).chgI gl oo,?_⟩;rw [<-qbW,zdf (g1.1 (g3.1 hf).2),zcz];exact gn
 refine zaw<|⟨mk-1,oo,k+1,oo,v,rfl,oo,O.t C,?_⟩;rw [<-qbW,zdz λh=>by rw [g3.2 ⟨hk,g1.2 h⟩] at hf;cases hf];exact (g2.ext C).mono (lr _) C.size
def zd3 {K:VW} (h0:0<n) (hn:n<=1000000)
   (k:∀ w',Ext w w'->Mine [w.heap.size] w' (.slice (some ⟨w.heap.size,0,none⟩) n n) (zaK (List.replicate n 0))->K (.slice (some ⟨w.heap.size,0,none⟩) n n) w'):OP tp (Instr.makeSlice 31 (.int .i64 (n:Int)) (.int .i64 (n:Int))) w K:=
 zhG (α:=Int) u31 ty3 rfl rfl zEP oo oo λw2 hx2 hr2=>by
   refine k w2 hx2 ?_;obtain ⟨_,hM,_⟩:=hr2.own;obtain ⟨_,_,_,hv,hF2⟩:=zfJ hM (by intro e;have:=qat List.length e;simp at this;omega);simp only [Value.slice.injEq,qaq,Addr.mk.injEq,qa8,and_true] at hv;obtain ⟨⟨hb,_⟩,_⟩:=hv;rw [<-hb] at hF2;rw [hF2] at hM;have e:zaK (List.replicate n 0)=List.replicate n (RepZ.zv:Int):=by simp only [zaK,List.map_replicate];rfl
   rw [e];exact hM
def zj0 {t ty e:TypeId} {a:Option Addr} {n c:Nat} (ht:P.underlying t=some (.slice e)) (k:K (.int .i64 (n:Int))) :
   RD P (Builtin.len_ #[t] ty [Value.slice a n c].toArray) w K:=za9 (λw' _=>by simp [Builtin.len_,run_underlying ht];rfl) k
structure FW (w1 w:wD) (g n:Nat) (out:List Nat):Prop where
 ext:Ext w1 w
 mine:Mine [g] w (.slice (some ⟨g,0,none⟩) n n) (zaK out)
 g0:w1.heap.size<=g
section
variable {w1 w w':wD} {g n:Nat} {out:List Nat}
def FW.step (h:FW w1 w g n out) (hx:Ext w w'):FW w1 w' g n out:=⟨h.ext.trans hx,h.mine.ext hx,h.g0⟩
def zfl (hc:Chg [g] w w'):ChgI g (g+1) w w':=hc.toI λb hb=>by simp only [qaa,qag,qaz] at hb;omega
def FW.set {i v:Nat} (h:FW w1 w g n out) (hc:Chg [g] w w') (hm:Mine [g] w' (.slice (some ⟨g,0,none⟩) n n) ((zaK out).set i (v:Int))):FW w1 w' g n (out.set i v):=
 ⟨h.ext.chgI (zfl hc) h.g0,by rw [zgO];exact hm,h.g0⟩
def FW.lt (h:FW w1 w g n out):g<w.heap.size:=h.mine.lt g ss
def FW.own (h:FW w1 w g n out):Own w1.heap.size w (.slice (some ⟨g,0,none⟩) n n) (zaK out):=⟨[g],h.mine,λb hb=>by simp only [qaa,qag,qaz] at hb;have:=h.g0;omega⟩
end
def zbS {v:Nat} (h:v<9223372036854775808):Mine [] w (.int .i64 (v:Int)) (v:Int):=zcF io
def fil (n k:Nat):List Nat:=List.replicate k 63++List.replicate (n-k) 0
def zrZ (h:k<=n):(fil n k).length=n:=by simp [fil];omega
def zr0 (h:k<n):(fil n k).set k 63=fil n (k+1):=by
 obtain ⟨m,hm⟩:∃ m,n-k=m+1:=⟨n-k-1,oo⟩;unfold fil;rw [qbz _ _ ss,hm,qcb,Nat.sub_self,List.replicate_succ,List.set_cons_zero,List.replicate_succ',show n-(k+1)=m by omega];simp
def zo1 (n:Nat):fil n n=List.replicate n 63:=by simp [fil]
structure FP (c:DCode) (T:Tab) (p h:Nat) (out0 L:List Nat) (k:Nat) (ag:Bool) (out:List Nat):Prop where
 fl:FL c T p h out
 yes:ag=true->out.sum<out0.sum
 no:ag=false->out=out0/\∀ i∈L.take k,zD7 c T out0 i
structure FQ (c:DCode) (T:Tab) (p h:Nat) (out0 L:List Nat) (k i q:Nat) (ag:Bool) (out:List Nat):Prop where
 fl:FL c T p h out
 yes:ag=true->out.sum<out0.sum
 no:ag=false->out=out0/\(∀ i∈L.take k,zD7 c T out0 i)/\∀ j∈(zaE c i).take q,zax out0 j &&& aft c T i (zax out0 i)=zax out0 j
section
variable {c:DCode} {T:Tab} {p h k i q m:Nat} {out0 L out:List Nat} {ag:Bool}
def FP.enter (H:FP c T p h out0 L k ag out) (i:Nat):FQ c T p h out0 L k i 0 ag out:=⟨H.fl,H.yes,λe=>⟨(H.no e).1,(H.no e).2,ss⟩⟩
theorem FQ.set (H:FQ c T p h out0 L k i q ag out) (hc:CodeR c) (hp:p<c.entry.length) (hi:zaL c p i) (hq:q<(zaE c i).length) (hm:∀ l,l<6->m.testBit l=false->LostP c (tK T) (tG T) p (λl=>h.testBit l=true) i l)
   (g1:zax out (zaE c i)[q] &&& aft c T i m≠zax out (zaE c i)[q]):FQ c T p h out0 L k i (q+1) true (out.set (zaE c i)[q] (zax out (zaE c i)[q] &&& aft c T i m)):=by
 have hj:=qac hq;have g0:=(zdg hc (zbW hc hp hi).1 hj).1;refine ⟨H.fl.updM hc hp hi hj hm,λ_=>?_,λe=>by cases e⟩;have h1:=zjW (l:=out) (i:=(zaE c i)[q]) (v:=zax out (zaE c i)[q] &&& aft c T i m) (by rw [H.fl.len];exact g0);have h2:=zBg g1;cases ag with
 | true=>have:=H.yes rfl;omega
 | false=>rw [(H.no rfl).1] at h1 h2 ⊢;omega
def FQ.skip (H:FQ c T p h out0 L k i q ag out) (hq:q<(zaE c i).length) (hz:ag=false->m=zax out0 i) (he:zax out (zaE c i)[q] &&& aft c T i m=zax out (zaE c i)[q]):FQ c T p h out0 L k i (q+1) ag out:=by
 refine ⟨H.fl,H.yes,λe=>⟨(H.no e).1,(H.no e).2.1,λj hj=>?_⟩⟩;rw [tk hq] at hj;rcases qae.1 hj with hj | hj
 . exact (H.no e).2.2 j hj
 simp only [qaa,qag,qaz] at hj;rw [(H.no e).1,hz e] at he;rw [hj];exact he
def FQ.done (H:FQ c T p h out0 L k i q ag out) (hk:k<L.length) (hi:L[k]=i) (hq:(zaE c i).length<=q):FP c T p h out0 L (k+1) ag out:=by
 refine ⟨H.fl,H.yes,λe=>⟨(H.no e).1,λi' g0=>?_⟩⟩;rw [tk hk] at g0;rcases qae.1 g0 with h1 | h1
 . exact (H.no e).2.1 i' h1
 simp only [qaa,qag,qaz] at h1;rw [h1,hi];have:=(H.no e).2.2;rw [qai hq] at this;exact this
end
def zr1 {T:Tab} (hW:WL W0 b c) (e0:Ext W0 w) (h1:Is W1 v1 (zh7 T)) (e1:Ext W1 w) (hc:CodeR c) (hT:zxl c T) (hp:p<c.procs.length) (hh:h<64) :
   CALL tp 209 [.pointer (some ⟨b,0,none⟩),v1,.int .i64 (p:Int),.int .i64 (h:Int)] w λr w'=>Ext w w'/\Own w.heap.size w' r (zaK (zcE c T p h)):=by
 refine co (g:=kf [] [(3,17045652480,[27]),(10,158456325028528393712111374336,[12]),(13,158456325028526423387274399744,[12,51]),(17,79228153069531371854253658112,[12,73])] [(15,[0,1,2,3,4,5,6,7,8,9,10,11,12,13,14],0),(19,[0,1,2,3,4,5,6,7,8,9,10],0)]) Tryz.func209 ?_;have V:p<c.entry.length:=by rw [hc.2.1.1];exact hp
 have ht:=hc.f.ins;obtain ⟨hv,gs,_⟩:=zgP hc V;have gt:=FL.start (T:=T) hc V hh;have gx:=λ{out}=>FL.fin (c:=c) (T:=T) (p:=p) (h:=h) (out:=out);refine NIL.mk rfl<|zaa zbc<|zaa zaH<|zab zcQ (zao hW.code) e0 λ_ hw=>zae u32 hw ?_;have hn:c.ins.length=c.ins.length:=rfl;generalize hnn:c.ins.length=n at hn;rw [hnn] at gs gt ht;refine zd3 oo oo λw2 gR gS=>?_;have hs2:=gR.size;generalize hg:w.heap.size=g at *;have gT:FW w w2 g n (fil n 0):=⟨gR,by simpa [fil] using gS,oo⟩;refine zj0 u31<|zar n (λk us w'=>us=[.int .i64 (k:Int)]/\k<=n/\FW w w' g n (fil n k)) 0 (z0 _) ⟨rfl,z0 _,gT⟩ ?_;rintro k mk u _ gU ⟨hu,gV,g0⟩;try replace hu:=zbv hu
 rw [hu];refine zah<|br (λgW=>?_) (λgX=>?_)
 . have hk:k<n:=oo;refine zb5 (α:=Int) rfl u31 ty3 hk<|zbm (α:=Int) rfl ty3 g0.mine (by rw [zaf,zrZ gV]) hk (zbS (v:=63) oo) λw4 gy gz=>?_;have g3:=g0.set (v:=63) gy gz;rw [zr0 hk] at g3;refine zaw<|⟨mk-1,oo,k+1,oo,rfl,oo,g3⟩
 have hk:k=n:=oo;rw [hk,zo1] at g0;clear gT gS hu gU;refine NIL.mk rfl<|zaa zbc<|zaa zbj<|zab zcn (zav hW.code) (e0.t g0.ext) λ_ hx=>zac u31 ty3 hx V λb1 o1 g5=>?_;rw [zbK V,hv] at g5;refine zad ty3 g5 (e0.t g0.ext) λ_=>zb5 (α:=Int) rfl u31 ty3 gs<|zbm (α:=Int) rfl ty3 g0.mine (by rw [zaf];simp) gs (zbS (v:=h) oo) λw4 gy gz=>?_;have g3:=g0.set (v:=h) gy gz;refine (zhp hW (e0.t g3.ext) hc hp).mono ?_;rintro gA w5 ⟨hy,hz⟩;have gY:=g3.step hy;have hg4:=g3.lt;have hL:∀ i∈zbb c.ins.length (zaL c p),zaL c p i:=λi hi=>(zaO.1 hi).2;have hA:∀ i,zaL c p i->i∈zbb c.ins.length (zaL c p):=λi hi=>zaO.2 ⟨(zbW hc V hi).1,hi⟩;have hLl:(zbb c.ins.length (zaL c p)).length<=1500:=qal zbe (by rw [hnn];omega);generalize zbb c.ins.length (zaL c p)=L at *;generalize (List.replicate n 63).set (eN c p) h=out at gt gY;have hB:=hz.toI;generalize hlo:w4.heap.size=lo at *;generalize hhi:w5.heap.size=hi at *;refine LOOPI.mk (λm us w'=>∃ (ag:Bool) (out:List Nat),us=[.bool ag]/\m=out.sum+(if ag then 1 else 0)/\FW w w' g n out/\OwnI lo hi w' gA (zaK L)/\FL c T p h out/\(ag=false->∀ i,zaL c p i->zD7 c T out i)) (out.sum+1) ⟨true,out,rfl,rfl,gY,hB,gt,λe=>by cases e⟩ ?_;rintro m u _ ⟨ag,out,hu,hm,gB,gZ,h4,hC⟩;try replace hu:=zbv hu
 rw [hu];refine zaN (λgC=>?_) (λgC=>?_)
 case refine_2=>have:=gx h4 hc V (hC gC);rw [<-this];have h5:=gB.own;rw [hg] at h5;exact ⟨gB.ext,h5⟩
 rw [gC,qah rfl] at hm;refine zae u31 gZ.is ?_;rw [zaf];refine zar L.length (λk us w'=>∃ (ag:Bool) (out':List Nat),us=[.bool ag,.int .i64 (k:Int)]/\k<=L.length/\FW w w' g n out'/\OwnI lo hi w' gA (zaK L)/\FP c T p h out L k ag out') 0 (z0 _) ⟨false,out,rfl,z0 _,gB,gZ,h4,λe=>(by cases e),λ_=>⟨rfl,ss⟩⟩ ?_;rintro k mk u w7 gU ⟨g9,D,hu,gV,h6,gD,U⟩;obtain ⟨gE,gF⟩:=zcv hu;clear hu;rw [gE,gF];refine zah<|br (λgW=>?_) (λgX=>?_)
 case refine_2=>
   refine ⟨D.sum+(if g9 then 1 else 0),?_,g9,D,rfl,rfl,h6,gD,U.fl,λe i hi=>?_⟩
   . cases g9 with
     | true=>have:=U.yes rfl;simp;omega
     | false=>rw [(U.no rfl).1];simp;omega
   have:=U.no e;rw [this.1];exact this.2 i (by rw [qai oo];exact hA i hi)
 have hk:k<L.length:=oo;refine zac u31 ty3 (i:=k) gD.is (by rw [zaf];exact hk) λ_ _ h8=>?_;rw [zaY] at h8;refine zad ty3 h8 (xrf _) λ_=>?_;generalize hix:L[k]=i at *;have h9:zaL c p i:=hL i (by rw [<-hix];exact qac hk);have g1:=(zbW hc V h9).1;have ha:=zai w7;have g4:=h6.step ha;have hD:=gD.ext ha;generalize World.drew1 w7=w8 at *;refine NIL.mk rfl<|zaa zbc<|zaa zaH<|zab zcQ (zao hW.code) (e0.t g4.ext) λ_ hG=>zac u32 zdw hG g1 λ_ _ hd=>?_;rw [zaR] at hd;refine zab zdw hd (e0.t g4.ext) λ_ hH=>?_;have hI:=U.fl.len;refine zac u31 ty3 (i:=i) g4.mine.is (by rw [zaf,hI];exact g1) λ_ _ he=>?_;rw [zaS] at he;refine zad ty3 he (xrf _) λ_=>?_;have gb:=U.fl.lt0 i;have hJ:∀ l,l<6->(zax D i).testBit l=false->LostP c (tK T) (tG T) p (λl=>h.testBit l=true) i l:=λl hl hb=>U.fl.snd i l g1 hl hb;have hK:g9=false->zax D i=zax out i:=λe=>by rw [(U.no e).1]
 generalize zax D i=mm at *;refine (zxr hH (e0.t g4.ext) h1 (e1.trans g4.ext) hc hT g1 gb).mono ?_;rintro _ w9 ⟨hf,rfl⟩;have gG:=g4.step hf;have hM:=hD.ext hf;have haf:=zBf hc hT g1 gb;refine (zi9 hW.code (e0.t gG.ext) hc g1).mono ?_;rintro hN hO ⟨gc,gd⟩;have gH:=gG.step gc;have gI:=hM.ext gc;have hg9:=gG.lt;have gJ:=gd.toI;have hl2:=zfk c i;refine zae u31 gd.is ?_;rw [zaf];have gK:=U.enter i;refine zar (zaE c i).length (λq us w'=>∃ (ag:Bool) (out':List Nat),us=[.bool ag,.int .i64 (q:Int)]/\q<=(zaE c i).length/\FW w w' g n out'/\OwnI lo hi w' gA (zaK L)/\OwnI w9.heap.size hO.heap.size w' hN (zaK (zaE c i))/\FQ c T p h out L k i q ag out'/\(ag=false->mm=zax out i)) 0 (z0 _) ⟨g9,D,rfl,z0 _,gH,gI,gJ,gK,hK⟩ ?_;rintro q mq u hr _ ⟨gf,C,hu,_,gg,gh,gi,O,gj⟩;obtain ⟨gE,gF⟩:=zcv hu;rw [gE,gF];refine zah<|br (λgW=>?_) (λgX=>?_)
 case refine_2=>refine zaw<|⟨mk-1,oo,k+1,oo,gf,C,rfl,oo,gg,gh,O.done hk hix oo⟩
 have hq:q<(zaE c i).length:=oo;refine zac u31 ty3 (i:=q) gi.is (by rw [zaf];exact hq) λ_ _ hs=>?_;rw [zaY] at hs;refine zad ty3 hs (xrf _) λ_=>?_;have g2:=zai hr;have M:=gg.step g2;have gl:=gh.ext g2;have gn:=gi.ext g2;generalize World.drew1 hr=w12 at *;have hj:=zdg hc g1 (qac hq);have gp:=O.fl.len;have gL:=O.set (m:=mm) hc V h9 hq hJ;have gq:=O.skip (m:=mm) hq gj;have hP:=O.fl.lt0 (zaE c i)[q];have gM:=hj.1;rw [hnn] at gM;generalize (zaE c i)[q]=j at *
 have gN:∀ {w':wD} {K:vL->Prop} (hF:FW w w' g n C) (k:K (.int .i64 (zax C j:Int))),RD tp (Instr.indexAt 31 (.slice (some ⟨g,0,none⟩) n n) (.int .i64 (j:Int))) w' λhQ=>RD tp (Instr.loadAt 3 hQ) w' K:=λhF k=>by
   refine zac u31 ty3 (i:=j) hF.mine.is (by rw [zaf,gp];exact hj.1) λb1 o1 g5=>?_;rw [zaS] at g5;exact zad ty3 g5 (xrf _) λ_=>k
 refine gN M<|zeS oo oo<|gN M<|zaJ<|br (λhR=>?_) (λhS=>?_)
 . have gO:zax C j &&& aft c T i mm≠zax C j:=λe=>hR (by rw [e]);refine gN M<|zeS oo oo<|zb5 (α:=Int) rfl u31 ty3 gM ?_;have hvl:=qa4 (n:=zax C j) (m:=aft c T i mm);refine zbm (α:=Int) rfl ty3 M.mine (by rw [zaf,gp,hnn]) gM (zbS (v:=zax C j &&& aft c T i mm) oo) λ_ gr gP=>?_;have gQ:=M.set (v:=zax C j &&& aft c T i mm) gr gP;have Z:=zfl gr;refine zaw<|⟨mq-1,oo,q+1,oo,true,_,rfl,oo,gQ,gl.chg Z oo,gn.chg Z oo,gL gO,λe=>by cases e⟩
 refine zaw<|⟨mq-1,oo,q+1,oo,gf,C,rfl,oo,M,gl,gn,gq (qa7.1 (qaf.1 hS)),gj⟩
def zj1 {T:Tab} (h0:Is W0 v0 c) (e0:Ext W0 w) (h1:Is W1 v1 (zh7 T)) (e1:Ext W1 w) (hc:CodeR c) (hT:zxl c T) (hp:p<c.procs.length) (hh:h<64) :
   CALL tp 235 [v0,v1,.int .i64 (p:Int),.int .i64 (h:Int)] w λr w'=>Ext w w'/\Own w.heap.size w' r (zaK (zcE c T p h)):=by
 refine co (g:=kf [] [(3,2143290368,[10]),(10,20282409603651670406355065495552,[13]),(13,20282409603651670388762879451136,[13,14]),(17,20282409603651526308759175634944,[13,16])] [(15,[0,1,2,3,4,5,6],0),(19,[0,1,2,3,4,5,6,7,8,9,10,11,12,13,14,15,16,17,18,19,20,21,22,23,24,25],8388608)]) Tryz.func235 ?_;have U:p<c.entry.length:=by rw [hc.2.1.1];exact hp
 have hC:=hc.f.ins;obtain ⟨hD,gB,_⟩:=zgP hc U;have gC:=FL.start (T:=T) hc U hh;have gD:=λ{out}=>FL.fin (c:=c) (T:=T) (p:=p) (h:=h) (out:=out);refine zbk h0 e0 λw1 gE hA=>?_;have hs1:=gE.size;refine zaa zaH<|zab zcQ (zao hA) (xrf _) λ_ hG=>zae u32 hG ?_;have hn:c.ins.length=c.ins.length:=rfl;generalize hnn:c.ins.length=n at hn;rw [hnn] at gB gC hC;refine zd3 oo oo λw2 h4 h5=>?_;have hs2:=h4.size;generalize hg:w1.heap.size=g at *;have h6:FW w1 w2 g n (fil n 0):=⟨h4,by simpa [fil] using h5,oo⟩;refine zar n (λk us w'=>us=[.int .i64 (k:Int)]/\k<=n/\FW w1 w' g n (fil n k)) 0 (z0 _) ⟨rfl,z0 _,h6⟩ ?_;rintro k mk u _ h8 ⟨hu,h9,g2⟩;try replace hu:=zbv hu
 rw [hu];refine zj0 u31<|zah<|br (λha=>?_) (λhd=>?_)
 . have hk:k<n:=oo;refine zb5 (α:=Int) rfl u31 ty3 hk<|zbm (α:=Int) rfl ty3 g2.mine (by rw [zaf,zrZ h9]) hk (zbS (v:=63) oo) λw4 gF gG=>?_;have g3:=g2.set (v:=63) gF gG;rw [zr0 hk] at g3;refine zaw<|⟨mk-1,oo,k+1,oo,rfl,oo,g3⟩
 have hk:k=n:=oo;rw [hk,zo1] at g2;clear h6 h5 hu h8;refine zaa zbj<|zab zcn (zav hA) g2.ext λ_ hH=>zac u31 ty3 hH U λb1 o1 O=>?_;rw [zbK U,hD] at O;refine zad ty3 O g2.ext λ_=>zb5 (α:=Int) rfl u31 ty3 gB<|zbm (α:=Int) rfl ty3 g2.mine (by rw [zaf];simp) gB (zbS (v:=h) oo) λw4 gF gG=>?_;have g3:=g2.set (v:=h) gF gG;refine zab zbO hA g3.ext λ_ hI=>?_;refine (zgh hI g3.ext hc U).mono ?_;rintro _ w5 ⟨he,hJ⟩;have gy:=g3.step he;refine (zfK hJ.is (xrf _) (by rw [zam,hnn];omega)).mono ?_;rintro gc hK ⟨gH,gd⟩;rw [zam,zhn] at gd;have gy:=gy.step gH;have hg4:=g3.lt;have hg5:g<w5.heap.size:=by have:=he.size;omega
 have hL:∀ i∈zbb c.ins.length (zaL c p),zaL c p i:=λi hi=>(zaO.1 hi).2;have hM:∀ i,zaL c p i->i∈zbb c.ins.length (zaL c p):=λi hi=>zaO.2 ⟨(zbW hc U hi).1,hi⟩;have hLl:(zbb c.ins.length (zaL c p)).length<=1500:=qal zbe (by rw [hnn];omega);generalize zbb c.ins.length (zaL c p)=L at *;generalize (List.replicate n 63).set (eN c p) h=out at gC gy;have hN:=gd.toI;generalize hlo:w5.heap.size=lo at *;generalize hhi:hK.heap.size=hi at *;refine LOOPI.mk (λm us w'=>∃ (ag:Bool) (out:List Nat),us=[.bool ag]/\m=out.sum+(if ag then 1 else 0)/\FW w1 w' g n out/\OwnI lo hi w' gc (zaK L)/\FL c T p h out/\(ag=false->∀ i,zaL c p i->zD7 c T out i)) (out.sum+1) ⟨true,out,rfl,rfl,gy,hN,gC,λe=>by cases e⟩ ?_;rintro m u _ ⟨ag,out,hu,hm,gI,hP,hf,hQ⟩;try replace hu:=zbv hu
 rw [hu];refine zaN (λgJ=>?_) (λgJ=>?_)
 case refine_2=>have:=gD hf hc U (hQ gJ);rw [<-this];exact ⟨gE.t gI.ext,gI.own.mono oo⟩
 rw [gJ,qah rfl] at hm;refine zar L.length (λk us w'=>∃ (ag:Bool) (out':List Nat),us=[.bool ag,.int .i64 (k:Int)]/\k<=L.length/\FW w1 w' g n out'/\OwnI lo hi w' gc (zaK L)/\FP c T p h out L k ag out') 0 (z0 _) ⟨false,out,rfl,z0 _,gI,hP,hf,λe=>(by cases e),λ_=>⟨rfl,ss⟩⟩ ?_;rintro k mk u w7 h8 ⟨gz,g4,hu,h9,hr,gK,gf⟩;obtain ⟨gL,gM⟩:=zcv hu;clear hu;rw [gL,gM];refine zae u31 gK.is ?_;rw [zaf];refine zah<|br (λha=>?_) (λhd=>?_)
 case refine_2=>
   refine ⟨g4.sum+(if gz then 1 else 0),?_,gz,g4,rfl,rfl,hr,gK,gf.fl,λe i hi=>?_⟩
   . cases gz with
     | true=>have:=gf.yes rfl;simp;omega
     | false=>rw [(gf.no rfl).1];simp;omega
   have:=gf.no e;rw [this.1];exact this.2 i (by rw [qai oo];exact hM i hi)
 have hk:k<L.length:=oo;have hs:=zai w7;have gA:=hr.step hs;have ht:=gK.ext hs;generalize World.drew1 w7=w8 at *;refine zab zbO hA gA.ext λ_ hR=>zac u31 ty3 (i:=k) ht.is (by rw [zaf];exact hk) λ_ _ hv=>?_;rw [zaY] at hv;refine zad ty3 hv (xrf _) λ_=>?_
 have hw:∀ {w':wD} {K:vL->Prop} (hO:OwnI lo hi w' gc (zaK L)) (kk:K (.int .i64 ((L[k]:Nat):Int))),RD tp (Instr.indexAt 31 gc (.int .i64 (k:Int))) w' λgg=>RD tp (Instr.loadAt 3 gg) w' K:=λhO kk=>by
   refine zac u31 ty3 (i:=k) hO.is (by rw [zaf];exact hk) λb1 o1 O=>?_;rw [zaY] at O;exact zad ty3 O (xrf _) λ_=>kk
 generalize hix:L[k]=i at *;have hx:zaL c p i:=hL i (by rw [<-hix];exact qac hk);have g5:=(zbW hc U hx).1;refine (zjV hR gA.ext hc g5).mono ?_;rintro gN hy ⟨gh,gO⟩;have gP:=gA.step gh;have gQ:=ht.ext gh;have hg8:=gA.lt;have gR:=gO.toI;have hl2:=zfk c i;have gS:=gf.enter i;refine zar (zaE c i).length (λq us w'=>∃ (ag:Bool) (out':List Nat),us=[.bool ag,.int .i64 (q:Int)]/\q<=(zaE c i).length/\FW w1 w' g n out'/\OwnI lo hi w' gc (zaK L)/\OwnI w8.heap.size hy.heap.size w' gN (zaK (zaE c i))/\FQ c T p h out L k i q ag out') 0 (z0 _) ⟨gz,g4,rfl,z0 _,gP,gQ,gR,gS⟩ ?_;rintro q mq u hz _ ⟨gi,C,hu,_,gj,gl,gn,D⟩;obtain ⟨gL,gM⟩:=zcv hu;rw [gL,gM];refine zae u31 gn.is ?_;rw [zaf];refine zah<|br (λha=>?_) (λhd=>?_)
 case refine_2=>refine zaw<|⟨mk-1,oo,k+1,oo,gi,C,rfl,oo,gj,gl,D.done hk hix oo⟩
 have hq:q<(zaE c i).length:=oo;have g9:=zai hz;have M:=gj.step g9;have gb:=gl.ext g9;have gp:=gn.ext g9;generalize World.drew1 hz=w12 at *;have hj:=zdg hc g5 (qac hq);have gq:=D.fl.len;have gr:=D.fl.lt0 i;have hS:∀ l,l<6->(zax C i).testBit l=false->LostP c (tK T) (tG T) p (λl=>h.testBit l=true) i l:=λl hl hb=>D.fl.snd i l g5 hl hb;have gT:=D.set (m:=zax C i) hc U hx hq hS;have gs:=D.skip (m:=zax C i) hq (λe=>by rw [(D.no e).1]);have hU:=D.fl.lt0 (zaE c i)[q];have gU:=hj.1;rw [hnn] at gU
 have gV:∀ {w':wD} {K:vL->Prop} (hO:OwnI w8.heap.size hy.heap.size w' gN (zaK (zaE c i))) (kk:K (.int .i64 (((zaE c i)[q]:Nat):Int))),RD tp (Instr.indexAt 31 gN (.int .i64 (q:Int))) w' λgg=>RD tp (Instr.loadAt 3 gg) w' K:=λhO kk=>by
   refine zac u31 ty3 (i:=q) hO.is (by rw [zaf];exact hq) λb1 o1 O=>?_;rw [zaY] at O;exact zad ty3 O (xrf _) λ_=>kk
 generalize (zaE c i)[q]=j at *
 have gW:∀ {w':wD} {K:vL->Prop} {i:Nat} (hF:FW w1 w' g n C) (hi:i<c.ins.length) (k:K (.int .i64 (zax C i:Int))),RD tp (Instr.indexAt 31 (.slice (some ⟨g,0,none⟩) n n) (.int .i64 (i:Int))) w' λgg=>RD tp (Instr.loadAt 3 gg) w' K:=λ{w' K i} hF hi k=>by
   refine zac u31 ty3 (i:=i) hF.mine.is (by rw [zaf,gq];exact hi) λb1 o1 O=>?_;rw [zaS] at O;exact zad ty3 O (xrf _) λ_=>k
 refine gV gp<|gW M hj.1<|zaa zaH<|zab zcQ (zao hA) M.ext λ_ hV=>hw gb<|zac u32 zdw hV g5 λ_ _ hB=>?_;rw [zaR] at hB;refine zab zdw hB M.ext λ_ hW=>hw gb<|gW M g5 ?_;refine (zrY hW M.ext h1 (e1.trans (gE.t M.ext)) hc hT g5 gr).mono ?_;rintro _ _ ⟨V,rfl⟩;refine ⟨V,?_⟩;have Z:=M.step V;have gt:=gb.ext V;have g0:=gp.ext V;have haf:=zBf hc hT g5 gr;have hvl:=qa4 (n:=zax C j) (m:=aft c T i (zax C i));refine zeS (m:=zax C j) (n:=aft c T i (zax C i)) oo oo<|gV g0<|gW Z hj.1<|zaJ<|br (λhX=>?_) (λhY=>?_)
 . have gX:zax C j &&& aft c T i (zax C i)≠zax C j:=λe=>hX (by rw [e]);refine gV g0<|zb5 (α:=Int) rfl u31 ty3 gU<|zbm (α:=Int) rfl ty3 Z.mine (by rw [zaf,gq,hnn]) gU (zbS (v:=zax C j &&& aft c T i (zax C i)) oo) λ_ gx gY=>?_;have gZ:=Z.set (v:=zax C j &&& aft c T i (zax C i)) gx gY;have g1:=zfl gx;refine zaw<|⟨mq-1,oo,q+1,oo,true,_,rfl,oo,gZ,gt.chg g1 oo,g0.chg g1 oo,gT gX⟩
 refine zaw<|⟨mq-1,oo,q+1,oo,gi,C,rfl,oo,Z,gt,g0,gs (qa7.1 (qaf.1 hY))⟩
theorem zmc {p:Nat->Prop} {n:Nat}:∀ {k:Nat},k<=n->zdP (zcU p n) k=zaK (zbb k p)
 | 0,_=>rfl
 | k+1,h=>by
   rw [zdP,zmc (k:=k) oo];by_cases hp:p k
   . rw [qah (za4.2 ⟨oo,hp⟩),zdf hp,zcz];rfl
   rw [qad λe=>hp (za4.1 e).2,zdz hp]
def zeo {p:Nat->Prop} (h:n<=62):zbX (zcU p n)=zaK (zbb n p):=by
 rw [zoV (k:=n) zjU oo,zmc (lr _)]
def zbn {p:Nat->Prop} (h:n<=8):zcU p n<256:=qan zjU (qaG (n:=2) oo h)
noncomputable def cls (c:DCode) (op:Int):List Nat:=(List.range c.procs.length).map λp=>zcU (zkP c p op) c.procs.length
noncomputable def frs (c:DCode):List Nat:=(List.range c.procs.length).map λp=>zcU (FromP c p) c.procs.length
def zhq (c:DCode) (op:Int):(cls c op).length=c.procs.length:=by simp [cls]
def zj2 (c:DCode):(frs c).length=c.procs.length:=by simp [frs]
def zBh (hp:p<c.procs.length):zax (cls c op) p=zcU (zkP c p op) c.procs.length:=by rw [<-zbh (by rw [zhq];exact hp)];simp [cls]
def ztz (hp:p<c.procs.length):zax (frs c) p=zcU (FromP c p) c.procs.length:=by rw [<-zbh (by rw [zj2];exact hp)];simp [frs]
noncomputable def zdi (c:DCode):Nat:=zcU (RootP c) c.procs.length
noncomputable def zeL (c:DCode):Nat:=zcU (UsedP c) c.procs.length
structure WAt (W0:wD) (b:Nat) (c:DCode):Prop where
 wl:WL W0 b c
 calls:At W0 b (0+6) (zaK (cls c 4))
 spawns:At W0 b (0+7) (zaK (cls c 5))
 frm:At W0 b (0+8) (zaK (frs c))
 roots:At W0 b (0+9) (zdi c:Int)
 used:At W0 b (0+10) (zeL c:Int)
def KI (m:Nat) (P:Nat->Prop):Prop:=m<64/\∀ l,l<6->(m.testBit l=false↔P l)
def KI.start {P:Nat->Prop} (h:∀ l,¬P l):KI 63 P:=⟨oo,λl hl=>by rw [zjc hl];exact ⟨λe=>(by cases e),λe=>absurd e (h l)⟩⟩
def KI.drop {m a:Nat} {P P':Nat->Prop} (h:KI m P) (hP:∀ l,P' l↔P l\/a=l):KI (zkQ m (2^a)) P':=by
 refine ⟨qaN (ziu _ _) h.1,λl hl=>?_⟩;rw [zdh,qaU,hP,<-h.2 l hl];simp only [qbJ,qb8,qau]
def KI.congr {P P':Nat->Prop} (h:KI m P) (hP:∀ l,P' l↔P l):KI m P':=⟨h.1,λl hl=>by rw [h.2 l hl,hP]⟩
def KI.eq {P:Nat->Prop} (h:KI m P):m=m6 λl=>¬P l:=zxi h.1 λl hl=>by rw [<-h.2 l hl];simp
def zbC {α:Type} {l:List α} (hk:k<l.length) {x:α}:x∈l.take (k+1)↔x∈l.take k\/x=l[k]:=by
 rw [tk hk,qae];simp
def zqs (c:DCode) (q l:Nat):Prop:=∃ i,zaL c q i/\(zap c i).op=7/\agN c i=l
def zxs (hW:WAt W0 b c) (e0:Ext W0 w) (hc:CodeR c) (hp:p<c.procs.length) :
   CALL tp 302 [.pointer (some ⟨b,0,none⟩),.int .i64 (p:Int)] w λr w'=>Ext w w'/\r=.int .i64 (zgm c p:Nat):=by
 refine co (g:=kf [] [(3,72057594037404320,[5,19]),(6,36028796884746784,[5,27])] []) Tryz.func302 ?_;have h8:=hc.1.procs8;have hil:=hc.f.ins;refine NIL.mk rfl<|zaa zlf<|zab zcn hW.frm e0 λ_ gj=>zac u31 ty3 gj (by rw [zaf,zj2];exact hp) λ_ _ g9=>?_;rw [zaS,ztz hp] at g9;refine zad ty3 g9 e0 λ_=>?_;have hsm:=zbn (p:=FromP c p) h8.1;refine (zd2 (m:=zcU (FromP c p) c.procs.length) oo).mono ?_;rintro _ w1 ⟨gb,g2⟩;rw [zeo oo] at g2;have hL:∀ q,q∈zbb c.procs.length (FromP c p)↔q<c.procs.length/\FromP c p q:=λq=>zaO;have hLl:=zbe (n:=c.procs.length) (p:=FromP c p);generalize zbb c.procs.length (FromP c p)=L at *;refine zae u31 g2.is ?_;rw [zaf];refine zar L.length (λk us w'=>∃ m:Nat,us=[.int .i64 (m:Int),.int .i64 (k:Int)]/\k<=L.length/\Ext w1 w'/\KI m (λl=>∃ q∈L.take k,zqs c q l)) 0 (z0 _) ⟨63,rfl,z0 _,xrf _,KI.start ss⟩ ?_;rintro k mk u _ _ ⟨m,hu,_,g1,hK⟩;obtain ⟨g3,g4⟩:=zcv hu;clear hu;rw [g3,g4];refine zah<|br (λgl=>?_) (λgn=>?_)
 case refine_2=>
   rw [show L.take k=L from qai oo] at hK;refine ⟨gb.t g1,?_⟩
   have:m=zgm c p:=by
     rw [hK.eq];refine ztx λl _=>not_congr ?_;constructor
     . rintro ⟨q,hq,i,h1,h2,h3⟩;exact ⟨q,i,((hL q).1 hq).1,((hL q).1 hq).2,h1,h2,h3⟩
     rintro ⟨q,i,h0,hf,h1,h2,h3⟩;exact ⟨q,(hL q).2 ⟨h0,hf⟩,i,h1,h2,h3⟩
   rw [this]
 have hk:k<L.length:=oo;refine zac u31 ty3 (i:=k) (g2.is) (by rw [zaf];exact hk) λ_ _ gc=>?_;rw [zaY] at gc;refine zad ty3 gc g1 λ_=>?_;have hq:=(hL L[k]).1 (qac hk);have g5:=λx=>zbC hk (x:=x);generalize L[k]=q at *;have g0:=(e0.t gb).trans g1;refine (zhp hW.wl g0 hc hq.1).mono ?_;rintro _ w3 ⟨gd,gf⟩;have hM:∀ i,i∈zbb c.ins.length (zaL c q)↔i<c.ins.length/\zaL c q i:=λi=>zaO;have hMl:=zbe (n:=c.ins.length) (p:=zaL c q);generalize zbb c.ins.length (zaL c q)=M at *;refine zae u31 gf.is ?_;rw [zaf];refine zar M.length (λj us w'=>∃ m:Nat,us=[.int .i64 (m:Int),.int .i64 (j:Int)]/\j<=M.length/\Ext w3 w'/\KI m (λl=>(∃ q∈L.take k,zqs c q l)\/∃ i∈M.take j,(zap c i).op=7/\agN c i=l)) 0 (z0 _) ⟨m,rfl,z0 _,xrf _,hK.congr λl=>by simp⟩ ?_;rintro j mj u _ _ ⟨m4,hu,_,D,O⟩;obtain ⟨g3,g4⟩:=zcv hu;rw [g3,g4];refine zah<|br (λgl=>?_) (λgn=>?_)
 case refine_2=>
   rw [show M.take j=M from qai oo] at O;refine zaw<|⟨mk-1,oo,k+1,oo,m4,rfl,oo,g1.t (gd.t D),O.congr λl=>?_⟩;constructor
   . rintro ⟨r,hr,h1⟩;rcases (g5 r).1 hr with hr | rfl
     . exact .inl ⟨r,hr,h1⟩
     obtain ⟨i,h1,h2,h3⟩:=h1;exact .inr ⟨i,(hM i).2 ⟨(zbW hc (by rw [hc.2.1.1];exact hq.1) h1).1,h1⟩,h2,h3⟩
   rintro (⟨r,hr,h1⟩ | ⟨i,hi,h2,h3⟩)
   . exact ⟨r,(g5 r).2 (.inl hr),h1⟩
   exact ⟨q,(g5 q).2 (.inr rfl),i,((hM i).1 hi).2,h2,h3⟩
 have hj:j<M.length:=oo;refine zac u31 ty3 (i:=j) (gf.is) (by rw [zaf];exact hj) λ_ _ gg=>?_;rw [zaY] at gg;refine zad ty3 gg D λ_=>?_;have hi:=(hM M[j]).1 (qac hj);have U:=λx=>zbC hj (x:=x);generalize M[j]=i at *;have C:=g0.t (gd.t D);refine NIL.mk rfl<|zaa zbc<|zaa zaH<|zab zcQ (zao hW.wl.code) C λ_ gp=>zac u32 zdw gp hi.1 λ_ _ gh=>?_;rw [zaR] at gh;refine zaa zbE<|zad ty3 (zaD gh) C λ_=>zag<|br (λc7=>?_) (λc7=>?_)
 . obtain ⟨ha,_,gq⟩:=zdA hc hi.1 (.inr c7);have hpw:=zfW gq;refine NIL.mk rfl<|zaa zbc<|zaa zaH<|zab zcQ (zao hW.wl.code) C λ_ gr=>zac u32 zdw gr hi.1 λ_ _ gi=>?_;rw [zaR] at gi;refine zaa zbG<|zad ty3 (zaF gi) C λ_=>?_;rw [ha];refine zcc kK zlh oo<|zeH oo ?_;have h64:=O.1;refine zho (m:=m4) (n:=2^agN c i) oo oo<|zaw<|⟨mj-1,oo,j+1,oo,_,rfl,oo,D,O.drop λl=>?_⟩;constructor
   . rintro (h | ⟨r,hr,h1,h2⟩)
     . exact .inl (.inl h)
     rcases (U r).1 hr with hr | rfl
     . exact .inl (.inr ⟨r,hr,h1,h2⟩)
     exact .inr h2
   rintro ((h | ⟨r,hr,h1⟩) | h)
   . exact .inl h
   . exact .inr ⟨r,(U r).2 (.inl hr),h1⟩
   exact .inr ⟨i,(U i).2 (.inr rfl),c7,h⟩
 refine zaw<|⟨mj-1,oo,j+1,oo,_,rfl,oo,D,O.congr λl=>?_⟩;constructor
 . rintro (h | ⟨r,hr,h1,h2⟩)
   . exact .inl h
   rcases (U r).1 hr with hr | rfl
   . exact .inr ⟨r,hr,h1,h2⟩
   exact absurd h1 c7
 rintro (h | ⟨r,hr,h1⟩)
 . exact .inl h
 exact .inr ⟨r,(U r).2 (.inl hr),h1⟩
def zuz (h0:Is W0 v0 c) (e0:Ext W0 w) (hc:CodeR c) (hp:p<c.procs.length) :
   CALL tp 310 [v0,.int .i64 (p:Int)] w λr w'=>Ext w w'/\r=.int .i64 (zgm c p:Nat):=by
 refine co (g:=kf [] [(4,144115188075848640,[6,7]),(9,144115187807420992,[6,9])] []) Tryz.func310 ?_;have h8:=hc.1.procs8;have hil:=hc.f.ins;refine zbk h0 e0 λ_ gh hA=>zab zbO hA (xrf _) λ_ gi=>?_;refine (zgM gi (xrf _) hc hp).mono ?_;rintro _ w1 ⟨gj,g,rfl,_,g9⟩;have gl:(λi=>i=p\/RP (zl8 c) p i)=FromP c p:=rfl;rw [gl] at g9;refine zar c.procs.length (λk us w'=>∃ m:Nat,us=[.int .i64 (m:Int),.int .i64 (k:Int)]/\k<=c.procs.length/\Ext w1 w'/\KI m (λl=>∃ q,q<k/\FromP c p q/\zqs c q l)) 0 (z0 _) ⟨63,rfl,z0 _,xrf _,KI.start ss⟩ ?_;rintro k mk u _ _ ⟨m,hu,_,g0,hK⟩;obtain ⟨g2,g3⟩:=zcv hu;clear hu;rw [g2,g3];have C:=gj.t g0;refine zaa zby<|zab zb9 (zay hA) C λ_ gn=>zae u26 gn<|zah<|br (λgp=>?_) (λgq=>?_)
 case refine_2=>
   have gr:k=c.procs.length:=oo;rw [gr] at hK;refine ⟨gh.t C,?_⟩
   have:m=zgm c p:=by
     rw [hK.eq];refine ztx λl _=>not_congr ?_;constructor
     . rintro ⟨q,hq,hf,i,h1,h2,h3⟩;exact ⟨q,i,hq,hf,h1,h2,h3⟩
     rintro ⟨q,i,h0,hf,h1,h2,h3⟩;exact ⟨q,h0,hf,i,h1,h2,h3⟩
   rw [this]
 have hk:k<c.procs.length:=oo;refine zac zdj ty4 (i:=k) g9.is (by rw [zam];exact hk) λ_ _ gs=>zaC ty4 gs g0 ?_;have g4:=zaM (n:=c.procs.length) (p:=FromP c p) (i:=k);rw [zaZ (by rw [zam];exact hk)] at g4;refine zau<|zaN (λhf=>?_) (λhf=>?_)
 . have gt:¬FromP c p k:=λh=>by rw [g4.2 ⟨hk,h⟩] at hf;cases hf
   refine zaw<|⟨mk-1,oo,k+1,oo,m,rfl,oo,g0,hK.congr λl=>?_⟩;constructor
   . rintro ⟨q,hq,h1,h2⟩;by_cases e:q=k
     . subst e;exact absurd h1 gt
     exact ⟨q,oo,h1,h2⟩
   rintro ⟨q,hq,h1⟩;exact ⟨q,oo,h1⟩
 have gx:FromP c p k:=(g4.1 (by simpa using hf)).2;refine zab zbO hA C λ_ gy=>?_;refine (zgh gy C hc (by rw [hc.2.1.1];exact hk)).mono ?_;rintro _ w3 ⟨gb,gz⟩;refine zar c.ins.length (λj us w'=>∃ m:Nat,us=[.int .i64 (m:Int),.int .i64 (j:Int)]/\j<=c.ins.length/\Ext w3 w'/\KI m (λl=>(∃ q,q<k/\FromP c p q/\zqs c q l)\/∃ i,i<j/\zaL c k i/\(zap c i).op=7/\agN c i=l)) 0 (z0 _) ⟨m,rfl,z0 _,xrf _,hK.congr λl=>by simp⟩ ?_;rintro j mj u w4 _ ⟨m4,hu,_,M,O⟩;obtain ⟨g2,g3⟩:=zcv hu;rw [g2,g3];have D:=C.t (gb.t M);refine zaa zaH<|zab zcQ (zao hA) D λ_ gA=>zae u32 gA<|zah<|br (λgp=>?_) (λgq=>?_)
 case refine_2=>
   have gB:j=c.ins.length:=oo;rw [gB] at O;refine zaw<|⟨mk-1,oo,k+1,oo,m4,rfl,oo,g0.t (gb.t M),O.congr λl=>?_⟩;constructor
   . rintro ⟨q,hq,h1,h2⟩;by_cases e:q=k
     . subst e;obtain ⟨i,h3,h4⟩:=h2;exact .inr ⟨i,(zbW hc (by rw [hc.2.1.1];exact hk) h3).1,h3,h4⟩
     exact .inl ⟨q,oo,h1,h2⟩
   rintro (⟨q,hq,h1⟩ | ⟨i,_,h2⟩)
   . exact ⟨q,oo,h1⟩
   exact ⟨k,oo,gx,i,h2⟩
 have hj:j<c.ins.length:=oo;refine zac zdj ty4 (i:=j) gz.is (by rw [zam];exact hj) λ_ _ gC=>zaC ty4 gC M ?_;have g5:=zaM (n:=c.ins.length) (p:=zaL c k) (i:=j);rw [zaZ (by rw [zam];exact hj)] at g5
 have gc:∀ w',Ext w3 w'->¬(zaL c k j/\(zap c j).op=7)->∃ m:Nat,[Value.int .i64 (m4:Int),Value.int .i64 ((j+1:Nat):Int)]=[.int .i64 (m:Int),.int .i64 ((j+1:Nat):Int)]/\j+1<=c.ins.length/\Ext w3 w'/\KI m (λl=>(∃ q,q<k/\FromP c p q/\zqs c q l)\/∃ i,i<j+1/\zaL c k i/\(zap c i).op=7/\agN c i=l):=λw' hx hn=>by
   refine ⟨m4,rfl,oo,hx,O.congr λl=>or_congr Iff.rfl ?_⟩;constructor
   . rintro ⟨i,h1,h2,h3,h4⟩;by_cases e:i=j
     . subst e;exact absurd ⟨h2,h3⟩ hn
     exact ⟨i,oo,h2,h3,h4⟩
   rintro ⟨i,h1,h2⟩;exact ⟨i,oo,h2⟩
 refine zaN (λg1=>?_) (λg1=>?_)
 . refine zaa zaH ?_;refine zab zcQ (zao hA) D λ_ gD=>zac u32 zdw gD hj λ_ _ gd=>?_;rw [zaR] at gd;refine zaa zbE<|zad ty3 (zaD gd) D λ_=>zag<|br (λc7=>?_) (λc7=>?_)
   . obtain ⟨ha,_,gE⟩:=zdA hc hj (.inr c7);have gf:=zfW gE;refine zaa zaH<|zab zcQ (zao hA) D λ_ gF=>zac u32 zdw gF hj λ_ _ gg=>?_;rw [zaR] at gg;refine zaa zbG<|zad ty3 (zaF gg) D λ_=>?_;rw [ha];refine (zgk oo).mono ?_;rintro _ _ ⟨gG,rfl⟩;refine (zjZ O.1 gf).mono ?_;rintro _ _ ⟨gH,rfl⟩;rw [ziv O.1 gf];refine zaw<|⟨mj-1,oo,j+1,oo,_,rfl,oo,M.t (gG.t gH),O.drop λl=>?_⟩;constructor
     . rintro (h | ⟨i,h1,h2,h3,h4⟩)
       . exact .inl (.inl h)
       by_cases e:i=j
       . subst e;exact .inr h4
       exact .inl (.inr ⟨i,oo,h2,h3,h4⟩)
     rintro ((h | ⟨i,h1,h2⟩) | h)
     . exact .inl h
     . exact .inr ⟨i,oo,h2⟩
     exact .inr ⟨j,oo,(g5.1 g1).2,c7,h⟩
   refine zaw<|⟨mj-1,oo,j+1,oo,gc w4 M λh=>c7 h.2⟩
 refine zaw<|⟨mj-1,oo,j+1,oo,gc w4 M λh=>by rw [g5.2 ⟨hj,h.1⟩] at g1;cases g1⟩
def zeT (hc:CodeR c) {p:Nat} (hp:p<c.procs.length):zet c p=((zN c p+1:Nat):Int)/\zf5 c p=(zN c p:Int)/\zN c p<c.ins.length:=by
 have h:=zmY hc (p:=p) (by rw [hc.2.1.1];exact hp);refine ⟨oo,?_,h.2.2⟩;rw [zeV];omega
def zzq {T:Tab} (hW:WL W0 b c) (e0:Ext W0 w) (h1:Is W1 v1 (zh7 T)) (e1:Ext W1 w) (hc:CodeR c) (hT:zxl c T) (hp:p<c.procs.length) :
   CALL tp 262 [.pointer (some ⟨b,0,none⟩),v1,.int .i64 (p:Int)] w λr w'=>Ext w w'/\r=.int .i64 (zeE c T p:Nat):=by
 refine co (g:=kf [] [] [(1,[0,1,2,4,5,6,7,8,3,9,10,11,12,13],8)]) Tryz.func262 ?_;obtain ⟨g3,_,g4⟩:=zeT hc hp;have:=hc.f.ins;have:=hc.1.procs8;have C:=zai w;generalize World.drew1 w=w1 at *;refine NIL.mk rfl<|zaa zbc<|zab zbO hW.code (e0.t C) λ_ g5=>?_;refine (zr1 hW (e0.t C) h1 (e1.trans C) hc hT hp (h:=0) oo).mono ?_;rintro _ _ ⟨g0,g9⟩;refine ⟨g0,?_⟩;refine (zdO g5 ((e0.t C).trans g0) oo).mono ?_;rintro _ _ ⟨g1,rfl⟩;rw [g3];refine zbp io ?_;rw [show ((zN c p+1:Nat):Int)-1=(zN c p:Int) by omega];refine zac u31 ty3 g9.is (by rw [zaf,zeD];exact g4) λ_ _ g2=>?_;rw [zaS] at g2;refine zad ty3 g2 g1 λ_=>⟨C.t (g0.t g1),rfl⟩
def zxt {T:Tab} (h0:Is W0 v0 c) (e0:Ext W0 w) (h1:Is W1 v1 (zh7 T)) (e1:Ext W1 w) (hc:CodeR c) (hT:zxl c T) (hp:p<c.procs.length) :
   CALL tp 290 [v0,v1,.int .i64 (p:Int)] w λr w'=>Ext w w'/\r=.int .i64 (zeE c T p:Nat):=by
 refine co (g:=kf [] [] [(1,[0,1,2,4,5,3,6,7,8,9],8)]) Tryz.func290 ?_;obtain ⟨_,g4,g5⟩:=zeT hc hp;have:=hc.f.ins;have:=hc.1.procs8;refine zbk h0 e0 λw0 g1 hA=>?_;have C:=zai w0;generalize World.drew1 w0=w1 at *;refine zab zbO hA C λ_ h7=>zab zbO hA C λ_ g9=>?_;refine (zj1 h7 C h1 (e1.trans (g1.t C)) hc hT hp (h:=0) oo).mono ?_;rintro _ _ ⟨g0,gb⟩;refine ⟨g0,?_⟩;refine (zff g9 (C.t g0) (p:=(p:Int)) oo oo hc.2.1.nonneg).mono ?_;rintro _ _ ⟨g2,rfl⟩;rw [g4];refine zac u31 ty3 gb.is (by rw [zaf,zeD];exact g5) λ_ _ g3=>?_;rw [zaS] at g3;refine zad ty3 g3 g2 λ_=>⟨(g1.t C).trans (g0.t g2),rfl⟩
noncomputable def zvj (c:DCode) (k:Nat):Tab:=(List.range k).map λp=>(zgm c p,63)
def zqt (c:DCode) (k:Nat):zh7 (zvj c (k+1))=zh7 (zvj c k)++[zyA (zgm c k,63)]:=by simp [zvj,zh7,qbC]
def zkV (c:DCode) (k:Nat):(zh7 (zvj c k)).length=k:=by simp [zvj,zh7]
def ztA (lo hi:Nat) {x:Nat×Nat} (h1:x.1<64) (h2:x.2<64):OwnI lo hi w (.agg #[.int .i64 (x.1:Int),.int .i64 (x.2:Int)]) (zyA x):=
 ⟨[],zuy (x:=zyA x) (by unfold zyA I64;simp only;omega) (by unfold zyA I64;simp only;omega),ss⟩
def zmd (hW:WAt W0 b c) (e0:Ext W0 w) (hc:CodeR c) :
   CALL tp 261 [.pointer (some ⟨b,0,none⟩)] w λr w'=>Ext w w'/\Own w.heap.size w' r (zh7 (zvj c c.procs.length)):=by
 refine co (g:=kf [] [(3,4192280,[3,11])] []) Tryz.func261 ?_;have h8:=hc.1.procs8;refine NIL.mk rfl<|zaa zbc<|zaa zby<|zab zb9 (zay hW.wl.code) e0 λ_ h9=>zae u26 h9<|zar c.procs.length (λk us w'=>∃ v:vL,us=[v,.int .i64 (k:Int)]/\k<=c.procs.length/\Ext w w'/\RowI w.heap.size w'.heap.size 277 w' v (zh7 (zvj c k))) 0 (z0 _) ⟨_,rfl,z0 _,xrf _,zbL _ _ _ _⟩ ?_;rintro k mk _ _ _ ⟨v,hu,_,g0,g1⟩;obtain ⟨g3,g4⟩:=zcv hu;rw [g3,g4];refine zah<|br (λ_=>?_) (λ_=>?_)
 case refine_2=>
   have:k=c.procs.length:=oo;rw [this] at g1;exact ⟨g0,g1.own.own⟩
 have hk:k<c.procs.length:=oo;have hs2:=g0.size;refine (zxs hW (e0.t g0) hc hk).mono ?_;rintro _ w3 ⟨g2,rfl⟩;have hs3:=g2.size;refine zas (cells:=#[.int .i64 (zgm c k:Nat),.int .i64 63]) kK<|zbs (lo2:=w3.heap.size) (hi2:=w3.heap.size) (x:=zyA (zgm c k,63)) zv3 zmU zE6 zDx dD (g1.ext g2) oo (ztA _ _ (x:=(zgm c k,63)) zl9 oo) oo oo (by rw [zak,zkV];omega) (by rw [zkV];omega) λg5 _ g9 gb=>zaw<|⟨mk-1,oo,k+1,oo,g5,rfl,oo,(g0.t g2).chgI g9 (lr _),?_⟩;rw [zqt];exact gb
def zxu (h0:Is W0 v0 c) (e0:Ext W0 w) (hc:CodeR c) :
   CALL tp 289 [v0] w λr w'=>Ext w w'/\Own w.heap.size w' r (zh7 (zvj c c.procs.length)):=by
 refine co (g:=kf [] [(3,1048536,[3,4])] []) Tryz.func289 ?_;have h8:=hc.1.procs8;refine zbk h0 e0 λw0 g2 hA=>?_;have hs0:=g2.size;refine zaI (α:=DEffect) zv3 zmU λ_ _ g3 g4=>?_;have g5:=g3.size;refine zar c.procs.length (λk us w'=>∃ v:vL,us=[v,.int .i64 (k:Int)]/\k<=c.procs.length/\Ext w0 w'/\RowI w0.heap.size w'.heap.size 277 w' v (zh7 (zvj c k))) 0 (z0 _) ⟨_,rfl,z0 _,g3,g4.mono g5 (lr _)⟩ ?_;rintro k mk _ _ _ ⟨v,hu,_,C,g0⟩;obtain ⟨g9,gb⟩:=zcv hu;rw [g9,gb];refine zaa zby<|zab zb9 (zay hA) C λ_ h9=>zae u26 h9<|zah<|br (λ_=>?_) (λ_=>?_)
 case refine_2=>
   have:k=c.procs.length:=oo;rw [this] at g0;exact ⟨g2.t C,g0.own.own.mono oo⟩
 have hk:k<c.procs.length:=oo;have hs2:=C.size;refine zab zbO hA C λ_ gc=>?_;refine (zuz gc C hc hk).mono ?_;rintro _ w3 ⟨g1,rfl⟩;have hs3:=g1.size;refine zas (cells:=#[.int .i64 (zgm c k:Nat),.int .i64 63]) kK<|zbs (lo2:=w3.heap.size) (hi2:=w3.heap.size) (x:=zyA (zgm c k,63)) zv3 zmU zE6 zDx dD (g0.ext g1) oo (ztA _ _ (x:=(zgm c k,63)) zl9 oo) oo oo (by rw [zak,zkV];omega) (by rw [zkV];omega) λgd _ gf gg=>zaw<|⟨mk-1,oo,k+1,oo,gd,rfl,oo,(C.t g1).chgI gf oo,?_⟩;rw [zqt];exact gg
structure FE (w1 w:wD) (g:Nat) (v:vL) (T:Tab):Prop where
 ext:Ext w1 w
 mine:Mine [g] w v (zh7 T)
 g0:w1.heap.size<=g
section
variable {w1 w w':wD} {g:Nat} {v:vL} {T:Tab}
def FE.step (h:FE w1 w g v T) (hx:Ext w w'):FE w1 w' g v T:=⟨h.ext.trans hx,h.mine.ext hx,h.g0⟩
def FE.own (h:FE w1 w g v T):Own w1.heap.size w v (zh7 T):=⟨[g],h.mine,λb hb=>by simp only [qaa,qag,qaz] at hb;have:=h.g0;omega⟩
def FE.make (ho:Own w1.heap.size w v (zh7 T)) (hx:Ext w1 w) (hT:T≠[]):∃ g,FE w1 w g v T:=by
 obtain ⟨_,hm,hF⟩:=ho;obtain ⟨b,_,_,_,rfl⟩:=zfJ hm (by intro e;exact hT (List.map_eq_nil_iff.1 e));exact ⟨b,hx,hm,hF b ss⟩
def zxv {q m:Nat} {K:wD->Prop} (h:FE w1 w g v T) (hT:T≠[]) (hq:q<T.length) (hm:m<64) (k:∀ w',FE w1 w' g v (T.set q ((tbl T q).1,m))->ChgI g (g+1) w w'->K w') :
   RD tp (Instr.indexAt 239 v (.int .i64 (q:Int))) w λa=>RD tp (Instr.fieldAt 277 a 1) w λf=>OPU tp (Instr.storeAt 3 f (.int .i64 (m:Int))) w K:=by
 refine zDF (α:=DEffect) (β:=Int) (sel:=DEffect.gen) (g:=λa y=>⟨a.keep,y⟩) zv3 zmU zlk ty3 (λh=>zmZ h) h.mine (by rw [zfM];exact hq) (zbS (v:=m) oo) λw2 F2 g3 g1 g4=>?_
 have hF:F2=[g]:=by
   obtain ⟨b,_,_,_,rfl⟩:=zfJ g1 (by intro e;have:=qat List.length e;rw [qbD,zfM] at this;simp only [qaI] at this;omega);have:=g4 b ss;simpa using this
 subst hF;have g2:=zfl g3;refine k w2 ⟨h.ext.chgI g2 h.g0,?_,h.g0⟩ g2;rw [zzp];rw [zgQ] at g1;exact g1
end
def zxw (hc:CodeR c):EI c (zvj c c.procs.length):=EI.start c hc
def EI.len {T:Tab} (h:EI c T):T.length=c.procs.length:=h.tab.1
def EI.ne (hc:CodeR c) {T:Tab} (h:EI c T):T≠[]:=λe=>by
 have h1:=h.len;have h2:=hc.1.procs8;rw [e] at h1;simp at h1;omega
structure EP (c:DCode) (T0:Tab) (k:Nat) (ag:Bool) (T:Tab):Prop where
 ei:EI c T
 yes:ag=true->zxo T<zxo T0
 no:ag=false->T=T0/\∀ p,p<k->zeE c T0 p=(tbl T0 p).2
theorem EP.set (hc:CodeR c) {T0 T:Tab} {k:Nat} {ag:Bool} (H:EP c T0 k ag T) (hk:k<c.procs.length) (g0:zeE c T k≠(tbl T k).2):EP c T0 (k+1) true (T.set k ((tbl T k).1,zeE c T k)):=by
 refine ⟨H.ei.upd hc hk,λ_=>?_,λe=>by cases e⟩;have h1:=zzn (T:=T) (p:=k) (v:=((tbl T k).1,zeE c T k)) (by rw [H.ei.len];exact hk);have h2:=H.ei.le hc hk;simp only at h1;cases ag with
 | true=>have:=H.yes rfl;omega
 | false=>rw [(H.no rfl).1] at h1 h2 g0 ⊢;omega
def EP.skip {T0 T:Tab} (H:EP c T0 k ag T) (he:zeE c T k=(tbl T k).2):EP c T0 (k+1) ag T:=
 ⟨H.ei,H.yes,λe=>⟨(H.no e).1,λp hp=>by
   by_cases h:p=k
   . subst h;rw [(H.no e).1] at he;exact he
   exact (H.no e).2 p oo⟩⟩
def zuA (hW:WAt W0 b c) (e0:Ext W0 w) (hc:CodeR c) :
   CALL tp 207 [.pointer (some ⟨b,0,none⟩)] w λr w'=>Ext w w'/\Own w.heap.size w' r (zh7 (zdt c)):=by
 refine co (g:=kf [] [(3,4294966896,[4]),(6,4294963312,[4,12])] []) Tryz.func207 ?_;have h8:=hc.1.procs8;refine (zmd hW e0 hc).mono ?_;rintro v8 _ ⟨gc,gd⟩;have g5:=zxw hc;obtain ⟨g,gf⟩:=FE.make gd gc (g5.ne hc);generalize zvj c c.procs.length=T at *;refine LOOPI.mk (λm us w'=>∃ (ag:Bool) (T:Tab),us=[.bool ag]/\m=zxo T+(if ag then 1 else 0)/\FE w w' g v8 T/\EI c T/\(ag=false->∀ p,p<c.procs.length->zeE c T p=(tbl T p).2)) (zxo T+1) ⟨true,T,rfl,rfl,gf,g5,λe=>by cases e⟩ ?_;rintro m u _ ⟨ag,T,hu,hm,D,g2,gg⟩;try replace hu:=zbv hu
 rw [hu];refine zaN (λg3=>?_) (λg3=>?_)
 case refine_2=>rw [g2.fin hc (gg g3)] at D;exact ⟨D.ext,D.own⟩
 rw [g3,qah rfl] at hm;refine zae zv3 D.mine.is ?_;rw [zfM,g2.len];refine zar c.procs.length (λk us w'=>∃ (ag:Bool) (T':Tab),us=[.bool ag,.int .i64 (k:Int)]/\k<=c.procs.length/\FE w w' g v8 T'/\EP c T k ag T') 0 (z0 _) ⟨false,T,rfl,z0 _,D,g2,λe=>(by cases e),λ_=>⟨rfl,λp hp=>oo⟩⟩ ?_;rintro k mk u _ _ ⟨g0,T3,hu,_,g1,C⟩;obtain ⟨gh,gi⟩:=zcv hu;rw [gh,gi];refine zah<|br (λ_=>?_) (λ_=>?_)
 case refine_2=>
   refine ⟨zxo T3+(if g0 then 1 else 0),?_,g0,T3,rfl,rfl,g1,C.ei,λe p hp=>?_⟩
   . cases g0 with
     | true=>have:=C.yes rfl;simp;omega
     | false=>rw [(C.no rfl).1];simp;omega
   have:=C.no e;rw [this.1];exact this.2 p oo
 have hk:k<c.procs.length:=oo;refine (zzq hW.wl (e0.t g1.ext) g1.mine.is (xrf _) hc C.ei.tab hk).mono ?_;rintro _ _ ⟨gj,rfl⟩;have g4:=g1.step gj;have gl:=zkS (T:=T3) hc hk;have hgl:=C.ei.tab.2 k;have g9:k<T3.length:=by rw [C.ei.len];exact hk
 refine zac zv3 zmU g4.mine.is (by rw [zfM];exact g9) λ_ _ gb=>?_;rw [zgQ] at gb;refine zaa zlk<|zad ty3 (zfL gb) (xrf _) λ_=>zaJ<|br (λgn=>?_) (λgp=>?_)
 . refine zxv g4 (C.ei.ne hc) g9 gl λ_ gq _=>?_;refine zaw<|⟨mk-1,oo,k+1,oo,true,_,rfl,oo,gq,C.set hc hk λe=>gn (by rw [e];rfl)⟩
 refine zaw<|⟨mk-1,oo,k+1,oo,g0,T3,rfl,oo,g4,C.skip (qa7.1 (qaf.1 gp))⟩
def zo2 (h0:Is W0 v0 c) (e0:Ext W0 w) (hc:CodeR c) :
   CALL tp 232 [v0] w λr w'=>Ext w w'/\Own w.heap.size w' r (zh7 (zdt c)):=by
 refine co (g:=kf [] [(3,8589934192,[4]),(6,8589933680,[4,5])] []) Tryz.func232 ?_;have h8:=hc.1.procs8;refine zbk h0 e0 λw0 g4 hA=>?_;have hs0:=g4.size;refine zab zbO hA (xrf _) λ_ h7=>?_;refine (zxu h7 (xrf _) hc).mono ?_;rintro v8 _ ⟨gd,gf⟩;have g5:=zxw hc;obtain ⟨g,gg⟩:=FE.make gf gd (g5.ne hc);generalize zvj c c.procs.length=T at *;refine LOOPI.mk (λm us w'=>∃ (ag:Bool) (T:Tab),us=[.bool ag]/\m=zxo T+(if ag then 1 else 0)/\FE w0 w' g v8 T/\EI c T/\(ag=false->∀ p,p<c.procs.length->zeE c T p=(tbl T p).2)) (zxo T+1) ⟨true,T,rfl,rfl,gg,g5,λe=>by cases e⟩ ?_;rintro m u _ ⟨ag,T,hu,hm,g0,g9,gh⟩;try replace hu:=zbv hu
 rw [hu];refine zaN (λg2=>?_) (λg2=>?_)
 case refine_2=>rw [g9.fin hc (gh g2)] at g0;exact ⟨g4.t g0.ext,g0.own.mono oo⟩
 rw [g2,qah rfl] at hm;refine zar c.procs.length (λk us w'=>∃ (ag:Bool) (T':Tab),us=[.bool ag,.int .i64 (k:Int)]/\k<=c.procs.length/\FE w0 w' g v8 T'/\EP c T k ag T') 0 (z0 _) ⟨false,T,rfl,z0 _,g0,g9,λe=>(by cases e),λ_=>⟨rfl,λp hp=>oo⟩⟩ ?_;rintro k mk u _ _ ⟨g1,T3,hu,_,D,C⟩;obtain ⟨gi,gj⟩:=zcv hu;rw [gi,gj];refine zaa zby<|zab zb9 (zay hA) D.ext λ_ gl=>zae u26 gl<|zah<|br (λ_=>?_) (λ_=>?_)
 case refine_2=>
   refine ⟨zxo T3+(if g1 then 1 else 0),?_,g1,T3,rfl,rfl,D,C.ei,λe p hp=>?_⟩
   . cases g1 with
     | true=>have:=C.yes rfl;simp;omega
     | false=>rw [(C.no rfl).1];simp;omega
   have:=C.no e;rw [this.1];exact this.2 p oo
 have hk:k<c.procs.length:=oo;refine zab zbO hA D.ext λ_ gn=>?_;refine (zxt gn D.ext D.mine.is (xrf _) hc C.ei.tab hk).mono ?_;rintro _ _ ⟨gp,rfl⟩;have g3:=D.step gp;have gq:=zkS (T:=T3) hc hk;have hgl:=C.ei.tab.2 k;have gb:k<T3.length:=by rw [C.ei.len];exact hk
 refine zac zv3 zmU g3.mine.is (by rw [zfM];exact gb) λ_ _ gc=>?_;rw [zgQ] at gc;refine zaa zlk<|zad ty3 (zfL gc) (xrf _) λ_=>zaJ<|br (λgr=>?_) (λgs=>?_)
 . refine zxv g3 (C.ei.ne hc) gb gq λ_ gt _=>?_;refine zaw<|⟨mk-1,oo,k+1,oo,true,_,rfl,oo,gt,C.set hc hk λe=>gr (by rw [e];rfl)⟩
 refine zaw<|⟨mk-1,oo,k+1,oo,g1,T3,rfl,oo,g3,C.skip (qa7.1 (qaf.1 gs))⟩
noncomputable def zvk (c:DCode) (p:Nat):List Nat:=zbb c.procs.length (zkP c p 5)
noncomputable def zzr (c:DCode) (r:Nat):List Nat:=zbb c.procs.length (FromP c r)
noncomputable def znB (c:DCode) (r:Nat):List Nat:=(zzr c r).flatMap (zvk c)
def zxx (hc:CodeR c) (q:Nat):RootP c q↔q=zcX c\/RP (znB c) (zcX c) q:=by
 have g0:∀ r q,q∈znB c r↔∃ p,p<c.procs.length/\FromP c r p/\q<c.procs.length/\zkP c p 5 q:=λr q=>by
   unfold znB zzr zvk;simp only [qaV,zaO];exact ⟨λ⟨p,⟨h1,h2⟩,h3,h4⟩=>⟨p,h1,h2,h3,h4⟩,λ⟨p,h1,h2,h3,h4⟩=>⟨p,⟨h1,h2⟩,h3,h4⟩⟩
 constructor
 . intro h
   induction h with
   | main=>exact .inl rfl
   | @spawn r p q h0 h1 h2 hq ih=>
     have hm:=(g0 r q).2 ⟨p,h1.lt (h0.lt hc),h1,hq,h2⟩;rcases ih with rfl | ih
     . exact .inr (.one hm)
     exact .inr (.more ih hm)
 rintro (rfl | h)
 . exact .main
 refine h.keeps (p:=RootP c) .main λi j hi hj=>?_;obtain ⟨p,_,h1,h2,h3⟩:=(g0 i j).1 hj;exact .spawn hi h1 h3 h2
def zzs {α β:Type} {f:α->List β} {L:List α} (hi:i<L.length) (hj:j<(f L[i]).length):∃ h:((L.take i).flatMap f).length+j<(L.flatMap f).length,(L.flatMap f)[((L.take i).flatMap f).length+j]=(f L[i])[j]:=by
 have e:L.flatMap f=(L.take i).flatMap f++(f L[i]++(L.drop (i+1)).flatMap f):=by
   rw [<-qbG,<-qaO];congr 1;rw [<-qax hi,qca]
 have g0:((L.take i).flatMap f).length+j<(L.flatMap f).length:=by rw [e];simp only [qab];omega
 refine ⟨g0,?_⟩
 have:(L.flatMap f)[((L.take i).flatMap f).length+j]?=some (f L[i])[j]:=by
   rw [e,List.getElem?_append_right oo,qcp,List.getElem?_append_left hj,List.getElem?_eq_getElem hj]
 rw [List.getElem?_eq_getElem g0] at this;exact qco this
def zxy {α β:Type} {f:α->List β} {L:List α} (hi:i<L.length):((L.take (i+1)).flatMap f).length=((L.take i).flatMap f).length+(f L[i]).length:=by
 rw [tk hi,qaO,qab];simp
def zgR (h0:Is W0 v0 c) (e0:Ext W0 w) (hc:CodeR c) :
   CALL tp 176 [v0] w λr w'=>Ext w w'/\Own w.heap.size w' r (zbT c.procs.length (RootP c)):=by
 refine co (g:=kf [] [(5,9444732965739288331248,[4,5]),(9,9444732965722110559120,[4,7]),(13,9444732895370546250256,[4,9])] [(7,[0,1,2,3,4,5,6,7],0),(11,[0,1,2,3,4,5,6],0)]) Tryz.func176 ?_;have h8:=hc.1.procs8;obtain ⟨ha,gB⟩:=ze0 hc;have hR:=zxx hc;have hd:∀ x,znB c x=(zzr c x).flatMap (zvk c):=λ_=>rfl
 have hM:∀ {i j:Nat},i<c.procs.length->j∈znB c i->j<c.procs.length/\True:=λ{i j} _ hj=>by
   rw [hd] at hj;obtain ⟨p,_,h⟩:=qaV.1 hj;exact ⟨(zaO.1 h).1,trivial⟩
 refine zbk h0 e0 λw1 he hA=>?_;have hs1:=he.size;refine zaa zby<|zab zb9 (zay hA) (xrf _) λ_ hN=>zae u26 hN<|zeZ h8.2 oo λ_ gc hO=>?_;have hs2:=gc.size;refine zab zbO hA gc λ_ hP=>?_;refine (zhM hP gc).mono ?_;rintro _ hQ ⟨Z,rfl⟩;rw [ha];have hS:=Z.size;have gG:=hO.ext Z;generalize hn:c.procs.length=n at *;generalize zcX c=a at *;refine zb5 (α:=Bool) rfl zdj ty4 gB<|zbm (α:=Bool) rfl ty4 gG ss gB zbM λhg hT gd=>?_;have g3:ChgI w1.heap.size (w1.heap.size+1) hQ hg:=hT.toI λb hb=>by simp only [qaa,qag,qaz] at hb;omega
 have hU:=g3.size;have gH:((List.replicate n false).set a true).length=n:=by simp
 have hl:∀ i,mkd ((List.replicate n false).set a true) i↔i=a:=λi=>by
   rw [zdc (by simp;exact gB)];exact ⟨λh=>h.resolve_left zbR,.inr⟩
 generalize (List.replicate n false).set a true=M0 at *;have g1:Ext w1 hg:=(gc.t Z).chgI g3 oo;refine zab zbO hA g1 λ_ hV=>?_;refine (zhM hV g1).mono ?_;rintro _ hW ⟨g4,rfl⟩;rw [ha];have hX:=g4.size;refine zc8 (x:=(a:Int)) u31 ty3 z3 dD (zcF io) λhr w3 gI hY=>?_;have hZ:=gI.size;generalize hm:w1.heap.size=m at *;have j0:WI w1 w3 m n hW.heap.size w3.heap.size hr [a] M0:=⟨(((gc.t Z).toI.trans g3).trans g4.toI).trans gI.toI,hY,(gd.ext g4).ext gI,oo,by have:=gd.lt m ss;omega,hZ,qaE _⟩;have j1:∀ x p,p∈zzr c x->p<n:=λx p hp=>by have:=(zaO.1 hp).1;omega
 have gJ:∀ x,(zzr c x).length<=n:=λx=>by have:=zbe (n:=c.procs.length) (p:=FromP c x);rw [hn] at this;unfold zzr;rw [hn];exact this
 have gK:∀ x,(zvk c x).length<=n:=λx=>by have:=zbe (n:=c.procs.length) (p:=zkP c x 5);rw [hn] at this;unfold zvk;rw [hn];exact this
 generalize hnx:znB c=nx at *;refine zar (1+n) (λh us w'=>∃ (tv:vL) (lo hi:Nat) (L:List Nat) (ms:List Bool),us=[tv,.int .i64 (h:Int)]/\h<=L.length/\WI w1 w' m n lo hi tv L ms/\SInv nx n a M0 ms (L.drop h) h) 0 (z0 _) ⟨hr,_,_,[a],_,rfl,ss,j0,SInv.start gH gB⟩ ?_;rintro h mk u w4 _ ⟨tv,lo,hi,L,ms,hu,_,gC,g9⟩;obtain ⟨gf,gg⟩:=zcv hu;clear hu;rw [gf,gg];have j2:=g9.bound;rw [qbc] at j2;refine zae u31 gC.row.is ?_;rw [zaf];refine zah<|br (λ_=>?_) (λ_=>?_)
 case refine_2=>
   have j3:h=L.length:=oo;rw [j3,qbk] at g9;have gL:=g9.fin λi hi j4=>absurd ((hl i).1 hi) j4;have j5:ms=zbT n (RootP c):=zcp g9.len λi hi=>by rw [gL i,hl,hR]
   rw [<-j5];have j6:Ext w1 w4:=(xrf w1).chgI gC.chg oo;exact ⟨he.t j6,[m],gC.mks,λb hb=>by simp only [qaa,qag,qaz] at hb;omega⟩
 have hh:h<L.length:=oo;have j7:=zai w4;have gb:=gC.step j7;generalize World.drew1 w4=w5 at *;have gD:∀ {w:wD} {lo hi tv L ms},WI w1 w m n lo hi tv L ms->Ext w1 w:=λh=>(xrf w1).chgI h.chg oo;refine zab zbO hA (gD gb) λ_ j8=>zac u31 ty3 (i:=h) gb.row.is (by rw [zaf];exact hh) λb1 o1 gh=>?_;rw [zaY] at gh;refine zad ty3 gh (xrf _) λ_=>?_;generalize hx:L[h]=x at *;have gM:L.drop h=x :: L.drop (h+1):=by rw [qax hh,hx]
 have hs:x<n:=(g9.tdo x (by rw [gM];simp)).2;refine (zgM j8 (gD gb) hc (by rw [hn];exact hs)).mono ?_;rintro _ gi ⟨gj,_,rfl,_,j9⟩;refine (zfK j9.is (xrf _) (by rw [zam];omega)).mono ?_;rintro gN w6 ⟨ht,hv⟩;have ja:(λi=>i=x\/RP (zl8 c) x i)=FromP c x:=rfl;rw [zam,zhn,ja] at hv;have gO:Own gi.heap.size w6 gN (zaK (zzr c x)):=hv;have jb:=(gb.step gj).step ht;have hI6:=gb.h3;have jc:=gj.size;have hs6:=ht.size;have jd:SIn2 nx n a M0 ms (L.drop (h+1)) h x 0:=g9.pop (λi=>by rw [gM];simp [or_comm]) (by rw [gM];simp);have hfx:=gJ x;have gP:=j1 x;have gl:nx x=(zzr c x).flatMap (zvk c):=hd x;generalize zzr c x=Fl at *;refine zar Fl.length (λk us w'=>∃ (tv:vL) (lo hi:Nat) (L:List Nat) (ms:List Bool),us=[tv,.int .i64 (k:Int)]/\k<=Fl.length/\h<L.length/\WI w1 w' m n lo hi tv L ms/\SIn2 nx n a M0 ms (L.drop (h+1)) h x ((Fl.take k).flatMap (zvk c)).length/\OwnI gi.heap.size w6.heap.size w' gN (zaK Fl)/\(hi<=gi.heap.size\/w6.heap.size<=lo)/\w6.heap.size<=w'.heap.size) 0 (z0 _) ⟨tv,lo,hi,L,ms,rfl,z0 _,hh,jb,jd,gO.toI,.inl oo,qaE _⟩ ?_;rintro k je u w7 _ ⟨hw,hz,hB,L7,hC,hu,_,jf,hD,hF,hG,jg,_⟩;obtain ⟨gf,gg⟩:=zcv hu;clear hu;rw [gf,gg];refine zae u31 hG.is ?_;rw [zaf];refine zah<|br (λ_=>?_) (λ_=>?_)
 case refine_2=>refine zaw<|⟨mk-1,oo,h+1,oo,hw,hz,hB,L7,hC,rfl,oo,hD,hF.done ?_⟩;rw [gl,show Fl.take k=Fl from qai oo];exact qaE _
 have hk:k<Fl.length:=oo;have gQ:=zai w7;have gE:=hD.step gQ;have hH:=hG.ext gQ;have hs8:=gQ.size;generalize World.drew1 w7=w8 at *;refine zab zbO hA (gD gE) λ_ jh=>zac u31 ty3 (i:=k) hH.is (by rw [zaf];exact hk) λ_ _ hI=>?_;rw [zaY] at hI;refine zad ty3 hI (xrf _) λ_=>?_;have hJ:=λj=>zzs (f:=zvk c) (L:=Fl) (i:=k) (j:=j) hk;have ji:=zxy (f:=zvk c) (L:=Fl) (i:=k) hk;have jj:=gP _ (qac hk);rw [<-gl] at hJ;generalize Fl[k]=p at *;refine (zl6 jh (gD gE) hc (p:=p) (op:=5) (by rw [hc.2.1.1,hn];exact jj) (.inr rfl)).mono ?_;rintro gF w9 ⟨gR,jk⟩;have gS:Own w8.heap.size w9 gF (zaK (zvk c p)):=jk;have jl:=gE.step gR;have hs9:=gR.size;have hop:=gK p;generalize zvk c p=Ol at *;generalize hq0:((Fl.take k).flatMap (zvk c)).length=q0 at *;have jm:=gE.h3;refine zar Ol.length (λj us w'=>∃ (tv:vL) (lo hi:Nat) (L:List Nat) (ms:List Bool),us=[tv,.int .i64 (j:Int)]/\j<=Ol.length/\h<L.length/\WI w1 w' m n lo hi tv L ms/\SIn2 nx n a M0 ms (L.drop (h+1)) h x (q0+j)/\OwnI gi.heap.size w6.heap.size w' gN (zaK Fl)/\(hi<=gi.heap.size\/w6.heap.size<=lo)/\OwnI w8.heap.size w9.heap.size w' gF (zaK Ol)/\(hi<=w8.heap.size\/w9.heap.size<=lo)/\w9.heap.size<=w'.heap.size) 0 (z0 _) ⟨hw,hz,hB,L7,hC,rfl,z0 _,jf,jl,hF,hH.ext gR,jg,gS.toI,.inl jm,qaE _⟩ ?_;rintro j gn u jn _ ⟨gp,gq,gr,L10,D,hu,_,gs,M,O,g5,gt,U,gx,gT⟩;obtain ⟨gf,gg⟩:=zcv hu;rw [gf,gg];refine zae u31 U.is ?_;rw [zaf];refine zah<|br (λ_=>?_) (λ_=>?_)
 case refine_2=>refine zaw<|⟨je-1,oo,k+1,oo,gp,gq,gr,L10,D,rfl,oo,gs,M,?_,g5,gt,oo⟩;rw [ji,show Ol.length=j by omega];exact O
 have hj:j<Ol.length:=oo;obtain ⟨hq,jo⟩:=hJ j hj
 have gU:∀ {w:wD} {K:vL->Prop} (ho:OwnI w8.heap.size w9.heap.size w gF (zaK Ol)) (kk:K (.int .i64 (((nx x)[q0+j]:Nat):Int))),RD tp (Instr.indexAt 31 gF (.int .i64 (j:Int))) w λjp=>RD tp (Instr.loadAt 3 jp) w K:=λho kk=>by
   refine zac u31 ty3 (i:=j) ho.is (by rw [zaf];exact hj) λb1 o1 gh=>?_;rw [zaY,<-jo] at gh;exact zad ty3 gh (xrf _) λ_=>kk
 have hy:=hM hs (qac hq);refine gU U ?_;have C:=O.len;refine zac zdj ty4 M.mks.is (by rw [C];exact hy.1) λ_ _ jq=>zaC ty4 jq (xrf _)<|zau ?_;have g2:=zaZ (ms:=D) (i:=(nx x)[q0+j]) (by rw [C];exact hy.1);refine zaN (λhf=>?_) (λhf=>?_)
 . have gV:¬mkd D (nx x)[q0+j]:=by rw [g2];simpa using hf
   refine gU U<|zb5 (α:=Bool) rfl zdj ty4 hy.1<|zbm (α:=Bool) rfl ty4 M.mks C hy.1 zbM λjr gy gW=>?_;have gz:=M.mark gy gW;have V:ChgI m (m+1) jn jr:=gy.toI λb hb=>by simp only [qaa,qag,qaz] at hb;omega
   have hm4:=gb.mks.lt m ss;have gX:=g5.chg V oo;have gA:=U.chg V oo;refine gU gA ?_;have gY:=O.push hq hy.1 gV;generalize (nx x)[q0+j]=y at *
   have hLb:L10.length<=2+n:=by
     have h1:=O.cnt;have h2:=zhm D;rw [qbc] at h1;omega
   refine zdX (x:=(y:Int)) u31 ty3 z3 zc3 dD gz.row (zc2 0 0 io) (by rw [zak,zaf];omega) (by rw [zaf];omega) λjs _ gZ h4 g0 h5 h6=>?_;have h9:=gz.push g0 h5 h6;have hK:=V.size;have hL:=g0.size;refine zaw<|⟨gn-1,oo,j+1,oo,js,gZ,h4,L10++[y],_,rfl,oo,by simp;omega,h9,?_,gX.chg g0 oo,oo,gA.chg g0 oo,oo,oo⟩;rw [qb1 oo];exact gY
 have gV:mkd D (nx x)[q0+j]:=by rw [g2];simpa using hf
 refine zaw<|⟨gn-1,oo,j+1,oo,gp,gq,gr,L10,D,rfl,oo,gs,M,O.skip hq gV,g5,gt,U,gx,gT⟩
def zhQ (h0:Is W0 v0 c) (e0:Ext W0 w) (hc:CodeR c) :
   CALL tp 234 [v0] w λr w'=>Ext w w'/\Own w.heap.size w' r (zbT c.procs.length (UsedP c)):=by
 refine co (g:=kf [] [(4,281474976694496,[5]),(9,281474439839872,[7])] []) Tryz.func234 ?_;have h8:=hc.1.procs8;refine zbk h0 e0 λw1 gr hA=>?_;have hs1:=gr.size;refine zab zbO hA (xrf _) λ_ gx=>?_;refine (zgR gx (xrf _) hc).mono ?_;rintro _ w2 ⟨g4,gy⟩;have hs2:=g4.size;refine zaa zby<|zab zb9 (zay hA) g4 λ_ gz=>zae u26 gz<|zeZ h8.2 oo λw3 g5 g9=>?_;have hs3:=g5.size;have gA:=gy.toI.ext g5;have hm3:=g9.lt _ (qay.2 rfl);have gb:=g4.t g5;generalize hm:w2.heap.size=m at *;rw [zdC c.procs.length (p:=λq=>∃ r,r<0/\RootP c r/\FromP c r q) (λi ⟨j,h,_⟩=>oo)] at g9;refine zar c.procs.length (λk us w'=>us=[.int .i64 (k:Int)]/\k<=c.procs.length/\ChgI m (m+1) w3 w'/\Mine [m] w' (.slice (some ⟨m,0,none⟩) c.procs.length c.procs.length) (zbT c.procs.length λq=>∃ r,r<k/\RootP c r/\FromP c r q)) 0 (z0 _) ⟨rfl,z0 _,ChgI.refl _,g9⟩ ?_;rintro k mk u w4 _ ⟨hu,_,g1,C⟩;try replace hu:=zbv hu
 rw [hu];have g2:Ext w1 w4:=gb.chgI g1 oo;have gs:=gA.chg g1 oo;have hm4:=C.lt _ (qay.2 rfl);refine zaa zby<|zab zb9 (zay hA) g2 λ_ gB=>zae u26 gB<|zah<|br (λ_=>?_) (λ_=>?_)
 case refine_2=>
   have gC:k=c.procs.length:=oo
   have hS:(zbT c.procs.length λq=>∃ r,r<k/\RootP c r/\FromP c r q)=zbT c.procs.length (UsedP c):=zaX λq _=>
     ⟨λ⟨r,_,h1,h2⟩=>⟨r,h1,h2⟩,λ⟨r,h1,h2⟩=>⟨r,by rw [gC];exact h1.lt hc,h1,h2⟩⟩
   rw [hS] at C;exact ⟨gr.t g2,[m],C,λb hb=>by simp only [qaa,qag,qaz] at hb;omega⟩
 have hk:k<c.procs.length:=oo;refine zac zdj ty4 (i:=k) gs.is (by rw [zam];exact hk) λ_ _ gD=>zaC ty4 gD (xrf _) ?_;have gc:=zaM (n:=c.procs.length) (p:=RootP c) (i:=k);rw [zaZ (by rw [zam];exact hk)] at gc;refine zau<|zaN (λhf=>?_) (λhf=>?_)
 . have gE:¬RootP c k:=λh=>by rw [gc.2 ⟨hk,h⟩] at hf;cases hf
   refine zaw<|⟨mk-1,oo,k+1,oo,rfl,oo,g1,?_⟩
   rw [zaX (q:=λq=>∃ r,r<k/\RootP c r/\FromP c r q) λq _=>⟨λ⟨r,h1,h2,h3⟩=>by
     by_cases e:r=k
     . subst e;exact absurd h2 gE
     exact ⟨r,oo,h2,h3⟩,λ⟨r,h1,h2⟩=>⟨r,oo,h2⟩⟩]
   exact C
 have g0:RootP c k:=(gc.1 (by simpa using hf)).2;refine zab zbO hA g2 λ_ gF=>?_;refine (zgM gF g2 hc hk).mono ?_;rintro _ w5 ⟨gd,gf,rfl,_,gg⟩;have gG:(λi=>i=k\/RP (zl8 c) k i)=FromP c k:=rfl;rw [gG] at gg;have ho5:=gs.ext gd;have gH:=C.ext gd;have gI:=g1.trans gd.toI;refine zar c.procs.length (λj us w'=>us=[.int .i64 (j:Int)]/\j<=c.procs.length/\ChgI m (m+1) w5 w'/\Mine [m] w' (.slice (some ⟨m,0,none⟩) c.procs.length c.procs.length) (zbT c.procs.length λq=>(∃ r,r<k/\RootP c r/\FromP c r q)\/(q<j/\FromP c k q))) 0 (z0 _) ⟨rfl,z0 _,ChgI.refl _,by rw [zaX (q:=λq=>∃ r,r<k/\RootP c r/\FromP c r q) λq _=>⟨λh=>h.resolve_right λh=>oo,.inl⟩];exact gH⟩ ?_;rintro j mj u w6 _ ⟨hu,_,gh,gi⟩;try replace hu:=zbv hu
 rw [hu];refine zj0 zdj<|zah<|br (λ_=>?_) (λ_=>?_)
 case refine_2=>
   refine zaw<|⟨mk-1,oo,k+1,oo,rfl,oo,gI.trans gh,?_⟩
   rw [zaX (q:=λq=>(∃ r,r<k/\RootP c r/\FromP c r q)\/(q<j/\FromP c k q)) λq hq=>⟨λ⟨r,h1,h2,h3⟩=>by
     by_cases e:r=k
     . subst e;exact .inr ⟨oo,h3⟩
     exact .inl ⟨r,oo,h2,h3⟩,λh=>h.elim (λ⟨r,h1,h2⟩=>⟨r,oo,h2⟩) λ⟨_,h⟩=>⟨k,oo,g0,h⟩⟩]
   exact gi
 have hj:j<c.procs.length:=oo
 have gj:Is w6 (.slice (some ⟨gf,0,none⟩) c.procs.length c.procs.length) (zbT c.procs.length (FromP c k)):=(gg.keep λb hb=>by
   simp only [qaa,qag,qaz] at hb;subst hb;exact gh.block b (gg.lt b ss) oo).is
 refine zac zdj ty4 (i:=j) gi.is (by rw [zam];exact hj) λ_ _ gJ=>zaC ty4 gJ (xrf _) ?_;have gl:=zaM (n:=c.procs.length) (p:=λq=>(∃ r,r<k/\RootP c r/\FromP c r q)\/(q<j/\FromP c k q)) (i:=j);have gn:=zaM (n:=c.procs.length) (p:=FromP c k) (i:=j);rw [zaZ (by rw [zam];exact hj)] at gl gn
 have gt:∀ (bb:Bool),(bb=true↔((∃ r,r<k/\RootP c r/\FromP c r j)\/FromP c k j))->RD tp (Instr.indexAt 125 (.slice (some ⟨m,0,none⟩) c.procs.length c.procs.length) (.int .i64 (j:Int))) w6 λgK=>OPU tp (Instr.storeAt 4 gK (.bool bb)) w6 λw=>RD tp (bin .add 3 (.tmp 0) (.const undef) (.int .i64 (j:Int)) (.int .i64 1)) w λgL=>∃ m',m'<mj/\∃ k',k'+m'=c.procs.length/\[gL]=[.int .i64 (k':Int)]/\k'<=c.procs.length/\ChgI m (m+1) w5 w/\Mine [m] w (.slice (some ⟨m,0,none⟩) c.procs.length c.procs.length) (zbT c.procs.length λq=>(∃ r,r<k/\RootP c r/\FromP c r q)\/(q<k'/\FromP c k q)):=λbb gM=>by
   refine zb5 (α:=Bool) rfl zdj ty4 hj<|zbm (α:=Bool) rfl ty4 gi zam hj zbM λw7 gN gO=>?_;have gp:ChgI m (m+1) w6 w7:=gN.toI λb hb=>by simp only [qaa,qag,qaz] at hb;omega
   refine zaw<|⟨mj-1,oo,j+1,oo,rfl,oo,gh.trans gp,?_⟩
   have gq:(zbT c.procs.length λq=>(∃ r,r<k/\RootP c r/\FromP c r q)\/(q<j/\FromP c k q)).set j bb=zbT c.procs.length λq=>(∃ r,r<k/\RootP c r/\FromP c r q)\/(q<j+1/\FromP c k q):=zcp (by rw [qbD,zam]) λq hq=>by
     unfold mkd;rw [List.getD_eq_getElem?_getD,List.getElem?_set];by_cases e:j=q
     . subst e;simp only [zam,hj,if_true,Option.getD_some,gM];exact ⟨λh=>h.imp id λh=>⟨oo,h⟩,λh=>h.imp id (·.2)⟩
     rw [qad e,<-List.getD_eq_getElem?_getD];show mkd _ q↔_;rw [zaM];exact ⟨λ⟨_,h⟩=>h.imp id λh=>⟨oo,h.2⟩,λh=>⟨hq,h.imp id λh=>⟨oo,h.2⟩⟩⟩
   rw [<-gq];exact gO
 refine zaN (λg3=>?_) (λg3=>?_)
 . refine gt true ⟨λ_=>((gl.1 g3).2).imp id (·.2),λ_=>rfl⟩
 refine zac zdj ty4 (i:=j) gj (by rw [zam];exact hj) λ_ _ gP=>zaC ty4 gP (xrf _)<|gt _ ⟨λh=>.inr (gn.1 h).2,λh=>gn.2 ⟨hj,h.resolve_left λh=>?_⟩⟩;rw [gl.2 ⟨hj,.inl h⟩] at g3;cases g3
def BI.updM (hc:CodeR c) {out:List Nat} (h:BI c out) {p i hh:Nat} (hu:UsedP c p) (hi:zaL c p i) (ho:(zap c i).op=4) (g2:∀ l,l<6->hh.testBit l=false->LostM c (tK (zdt c)) (tG (zdt c)) p none l) :
   BI c (out.set (agN c i) (zax out (agN c i) &&& zax (zcE c (zdt c) p hh) i)):=by
 have hp:=hu.lt hc;have g0:=(zbW hc (by rw [hc.2.1.1];exact hp) hi).1;have hq:=(zcl hc g0 (.inl ho)).2;refine ⟨by simp [h.len],λx hx=>?_,λr l hr hl hb=>?_,λr l hr hl=>?_⟩
 . rcases zit hx with rfl | hx
   . exact qaN qa4 (h.lt0 _)
   exact h.lt x hx
 . rw [zb6 (by rw [h.len];exact hq)] at hb;split at hb
   . rename_i e;subst e;rw [qaZ,qbJ] at hb;rcases hb with hb | hb
     . exact h.snd _ l hr hl hb
     refine .call hu hi ho ?_;have k:=(zoZ g0 hl).1 hb
     have g1:∀ {i l:Nat},l<6->LostP c (tK (zdt c)) (tG (zdt c)) p (λl=>hh.testBit l=true) i l->LostM c (tK (zdt c)) (tG (zdt c)) p (some i) l:=λ{i l} hl k=>by
       induction k with
       | ent h0=>exact .ent (g2 _ hl (by simpa using h0))
       | gen h0 hj h1=>exact .gen h0 hj h1
       | pass h0 hj _ h2 ih=>exact .pass h0 hj (ih hl) h2
     exact g1 hl k
   exact h.snd r l hr hl hb
 rw [zb6 (by rw [h.len];exact hq)];split
 . rename_i e;rw [qaZ,e,h.root r l hr hl];rfl
 exact h.root r l hr hl
def CL (c:DCode) (out:List Nat) (p i:Nat):Prop:=zax out (agN c i) &&& zax (zcE c (zdt c) p (zax out p)) i=zax out (agN c i)
structure BQ (c:DCode) (out0:List Nat) (ag:Bool) (out:List Nat) (D:Nat->Nat->Prop):Prop where
 bi:BI c out
 yes:ag=true->out.sum<out0.sum
 no:ag=false->out=out0/\∀ p i,D p i->UsedP c p->zaL c p i->(zap c i).op=4->CL c out0 p i
def BQ.mono {out0 out:List Nat} {D D':Nat->Nat->Prop} (H:BQ c out0 ag out D) (h:∀ p i,UsedP c p->zaL c p i->(zap c i).op=4->D' p i->D p i):BQ c out0 ag out D':=
 ⟨H.bi,H.yes,λe=>⟨(H.no e).1,λp i hd hu hl ho=>(H.no e).2 p i (h p i hu hl ho hd) hu hl ho⟩⟩
theorem BQ.set (hc:CodeR c) {out0 out:List Nat} {ag:Bool} {D D':Nat->Nat->Prop} (H:BQ c out0 ag out D) {p i hh:Nat} (hu:UsedP c p) (hi:zaL c p i) (ho:(zap c i).op=4) (hb:∀ l,l<6->hh.testBit l=false->LostM c (tK (zdt c)) (tG (zdt c)) p none l)
   (g1:zax out (agN c i) &&& zax (zcE c (zdt c) p hh) i≠zax out (agN c i)):BQ c out0 true (out.set (agN c i) (zax out (agN c i) &&& zax (zcE c (zdt c) p hh) i)) D':=by
 have g0:=(zbW hc (by rw [hc.2.1.1];exact hu.lt hc) hi).1;have hq:=(zcl hc g0 (.inl ho)).2;refine ⟨H.bi.updM hc hu hi ho hb,λ_=>?_,λe=>by cases e⟩;have h1:=zjW (l:=out) (i:=agN c i) (v:=zax out (agN c i) &&& zax (zcE c (zdt c) p hh) i) (by rw [H.bi.len];exact hq);have h2:=zBg g1;cases ag with
 | true=>have:=H.yes rfl;omega
 | false=>rw [(H.no rfl).1] at h1 h2 ⊢;omega
def BQ.skip {out0 out:List Nat} {D D':Nat->Nat->Prop} (H:BQ c out0 ag out D) {p i hh:Nat} (hz:ag=false->hh=zax out0 p) (hD:∀ q j,D' q j->D q j\/(q=p/\j=i)) (he:zax out (agN c i) &&& zax (zcE c (zdt c) p hh) i=zax out (agN c i)):BQ c out0 ag out D':=
 ⟨H.bi,H.yes,λe=>⟨(H.no e).1,λq j hd hu hl ho=>by
   rcases hD q j hd with h | ⟨rfl,rfl⟩
   . exact (H.no e).2 q j h hu hl ho
   unfold CL;rw [<-hz e,<-(H.no e).1];exact he⟩⟩
def BS (c:DCode) (k:Nat) (out:List Nat):Prop:=out.length=c.procs.length/\∀ p,p<c.procs.length->(¬(p<k/\¬RootP c p)->zax out p=0)/\(p<k->¬RootP c p->zax out p=63)
def BS.fin (hc:CodeR c) {out:List Nat} (h:BS c c.procs.length out):BI c out:=BI.start hc out h.1 λp hp=>⟨λhr=>(h.2 p hp).1 λhn=>hn.2 hr,λhr=>(h.2 p hp).2 hp hr⟩
def zuB (hW:WAt W0 b c) (e0:Ext W0 w) (h1:Is W1 v1 (zh7 (zdt c))) (e1:Ext W1 w) (hc:CodeR c) :
   CALL tp 208 [.pointer (some ⟨b,0,none⟩),v1] w λr w'=>Ext w w'/\Own w.heap.size w' r (zaK (zCs c)):=by
 refine co (g:=kf [] [(3,137430564928,[23]),(9,81129638414606681695651566204544,[7]),(12,81129638414606681678196819113600,[7,44]),(16,40564819207302187926389895737472,[7,60])] [(19,[0,1,2,3,4,5,6,7,8,9,10,11,12,13,14,15,16,17,18,19,20],0),(20,[0,1,2,3,4,5,6,7,8,9,10,11],0)]) Tryz.func208 ?_;have h8:=hc.1.procs8;have hO:=hc.f.ins;have hP:=zhP c;refine NIL.mk rfl<|zaa zbc<|zaa zby<|zab zb9 (zay hW.wl.code) e0 λ_ hQ=>zae u26 hQ ?_;have hn:c.procs.length=c.procs.length:=rfl;generalize hnn:c.procs.length=n at hn;rw [hnn] at h8;refine zd3 oo oo λw2 h6 h9=>?_;have hs2:=h6.size;generalize hg:w.heap.size=g at *;have ha:FW w w2 g n (List.replicate n 0):=⟨h6,h9,oo⟩;have hd:BS c 0 (List.replicate n 0):=⟨by simp [hnn],λp hp=>⟨λ_=>by rw [<-zbh so];simp,λh=>oo⟩⟩;refine zj0 u31 ?_;have hrs:zdi c<256:=zbn (by rw [hnn];omega);refine zar n (λk us w'=>∃ out,us=[.int .i64 (k:Int)]/\k<=n/\FW w w' g n out/\BS c k out) 0 (z0 _) ⟨_,rfl,z0 _,ha,hd⟩ ?_;rintro k mk u _ he ⟨out,hu,hR,gF,gj⟩;try replace hu:=zbv hu
 rw [hu];have gG:=gj.1;refine zah<|br (λhq=>?_) (λhs=>?_)
 . have hk:k<n:=oo;refine NIL.mk rfl<|zaa zid<|zad ty3 hW.roots (e0.t gF.ext) λ_=>?_;refine (zgj (m:=zdi c) (i:=k) oo oo).mono ?_;rintro _ _ ⟨hS,rfl⟩;have gH:=gF.step hS
   have gp:(zdi c).testBit k=true↔RootP c k:=by
     unfold zdi;rw [za4];exact ⟨λh=>h.2,λh=>⟨oo,h⟩⟩
   refine zau<|zaN (λhf=>?_) (λhf=>?_)
   . have hT:¬RootP c k:=λh=>by rw [gp.2 h] at hf;cases hf
     refine zb5 (α:=Int) rfl u31 ty3 hk<|zbm (α:=Int) rfl ty3 gH.mine (by rw [zaf];omega) hk (zbS (v:=63) oo) λ_ hU hV=>?_;have hX:=gH.set (v:=63) hU hV;refine zaw<|⟨mk-1,oo,k+1,oo,_,rfl,oo,hX,by simp [gG],λp hp=>?_⟩;rw [zb6 (by rw [gG,hnn];exact hk)];have:=gj.2 p hp;by_cases e:k=p
     . subst e;exact ⟨λh=>absurd ⟨oo,hT⟩ h,λ_ _=>by rw [qah rfl]⟩
     rw [qad e];exact ⟨λh=>this.1 λh2=>h ⟨oo,h2.2⟩,λh=>this.2 oo⟩
   have hr:RootP c k:=gp.1 (by simpa using hf);refine zaw<|⟨mk-1,oo,k+1,oo,_,rfl,oo,gH,gG,λp hp=>?_⟩;have:=gj.2 p hp;by_cases e:k=p
   . subst e;exact ⟨λ_=>this.1 λh=>h.2 hr,λ_ h=>absurd hr h⟩
   exact ⟨λh=>this.1 λh2=>h ⟨oo,h2.2⟩,λh=>this.2 oo⟩
 have hk:k=n:=oo;rw [hk,<-hnn] at gj;have hY:=gj.fin hc;clear ha h9 hd hu he gj;have hus:zeL c<256:=zbn (by rw [hnn];omega);refine LOOPI.mk (λm us w'=>∃ (ag:Bool) (out:List Nat),us=[.bool ag]/\m=out.sum+(if ag then 1 else 0)/\FW w w' g n out/\BI c out/\(ag=false->∀ p i,UsedP c p->zaL c p i->(zap c i).op=4->CL c out p i)) (out.sum+1) ⟨true,out,rfl,rfl,gF,hY,λe=>by cases e⟩ ?_;rintro m u w6 ⟨ag,out,hu,hm,gl,ht,hZ⟩;try replace hu:=zbv hu
 rw [hu];refine zaN (λgI=>?_) (λgI=>?_)
 case refine_2=>rw [ht.fin hc (hZ gI)] at gl;have hv:=gl.own;rw [hg] at hv;exact ⟨gl.ext,hv⟩
 rw [gI,qah rfl] at hm;refine NIL.mk rfl<|zaa zie<|zad ty3 hW.used (e0.t gl.ext) λ_=>?_;refine (zd2 (m:=zeL c) oo).mono ?_;rintro hw w7 ⟨j0,gE⟩;unfold zeL at gE;rw [zeo (by rw [hnn];omega)] at gE;have j1:=gl.step j0;have hg6:=gl.lt;have hL:∀ p,p∈zbb c.procs.length (UsedP c)↔UsedP c p:=λp=>by rw [zaO];exact ⟨λh=>h.2,λh=>⟨h.lt hc,h⟩⟩
 have hLl:(zbb c.procs.length (UsedP c)).length<=8:=qal zbe (by rw [hnn];omega);generalize zbb c.procs.length (UsedP c)=L at *;have j2:=gE.toI;generalize hlo:w6.heap.size=lo at *;generalize hhi:w7.heap.size=hi at *;refine zae u31 gE.is ?_;rw [zaf];refine zar L.length (λk us w'=>∃ (ag:Bool) (out':List Nat),us=[.bool ag,.int .i64 (k:Int)]/\k<=L.length/\FW w w' g n out'/\OwnI lo hi w' hw (zaK L)/\BQ c out ag out' (λp i=>p∈L.take k)) 0 (z0 _) ⟨false,out,rfl,z0 _,j1,j2,ht,λe=>(by cases e),λ_=>⟨rfl,λp i h=>by simp at h⟩⟩ ?_;rintro k mk u w8 he ⟨gq,O,hu,hR,gn,hx,g4⟩;obtain ⟨gJ,gK⟩:=zcv hu;clear hu;rw [gJ,gK];refine zah<|br (λhq=>?_) (λhs=>?_)
 case refine_2=>
   refine ⟨O.sum+(if gq then 1 else 0),?_,gq,O,rfl,rfl,gn,g4.bi,λe p i hu hl ho=>?_⟩
   . cases gq with
     | true=>have:=g4.yes rfl;simp;omega
     | false=>rw [(g4.no rfl).1];simp;omega
   have:=g4.no e;rw [this.1];exact this.2 p i (by rw [qai oo];exact (hL p).2 hu) hu hl ho
 have hk:k<L.length:=oo;refine zac u31 ty3 (i:=k) hx.is (by rw [zaf];exact hk) λ_ _ hy=>?_;rw [zaY] at hy;refine zad ty3 hy (xrf _) λ_=>?_;have j3:=λx=>zbC hk (x:=x);have hz:=(hL L[k]).1 (qac hk);generalize L[k]=p at *;have gr:=hz.lt hc;have hB:p<c.entry.length:=by rw [hc.2.1.1];exact gr
 have j4:=g4.bi.len;refine zac u31 ty3 (i:=p) gn.mine.is (by rw [zaf,j4];exact gr) λ_ _ hC=>?_;rw [zaS] at hC;refine zad ty3 hC (xrf _) λ_=>?_;have gL:=g4.bi.lt0 p;have j5:∀ l,l<6->(zax O p).testBit l=false->LostM c (tK (zdt c)) (tG (zdt c)) p none l:=λl hl hb=>g4.bi.snd p l gr hl hb;have j6:gq=false->zax O p=zax out p:=λe=>by rw [(g4.no e).1]
 generalize zax O p=hh at *;refine (zr1 hW.wl (e0.t gn.ext) h1 (e1.trans gn.ext) hc hP gr gL).mono ?_;rintro gM w9 ⟨hD,j7⟩;have gN:=gn.step hD;have j8:=hx.ext hD;have hg8:=gn.lt;refine (zhp hW.wl (e0.t gN.ext) hc gr).mono ?_;rintro j9 ja ⟨gd,gs⟩;have gO:=gN.step gd;have gP:=j8.ext gd;have hg9:=gN.lt;have gQ:=j7.toI.ext gd;have hM:∀ i,i∈zbb c.ins.length (zaL c p)↔zaL c p i:=λi=>by rw [zaO];exact ⟨λh=>h.2,λh=>⟨(zbW hc hB h).1,h⟩⟩
 have hMl:(zbb c.ins.length (zaL c p)).length<=1500:=qal zbe hO;generalize zbb c.ins.length (zaL c p)=M at *;have gt:=gs.toI;generalize hl9:w9.heap.size=lo9 at *;generalize hl10:ja.heap.size=hi10 at *;generalize hl8':w8.heap.size=lo8 at *;refine zae u31 gs.is ?_;rw [zaf];have jb:(zcE c (zdt c) p hh).length=c.ins.length:=zeD _ _ _ _;have gR:=zjb (c:=c) (T:=zdt c) (p:=p) (h:=hh);refine zar M.length (λj us w'=>∃ (ag:Bool) (out':List Nat),us=[.bool ag,.int .i64 (j:Int)]/\j<=M.length/\FW w w' g n out'/\OwnI lo hi w' hw (zaK L)/\OwnI lo8 lo9 w' gM (zaK (zcE c (zdt c) p hh))/\OwnI lo9 hi10 w' j9 (zaK M)/\BQ c out ag out' (λq i=>q∈L.take k\/(q=p/\i∈M.take j))/\(ag=false->hh=zax out p)) 0 (z0 _) ⟨gq,O,rfl,z0 _,gO,gP,gQ,gt,g4.mono λq i _ _ _ h=>h.elim id λh=>by simp at h,j6⟩ ?_;rintro j mj u _ _ ⟨g5,C,hu,_,V,gx,gS,gc,U,gf⟩;obtain ⟨gJ,gK⟩:=zcv hu;clear hu;rw [gJ,gK];refine zah<|br (λhq=>?_) (λhs=>?_)
 case refine_2=>
   refine zaw<|⟨mk-1,oo,k+1,oo,g5,C,rfl,oo,V,gx,U.mono λq i hu hl ho h=>?_⟩;rcases (j3 q).1 h with h | rfl
   . exact .inl h
   exact .inr ⟨rfl,by rw [qai oo];exact (hM i).2 hl⟩
 have hj:j<M.length:=oo;refine zac u31 ty3 (i:=j) gc.is (by rw [zaf];exact hj) λ_ _ hG=>?_;rw [zaY] at hG;refine zad ty3 hG (xrf _) λ_=>?_;have hH:=λx=>zbC hj (x:=x);have hI:=(hM M[j]).1 (qac hj);generalize M[j]=i at *;have gT:=(zbW hc hB hI).1;refine NIL.mk rfl<|zaa zbc<|zaa zaH<|zab zcQ (zao hW.wl.code) (e0.t V.ext) λ_ jc=>zac u32 zdw jc gT λ_ _ hJ=>?_;rw [zaR] at hJ;refine zab zdw hJ (e0.t V.ext) λ_ jd=>zbN zsM rfl zdw rfl jd (e0.t V.ext) λhK gU g9 _=>?_;have Z:=zai hK;have D:=gU.t Z;have g0:=V.step D;have gg:=gx.ext D;have gb:=gS.ext D;have g1:=gc.ext D;generalize World.drew1 hK=w13 at *;refine zaa zbE<|zad ty3 (zaD g9) Z λ_=>zag ?_
 have je:¬(zap c i).op=4->BQ c out g5 C (λq i=>q∈L.take k\/(q=p/\i∈M.take (j+1))):=λhn=>U.mono λq i' _ _ ho h=>h.imp id λ⟨h1,h2⟩=>⟨h1,by
   rcases (hH i').1 h2 with h | rfl
   . exact h
   exact absurd ho hn⟩
 refine br (λc4=>?_) (λc4=>?_)
 case refine_2=>refine zaw<|⟨mj-1,oo,j+1,oo,g5,C,rfl,oo,g0,gg,gb,g1,je c4,gf⟩
 obtain ⟨gh,gV⟩:=zcl hc gT (.inl c4);have gy:=U.bi.len;have gW:=λD'=>U.set (D':=D') hc hz hI c4 j5
 have gz:=U.skip (D':=λq i=>q∈L.take k\/(q=p/\i∈M.take (j+1))) (p:=p) (i:=i) gf λq j' h=>by
   rcases h with h | ⟨h1,h2⟩
   . exact .inl (.inl h)
   rcases (hH j').1 h2 with h | h
   . exact .inl (.inr ⟨h1,h⟩)
   exact .inr ⟨h1,h⟩
 have jf:=U.bi.lt0 (agN c i);have jg:=zdI gR i
 have gX:∀ {w':wD} {K:vL->Prop} (hF:FW w w' g n C) (k:K (.int .i64 (zax C (agN c i):Int))),RD tp (Instr.indexAt 31 (.slice (some ⟨g,0,none⟩) n n) (.int .i64 (agN c i:Int))) w' λgY=>RD tp (Instr.loadAt 3 gY) w' K:=λhF k=>by
   refine zac u31 ty3 (i:=agN c i) hF.mine.is (by rw [zaf,gy];exact gV) λb1 o1 gA=>?_;rw [zaS] at gA;exact zad ty3 gA (xrf _) λ_=>k
 have hN:∀ {w':wD} {K:vL->Prop} (hA:OwnI lo8 lo9 w' gM (zaK (zcE c (zdt c) p hh))) (k:K (.int .i64 (zax (zcE c (zdt c) p hh) i:Int))),RD tp (Instr.indexAt 31 gM (.int .i64 (i:Int))) w' λgY=>RD tp (Instr.loadAt 3 gY) w' K:=λhA k=>by
   refine zac u31 ty3 (i:=i) hA.is (by rw [zaf,jb];exact gT) λb1 o1 gA=>?_;rw [zaS] at gA;exact zad ty3 gA (xrf _) λ_=>k
 refine zaa zbG<|zad ty3 (zaF g9) Z λ_=>?_;rw [gh];refine gX g0<|hN gb<|zeS oo oo<|zaa zbG<|zad ty3 (zaF g9) Z λ_=>?_;rw [gh];refine gX g0<|zaJ<|br (λjh=>?_) (λji=>?_)
 . have g2:=zai w13;have gi:=g0.step g2;have gZ:=gg.ext g2;have gB:=gb.ext g2;have gC:=g1.ext g2;generalize World.drew1 w13=w14 at *;refine zaa zbG<|zad ty3 (zaF g9) (Z.t g2) λ_=>?_;rw [gh];refine gX gi<|hN gB<|zeS oo oo ?_;have hvl:=qa4 (n:=zax C (agN c i)) (m:=zax (zcE c (zdt c) p hh) i);refine zb5 (α:=Int) rfl u31 ty3 oo<|zbm (α:=Int) rfl ty3 gi.mine (by rw [zaf,gy,hnn]) oo (zbS (v:=zax C (agN c i) &&& zax (zcE c (zdt c) p hh) i) oo) λ_ gD h4=>?_;have h5:=gi.set (v:=zax C (agN c i) &&& zax (zcE c (zdt c) p hh) i) gD h4;have g3:=zfl gD;refine zaw<|⟨mj-1,oo,j+1,oo,true,_,rfl,oo,h5,gZ.chg g3 oo,gB.chg g3 oo,gC.chg g3 oo,gW _ λe=>jh (by rw [e]),λe=>by cases e⟩
 refine zaw<|⟨mj-1,oo,j+1,oo,g5,C,rfl,oo,g0,gg,gb,g1,gz (qa7.1 (qaf.1 ji)),gf⟩
structure FV (w1 w:wD) (g:Nat) (v:vL) (out:List Nat):Prop where
 ext:Ext w1 w
 mine:Mine [g] w v (zaK out)
 g0:w1.heap.size<=g
section
variable {w1 w w':wD} {g:Nat} {v:vL} {out:List Nat}
def FV.step (h:FV w1 w g v out) (hx:Ext w w'):FV w1 w' g v out:=⟨h.ext.trans hx,h.mine.ext hx,h.g0⟩
def FV.lt (h:FV w1 w g v out):g<w.heap.size:=h.mine.lt g ss
def FV.own (h:FV w1 w g v out):Own w1.heap.size w v (zaK out):=⟨[g],h.mine,λb hb=>by simp only [qaa,qag,qaz] at hb;have:=h.g0;omega⟩
def FV.make (ho:Own w1.heap.size w v (zaK out)) (hx:Ext w1 w) (hT:0<out.length):∃ g,FV w1 w g v out:=by
 obtain ⟨_,hm,hF⟩:=ho;obtain ⟨b,_,_,_,rfl⟩:=zfJ hm (by intro e;have:=qat List.length e;rw [zaf] at this;simp only [qaI] at this;omega);exact ⟨b,hx,hm,hF b ss⟩
def zCt {q m:Nat} {K:wD->Prop} (h:FV w1 w g v out) (hq:q<out.length) (hm:m<9223372036854775808) (k:∀ w',FV w1 w' g v (out.set q m)->ChgI g (g+1) w w'->K w') :
   RD tp (Instr.indexAt 31 v (.int .i64 (q:Int))) w λa=>OPU tp (Instr.storeAt 3 a (.int .i64 (m:Int))) w K:=by
 refine zfz u31 ty3 h.mine (by rw [zaf];exact hq) λb o _ hL=>zfc (upd:=λy=>(zaK out).set q y) (y':=(m:Int)) ty3 hL (zbS hm) λw2 F2 g3 g1 g4=>?_
 have hF:F2=[g]:=by
   obtain ⟨b,o,_,_,rfl⟩:=zfJ g1 (by intro e;have:=qat List.length e;rw [qbD,zaf] at this;simp only [qaI] at this;omega);have:=g4 b ss;simpa using this
 subst hF;have g2:=zfl g3;exact k w2 ⟨h.ext.chgI g2 h.g0,by rw [zgO];exact g1,h.g0⟩ g2
end
noncomputable def bg0 (c:DCode) (p:Nat):Nat:=@ite _ (RootP c p) (Classical.propDecidable _) 0 63
noncomputable def bgL (c:DCode) (k:Nat):List Nat:=(List.range k).map (bg0 c)
def ztB (c:DCode) (k:Nat):zaK (bgL c (k+1))=zaK (bgL c k)++[(bg0 c k:Int)]:=by simp [bgL,zaK,qbC]
def ziw (c:DCode) (k:Nat):(bgL c k).length=k:=by simp [bgL]
def zD8 (hc:CodeR c):BI c (bgL c c.procs.length):=BI.start hc _ (ziw c _) λp hp=>by
 have:zax (bgL c c.procs.length) p=bg0 c p:=by rw [<-zbh (by rw [ziw];exact hp)];simp [bgL]
 rw [this];unfold bg0;exact ⟨λh=>by rw [qah h],λh=>by rw [qad h]⟩
def zo3 (h0:Is W0 v0 c) (e0:Ext W0 w) (h1:Is W1 v1 (zh7 (zdt c))) (e1:Ext W1 w) (hc:CodeR c) :
   CALL tp 233 [v0,v1] w λr w'=>Ext w w'/\Own w.heap.size w' r (zaK (zCs c)):=by
 refine co (g:=kf [] [(5,68717380480,[7,8]),(12,332306998946228968225951696350673920,[10]),(15,332306998946228968225951627631197184,[10,11]),(21,332306998946228931332463617651033088,[10,14])] [(18,[0,1,2,3,4,5,6,7,8],0),(24,[0,1,2,3,4,5,6,7,8,9,10,11,12,13,14,15,16,17,18,19,20,21,22,23,24,25,26],0),(25,[0,1,2,3,4,5,6,7,8,9,10,11,12,13,14],0)]) Tryz.func233 ?_;have h8:=hc.1.procs8;have hil:=hc.f.ins;have hS:=zhP c;have hT:=zD8 hc;refine zbk h0 e0 λ_ gX hA=>?_;have hs0:=gX.size;refine zab zbO hA (xrf _) λ_ hU=>?_;refine (zgR hU (xrf _) hc).mono ?_;rintro _ _ ⟨gT,hV⟩;have hsa:=gT.size;refine zab zbO hA gT λ_ hW=>?_;refine (zhQ hW gT hc).mono ?_;rintro _ wb ⟨gY,hX⟩;have hsb:=gY.size;have C:=gT.t gY;have hY:=hV.is.ext gY;have j0:=hX.is;have hn:c.procs.length=c.procs.length:=rfl;generalize hnn:c.procs.length=n at hn;rw [hnn] at h8;refine zaI (α:=Int) u31 ty3 λ_ _ hD j1=>?_;have j2:=hD.size;refine zar n (λk us w'=>∃ v,us=[v,.int .i64 (k:Int)]/\k<=n/\Ext wb w'/\RowI wb.heap.size w'.heap.size 3 w' v (zaK (bgL c k))) 0 (z0 _) ⟨_,rfl,z0 _,hD,by simpa [bgL,zaK] using j1.mono j2 (lr _)⟩ ?_;rintro k mk u w3 hG ⟨v,hu,j3,gp,gt⟩;obtain ⟨gx,gy⟩:=zcv hu;clear hu;rw [gx,gy];have hs3:=gp.size;have gZ:=C.t gp;refine zaa zby<|zab zb9 (zay hA) gZ λ_ j4=>zae u26 j4 ?_;rw [hnn];refine zah<|br (λhH=>?_) (λhI=>?_)
 . have hk:k<n:=oo;refine zac zdj ty4 (i:=k) hY (by rw [zam];omega) λb2 o2 h4=>zaC ty4 h4 gp ?_;have gh:=zaM (n:=c.procs.length) (p:=RootP c) (i:=k);rw [zaZ (by rw [zam];omega)] at gh;refine zaN (λhf=>?_) (λhf=>?_)
   . have h5:bg0 c k=0:=by unfold bg0;rw [qah (gh.1 hf).2]
     refine zbs (lo2:=w3.heap.size) (hi2:=w3.heap.size) (x:=((0:Nat):Int)) u31 ty3 z3 zc3 dD gt oo (zc2 _ _ io) oo oo (by rw [zak,zaf,ziw];omega) (by rw [zaf,ziw];omega) λh6 w9 h9 ha=>zaw<|⟨mk-1,oo,k+1,oo,h6,rfl,oo,gp.chgI h9 (lr _),?_⟩;rw [ztB,h5];exact ha
   have h5:bg0 c k=63:=by unfold bg0;rw [qad λh=>by rw [gh.2 ⟨oo,h⟩] at hf;cases hf]
   refine zbs (lo2:=w3.heap.size) (hi2:=w3.heap.size) (x:=((63:Nat):Int)) u31 ty3 z3 zc3 dD gt oo (zc2 _ _ io) oo oo (by rw [zak,zaf,ziw];omega) (by rw [zaf,ziw];omega) λh6 w9 h9 ha=>zaw<|⟨mk-1,oo,k+1,oo,h6,rfl,oo,gp.chgI h9 (lr _),?_⟩;rw [ztB,h5];exact ha
 have hk:k=c.procs.length:=oo;rw [hk] at gt;obtain ⟨g,j5⟩:=FV.make gt.own.own gp (by rw [ziw];omega);generalize bgL c c.procs.length=out at *;clear gt hG;refine LOOPI.mk (λm us w'=>∃ (ag:Bool) (out:List Nat),us=[.bool ag]/\m=out.sum+(if ag then 1 else 0)/\FV wb w' g v out/\BI c out/\(ag=false->∀ p i,UsedP c p->zaL c p i->(zap c i).op=4->CL c out p i)) (out.sum+1) ⟨true,out,rfl,rfl,j5,hT,λe=>by cases e⟩ ?_;rintro m u _ ⟨ag,out,hu,hm,gU,hJ,j6⟩;try replace hu:=zbv hu
 rw [hu];refine zaN (λhd=>?_) (λhd=>?_)
 case refine_2=>rw [hJ.fin hc (j6 hd)] at gU;exact ⟨gX.t (C.t gU.ext),gU.own.mono oo⟩
 rw [hd,qah rfl] at hm;refine zar n (λk us w'=>∃ (ag:Bool) (D:List Nat),us=[.bool ag,.int .i64 (k:Int)]/\k<=n/\FV wb w' g v D/\BQ c out ag D (λp i=>p<k)) 0 (z0 _) ⟨false,out,rfl,z0 _,gU,hJ,λe=>(by cases e),λ_=>⟨rfl,λp i h=>oo⟩⟩ ?_;rintro p mk u w8 hG ⟨gq,U,hu,j3,gz,gc⟩;obtain ⟨gx,gy⟩:=zcv hu;clear hu;rw [gx,gy];have he:=C.t gz.ext;refine zaa zby<|zab zb9 (zay hA) he λ_ j7=>zae u26 j7 ?_;rw [hnn];refine zah<|br (λhH=>?_) (λhI=>?_)
 case refine_2=>
   refine ⟨U.sum+(if gq then 1 else 0),?_,gq,U,rfl,rfl,gz,gc.bi,λe p' i hu hl ho=>?_⟩
   . cases gq with
     | true=>have:=gc.yes rfl;simp;omega
     | false=>rw [(gc.no rfl).1];simp;omega
   have:=gc.no e;rw [this.1];exact this.2 p' i (by have:=hu.lt hc;omega) hu hl ho
 have j8:p<n:=oo;have gr:p<c.procs.length:=oo;have gi:p<c.entry.length:=by rw [hc.2.1.1];exact gr
 refine zac zdj ty4 (i:=p) j0 (by rw [zam];omega) λb2 o2 h4=>zaC ty4 h4 gz.ext ?_;have gh:=zaM (n:=c.procs.length) (p:=UsedP c) (i:=p);rw [zaZ (by rw [zam];omega)] at gh;refine zau<|zaN (λhf=>?_) (λhf=>?_)
 . have j9:¬UsedP c p:=λh=>by rw [gh.2 ⟨gr,h⟩] at hf;cases hf
   refine zaw<|⟨mk-1,oo,p+1,oo,gq,U,rfl,oo,gz,gc.mono λq i hu _ _ h=>?_⟩;by_cases e:q=p
   . subst e;exact absurd hu j9
   omega
 have ja:UsedP c p:=(gh.1 (by simpa using hf)).2;have jb:=zai w8;have g0:=gz.step jb;generalize World.drew1 w8=w8d at *;have jc:=gc.bi.len;refine zab zbO hA (C.t g0.ext) λ_ jd=>zac u31 ty3 (i:=p) g0.mine.is (by rw [zaf,jc];exact gr) λ_ _ hK=>?_;rw [zaS] at hK;refine zad ty3 hK (xrf _) λ_=>?_;have hg:=gc.bi.lt0 p;have je:∀ l,l<6->(zax U p).testBit l=false->LostM c (tK (zdt c)) (tG (zdt c)) p none l:=λl hl hb=>gc.bi.snd p l gr hl hb;have jf:gq=false->zax U p=zax out p:=λe=>by rw [(gc.no e).1]
 generalize zax U p=hh at *;refine (zj1 jd (C.t g0.ext) h1 (e1.trans (gX.t (C.t g0.ext))) hc hS gr hg).mono ?_;rintro gA w9 ⟨jg,jh⟩;have gV:=g0.step jg;have hg8:=g0.lt;refine zab zbO hA (C.t gV.ext) λ_ ji=>?_;refine (zgh ji (C.t gV.ext) hc gi).mono ?_;rintro hj jj ⟨gB,hq⟩;have gj:=gV.step gB;have hg9:=gV.lt;have hr:=jh.toI.ext gB;have gC:=hq.toI;generalize hl9:w9.heap.size=lo9 at *;generalize hl10:jj.heap.size=hi10 at *;generalize hl8':w8d.heap.size=lo8 at *;obtain ⟨jk,_,_⟩:=zgP hc gi;obtain ⟨_,jl,_⟩:=zeT hc gr;obtain ⟨_,_,_⟩:=zmY hc gi;refine zaa zbj<|zab zcn (zav hA) (C.t gj.ext) λ_ jm=>zac u31 ty3 jm gi λ_ _ hM=>?_;rw [zbK gi,jk] at hM;refine zad ty3 hM (C.t gj.ext) λ_=>?_;have jn:(zcE c (zdt c) p hh).length=c.ins.length:=zeD _ _ _ _;have hs:=zjb (c:=c) (T:=zdt c) (p:=p) (h:=hh)
 have hN:∀ i,zaL c p i->eN c p<=i/\i<=zN c p:=λi h=>by
   have:=zbW hc gi h;exact zrV hc this.1 gi this.2
 generalize hE:eN c p=E at *;generalize hZ:zN c p=Z at *;refine zar (Z+1-E) (λj us w'=>∃ (ag:Bool) (D:List Nat),us=[.bool ag,.int .i64 ((E+j:Nat):Int)]/\E+j<=Z+1/\FV wb w' g v D/\OwnI lo8 lo9 w' gA (zaK (zcE c (zdt c) p hh))/\OwnI lo9 hi10 w' hj (zbT c.ins.length (zaL c p))/\BQ c out ag D (λq i=>q<p\/(q=p/\i<E+j))/\(ag=false->hh=zax out p)) 0 (z0 _) ⟨gq,U,rfl,oo,gj,hr,gC,gc.mono λq i _ hl _ h=>h.elim id λ⟨h1,h2⟩=>by subst h1;have:=hN i hl;omega,jf⟩ ?_;rintro j mj u _ _ ⟨gD,M,hu,_,gE,ht,gF,g1,gd⟩;obtain ⟨gx,gy⟩:=zcv hu;clear hu;rw [gx,gy];have gG:=C.t gE.ext;refine zab zbO hA gG λ_ jo=>?_;refine (zff jo gG (p:=(p:Int)) oo oo hc.2.1.nonneg).mono ?_;rintro _ _ ⟨gl,rfl⟩;rw [jl];have gn:=gE.step gl;have hv:=ht.ext gl;have gH:=gF.ext gl;have g4:=C.t gn.ext;refine zdJ<|br (λhH=>?_) (λhI=>?_)
 case refine_2=>
   refine zaw<|⟨mk-1,oo,p+1,oo,gD,M,rfl,oo,gn,g1.mono λq i hu hl ho h=>?_⟩;by_cases e:q=p
   . subst e;have:=hN i hl;exact .inr ⟨rfl,oo⟩
   exact .inl oo
 have gs:E+j<c.ins.length:=oo;generalize hij:E+j=i at *;refine zaa zaH<|zab zcQ (zao hA) g4 λ_ jp=>zac u32 zdw jp gs λ_ _ hO=>?_;rw [zaR] at hO;refine zab zdw hO g4 λ_ jq=>zbN zsM rfl zdw rfl jq g4 λgI gJ gK _=>?_;have g2:=zai gI;have g5:=gJ.t g2;have g3:=gn.step g5;have g9:=hv.ext g5;have O:=gH.ext g5;generalize World.drew1 gI=w13 at *;have hw:=zaM (n:=c.ins.length) (p:=zaL c p) (i:=i);rw [zaZ (by rw [zam];exact gs)] at hw
 have hP:¬(zaL c p i/\(zap c i).op=4)->BQ c out gD M (λq i'=>q<p\/(q=p/\i'<i+1)):=λhn=>g1.mono λq i' _ hl ho h=>h.imp id λ⟨h1,h2⟩=>⟨h1,by
   by_cases e:i'=i
   . subst e;subst h1;exact absurd ⟨hl,ho⟩ hn
   omega⟩
 have V:∀ {w':wD} {gL:Bool} {D:List Nat} (hF:FV wb w' g v D) (hA:OwnI lo8 lo9 w' gA (zaK (zcE c (zdt c) p hh))) (hL:OwnI lo9 hi10 w' hj (zbT c.ins.length (zaL c p))) (hQ:BQ c out gL D (λq i'=>q<p\/(q=p/\i'<i+1))) (hz:gL=false->hh=zax out p),
     ∃ m',m'<mj/\∃ k',k'+m'=Z+1-E/\∃ (ag:Bool) (out'':List Nat),[Value.bool gL,Value.int .i64 ((i+1:Nat):Int)]=[.bool ag,.int .i64 ((E+k':Nat):Int)]/\E+k'<=Z+1/\FV wb w' g v out''/\OwnI lo8 lo9 w' gA (zaK (zcE c (zdt c) p hh))/\OwnI lo9 hi10 w' hj (zbT c.ins.length (zaL c p))/\BQ c out ag out'' (λq i=>q<p\/(q=p/\i<E+k'))/\(ag=false->hh=zax out p):=λ{w' gL D} hF hA hL hQ hz=>
   ⟨mj-1,oo,j+1,oo,gL,D,by rw [show i+1=E+(j+1) by omega],oo,hF,hA,hL,by rw [show E+(j+1)=i+1 by omega];exact hQ,hz⟩
 refine zac zdj ty4 (i:=i) O.is (by rw [zam];exact gs) λ_ _ jr=>zaC ty4 jr (xrf _)<|zaN (λgW=>?_) (λgW=>?_)
 case refine_2=>refine zaw<|V g3 g9 O (hP λh=>by rw [hw.2 ⟨gs,h.1⟩] at gW;cases gW) gd
 have js:zaL c p i:=(hw.1 gW).2;refine zaa zbE<|zad ty3 (zaD gK) g2 λ_=>zag<|br (λc4=>?_) (λc4=>?_)
 case refine_2=>refine zaw<|V g3 g9 O (hP λh=>c4 h.2) gd
 obtain ⟨gf,gM⟩:=zcl hc gs (.inl c4);have gN:=g1.bi.len;have hx:=λD'=>g1.set (D':=D') hc ja js c4 je
 have gO:=g1.skip (D':=λq i'=>q<p\/(q=p/\i'<i+1)) (p:=p) (i:=i) gd λq j' h=>by
   rcases h with h | ⟨h1,h2⟩
   . exact .inl (.inl h)
   by_cases e:j'=i
   . exact .inr ⟨h1,e⟩
   exact .inl (.inr ⟨h1,oo⟩)
 have jt:=g1.bi.lt0 (agN c i);have ju:=zdI hs i
 have hy:∀ {w':wD} {K:vL->Prop} (hF:FV wb w' g v M) (k:K (.int .i64 (zax M (agN c i):Int))),RD tp (Instr.indexAt 31 v (.int .i64 (agN c i:Int))) w' λhB=>RD tp (Instr.loadAt 3 hB) w' K:=λhF k=>by
   refine zac u31 ty3 (i:=agN c i) hF.mine.is (by rw [zaf,gN];exact gM) λb1 o1 gP=>?_;rw [zaS] at gP;exact zad ty3 gP (xrf _) λ_=>k
 have hR:∀ {w':wD} {K:vL->Prop} (hA:OwnI lo8 lo9 w' gA (zaK (zcE c (zdt c) p hh))) (k:K (.int .i64 (zax (zcE c (zdt c) p hh) i:Int))),RD tp (Instr.indexAt 31 gA (.int .i64 (i:Int))) w' λhB=>RD tp (Instr.loadAt 3 hB) w' K:=λhA k=>by
   refine zac u31 ty3 (i:=i) hA.is (by rw [zaf,jn];exact gs) λb1 o1 gP=>?_;rw [zaS] at gP;exact zad ty3 gP (xrf _) λ_=>k
 refine zaa zbG<|zad ty3 (zaF gK) g2 λ_=>?_;rw [gf];refine hy g3<|hR g9<|zeS oo oo<|zaa zbG<|zad ty3 (zaF gK) g2 λ_=>?_;rw [gf];refine hy g3<|zaJ<|br (λjv=>?_) (λjw=>?_)
 . have gb:=zai w13;have gQ:=g3.step gb;have gR:=g9.ext gb;have gS:=O.ext gb;generalize World.drew1 w13=w14 at *;refine zaa zbG<|zad ty3 (zaF gK) (g2.t gb) λ_=>?_;rw [gf];refine zaa zbG<|zad ty3 (zaF gK) (g2.t gb) λ_=>?_;rw [gf];refine hy gQ<|hR gR<|zeS oo oo ?_;have hvl:=qa4 (n:=zax M (agN c i)) (m:=zax (zcE c (zdt c) p hh) i);refine zCt (m:=zax M (agN c i) &&& zax (zcE c (zdt c) p hh) i) gQ (by rw [gN];exact gM) oo λ_ hC gg=>zaw<|V hC (gR.chg gg oo) (gS.chg gg oo) (hx _ λe=>jv (by rw [e])) (λe=>by cases e)
 refine zaw<|V g3 g9 O (gO (qa7.1 (qaf.1 jw))) gd
def MS (c:DCode) (out:List Nat) (D:Nat->Prop):Prop:=out.length=c.ins.length/\∀ i,i<c.ins.length->D i->zax out i=zgn c i
def MS.set {D D':Nat->Prop} (h:MS c out D) {i v:Nat} (hi:i<c.ins.length) (hv:v=zgn c i) (hD:∀ j,D' j->D j\/j=i):MS c (out.set i v) D':=by
 refine ⟨by simp [h.1],λj hj hd=>?_⟩;rw [zb6 (by rw [h.1];exact hi)];by_cases e:i=j
 . subst e;rw [qah rfl];exact hv
 rw [qad e];exact h.2 j hj ((hD j hd).resolve_right λe'=>e e'.symm)
def MS.mono {D D':Nat->Prop} (h:MS c out D) (hD:∀ j,j<c.ins.length->D' j->D j):MS c out D':=⟨h.1,λj hj hd=>h.2 j hj (hD j hj hd)⟩
def MS.fin {D:Nat->Prop} (h:MS c out D) (hD:∀ j,j<c.ins.length->D j):out=zjY c:=by
 refine qaP (by rw [h.1,zje]) λi h1 h2=>?_;have hi:i<c.ins.length:=by rw [<-h.1];exact h1
 rw [zbh h1,zbh h2,zzo hi,h.2 i hi (hD i hi)]
def zeF (hc:CodeR c) {i:Nat} (hi:i<c.ins.length):∃ p,p<c.procs.length/\zaA c i=p/\eN c p<=i/\i<=zN c p:=by
 obtain ⟨q,hq,_,_,h3⟩:=hc.f.find hc.1.procs8.2 (a:=(i:Int)) oo oo;have g0:=zrV hc hi hq h3;exact ⟨q,by have:=hc.2.1.1;omega,h3,g0⟩
def zCu (hW:WAt W0 b c) (e0:Ext W0 w) (hc:CodeR c) :
   CALL tp 146 [.pointer (some ⟨b,0,none⟩)] w λr w'=>Ext w w'/\Own w.heap.size w' r (zaK (zjY c)):=by
 refine co (g:=kf [] [(5,4261412928,[25]),(10,75557863725639445513984,[38]),(14,37778643632581009998848,[10])] []) Tryz.func146 ?_;have h8:=hc.1.procs8;have gN:=hc.f.ins;have gO:=zhP c;refine (zuA hW e0 hc).mono ?_;rintro _ _ ⟨gg,gs⟩;have hs1:=gg.size;refine (zuB hW (e0.t gg) gs.is (xrf _) hc).mono ?_;rintro _ w2 ⟨gh,gP⟩;have hs2:=gh.size;have g0:=gg.t gh;have e2:=e0.t g0;have gQ:=gs.is.ext gh;have gR:=gP.is;refine NIL.mk rfl<|zaa zbc<|zaa zaH<|zab zcQ (zao hW.wl.code) e2 λ_ gS=>zae u32 gS ?_;have hn:c.ins.length=c.ins.length:=rfl;generalize hnn:c.ins.length=n at hn;rw [hnn] at gN;have hz0:=(zeT hc h8.2).2.2;refine zd3 oo oo λw3 gt gT=>?_;have hs3:=gt.size;generalize hg:w2.heap.size=g at *;have gU:FW w2 w3 g n (fil n 0):=⟨gt,by simpa [fil] using gT,oo⟩;refine zj0 u31<|zar n (λk us w'=>us=[.int .i64 (k:Int)]/\k<=n/\FW w2 w' g n (fil n k)) 0 (z0 _) ⟨rfl,z0 _,gU⟩ ?_;rintro k mk u w4 gx ⟨hu,gy,V⟩;try replace hu:=zbv hu
 rw [hu];refine zah<|br (λgz=>?_) (λgA=>?_)
 . have hk:k<n:=oo;refine zb5 (α:=Int) rfl u31 ty3 hk<|zbm (α:=Int) rfl ty3 V.mine (by rw [zaf,zrZ gy]) hk (zbS (v:=63) oo) λw5 gV gW=>?_;have gc:=V.set (v:=63) gV gW;rw [zr0 hk] at gc;refine zaw<|⟨mk-1,oo,k+1,oo,rfl,oo,gc⟩
 have hk:k=n:=oo;rw [hk,zo1] at V
 have gX:MS c (List.replicate n 63) (λi=>¬UsedP c (zaA c i).toNat):=⟨by simp [hnn],λi hi hd=>by
   rw [<-zbh so];obtain ⟨p,_,h1,_⟩:=zeF hc hi;have gB:¬UsedP c (zaA c i).toNat:=hd;rw [h1,qaF] at gB;rw [znA (p:=p) h1 gB];simp⟩
 generalize List.replicate n 63=out at *;clear hu gx;have hus:zeL c<256:=zbn h8.1;refine NIL.mk rfl<|zaa zie<|zad ty3 hW.used (e2.trans V.ext) λ_=>?_;refine (zd2 (m:=zeL c) oo).mono ?_;rintro gC w5 ⟨gY,gd⟩;unfold zeL at gd;rw [zeo oo] at gd;have gc:=V.step gY;have hg4:=V.lt;have hL:∀ p,p∈zbb c.procs.length (UsedP c)↔UsedP c p:=λp=>by rw [zaO];exact ⟨λh=>h.2,λh=>⟨h.lt hc,h⟩⟩
 have hLl:(zbb c.procs.length (UsedP c)).length<=8:=qal zbe h8.1;generalize zbb c.procs.length (UsedP c)=L at *;have gZ:=gd.toI;generalize hlo:w4.heap.size=lo at *;generalize hhi:w5.heap.size=hi at *;refine zae u31 gd.is ?_;rw [zaf];refine zar L.length (λk us w'=>∃ (out':List Nat),us=[.int .i64 (k:Int)]/\k<=L.length/\FW w2 w' g n out'/\OwnI lo hi w' gC (zaK L)/\MS c out' (λi=>¬UsedP c (zaA c i).toNat\/(zaA c i).toNat∈L.take k)) 0 (z0 _) ⟨out,rfl,z0 _,gc,gZ,gX.mono λj _ h=>h.elim id λh=>by simp at h⟩ ?_;rintro k mk u w8 gx ⟨gi,hu,gy,D,gD,gE⟩;try replace hu:=zbv hu
 rw [hu];refine zah<|br (λgz=>?_) (λgA=>?_)
 case refine_2=>
   rw [gE.fin λj _=>by
     by_cases hu:UsedP c (zaA c j).toNat
     . exact .inr (by rw [qai oo];exact (hL _).2 hu)
     exact .inl hu] at D
   exact ⟨g0.t D.ext,D.own.mono oo⟩
 have hk:k<L.length:=oo;refine zac u31 ty3 (i:=k) gD.is (by rw [zaf];exact hk) λ_ _ gF=>?_;rw [zaY] at gF;refine zad ty3 gF (xrf _) λ_=>?_;have h4:=λx=>zbC hk (x:=x);have gG:=(hL L[k]).1 (qac hk);generalize L[k]=p at *;have g1:=gG.lt hc;have g2:p<c.entry.length:=by rw [hc.2.1.1];exact g1
 have e8:=e2.trans D.ext;refine zac u31 ty3 (i:=p) gR (by rw [zaf,zkT];exact g1) λ_ _ gH=>?_;rw [zaS,zrW g1] at gH;refine zad ty3 gH D.ext λ_=>?_;refine (zr1 hW.wl e8 gQ D.ext hc gO g1 (h:=zty c p) zl9).mono ?_;rintro h5 w9 ⟨gI,h6⟩;have gJ:=D.step gI;have h9:=gD.ext gI;have hg8:=D.lt;have ha:=h6.toI;have e9:=e2.trans gJ.ext;generalize hl8':w8.heap.size=lo8 at *;generalize hl9:w9.heap.size=lo9 at *;obtain ⟨hb,_,_⟩:=zgP hc g2;obtain ⟨he,_,_⟩:=zeT hc g1;obtain ⟨_,_,_⟩:=zmY hc g2;have gj:∀ i,eN c p<=i->i<=zN c p->zax (zcE c (zdt c) p (zty c p)) i=zgn c i:=λi h1 h2=>(zmb (zoX hc g2 h1 h2) gG).symm
 have hf:∀ i,i<c.ins.length->(zaA c i).toNat=p->eN c p<=i/\i<=zN c p:=λi hi h=>by
   obtain ⟨q,_,h1,h2⟩:=zeF hc hi;have:q=p:=by rw [h1,qaF] at h;exact h
   subst this;exact h2
 have hh:(zcE c (zdt c) p (zty c p)).length=c.ins.length:=zeD _ _ _ _;have gl:=zjb (c:=c) (T:=zdt c) (p:=p) (h:=zty c p);generalize zcE c (zdt c) p (zty c p)=fl at *;refine NIL.mk rfl<|zaa zbc<|zaa zbj<|zab zcn (zav hW.wl.code) e9 λ_ hj=>zac u31 ty3 hj g2 λ_ _ gK=>?_;rw [zbK g2,hb] at gK;refine zad ty3 gK e9 λ_=>?_;generalize hE:eN c p=E at *;generalize hZ:zN c p=Z at *;refine zar (Z+1-E) (λj us w'=>∃ (out':List Nat),us=[.int .i64 ((E+j:Nat):Int)]/\E+j<=Z+1/\FW w2 w' g n out'/\OwnI lo hi w' gC (zaK L)/\OwnI lo8 lo9 w' h5 (zaK fl)/\MS c out' (λi=>¬UsedP c (zaA c i).toNat\/(zaA c i).toNat∈L.take k\/(E<=i/\i<E+j))) 0 (z0 _) ⟨gi,rfl,oo,gJ,h9,ha,gE.mono λi _ h=>h.imp id λh=>h.resolve_right λh=>oo⟩ ?_;rintro j mj u _ _ ⟨g3,hu,_,g4,gn,gp,O⟩;try replace hu:=zbv hu
 rw [hu];have gL:=e2.trans g4.ext;refine NIL.mk rfl<|zaa zbc<|zab zbO hW.wl.code gL λ_ hl=>?_;refine (zdO hl gL oo).mono ?_;rintro _ _ ⟨C,rfl⟩;rw [he];have U:=g4.step C;have g5:=gn.ext C;have g9:=gp.ext C;refine zah<|br (λgz=>?_) (λgA=>?_)
 case refine_2=>
   refine zaw<|⟨mk-1,oo,k+1,oo,g3,rfl,oo,U,g5,O.mono λi hi h=>?_⟩;rcases h with h | h
   . exact .inl h
   rcases (h4 _).1 h with h | h
   . exact .inr (.inl h)
   have:=hf i hi h;exact .inr (.inr oo)
 have gf:E+j<n:=oo;have hv:=gj (E+j) oo oo;have hq:=zdI gl (E+j);refine zac u31 ty3 (i:=E+j) g9.is (by rw [zaf,hh,hnn];exact gf) λ_ _ gM=>?_;rw [zaS] at gM;refine zad ty3 gM (xrf _) λ_=>zb5 (α:=Int) rfl u31 ty3 gf<|zbm (α:=Int) rfl ty3 U.mine (by rw [zaf,O.1,hnn]) gf (zbS (v:=zax fl (E+j)) oo) λ_ gb gq=>?_;have gr:=U.set (v:=zax fl (E+j)) gb gq;have M:=zfl gb;refine zaw<|⟨mj-1,oo,j+1,oo,_,rfl,oo,gr,g5.chg M oo,g9.chg M oo,O.set (by rw [hnn];exact gf) hv λi h=>?_⟩;by_cases e:i=E+j
 . exact .inr e
 exact .inl (h.imp id λh=>h.imp id λh=>oo)
def zuC (h0:Is W0 v0 c) (e0:Ext W0 w) (hc:CodeR c) :
   CALL tp 173 [v0] w λr w'=>Ext w w'/\Own w.heap.size w' r (zaK (zjY c)):=by
 refine co (g:=kf [] [(6,4611686018425291648,[7]),(10,4611683819404132864,[9])] [(8,[0,1,2,3,4,5,6,7,8],0)]) Tryz.func173 ?_;have h8:=hc.1.procs8;have gL:=hc.f.ins;have gM:=zhP c;refine zbk h0 e0 λ_ gA hA=>?_;have hs0:=gA.size;refine zab zbO hA (xrf _) λ_ gN=>?_;refine (zo2 gN (xrf _) hc).mono ?_;rintro _ _ ⟨g4,gB⟩;have hs1:=g4.size;refine zab zbO hA g4 λ_ gO=>?_;refine (zo3 gO g4 gB.is (xrf _) hc).mono ?_;rintro _ _ ⟨C,gn⟩;have gP:=C.size;refine zab zbO hA (g4.t C) λ_ gQ=>?_;refine (zhQ gQ (g4.t C) hc).mono ?_;rintro _ w2 ⟨gl,gR⟩;have hs2:=gl.size;have D:=g4.t (C.t gl);have gS:=gB.is.ext (C.t gl);have gT:=gn.is.ext gl;have gU:=gR.is;refine zaa zaH<|zab zcQ (zao hA) D λ_ gV=>zae u32 gV ?_;have hn:c.ins.length=c.ins.length:=rfl;generalize hnn:c.ins.length=n at hn;rw [hnn] at gL;have hz0:=(zeT hc h8.2).2.2;refine zd3 oo oo λw3 gC gW=>?_;have hs3:=gC.size;generalize hg:w2.heap.size=g at *;have gX:FW w2 w3 g n (List.replicate n 0):=⟨gC,gW,oo⟩;refine zar c.procs.length (λk us w'=>∃ (out':List Nat),us=[.int .i64 (k:Int)]/\k<=c.procs.length/\FW w2 w' g n out'/\MS c out' (λi=>(zaA c i).toNat<k)) 0 (z0 _) ⟨_,rfl,z0 _,gX,by simp [hnn],λi _ h=>oo⟩ ?_;rintro p mk u w8 _ ⟨gp,hu,_,g9,gD⟩;try replace hu:=zbv hu
 rw [hu];have e8:=D.t g9.ext;refine zaa zby<|zab zb9 (zay hA) e8 λ_ gY=>zae u26 gY<|zah<|br (λgZ=>?_) (λh4=>?_)
 case refine_2=>rw [gD.fin λj hj=>by obtain ⟨q,hq,h1,_⟩:=zeF hc hj;rw [h1,qaF];omega] at g9;exact ⟨gA.t (D.t g9.ext),g9.own.mono oo⟩
 have V:p<c.procs.length:=oo;have g5:p<c.entry.length:=by rw [hc.2.1.1];exact V
 have gE:=zai w8;have O:=g9.step gE;have gF:=e8.trans gE;generalize World.drew1 w8=w8d at *;refine zab zbO hA gF λ_ h5=>zac u31 ty3 (i:=p) gT (by rw [zaf,zkT];exact V) λ_ _ gG=>?_;rw [zaS,zrW V] at gG;refine zad ty3 gG O.ext λ_=>?_;refine (zj1 h5 gF gS O.ext hc gM V (h:=zty c p) zl9).mono ?_;rintro h6 w9 ⟨h9,ha⟩;have gH:=O.step h9;have hg8:=O.lt;have hb:=ha.toI;have e9:=D.t gH.ext;generalize hl8':w8d.heap.size=lo8 at *;generalize hl9:w9.heap.size=lo9 at *;obtain ⟨hd,_,_⟩:=zgP hc g5;obtain ⟨_,he,_⟩:=zeT hc V;obtain ⟨_,_,_⟩:=zmY hc g5;have gq:UsedP c p->∀ i,eN c p<=i->i<=zN c p->zax (zcE c (zdt c) p (zty c p)) i=zgn c i:=λhu i h1 h2=>(zmb (zoX hc g5 h1 h2) hu).symm;have gb:¬UsedP c p->∀ i,eN c p<=i->i<=zN c p->63=zgn c i:=λhu i h1 h2=>(znA (zoX hc g5 h1 h2) hu).symm
 have hh:∀ i,i<c.ins.length->(zaA c i).toNat=p->eN c p<=i/\i<=zN c p:=λi hi h=>by
   obtain ⟨q,hq,h1,h2⟩:=zeF hc hi;have:q=p:=by rw [h1,qaF] at h;exact h
   subst this;exact h2
 have hk:(zcE c (zdt c) p (zty c p)).length=c.ins.length:=zeD _ _ _ _;have gr:=zjb (c:=c) (T:=zdt c) (p:=p) (h:=zty c p);generalize zcE c (zdt c) p (zty c p)=fl at *;refine zaa zbj<|zab zcn (zav hA) e9 λ_ hl=>zac u31 ty3 hl g5 λ_ _ gI=>?_;rw [zbK g5,hd] at gI;refine zad ty3 gI e9 λ_=>?_;generalize hE:eN c p=E at *;generalize hZ:zN c p=Z at *;refine zar (Z+1-E) (λj us w'=>∃ (out':List Nat),us=[.int .i64 ((E+j:Nat):Int)]/\E+j<=Z+1/\FW w2 w' g n out'/\OwnI lo8 lo9 w' h6 (zaK fl)/\MS c out' (λi=>(zaA c i).toNat<p\/(E<=i/\i<E+j))) 0 (z0 _) ⟨gp,rfl,oo,gH,hb,gD.mono λi _ h=>h.resolve_right λh=>oo⟩ ?_;rintro j mj u _ _ ⟨gc,hu,_,gd,gs,M⟩;try replace hu:=zbv hu
 rw [hu];have gJ:=D.t gd.ext;refine zab zbO hA gJ λ_ hr=>?_;refine (zff hr gJ (p:=(p:Int)) oo oo hc.2.1.nonneg).mono ?_;rintro _ _ ⟨g0,rfl⟩;rw [he];have g1:=gd.step g0;have gt:=gs.ext g0;refine zdJ<|br (λgZ=>?_) (λh4=>?_)
 case refine_2=>
   refine zaw<|⟨mk-1,oo,p+1,oo,gc,rfl,oo,g1,M.mono λi hi h=>?_⟩;by_cases e:(zaA c i).toNat=p
   . have:=hh i hi e;exact .inr oo
   exact .inl oo
 have g2:E+j<n:=oo;refine zb5 (α:=Int) rfl u31 ty3 g2<|zbm (α:=Int) rfl ty3 g1.mine (by rw [zaf,M.1,hnn]) g2 (zbS (v:=63) oo) λ_ gf gx=>?_;have U:=g1.set (v:=63) gf gx;have gg:=zfl gf;have g3:=gt.chg gg oo;refine zac zdj ty4 (i:=p) gU (by rw [zam];exact V) λ_ _ hs=>zaC ty4 hs U.ext ?_;have gy:=zaM (n:=c.procs.length) (p:=UsedP c) (i:=p);rw [zaZ (by rw [zam];exact V)] at gy
 have hD:∀ i:Nat,((zaA c i).toNat<p\/(E<=i/\i<E+(j+1)))->((zaA c i).toNat<p\/(E<=i/\i<E+j))\/i=E+j:=λi h=>by
   by_cases e:i=E+j
   . exact .inr e
   exact .inl (h.imp id λh=>oo)
 refine zaN (λhf=>?_) (λhf=>?_)
 . have hv:=gq (gy.1 hf).2 (E+j) oo oo;have ht:=zdI gr (E+j);refine zac u31 ty3 (i:=E+j) g3.is (by rw [zaf,hk,hnn];exact g2) λ_ _ gK=>?_;rw [zaS] at gK;refine zad ty3 gK (xrf _) λ_=>zb5 (α:=Int) rfl u31 ty3 g2<|zbm (α:=Int) rfl ty3 U.mine (by rw [zaf,qbD,M.1,hnn]) g2 (zbS (v:=zax fl (E+j)) oo) λ_ gh gz=>?_;have gi:=U.set (v:=zax fl (E+j)) gh gz;have gj:=zfl gh;rw [List.set_set] at gi;refine zaw<|⟨mj-1,oo,j+1,oo,_,rfl,oo,gi,g3.chg gj oo,M.set (by rw [hnn];exact g2) hv hD⟩
 have hv:=gb (λh=>by rw [gy.2 ⟨V,h⟩] at hf;cases hf) (E+j) oo oo;refine zaw<|⟨mj-1,oo,j+1,oo,_,rfl,oo,U,g3,M.set (by rw [hnn];exact g2) hv hD⟩
def MC (c:DCode) (ms:List Bool) (i:Nat):Prop:=
 ((zap c i).op=4->mkd ms (eN c (agN c i))/\(mkd ms (zN c (agN c i))->∀ j∈zaE c i,mkd ms j))/\(¬(zap c i).op=4->∀ j∈zaE c i,mkd ms j)
structure TP (c:DCode) (ms0:List Bool) (ag:Bool) (ms:List Bool) (k:Nat):Prop where
 len:ms.length=c.ins.length
 snd:∀ i,mkd ms i->MetP c i
 root:∀ p,RootP c p->mkd ms (eN c p)
 yes:ag=true->zkO ms0<zkO ms
 no:ag=false->ms=ms0/\∀ i,i<k->mkd ms0 i->MC c ms0 i
def zfN {ms:List Bool} (h:mkd ms j):mkd (ms.set i true) j:=by
 have:=ztr h;by_cases hi:i<ms.length
 . exact (zdc hi).2 (.inl h)
 rw [qcU oo];exact h
def zme {ms:List Bool} (h:mkd ms i):ms.set i true=ms:=by
 have hl:=ztr h;rw [zaZ hl] at h;rw [<-h];exact qc6 hl
def zC0 (ms:List Bool) (i:Nat) (ag:Bool):Bool:=ag || !ms.getD i false
def ztC {ms:List Bool} (h:mkd ms i):zC0 ms i ag=ag:=by
 unfold mkd at h;unfold zC0;rw [h];simp
def ztD {ms:List Bool} (h:¬mkd ms i):zC0 ms i ag=true:=by
 unfold mkd at h;unfold zC0;rw [qch] at h;rw [h];simp
theorem TP.meet {g0 ms:List Bool} (h:TP c g0 ag ms k) (hi:i<c.ins.length) (hm:MetP c i):TP c g0 (zC0 ms i ag) (ms.set i true) k:=by
 by_cases hk:mkd ms i
 . rw [ztC hk,zme hk];exact h
 rw [ztD hk];have:=zi8 (by rw [h.len];exact hi) hk;refine ⟨by simp [h.len],λj hj=>?_,λp hp=>zfN (h.root p hp),λ_=>?_,λe=>by cases e⟩
 . rcases (zdc (by rw [h.len];exact hi)).1 hj with h1 | h1
   . exact h.snd j h1
   rw [h1];exact hm
 cases ag with
 | true=>have:=h.yes rfl;omega
 | false=>rw [<-(h.no rfl).1];omega
def TP.next {ms0 ms:List Bool} (h:TP c ms0 ag ms k) (hk:mkd ms k->MC c ms k):TP c ms0 ag ms (k+1):=
 ⟨h.len,h.snd,h.root,h.yes,λe=>⟨(h.no e).1,λi hi hm=>by
   by_cases e2:i=k
   . subst e2;rw [(h.no e).1] at hk;exact hk hm
   exact (h.no e).2 i oo hm⟩⟩
def TP.fin (hc:CodeR c) {g1 ms:List Bool} (h:TP c g1 false ms c.ins.length):ms=zg9 c:=by
 obtain ⟨h1,h2⟩:=h.no rfl;refine zcp h.len λi hi=>⟨h.snd i,λhm=>?_⟩;have hC:MetC c (mkd ms):=⟨h.root,λi hi ho=>?_,λi j hi ho hj=>?_,λi j hi ho hz hj=>?_⟩
 . exact hC.all hm
 all_goals
   have g0:=ztr hi;rw [h.len] at g0;have:=h2 i g0 (by rw [<-h1];exact hi);rw [<-h1] at this
 . exact (this.1 ho).1
 . exact this.2 ho j hj
 exact (this.1 ho).2 hz j hj
def TP.again {ms0 ms:List Bool} (h:TP c ms0 ag ms k):TP c ms false ms 0:=
 ⟨h.len,h.snd,h.root,λe=>(by cases e),λ_=>⟨rfl,λi hi=>oo⟩⟩
def zhR (m n:Nat):Prop:=∀ l,l<6->m.testBit l=true->n.testBit l=true
def HC (c:DCode) (out:List Nat) (i:Nat):Prop:=
 ((zap c i).op=4->zhR (zax out i) (zax out (eN c (agN c i)))/\(MetP c (zN c (agN c i))->∀ j∈zaE c i,zhR (zax out (zN c (agN c i))) (zax out j)))/\(¬(zap c i).op=4->∀ j∈zaE c i,zhR (aft c [] i (zax out i)) (zax out j))
structure HP (c:DCode) (out0:List Nat) (ag:Bool) (out:List Nat) (k:Nat):Prop where
 len:out.length=c.ins.length
 lt:∀ x∈out,x<64
 snd:∀ i l,i<c.ins.length->(zax out i).testBit l=true->MayP c i l/\MetP c i
 yes:ag=true->out0.sum<out.sum
 no:ag=false->out=out0/\∀ i,i<k->MetP c i->HC c out0 i
def HP.lt0 {out0 out:List Nat} (h:HP c out0 ag out k) (i:Nat):zax out i<64:=zdI h.lt i
def zxz (h:n ||| m=n):zhR m n:=λl _ hb=>by
 rw [<-h,qaX,hb];simp
def zBi:zhR m (n ||| m):=λl _ hb=>by rw [qaX,hb];simp
def zmf (h:zhR k n):zhR k (n ||| m):=λl hl hb=>by rw [qaX,h l hl hb];rfl
def zqu (hm:m<64) (hn:n<64):zkQ m n=0↔zhR m n:=by
 constructor
 . intro h l _ hb;have:=qat (·.testBit l) h;simp only [zdh,hb,qbZ,qcB,qb8] at this;exact this
 intro h;refine qbl λl=>?_;rw [zdh,qcB];cases e:m.testBit l
 . rfl
 rw [h l (zgN hm e) e];rfl
def zo4 (hm:m<64) (hn:n<64):n ||| m<64:=qa0 (n:=6) hn hm
def zzt (h:¬n ||| m=n):n<n ||| m:=by
 have:n<=n ||| m:=Nat.left_le_or;omega
theorem HP.add {out0 out:List Nat} (h:HP c out0 ag out k) (hi:i<c.ins.length) (hm:m<64) (g1:MetP c i) (g0:∀ l,l<6->m.testBit l=true->MayP c i l) (hn:¬zhR m (zax out i)):HP c out0 true (out.set i (zax out i ||| m)) k:=by
 have g2:=h.lt0 i;refine ⟨by simp [h.len],λx hx=>?_,λj l hj hb=>?_,λ_=>?_,λe=>by cases e⟩
 . rcases zit hx with rfl | hx
   . exact zo4 hm g2
   exact h.lt x hx
 . rw [zb6 (by rw [h.len];exact hi)] at hb;split at hb
   . rename_i e;subst e;rw [qaX,qaQ] at hb;rcases hb with hb | hb
     . exact h.snd i l hj hb
     exact ⟨g0 l (zgN hm hb) hb,g1⟩
   exact h.snd j l hj hb
 have:=zjW (l:=out) (i:=i) (v:=zax out i ||| m) (by rw [h.len];exact hi);have:=zzt (m:=m) (n:=zax out i) λe=>hn (zxz e);cases ag with
 | true=>have:=h.yes rfl;omega
 | false=>rw [<-(h.no rfl).1];omega
def HP.next {out0 out:List Nat} (h:HP c out0 ag out k) (hk:ag=false->MetP c k->HC c out k):HP c out0 ag out (k+1):=
 ⟨h.len,h.lt,h.snd,h.yes,λe=>⟨(h.no e).1,λi hi hm=>by
   by_cases e2:i=k
   . subst e2;have:=hk e hm;rw [(h.no e).1] at this;exact this
   exact (h.no e).2 i oo hm⟩⟩
def zo5 (h4:¬(zap c i).op=4):(aft c [] i m).testBit l=true↔¬((zap c i).op=7/\agN c i=l)/\(((zap c i).op=6/\agN c i=l)\/m.testBit l=true):=by
 rw [<-Bool.not_eq_false,zma];unfold zD6 zxk;have e4:((zap c i).op=4)=False:=eq_false h4;simp only [e4,false_and,qaz,not_false_eq_true,and_true,not_or,not_and,Bool.not_eq_false];constructor
 . rintro ⟨h1,h2⟩;refine ⟨h1,?_⟩;by_cases e:(zap c i).op=6/\agN c i=l
   . exact .inl e
   exact .inr (h2 λa b=>e ⟨a,b⟩)
 rintro ⟨h1,h2⟩;refine ⟨h1,λh3=>?_⟩;rcases h2 with h2 | h2
 . exact absurd h2.2 (h3 h2.1)
 exact h2
def zxA (h4:¬(zap c i).op=4) (hm:MetP c i) (hj:j∈zaE c i) (g0:m.testBit l=true->MayP c i l) (hb:(aft c [] i m).testBit l=true):MayP c j l:=by
 obtain ⟨h1,h2⟩:=(zo5 h4).1 hb;rcases h2 with h2 | h2
 . exact .lock hm h2.1 h2.2 hj
 exact .pass hm h4 h1 (g0 h2) hj
def HC.may (hc:CodeR c) (h:∀ i,MetP c i->HC c out i):MayC c λi l=>(zax out i).testBit l=true:=by
 refine ⟨λi j hm ho hj=>?_,λi j l hm hl ho ha hb hj=>?_,λi l hm hl ho hb=>?_,λi j l hm hl ho hz hb hj=>?_⟩
 . have ha:=zdA hc (hm.lt hc) (.inl ho);exact (h i hm).2 oo j hj _ ha.2.2 ((zo5 oo).2 ⟨λh=>oo,.inl ⟨ho,rfl⟩⟩)
 . exact (h i hm).2 ho j hj l hl ((zo5 ho).2 ⟨ha,.inr hb⟩)
 . exact ((h i hm).1 ho).1 l hl hb
 exact ((h i hm).1 ho).2 hz j hj l hl hb
def zxB (hc:CodeR c) {out:List Nat} (g0:out.length=c.ins.length) (g1:∀ x∈out,x<64) (hs:∀ i l,i<c.ins.length->(zax out i).testBit l=true->MayP c i l) (h:∀ i,MetP c i->HC c out i):out=zqr c:=by
 have hC:=HC.may hc h;refine qaP (by rw [g0,zkU]) λi h1 h2=>?_;have hi:i<c.ins.length:=by rw [<-g0];exact h1
 rw [zbh h1,zbh h2,zrX hi];exact zxi (zdI g1 i) λl hl=>⟨hs i l hi,λhm=>hC.all hl hm⟩
def HP.fin (hc:CodeR c) {out0 out:List Nat} (h:HP c out0 false out c.ins.length):out=zqr c:=by
 obtain ⟨h1,h2⟩:=h.no rfl;exact zxB hc h.len h.lt (λi l hi hb=>(h.snd i l hi hb).1) λi hm=>by rw [h1];exact h2 i (hm.lt hc) hm
def HP.again {out0 out:List Nat} (h:HP c out0 ag out k):HP c out false out 0:=
 ⟨h.len,h.lt,h.snd,λe=>(by cases e),λ_=>⟨rfl,λi hi=>oo⟩⟩
def HP.start:HP c (List.replicate c.ins.length 0) false (List.replicate c.ins.length 0) 0:=
 ⟨ss,λx hx=>by rw [(qcI.1 hx).2];omega,λi l hi hb=>by rw [<-zbh (by simp;exact hi)] at hb;simp at hb,λe=>(by cases e),λ_=>⟨rfl,λi hi=>oo⟩⟩
def HP.sum_le {out0 out:List Nat} (h:HP c out0 ag out k):out.sum<=c.ins.length*63:=by
 rw [<-h.len];exact Go.Proofs.YtkgiigmcbgifdaaGreatDoor.sum_le λx hx=>by have:=h.lt x hx;omega
end Go.Proofs.YtkgiigmcbgifdaaGreatDoor
namespace Go.Sh
open Rep (rep)
variable {F:List Nat} {cs:List vL} {e g:Nat} {w w' w0:wD}
def ChgI.one (h:ChgI g (g+1) w w'):Chg [g] w w':=⟨h.os,h.tape,h.output,h.size,λb hb hn=>h.block b hb (by simp at hn;omega)⟩
def OwnI.chgF {α:Type} [Rep α] {w w':wD} {lo hi:Nat} {v:vL} {x:α} {F:List Nat} (h:OwnI lo hi w v x) (hc:Chg F w w') (hd:∀ b∈F,b<lo\/hi<=b):OwnI lo hi w' v x:=by
 obtain ⟨G,hm,hG⟩:=h;exact ⟨G,hm.keep λb hb=>hc.block b (hm.lt b hb) λhF=>by have:=hG b hb;have:=hd b hF;omega,hG⟩
def Blk.chgF (h:Blk g e w cs) (hc:Chg F w w') (hd:g∉F):Blk g e w' cs:=h.keep (hc.block g h.lt hd)
def Ext.chgF (h:Ext w0 w) (hc:Chg F w w') (hd:∀ b∈F,w0.heap.size<=b):Ext w0 w':=
 ⟨hc.os.trans h.os,hc.tape.trans h.tape,hc.output.trans h.output,qal h.size hc.size,λb hb=>(hc.block b (qan hb h.size) λhF=>by have:=hd b hF;omega).trans (h.block b hb)⟩
end Go.Sh
namespace Go.Proofs.YtkgiigmcbgifdaaGreatDoor
open Go Go.Sh Go.Proofs
open Rep (rep)
variable {P:pG} {W0 w:wD} {b f hi k lo:Nat} {c:DCode} {u v z:vL}
def zmg {args caps:List vL} {K:VW} (hE:zeO P f=true) (h:CALL P f (args++caps) w K):OPN P (zpv (.func (.func f) #[] caps.toArray) args) w K:=by
 obtain ⟨h⟩:=h;refine .enter f (args++caps).toArray w ?_ h;simp [zpv,Deferred.ofValue,invoke,zex hE]
def zBj:zeO tp 210=true:=by kernel_rfl
def zBk:zeO tp 217=true:=by kernel_rfl
def zFr:zcq tp 125=some [.slice none 0 0]:=by kernel_rfl
def zFs:zcq tp 31=some [.slice none 0 0]:=by kernel_rfl
def zcY (h:u.oneCell'=true):OwnI lo hi w u (⟨u⟩:Raw):=⟨[],⟨⟨[u],⟨rfl,rfl,h⟩,rfl⟩,qas,Wr.nil _⟩,ss⟩
def zgS {t by_:Nat} {K:VW} (hz:zcq tp t=some [z]) (ht:tyI tp t=some (1,by_,false)) (hu:u.oneCell'=true) (k:∀ w',Ext w w'->Blk w.heap.size t w' [u]->K (.pointer (some ⟨w.heap.size,0,none⟩)) w') :
   OP tp (Instr.alloc t true (.tuple #[])) w λp w1=>OPU tp (Instr.storeAt t p u) w1 λw2=>K p w2:=by
 refine za1 hz λw1 g0 g1=>zaW (α:=Raw) (lo:=0) (hi:=0) ht rfl rfl g1 ss (zcY hu) λw2 g2 g3=>k w2 (g0.chgI g2 (lr _)) g3
structure MW (w1 w:wD) (gv g ga n:Nat) (ms:List Bool) (ag:Bool):Prop where
 ext:Ext w1 w
 var:Blk gv 125 w [.slice (some ⟨g,0,none⟩) n n]
 mks:Mine [g] w (.slice (some ⟨g,0,none⟩) n n) ms
 agn:Blk ga 4 w [.bool ag]
 n1:gv≠g
 n2:gv≠ga
 n3:g≠ga
 g0:w1.heap.size<=g
 g1:w1.heap.size<=gv
 g2:w1.heap.size<=ga
section
variable {w1 w w':wD} {gv g ga n:Nat} {ms:List Bool} {ag:Bool}
def MW.step (h:MW w1 w gv g ga n ms ag) (hx:Ext w w'):MW w1 w' gv g ga n ms ag:=⟨h.ext.trans hx,h.var.ext hx,h.mks.ext hx,h.agn.ext hx,h.n1,h.n2,h.n3,h.g0,h.g1,h.g2⟩
def MW.mark {ms':List Bool} (h:MW w1 w gv g ga n ms ag) (hc:Chg [g] w w') (hm:Mine [g] w' (.slice (some ⟨g,0,none⟩) n n) ms'):MW w1 w' gv g ga n ms' ag:=
 ⟨h.ext.chgF hc (by simp [h.g0]),h.var.chgF hc (by simp [h.n1]),hm,h.agn.chgF hc (by simp [Ne.symm h.n3]),h.n1,h.n2,h.n3,h.g0,h.g1,h.g2⟩
def MW.agains {ag':Bool} (h:MW w1 w gv g ga n ms ag) (hc:Chg [ga] w w') (hB:Blk ga 4 w' [.bool ag']):MW w1 w' gv g ga n ms ag':=
 ⟨h.ext.chgF hc (by simp [h.g2]),h.var.chgF hc (by simp [h.n2]),h.mks.keep λb hb=>by
   simp only [qaa,qag,qaz] at hb;subst hb;exact hc.block b (h.mks.lt b ss) (by simp [h.n3]),hB,h.n1,h.n2,h.n3,h.g0,h.g1,h.g2⟩
def MW.cell {ga':Nat} {ag':Bool} (h:MW w1 w gv g ga n ms ag) (hx:Ext w w') (hB:Blk ga' 4 w' [.bool ag']) (hg:w.heap.size<=ga'):MW w1 w' gv g ga' n ms ag':=
 ⟨h.ext.trans hx,h.var.ext hx,h.mks.ext hx,hB,h.n1,by have:=h.var.lt;omega,by have:=h.mks.lt g ss;omega,h.g0,h.g1,by have:=h.ext.size;omega⟩
def zxC {i:Nat} (h:MW w1 w gv g ga n ms ag) (hi:i<n) (hl:ms.length=n) :
   CALL tp 210 [.int .i64 (i:Int),.pointer (some ⟨gv,0,none⟩),.pointer (some ⟨ga,0,none⟩)] w λr w'=>r=.tuple #[]/\MW w1 w' gv g ga n (ms.set i true) (zC0 ms i ag)/\Chg [g,ga] w w':=by
 refine co (g:=kf [] [] []) Tryz.func210 ?_;refine zaj zcR h.var rfl<|zac zdj ty4 h.mks.is (by rw [hl];exact hi) λ_ _ g3=>zaC ty4 g3 (xrf _) ?_;have g0:=zaZ (ms:=ms) (i:=i) (by rw [hl];exact hi);refine zau<|zaN (λhf=>?_) (λhf=>?_)
 . have hn:¬mkd ms i:=by rw [g0];simpa using hf
   rw [ztD hn];refine zaj zcR h.var rfl<|zb5 (α:=Bool) rfl zdj ty4 hi<|zbm (α:=Bool) rfl ty4 h.mks hl hi zbM λ_ g1 g4=>?_;have h2:=h.mark g1 g4;refine zaW (α:=Raw) (lo:=0) (hi:=0) ty4 rfl rfl h2.agn ss (zcY rfl) λ_ g2 g5=>⟨rfl,h2.agains g2.one g5,(g1.mono ss).trans (g2.one.mono ss)⟩
 have hy:mkd ms i:=by rw [g0];simpa using hf
 rw [ztC hy,zme hy];exact ⟨rfl,h,Chg.refl _ _⟩
end
def zBl (hW:WAt W0 b c) (e0:Ext W0 w) (hc:CodeR c) :
   CALL tp 148 [.pointer (some ⟨b,0,none⟩)] w λr w'=>Ext w w'/\Own w.heap.size w' r (zg9 c):=by
 refine co (g:=kf [(18,19342812825603690643587072,[])] [(3,1099478073376,[25]),(8,316912650057057349274664176576,[6]),(12,158456325028528393712111192832,[48]),(19,78918677504442992524819171328,[88])] [(5,[0,1,2,3,4,5,6,7,8,9,10],0),(16,[0,1,2,3,4,5,6,7,8,9,10],0),(17,[0,1,2,3,4,5,6,7,8,9,10,11],128)]) Tryz.func148 ?_;have h8:=hc.1.procs8;have hP:=hc.f.ins;have C:=hW.wl.code;refine NIL.mk rfl<|zaa zbc<|zaa zaH<|zab zcQ (zao C) e0 λ_ hQ=>zae u32 hQ ?_;have hz0:=(zeT hc h8.2).2.2;have hn:c.ins.length=c.ins.length:=rfl;generalize hnn:c.ins.length=n at hn;rw [hnn] at hP;refine zeZ oo oo λw1 gJ hr=>?_;have hs1:=gJ.size;have hg1:=hr.lt _ (qay.2 rfl);generalize hg:w.heap.size=g at *;refine zgS zFr zcR rfl λw2 gF hs=>?_;have hs2:=gF.size;have hR:=hr.ext gF;generalize hgv:w1.heap.size=gv at *;refine NIL.mk rfl<|zaa zid<|zad ty3 hW.roots (e0.t (gJ.t gF)) λ_=>?_;have hrs:zdi c<256:=zbn h8.1;refine (zd2 (m:=zdi c) oo).mono ?_;rintro hS w3 ⟨gG,gf⟩;unfold zdi at gf;rw [zeo oo] at gf;have hL:∀ p,p∈zbb c.procs.length (RootP c)↔RootP c p:=λp=>by rw [zaO];exact ⟨λh=>h.2,λh=>⟨h.lt hc,h⟩⟩
 have hLl:(zbb c.procs.length (RootP c)).length<=8:=qal zbe h8.1;generalize zbb c.procs.length (RootP c)=L at *;have hs3:=gG.size;have hU:=hs.lt;refine zae u31 gf.is ?_;rw [zaf];refine zar L.length (λk us w'=>∃ ms,us=[.int .i64 (k:Int)]/\k<=L.length/\Ext w w'/\Blk gv 125 w' [.slice (some ⟨g,0,none⟩) n n]/\Mine [g] w' (.slice (some ⟨g,0,none⟩) n n) ms/\OwnI w2.heap.size w3.heap.size w' hS (zaK L)/\ms.length=n/\(∀ i,mkd ms i->MetP c i)/\∀ p∈L.take k,mkd ms (eN c p)) 0 (z0 _) ⟨_,rfl,z0 _,gJ.t (gF.t gG),hs.ext gG,hR.ext gG,gf.toI,ss,λi h=>absurd h zbR,ss⟩ ?_;rintro k mk u w4 ht ⟨ms,hu,hV,gK,gL,gM,gN,gg,gh,gi⟩;try replace hu:=zbv hu
 rw [hu];refine zah<|br (λhv=>?_) (λhw=>?_)
 . have hk:k<L.length:=oo;refine zac u31 ty3 (i:=k) gN.is (by rw [zaf];exact hk) λ_ _ hx=>?_;rw [zaY] at hx;refine zad ty3 hx (xrf _) λ_=>?_;have hX:=λx=>zbC hk (x:=x);have hy:=(hL L[k]).1 (qac hk);generalize L[k]=p at *;have g1:p<c.entry.length:=by rw [hc.2.1.1];exact hy.lt hc
   obtain ⟨gO,hz,_⟩:=zgP hc g1;have U:=zai w4;have g2:=gK.t U;have gH:=gL.ext U;have hY:=gM.ext U;have hZ:=gN.ext U;generalize World.drew1 w4=w5 at *;refine zaj zcR gH rfl<|NIL.mk rfl<|zaa zbc<|zaa zbj<|zab zcn (zav C) (e0.t g2) λ_ j0=>zac u31 ty3 j0 g1 λb5 o5 gj=>?_;rw [zbK g1,gO] at gj;refine zad ty3 gj (e0.t g2) λ_=>zb5 (α:=Bool) rfl zdj ty4 oo<|zbm (α:=Bool) rfl ty4 hY gg oo zbM λw6 gP j1=>zaw<|⟨mk-1,oo,k+1,oo,_,rfl,oo,g2.chgF gP (by simp [hg]),gH.chgF gP so,j1,hZ.chgF gP so,by simp [gg],λi hi=>?_,λq hq=>?_⟩
   . rcases (zdc (by rw [gg];omega)).1 hi with h | h
     . exact gh i h
     rw [h];exact .root hy
   rcases (hX q).1 hq with h | h
   . exact zfN (gi q h)
   rw [h];exact (zdc (by rw [gg];omega)).2 (.inr rfl)
 have j2:∀ p,RootP c p->mkd ms (eN c p):=λp hp=>gi p (by rw [qai oo];exact (hL p).2 hp);have hT:TP c ms false ms 0:=⟨by rw [gg,hnn],gh,j2,λe=>(by cases e),λ_=>⟨rfl,λi hi=>oo⟩⟩;clear hu ht gN gf;refine zgS zCZ ty4 rfl λw5 g2 gH=>?_;have hs4:=gK.size;have j3:MW w w5 gv g w4.heap.size n ms true:=⟨gK.t g2,gL.ext g2,gM.ext g2,gH,oo,by have:=gL.lt;omega,by have:=gM.lt g ss;omega,oo,oo,oo⟩;generalize w4.heap.size=ga at *;refine LOOPI.mk (λm us w'=>∃ (ga:Nat) (ms:List Bool) (ag:Bool),us=[.pointer (some ⟨ga,0,none⟩)]/\m=(n-zkO ms)+(if ag then 1 else 0)/\MW w w' gv g ga n ms ag/\TP c ms false ms 0/\(ag=false->ms=zg9 c)) (n-zkO ms+1) ⟨ga,ms,true,rfl,rfl,j3,hT,λe=>by cases e⟩ ?_;rintro m u w6 ⟨ga,ms,ag,hu,hm,gd,hA,gQ⟩;try replace hu:=zbv hu
 rw [hu];have j4:=zhm ms;rw [hA.len,hnn] at j4;refine zaj ty4 gd.agn rfl<|zaN (λgR=>?_) (λgR=>?_)
 case refine_2=>refine zaj zcR gd.var rfl ?_;rw [<-gQ gR];exact ⟨gd.ext,[g],gd.mks,λb hb=>by simp only [qaa,qag,qaz] at hb;omega⟩
 rw [gR,qah rfl] at hm;refine zaW (α:=Raw) (lo:=0) (hi:=0) ty4 rfl rfl gd.agn ss (zcY rfl) λ_ j5 j6=>?_;have hB:=gd.agains j5.one j6;refine za9 (v:=.func (.func 210) #[] #[.pointer (some ⟨gv,0,none⟩),.pointer (some ⟨ga,0,none⟩)]) (λw' _=>by simp [Instr.makeFunc])<|NIL.mk rfl<|zaa zbc<|zaa zaH<|zab zcQ (zao C) (e0.t hB.ext) λ_ hC=>zae u32 hC ?_;rw [hnn];refine zar n (λk us w'=>∃ (ms':List Bool) (ag':Bool),us=[.int .i64 (k:Int)]/\k<=n/\MW w w' gv g ga n ms' ag'/\TP c ms ag' ms' k) 0 (z0 _) ⟨ms,false,rfl,z0 _,hB,hA⟩ ?_;rintro k mk u w8 ht ⟨D,gl,hu,hV,g3,M⟩;try replace hu:=zbv hu
 rw [hu];refine zah<|br (λhv=>?_) (λhw=>?_)
 case refine_2=>
   have j7:k=n:=oo;rw [j7] at M;refine zaj ty4 g3.agn rfl<|zgS zCZ ty4 rfl λw9 gS j8=>?_;have gT:=zhm D;rw [M.len,hnn] at gT;refine ⟨(n-zkO D)+(if gl then 1 else 0),?_,_,D,gl,rfl,rfl,g3.cell gS j8 (lr _),M.again,λe=>?_⟩
   . cases gl with
     | true=>have:=M.yes rfl;simp;omega
     | false=>rw [(M.no rfl).1];simp;omega
   rw [e,<-hnn] at M;exact M.fin hc
 have hk:k<n:=oo;have gI:k<c.ins.length:=oo;have gn:D.length=n:=by rw [M.len,hnn]
 refine zac u32 zdw hC gI λ_ _ hD=>?_;rw [zaR] at hD;refine zab zdw hD (e0.t g3.ext) λ_ hF=>zbN zsM rfl zdw rfl hF (e0.t g3.ext) λw9 gS hG hH=>?_;have gp:=g3.step gS;have gU:=zcV hF hH rfl;refine zaj zcR gp.var rfl<|zac zdj ty4 (i:=k) gp.mks.is (by rw [gn];exact hk) λ_ _ j9=>zaC ty4 j9 (xrf _)<|zau ?_;have gq:=zaZ (ms:=D) (i:=k) (by rw [gn];exact hk);refine zaN (λhf=>?_) (λhf=>?_)
 . have gV:¬mkd D k:=by rw [gq];simpa using hf
   refine zaw<|⟨mk-1,oo,k+1,oo,D,gl,rfl,oo,gp,M.next λh=>absurd h gV⟩
 have ja:mkd D k:=by rw [gq];simpa using hf
 have gW:=M.snd k ja;refine JOIN.mk (λus w'=>∃ (ms':List Bool) (ag':Bool),MW w w' gv g ga n ms' ag'/\TP c ms ag' ms' k/\((zap c k).op=4->mkd ms' (eN c (agN c k)))/\∀ j∈zaE c k,MetP c j) ?_ ?_
 . refine zaa zbE ?_;refine zad ty3 (zaD hG) (xrf _) λ_=>zag<|br (λc4=>?_) (λc4=>?_)
   . obtain ⟨hI,hJ⟩:=zcl hc gI (.inl c4);have g1:agN c k<c.entry.length:=by rw [hc.2.1.1];exact hJ
     obtain ⟨gO,hz,_⟩:=zgP hc g1;obtain ⟨jb,_,_⟩:=zeT hc hJ;have U:=zai w9;have g4:=gp.step U;generalize World.drew1 w9=w10 at *;refine NIL.mk rfl<|zaa zbc<|zaa zbj<|zab zcn (zav C) (e0.t g4.ext) λ_ jc=>zaa zbG<|zad ty3 (zaF hG) U λ_=>?_;rw [hI];refine zac u31 ty3 jc g1 λb5 o5 gj=>?_;rw [zbK g1,gO] at gj;refine zad ty3 gj (e0.t g4.ext) λ_=>zmg (args:=[_]) (caps:=[_,_]) zBj ((zxC (i:=eN c (agN c k)) g4 oo gn).mono ?_);rintro _ hK ⟨rfl,gX,gY⟩;have g5:=M.meet hz (.call gW c4);have hM:mkd (D.set (eN c (agN c k)) true) (eN c (agN c k)):=(zdc (by rw [gn];omega)).2 (.inr rfl);have gr:=zai hK;have O:=gX.step gr;have jd:w8.heap.size<w10.heap.size:=by have:=hH.lt;have:=U.size;omega
     have je:w8.heap.size∉[g,ga]:=by have h1:=g3.mks.lt g ss;have h2:=g3.agn.lt;simp;omega
     have gs:=(gU.ext U).keep (gY.block _ jd je);have gt:=(gs.ext gr).at (e0.t O.ext);generalize World.drew1 hK=w12 at *;refine zaj zcR O.var rfl<|NIL.mk rfl<|zaa zbc<|zab zbO C (e0.t O.ext) λ_ jf=>zaa zbG<|zad ty3 (zaF gt) (xrf _) λ_=>?_;rw [hI];refine (zdO jf (e0.t O.ext) oo).mono ?_;rintro _ _ ⟨gx,rfl⟩;refine ⟨gx,?_⟩;have g9:=O.step gx;rw [jb];refine zbp io ?_;rw [show ((zN c (agN c k)+1:Nat):Int)-1=(zN c (agN c k):Int) by omega];have gy:(D.set (eN c (agN c k)) true).length=n:=by rw [qbD,gn]
     generalize D.set (eN c (agN c k)) true=ms13 at *;refine zac zdj ty4 (i:=zN c (agN c k)) g9.mks.is (by rw [gy];omega) λ_ _ jg=>zaC ty4 jg (xrf _)<|zau ?_;have g0:=zaZ (ms:=ms13) (i:=zN c (agN c k)) (by rw [gy];omega);refine zaN (λgb=>?_) (λgb=>?_)
     . have gV:¬mkd ms13 (zN c (agN c k)):=by rw [g0];simpa using gb
       refine zaw<|⟨mk-1,oo,k+1,oo,ms13,_,rfl,oo,g9,g5.next λ_=>⟨λ_=>⟨hM,λh=>absurd h gV⟩,λh=>absurd c4 h⟩⟩
     have jh:mkd ms13 (zN c (agN c k)):=by rw [g0];simpa using gb
     exact ⟨ms13,_,g9,g5,λ_=>hM,λj hj=>.back gW c4 (g5.snd _ jh) hj⟩
   exact ⟨D,gl,gp,M,λh=>absurd h c4,λj hj=>.next gW c4 hj⟩
 rintro us ji ⟨gZ,h5,V,h6,h9,jj⟩;refine (zi9 C (e0.t V.ext) hc gI).mono ?_;rintro jk jl ⟨ha,gz⟩;have hd:=V.step ha;have hl2:=zfk c k;have jm:=λ{j:Nat} (hj:j∈zaE c k)=>(zdg hc gI hj).1;generalize hNx:zaE c k=N at *;refine zae u31 gz.is ?_;rw [zaf];refine zar N.length (λq us w'=>∃ (ms':List Bool) (ag':Bool),us=[.int .i64 (q:Int)]/\q<=N.length/\MW w w' gv g ga n ms' ag'/\TP c ms ag' ms' k/\((zap c k).op=4->mkd ms' (eN c (agN c k)))/\(∀ j∈N.take q,mkd ms' j)/\OwnI ji.heap.size jl.heap.size w' jk (zaK N)) 0 (z0 _) ⟨gZ,h5,rfl,z0 _,hd,h6,h9,ss,gz.toI⟩ ?_;rintro q mq u _ _ ⟨gA,he,hu,_,gB,gc,gC,Z,gD⟩;try replace hu:=zbv hu
 rw [hu];refine zah<|br (λhv=>?_) (λhw=>?_)
 case refine_2=>refine zaw ?_;rw [qai oo] at Z;exact ⟨mk-1,oo,k+1,oo,gA,he,rfl,oo,gB,gc.next λ_=>⟨λh4=>⟨gC h4,λ_=>hNx▸Z⟩,λ_=>hNx▸Z⟩⟩
 have hq:q<N.length:=oo;refine zac u31 ty3 (i:=q) gD.is (by rw [zaf];exact hq) λ_ _ hN=>?_;rw [zaY] at hN;refine zad ty3 hN (xrf _) λ_=>?_;have jn:=λx=>zbC hq (x:=x);have hj:=qac hq;have jo:=jm hj;have jp:=jj _ hj;generalize N[q]=j at *;have gE:gA.length=n:=by rw [gc.len,hnn]
 refine zmg (args:=[_]) (caps:=[_,_]) zBj ((zxC (i:=j) gB oo gE).mono ?_);rintro _ _ ⟨rfl,hh,hl⟩;refine zaw ?_;have jq:=V.mks.lt g ss;have hO:=V.agn.lt;refine ⟨mq-1,oo,q+1,oo,_,_,rfl,oo,hh,gc.meet jo jp,λh4=>zfN (gC h4),λi hi=>?_,gD.chgF hl so⟩;rcases (jn i).1 hi with h | h
 . exact zfN (Z i h)
 rw [h];exact (zdc (by rw [gE];omega)).2 (.inr rfl)
abbrev Raw5:=Raw×Raw×Raw×Raw×Raw
def zjg {a b c d e:vL} (ha:a.oneCell'=true) (hb:b.oneCell'=true) (hc:c.oneCell'=true) (hd:d.oneCell'=true) (he:e.oneCell'=true):OwnI lo hi w (.agg #[a,b,c,d,e]) ((⟨a⟩,⟨b⟩,⟨c⟩,⟨d⟩,⟨e⟩):Raw5):=by
 refine ⟨[],⟨⟨[a,b,c,d,e],?_,rfl⟩,qas,Wr.nil _⟩,ss⟩;have r:∀ {v:vL},v.oneCell'=true->rep [] w [v] (⟨v⟩:Raw):=λh=>⟨rfl,rfl,h⟩;exact zaQ (F:=[]) (r ha) (zaQ (F:=[]) (r hb) (zaQ (F:=[]) (r hc) (zaQ (F:=[]) (r hd) (r he))))
def zxD {p:DProg} (h:Is w v p):∃ c0 c1 c2,v=.agg #[c0,c1,c2]/\c0.oneCell'=true/\c1.oneCell'=true/\c2.oneCell'=true:=by
 obtain ⟨_,_,hr,rfl⟩:=h;have C:=Rep.one hr;obtain ⟨_,_,x1,_,rfl,rfl,h1,_,_,x3,x4,rfl,rfl,h2,h3⟩:=hr;have e1:∃ a,x1=[a]:=by obtain ⟨a,cap,Fi,xs,rfl,_⟩:=h1;exact ⟨_,rfl⟩
 have e2:∃ a,x3=[a]:=by obtain ⟨a,cap,Fi,xs,rfl,_⟩:=h2;exact ⟨_,rfl⟩
 have e3:∃ a,x4=[a]:=by obtain ⟨a,cap,Fi,xs,rfl,_⟩:=h3;exact ⟨_,rfl⟩
 obtain ⟨a1,rfl⟩:=e1;obtain ⟨a2,rfl⟩:=e2;obtain ⟨a3,rfl⟩:=e3;exact ⟨a1,a2,a3,rfl,C a1 ss,C a2 ss,C a3 ss⟩
def zj3 {α:Type} [Rep α] (ha:Rep.agg α=false) {lo hi:Nat} {w:wD} {v:vL} {x:α} (h:OwnI lo hi w v x):v.oneCell'=true:=by
 obtain ⟨_,⟨hm,_,_⟩,_⟩:=h;exact Rep.one (zcs ha hm) v ss
def cdQ (p:DProg) (g1:Nat) (w0:wD):ParQ:=λi u T w=>match i with
 | 0=>∃ a,u 11=.slice (some a) 0 0
 | 1=>u 12=.pointer (some ⟨g1,0+0,none⟩)
 | 2=>Is w0 (u 13) p.globals
 | 3=>OwnI (T 3).1 (T 3).2 w (u 14) p.globals
 | 4=>∃ a,u 15=.slice (some a) 0 0
 | 5=>u 16=.pointer (some ⟨g1,0+1,none⟩)
 | 6=>Is w0 (u 17) p.locks
 | 7=>OwnI (T 7).1 (T 7).2 w (u 18) p.locks
 | 8=>u 19=.agg #[u 14,u 18,.slice none 0 0,.slice none 0 0,.slice none 0 0]
 | 9=>∃ g,u 4=.pointer (some ⟨g,0,none⟩)/\(T 9).1<=g/\g<(T 9).2/\Blk g 34 w [.slice none 0 0,.slice none 0 0,.slice none 0 0,.slice none 0 0,.slice none 0 0]
 | _=>True
structure CdS (W:wD) (p:DProg) (gk ge bs x2 l3 h3 l7 h7:Nat) (v14 v18 vp ve:vL) (N:List ByteArray) (E:List Int) (L:List DIns) (Fp Fe Fi:List Nat) (w:wD):Prop where
 bk:Blk gk 34 w [v14,v18,vp,ve,.slice none 0 0]
 g:OwnI l3 h3 w v14 p.globals
 l:OwnI l7 h7 w v18 p.locks
 n:RowG Fp 9 w vp N
 e:RowG Fe 3 w ve E
 nn:Fp.Nodup
 en:Fe.Nodup
 em:EmF W ge p L Fi w
 x:Blk x2 34 w [.slice none 0 0,.slice none 0 0,.slice none 0 0,.slice none 0 0,.slice none 0 0]
 dpe:∀ c∈Fp,c∉Fe
 dpi:∀ c∈Fp,c∉Fi
 dei:∀ c∈Fe,c∉Fi
 bp:∀ c∈Fp,bs<=c
 be:∀ c∈Fe,bs<=c
 bi:∀ c∈Fi,bs<=c
section
variable {W:wD} {p:DProg} {gk ge bs x2 l3 h3 l7 h7:Nat} {v14 v18 vp ve:vL} {N:List ByteArray} {E:List Int} {L:List DIns} {Fp Fe Fi:List Nat} {w w':wD}
def zdu {α:Type} [Rep α] {lo hi:Nat} {v:vL} {x:α} {S:List Nat} (h:OwnI lo hi w v x) (hc:Chg S w w') (hd:∀ c∈S,c<lo\/hi<=c):OwnI lo hi w' v x:=by
 obtain ⟨F,hm,hF⟩:=h;exact ⟨F,hm.keep λc g0=>hc.block c (hm.lt c g0) λhs=>by have:=hF c g0;have:=hd c hs;omega,hF⟩
def CdS.ext (h:CdS W p gk ge bs x2 l3 h3 l7 h7 v14 v18 vp ve N E L Fp Fe Fi w) (hx:Ext w w'):CdS W p gk ge bs x2 l3 h3 l7 h7 v14 v18 vp ve N E L Fp Fe Fi w':=
 ⟨h.bk.ext hx,h.g.ext hx,h.l.ext hx,h.n.keep λc hc=>hx.heap (h.n.lt c hc),h.e.keep λc hc=>hx.heap (h.e.lt c hc),h.nn,h.en,h.em.ext hx,h.x.ext hx,h.dpe,h.dpi,h.dei,h.bp,h.be,h.bi⟩
variable (ho:gk<bs/\ge<bs/\gk≠ge/\x2<bs/\x2≠gk/\x2≠ge/\h3<=bs/\h7<=bs/\(gk<l3\/h3<=gk)/\(gk<l7\/h7<=gk)/\(ge<l3\/h3<=ge)/\(ge<l7\/h7<=ge)/\W.heap.size<=gk/\W.heap.size<=ge)
include ho
def CdS.names (h:CdS W p gk ge bs x2 l3 h3 l7 h7 v14 v18 vp ve N E L Fp Fe Fi w) {vp':vL} {N':List ByteArray} {Fp':List Nat} (hc:Chg (gk :: Fp) w w') (hB:Blk gk 34 w' [v14,v18,vp',ve,.slice none 0 0])
   (hR:RowG Fp' 9 w' vp' N') (hn:Fp'.Nodup) (hs:∀ c∈Fp',c∈Fp\/w.heap.size<=c) (hb:bs<=w.heap.size):CdS W p gk ge bs x2 l3 h3 l7 h7 v14 v18 vp' ve N' E L Fp' Fe Fi w':=by
 have g0:=h.em.lt
 have hS:∀ c∈gk :: Fp,c=gk\/bs<=c:=λc hc=>by
   rcases qaa.1 hc with e | hc
   . exact .inl e
   exact .inr (h.bp c hc)
 refine ⟨hB,zdu h.g hc λc C=>by have:=hS c C;omega,zdu h.l hc λc C=>by have:=hS c C;omega,hR,h.e.keep λc C=>hc.block c (h.e.lt c C) λhm=>?_,hn,h.en,h.em.keep (λc C=>hc.block c ?_ λhm=>?_) (h.em.old.chgL hc λc C=>?_),h.x.chg hc λhm=>?_,λc C g1=>?_,λc C g2=>?_,h.dei,λc C=>?_,h.be,h.bi⟩
 . rcases qaa.1 hm with e | hm
   . have:=h.be c C;omega
   exact h.dpe c hm C
 . rcases qaa.1 C with rfl | C
   . exact g0.1
   exact g0.2.1 c C
 . rcases qaa.1 C with _ | C
   . rcases qaa.1 hm with e | hm
     . omega
     have:=h.bp c hm;omega
   rcases qaa.1 hm with e | hm
   . have:=h.bi c C;omega
   exact h.dpi c hm C
 . rcases qaa.1 C with e | C
   . omega
   have:=h.bp c C;omega
 . have:=hS _ hm;omega
 . rcases hs c C with k | k
   . exact h.dpe c k g1
   have:=h.e.lt c g1;omega
 . rcases hs c C with k | k
   . exact h.dpi c k g2
   have:=g0.2.1 c g2;omega
 rcases hs c C with k | k
 . exact h.bp c k
 omega
def CdS.ents (h:CdS W p gk ge bs x2 l3 h3 l7 h7 v14 v18 vp ve N E L Fp Fe Fi w) {ve':vL} {E':List Int} {Fe':List Nat} (hc:Chg (gk :: Fe) w w') (hB:Blk gk 34 w' [v14,v18,vp,ve',.slice none 0 0])
   (hR:RowG Fe' 3 w' ve' E') (hn:Fe'.Nodup) (hs:∀ c∈Fe',c∈Fe\/w.heap.size<=c) (hb:bs<=w.heap.size):CdS W p gk ge bs x2 l3 h3 l7 h7 v14 v18 vp ve' N E' L Fp Fe' Fi w':=by
 have g0:=h.em.lt
 have hS:∀ c∈gk :: Fe,c=gk\/bs<=c:=λc hc=>by
   rcases qaa.1 hc with e | hc
   . exact .inl e
   exact .inr (h.be c hc)
 refine ⟨hB,zdu h.g hc λc C=>by have:=hS c C;omega,zdu h.l hc λc C=>by have:=hS c C;omega,h.n.keep λc C=>hc.block c (h.n.lt c C) λhm=>?_,hR,h.nn,hn,h.em.keep (λc C=>hc.block c ?_ λhm=>?_) (h.em.old.chgL hc λc C=>?_),h.x.chg hc λhm=>?_,λc C g2=>?_,h.dpi,λc C g1=>?_,h.bp,λc C=>?_,h.bi⟩
 . rcases qaa.1 hm with e | hm
   . have:=h.bp c C;omega
   exact h.dpe c C hm
 . rcases qaa.1 C with rfl | C
   . exact g0.1
   exact g0.2.1 c C
 . rcases qaa.1 C with _ | C
   . rcases qaa.1 hm with e | hm
     . omega
     have:=h.be c hm;omega
   rcases qaa.1 hm with e | hm
   . have:=h.bi c C;omega
   exact h.dei c hm C
 . rcases qaa.1 C with e | C
   . omega
   have:=h.be c C;omega
 . have:=hS _ hm;omega
 . rcases hs c g2 with k | k
   . exact h.dpe c C k
   have:=h.n.lt c C;omega
 . rcases hs c C with k | k
   . exact h.dei c k g1
   have:=g0.2.1 c g1;omega
 rcases hs c C with k | k
 . exact h.be c k
 omega
def CdS.ems (h:CdS W p gk ge bs x2 l3 h3 l7 h7 v14 v18 vp ve N E L Fp Fe Fi w) {L':List DIns} {g1:List Nat} (hc:Chg (ge :: Fi) w w') (hE:EmF W ge p L' g1 w') (hs:∀ c∈g1,c∈Fi\/w.heap.size<=c) (hb:bs<=w.heap.size) :
   CdS W p gk ge bs x2 l3 h3 l7 h7 v14 v18 vp ve N E L' Fp Fe g1 w':=by
 have hS:∀ c∈ge :: Fi,c=ge\/bs<=c:=λc hc=>by
   rcases qaa.1 hc with e | hc
   . exact .inl e
   exact .inr (h.bi c hc)
 refine ⟨h.bk.chg hc λhm=>?_,zdu h.g hc λc C=>by have:=hS c C;omega,zdu h.l hc λc C=>by have:=hS c C;omega,h.n.keep λc C=>hc.block c (h.n.lt c C) λhm=>?_,h.e.keep λc C=>hc.block c (h.e.lt c C) λhm=>?_,h.nn,h.en,hE,h.x.chg hc λhm=>?_,h.dpe,λc C g0=>?_,λc C g0=>?_,h.bp,h.be,λc C=>?_⟩
 . have:=hS _ hm;omega
 . rcases qaa.1 hm with e | hm
   . have:=h.bp c C;omega
   exact h.dpi c C hm
 . rcases qaa.1 hm with e | hm
   . have:=h.be c C;omega
   exact h.dei c C hm
 . have:=hS _ hm;omega
 . rcases hs c g0 with k | k
   . exact h.dpi c C k
   have:=h.n.lt c C;omega
 . rcases hs c g0 with k | k
   . exact h.dei c C k
   have:=h.e.lt c C;omega
 rcases hs c C with k | k
 . exact h.bi c k
 omega
end
def ztE {G L P:List ByteArray} {l:List DProc} (hk:k<l.length) (a:Nat):emP G L P (l.drop k) a=emL G L P l[k].body a++(zA3 :: emP G L P (l.drop (k+1)) (a+(emL G L P l[k].body a).length+1)):=by
 rw [qax hk,emP]
def zqv {G L P:List ByteArray} {l:List DProc} (hk:k<l.length) (a:Nat):zmV G L P (l.drop k) a=(a:Int) :: zmV G L P (l.drop (k+1)) (a+(emL G L P l[k].body a).length+1):=by
 rw [qax hk,zmV]
def zhr {α:Type} [Rep α] {e:TypeId} {F:List Nat} {w:wD} {v:vL} {l:List α} (h:RowG F e w v l) (hn:F.Nodup):Mine F w v l:=⟨h.own,hn,h.wr⟩
end Go.Proofs.YtkgiigmcbgifdaaGreatDoor
