/-
  Parts of the proof, put together by program.
-/
import Derived.Test.YtcnglfeoglgebaaGreatPFnTop5
set_option maxRecDepth 20000
set_option linter.defProp false
set_option linter.unusedVariables false
set_option linter.unusedSimpArgs false
set_option linter.unusedSectionVars false
namespace Go.Proofs.YtcnglfeoglgebaaGreat
open Go Go.Sh Go.Proofs
open Rep (rep)
variable {F G out:List Nat} {K:Value->Prop} {P:Program} {W0 W1 w:World} {ag:Bool} {b h i j k l m n o p q r:Nat} {c:DCode} {op:Int} {v0 v1:Value}
def FromP (c:DCode) (p q:Nat):Prop:=q=p\/RP (zml c) p q
def FromP.lt (hp:p<c.procs.length) (h:FromP c p q):q<c.procs.length:=by
 rcases h with rfl | h
 . exact hp
 exact h.keeps (p:=λi=>i<c.procs.length) hp λi j _ hj=>(zaH.1 hj).1
def FromP.trans (h:FromP c p q) (k:FromP c q r):FromP c p r:=by
 rcases h with rfl | h
 . exact k
 rcases k with rfl | k
 . exact .inr h
 exact .inr (h.trans k)
def FromP.call (h:FromP c p q) (hr:r<c.procs.length) (k:zk0 c q 4 r):FromP c p r:=h.trans (.inr (.one (zaH.2 ⟨hr,k⟩)))
noncomputable def zd5 (c:DCode) (p:Nat):Nat:=m6 λl=>¬ ∃ q i,q<c.procs.length/\FromP c p q/\zaN c q i/\(zam c i).op=7/\agN c i=l
inductive LostE (c:DCode):Nat->Nat->Nat->Prop
 | ent {p l:Nat}:LostE c p (eN c p) l
 | unl {p i j l:Nat} (h0:zaN c p i) (hj:j∈zaA c i) (ho:(zam c i).op=7) (ha:agN c i=l):LostE c p j l
 | cal {p i j l:Nat} (h0:zaN c p i) (hj:j∈zaA c i) (ho:(zam c i).op=4) (hk:(zd5 c (agN c i)).testBit l=false) (h1:LostE c (agN c i) (zN c (agN c i)) l):LostE c p j l
 | bck {p i j l:Nat} (h0:zaN c p i) (hj:j∈zaA c i) (ho:(zam c i).op=4) (h2:LostE c p i l) (h1:LostE c (agN c i) (zN c (agN c i)) l):LostE c p j l
 | pass {p i j l:Nat} (h0:zaN c p i) (hj:j∈zaA c i) (h6:¬((zam c i).op=6/\agN c i=l)) (h4:¬(zam c i).op=4) (h1:LostE c p i l):LostE c p j l
noncomputable def zdk (c:DCode):Tab:=(List.range c.procs.length).map λp=>(zd5 c p,m6 λl=>¬LostE c p (zN c p) l)
def zpi (c:DCode):(zdk c).length=c.procs.length:=by simp [zdk]
def zpj (hp:p<c.procs.length):tbl (zdk c) p=(zd5 c p,m6 λl=>¬LostE c p (zN c p) l):=by
 rw [<-zj9 (by rw [zpi];exact hp)];simp [zdk]
def zx5 {T:Tab} (hl:T.length=c.procs.length) (h:∀ q,q<c.procs.length->(tbl T q).1<64/\(tbl T q).2<64):zx4 c T:=⟨hl,λq=>by
 rcases qaA q c.procs.length with hq | hq
 . exact h q hq
 unfold tbl;rw [List.getD_eq_getElem?_getD,List.getElem?_eq_none oo];simp⟩
def zhU (c:DCode):zx4 c (zdk c):=zx5 (zpi c) λq hq=>by rw [zpj hq];exact ⟨zmm,zmm⟩
noncomputable def zeC (c:DCode) (T:Tab) (p:Nat):Nat:=zay (zcI c T p 0) (zN c p)
def zjl (hc:CodeR c) {T:Tab} {p l:Nat} (hp:p<c.procs.length) (hl:l<6):(zeC c T p).testBit l=false↔LostP c (tK T) (tG T) p (λl=>(0:Nat).testBit l=true) (zN c p) l:=by
 have hz:=(zng hc (p:=p) (by rw [hc.2.1.1];exact hp)).2.2;unfold zeC;rw [zji hz];constructor
 . intro h
   refine qaV λhn=>?_;rw [zgj.2 ⟨hl,hn⟩] at h;cases h
 intro h;cases e:(m6 λl=>¬LostP c (tK T) (tG T) p (λl=>(0:Nat).testBit l=true) (zN c p) l).testBit l
 . rfl
 exact absurd h (zgj.1 e).2
def zli (hc:CodeR c) {T:Tab} {p:Nat} (hp:p<c.procs.length):zeC c T p<64:=by
 have hz:=(zng hc (p:=p) (by rw [hc.2.1.1];exact hp)).2.2;unfold zeC;rw [zji hz];exact zmm
structure EI (c:DCode) (T:Tab):Prop where
 tab:zx4 c T
 keep:∀ p,p<c.procs.length->(tbl T p).1=zd5 c p
 snd:∀ p l,p<c.procs.length->l<6->(tbl T p).2.testBit l=false->LostE c p (zN c p) l
 desc:∀ p l,p<c.procs.length->l<6->(tbl T p).2.testBit l=false->(zeC c T p).testBit l=false
theorem EI.lost (hc:CodeR c) {T:Tab} (h:EI c T) {p i l:Nat} (hp:p<c.procs.length) (hl:l<6) (k:LostP c (tK T) (tG T) p (λl=>(0:Nat).testBit l=true) i l):LostE c p i l:=by
 have he:=hc.2.1.1
 induction k with
 | ent _=>exact .ent
 | gen h0 hj h1=>
   have hi:=(zbV hc (by rw [he];exact hp) h0).1;rcases h1 with ⟨h1,h2⟩ | ⟨h1,h2,h3⟩
   . exact .unl h0 hj h1 h2
   have hq:=(zby hc hi (.inl h1)).2;refine .cal h0 hj h1 ?_ (h.snd _ _ hq hl (by unfold tG at h3;simpa using h3));unfold tK at h2;rw [h.keep _ hq] at h2;simpa using h2
 | @pass i j l h0 hj _ h2 ih=>
   have hi:=(zbV hc (by rw [he];exact hp) h0).1;by_cases h4:(zam c i).op=4
   . have hq:=(zby hc hi (.inl h4)).2
     refine .bck h0 hj h4 (ih hl) (h.snd _ _ hq hl ?_);have:=h2.2;unfold tG at this;simpa [h4] using this
   exact .pass h0 hj h2.1 h4 (ih hl)
def EI.start (c:DCode) (hc:CodeR c):EI c ((List.range c.procs.length).map λp=>(zd5 c p,63)):=by
 have hl:((List.range c.procs.length).map λp=>(zd5 c p,63)).length=c.procs.length:=by simp
 have g0:∀ p,p<c.procs.length->tbl ((List.range c.procs.length).map λp=>(zd5 c p,63)) p=(zd5 c p,63):=λp hp=>by
   rw [<-zj9 (by rw [hl];exact hp)];simp
 refine ⟨zx5 hl λq hq=>by rw [g0 q hq];exact ⟨zmm,oo⟩,λp hp=>by rw [g0 p hp],λp l hp h6 hb=>?_,λp l hp h6 hb=>?_⟩
 . rw [g0 p hp,zjk h6] at hb;cases hb
 rw [g0 p hp,zjk h6] at hb;cases hb
def EI.upd (hc:CodeR c) {T:Tab} (h:EI c T) {p:Nat} (hp:p<c.procs.length):EI c (T.set p ((tbl T p).1,zeC c T p)):=by
 have g0:p<T.length:=by rw [h.tab.1];exact hp
 have D:=λr=>zC0 (T:=T) (q:=p) (r:=r) (v:=((tbl T p).1,zeC c T p)) g0
 have g1:∀ q l,l<6->(tbl T q).2.testBit l=false->(tbl (T.set p ((tbl T p).1,zeC c T p)) q).2.testBit l=false:=λq l hl hb=>by
   rw [D];split
   . rename_i e;subst e;exact h.desc p l hp hl hb
   exact hb
 have C:∀ {q l:Nat},q<c.procs.length->l<6->(zeC c T q).testBit l=false->(zeC c (T.set p ((tbl T p).1,zeC c T p)) q).testBit l=false:=λ{q l} hq hl hb=>by
   rw [zjl hc hq hl] at hb ⊢
   have g2:∀ {i l:Nat},l<6->LostP c (tK T) (tG T) q (λl=>(0:Nat).testBit l=true) i l->LostP c (tK (T.set p ((tbl T p).1,zeC c T p))) (tG (T.set p ((tbl T p).1,zeC c T p))) q (λl=>(0:Nat).testBit l=true) i l:=λ{i l} hl k=>by
     have hK:∀ r l,tK (T.set p ((tbl T p).1,zeC c T p)) r l↔tK T r l:=λr l=>by
       unfold tK;rw [D];split
       . rename_i e;rw [<-e]
       exact Iff.rfl
     have hG:∀ r,tG (T.set p ((tbl T p).1,zeC c T p)) r l->tG T r l:=λr e=>by
       unfold tG at e ⊢;refine zgk λhf=>?_;rw [g1 r l hl hf] at e;cases e
     clear hb
     induction k with
     | ent h0=>exact .ent h0
     | gen h0 hj h1=>exact .gen h0 hj (h1.imp id λ⟨a,b,d⟩=>⟨a,λe=>b ((hK _ _).1 e),λe=>d (hG _ e)⟩)
     | pass h0 hj _ h2 ih=>exact .pass h0 hj (ih hl hG) ⟨h2.1,λ⟨a,b⟩=>h2.2 ⟨a,hG _ b⟩⟩
   exact g2 hl hb
 refine ⟨⟨by simp [h.tab.1],λq=>?_⟩,λq hq=>?_,λq l hq hl hb=>?_,λq l hq hl hb=>?_⟩
 . rw [D]
   split
   . exact ⟨(h.tab.2 p).1,zli hc hp⟩
   exact h.tab.2 q
 . rw [D]
   split
   . rename_i e;subst e;exact h.keep p hp
   exact h.keep q hq
 . rw [D] at hb
   split at hb
   . rename_i e;subst e
     exact h.lost hc hp hl ((zjl hc hp hl).1 hb)
   exact h.snd q l hq hl hb
 rw [D] at hb;split at hb
 . rename_i e;subst e
   exact C hp hl hb
 exact C hq hl (h.desc q l hq hl hb)
def EI.le (hc:CodeR c) {T:Tab} (h:EI c T) {p:Nat} (hp:p<c.procs.length):zeC c T p<=(tbl T p).2:=by
 refine Nat.le_of_testBit λl hb=>?_;have hl:=zgS (zli hc hp) hb;refine zgk λhf=>?_;rw [h.desc p l hp hl hf] at hb;cases hb
def EI.fin (hc:CodeR c) {T:Tab} (h:EI c T) (hs:∀ p,p<c.procs.length->zeC c T p=(tbl T p).2):T=zdk c:=by
 refine qaO (by rw [h.tab.1,zpi]) λp h1 h2=>?_;have hp:p<c.procs.length:=by rw [<-h.tab.1];exact h1
 rw [zj9 h1,zj9 h2,zpj hp]
 have g0:∀ {p i l:Nat},LostE c p i l->p<c.procs.length->l<6->LostP c (tK T) (tG T) p (λl=>(0:Nat).testBit l=true) i l:=λ{p i l} k=>by
   have hz:∀ {i l:Nat},(zam c i).op=4->i<c.ins.length->l<6->(agN c i<c.procs.length->l<6->LostP c (tK T) (tG T) (agN c i) (λl=>(0:Nat).testBit l=true) (zN c (agN c i)) l)->¬tG T (agN c i) l:=λ{i l} ho hi hl k1=>by
     have hq:=(zby hc hi (.inl ho)).2;have:=(zjl hc hq hl).2 (k1 hq hl);rw [hs _ hq] at this;unfold tG;rw [this];simp
   induction k with
   | ent=>exact λ_ _=>.ent sS
   | unl h0 hj ho ha=>exact λ_ _=>.gen h0 hj (.inl ⟨ho,ha⟩)
   | cal h0 hj ho hk _ ih=>
     intro hp hl;have hi:=(zbV hc (by rw [hc.2.1.1];exact hp) h0).1;have hq:=(zby hc hi (.inl ho)).2;refine .gen h0 hj (.inr ⟨ho,?_,hz ho hi hl ih⟩);unfold tK;rw [h.keep _ hq,hk];simp
   | bck h0 hj ho _ _ ih2 ih1=>
     intro hp hl;have hi:=(zbV hc (by rw [hc.2.1.1];exact hp) h0).1;exact .pass h0 hj (ih2 hp hl) ⟨λh=>oo,λh=>hz ho hi hl ih1 h.2⟩
   | pass h0 hj h6 h4 _ ih=>exact λhp hl=>.pass h0 hj (ih hp hl) ⟨h6,λh=>h4 h.1⟩
 refine Prod.ext (h.keep p hp) (zx1 (h.tab.2 p).2 λl hl=>⟨λhb hn=>?_,λhn=>zgk λhb=>hn (h.snd p l hp hl hb)⟩);have:=(zjl hc hp hl).2 (g0 hn hp hl);rw [hs p hp] at this;rw [this] at hb;cases hb
def zx6 (T:Tab):Nat:=(T.map (·.2)).sum
def zz8 {T:Tab} {v:Nat×Nat} (hp:p<T.length):zx6 (T.set p v)+(tbl T p).2=zx6 T+v.2:=by
 unfold zx6;rw [qcg];have:=zj8 (l:=T.map (·.2)) (i:=p) (v:=v.2) (by simpa using hp);rw [<-zbl (by simpa using hp)] at this;rw [<-zj9 hp];simpa using this
def zcm (c:DCode):Nat:=(plc zh6 c.procs).toNat
inductive RootP (c:DCode):Nat->Prop
 | main:RootP c (zcm c)
 | spawn {r p q:Nat} (h0:RootP c r) (h1:FromP c r p) (h2:zk0 c p 5 q) (hq:q<c.procs.length):RootP c q
def UsedP (c:DCode) (p:Nat):Prop:=∃ r,RootP c r/\FromP c r p
def ze2 (hc:CodeR c):plc zh6 c.procs=(zcm c:Int)/\zcm c<c.procs.length:=by
 have h:=zsq hc;have h2:=hc.2.1.1;unfold zcm;omega
theorem RootP.lt (hc:CodeR c) {r:Nat} (h:RootP c r):r<c.procs.length:=by
 cases h with
 | main=>exact (ze2 hc).2
 | spawn _ _ _ hq=>exact hq
def UsedP.lt (hc:CodeR c) {p:Nat} (h:UsedP c p):p<c.procs.length:=by
 obtain ⟨r,h1,h2⟩:=h;exact h2.lt (h1.lt hc)
def RootP.used (h:RootP c r):UsedP c r:=⟨r,h,.inl rfl⟩
def UsedP.call (h:UsedP c p) (hq:q<c.procs.length) (k:zk0 c p 4 q):UsedP c q:=by
 obtain ⟨r,h1,h2⟩:=h;exact ⟨r,h1,h2.call hq k⟩
inductive LostM (c:DCode) (K G:Nat->Nat->Prop):Nat->Option Nat->Nat->Prop
 | root {p l:Nat} (h:RootP c p):LostM c K G p none l
 | call {p i l:Nat} (hu:UsedP c p) (h0:zaN c p i) (ho:(zam c i).op=4) (h:LostM c K G p (some i) l):LostM c K G (agN c i) none l
 | ent {p l:Nat} (h:LostM c K G p none l):LostM c K G p (some (eN c p)) l
 | gen {p i j l:Nat} (h0:zaN c p i) (hj:j∈zaA c i) (h1:zEv c K G i l):LostM c K G p (some j) l
 | pass {p i j l:Nat} (h0:zaN c p i) (hj:j∈zaA c i) (h1:LostM c K G p (some i) l) (h2:zx3 c G i l):LostM c K G p (some j) l
noncomputable def zqQ (c:DCode) (p:Nat):Nat:=m6 λl=>¬LostM c (tK (zdk c)) (tG (zdk c)) p none l
noncomputable def zC1 (c:DCode):List Nat:=(List.range c.procs.length).map (zqQ c)
def zlj (c:DCode):(zC1 c).length=c.procs.length:=by simp [zC1]
def zsy (hp:p<c.procs.length):zay (zC1 c) p=zqQ c p:=by rw [<-zbl (by rw [zlj];exact hp)];simp [zC1]
structure BI (c:DCode) (out:List Nat):Prop where
 len:out.length=c.procs.length
 lt:∀ x∈out,x<64
 snd:∀ p l,p<c.procs.length->l<6->(zay out p).testBit l=false->LostM c (tK (zdk c)) (tG (zdk c)) p none l
 root:∀ p l,RootP c p->l<6->(zay out p).testBit l=false
def BI.lt0 (h:BI c out) (i:Nat):zay out i<64:=by
 rcases qaA i out.length with hi | hi
 . exact h.lt _ (zpg hi)
 unfold zay;rw [List.getD_eq_getElem?_getD,List.getElem?_eq_none hi];simp
def zpk {T:Tab} (hi:i<c.ins.length) (hl:l<6):(zay (zcI c T p h) i).testBit l=false↔LostP c (tK T) (tG T) p (λl=>h.testBit l=true) i l:=by
 rw [zji hi];constructor
 . intro h
   refine qaV λhn=>?_;rw [zgj.2 ⟨hl,hn⟩] at h;cases h
 intro k;cases e:(m6 λl=>¬LostP c (tK T) (tG T) p (λl=>h.testBit l=true) i l).testBit l
 . rfl
 exact absurd k (zgj.1 e).2
def BI.start (hc:CodeR c) (out:List Nat) (hl:out.length=c.procs.length) (h:∀ p,p<c.procs.length->(RootP c p->zay out p=0)/\(¬RootP c p->zay out p=63)):BI c out:=by
 refine ⟨hl,λx hx=>?_,λp l hp h6 hb=>?_,λp l hr h6=>?_⟩
 . obtain ⟨i,hi,rfl⟩:=qcd hx
   rw [zbl hi];have:=h i oo;by_cases hr:RootP c i
   . rw [this.1 hr];omega
   rw [this.2 hr];omega
 . by_cases hr:RootP c p
   . exact .root hr
   rw [(h p hp).2 hr,zjk h6] at hb;cases hb
 rw [(h p (hr.lt hc)).1 hr];simp
theorem BI.lost (h:BI c out) {p i l:Nat} (hp:p<c.procs.length) (hl:l<6) (k:LostP c (tK (zdk c)) (tG (zdk c)) p (λl=>(zay out p).testBit l=true) i l):LostM c (tK (zdk c)) (tG (zdk c)) p (some i) l:=by
 induction k with
 | ent h0=>exact .ent (h.snd p _ hp hl (by simpa using h0))
 | gen h0 hj h1=>exact .gen h0 hj h1
 | pass h0 hj _ h2 ih=>exact .pass h0 hj (ih hl) h2
def BI.upd (hc:CodeR c) {out:List Nat} (h:BI c out) {p i:Nat} (hu:UsedP c p) (hi:zaN c p i) (ho:(zam c i).op=4) :
   BI c (out.set (agN c i) (zay out (agN c i) &&& zay (zcI c (zdk c) p (zay out p)) i)):=by
 have hp:=hu.lt hc;have g0:=(zbV hc (by rw [hc.2.1.1];exact hp) hi).1;have hq:=(zby hc g0 (.inl ho)).2;refine ⟨by simp [h.len],λx hx=>?_,λr l hr hl hb=>?_,λr l hr hl=>?_⟩
 . rcases zdq hx with rfl | hx
   . exact qaF qaX (h.lt0 _)
   exact h.lt x hx
 . rw [zb9 (by rw [h.len];exact hq)] at hb
   split at hb
   . rename_i e
     subst e;rw [qaP,qbE] at hb;rcases hb with hb | hb
     . exact h.snd _ l hr hl hb
     refine .call hu hi ho<|h.lost hp hl ((zpk g0 hl).1 hb)
   exact h.snd r l hr hl hb
 rw [zb9 (by rw [h.len];exact hq)];split
 . rename_i e
   rw [qaP,e,h.root r l hr hl];rfl
 exact h.root r l hr hl
def BI.fin (hc:CodeR c) {out:List Nat} (h:BI c out) (hs:∀ p i,UsedP c p->zaN c p i->(zam c i).op=4->zay out (agN c i) &&& zay (zcI c (zdk c) p (zay out p)) i=zay out (agN c i)):out=zC1 c:=by
 refine qaO (by rw [h.len,zlj]) λp h1 h2=>?_;have hp:p<c.procs.length:=by rw [<-h.len];exact h1
 rw [zbl h1,zbl h2,zsy hp]
 have g0:∀ {p:Nat} {o:Option Nat} {l:Nat},LostM c (tK (zdk c)) (tG (zdk c)) p o l->l<6->match o with
     | none=>(zay out p).testBit l=false
     | some i=>LostP c (tK (zdk c)) (tG (zdk c)) p (λl=>(zay out p).testBit l=true) i l:=λ{p o l} k=>by
   induction k with
   | root hr=>exact λhl=>h.root _ _ hr hl
   | @call p i l hu h0 ho _ ih=>
     intro hl;have g1:=(zbV hc (by rw [hc.2.1.1];exact hu.lt hc) h0).1;simp only;rw [<-hs p i hu h0 ho,qaP,(zpk g1 hl).2 (ih hl),qbl]
   | ent _ ih=>exact λhl=>.ent (by have:=ih hl;simp only at this;rw [this];simp)
   | gen h0 hj h1=>exact λhl=>.gen h0 hj h1
   | pass h0 hj _ h2 ih=>exact λhl=>.pass h0 hj (ih hl) h2
 refine zx1 (h.lt0 p) λl hl=>⟨λhb hn=>?_,λhn=>zgk λhb=>hn (h.snd p l hp hl hb)⟩;have:=g0 hn hl;simp only at this;rw [this] at hb;cases hb
noncomputable def zgl (c:DCode) (i:Nat):Nat:=@ite _ (UsedP c (zas c i).toNat) (Classical.propDecidable _) (zay (zcI c (zdk c) (zas c i).toNat (zqQ c (zas c i).toNat)) i) 63
noncomputable def zeD (c:DCode):List Nat:=(List.range c.ins.length).map (zgl c)
def zhq (c:DCode):(zeD c).length=c.ins.length:=by simp [zeD]
def zt7 (hi:i<c.ins.length):zay (zeD c) i=zgl c i:=by rw [<-zbl (by rw [zhq];exact hi)];simp [zeD]
def zcZ {l:List Nat} (h:∀ x∈l,x<64) (i:Nat):zay l i<64:=by
 rcases qaA i l.length with hi | hi
 . exact h _ (zpg hi)
 unfold zay;rw [List.getD_eq_getElem?_getD,List.getElem?_eq_none hi];simp
def zx7 (c:DCode) (i:Nat):zgl c i<64:=by
 unfold zgl;split
 . exact zcZ zjj i
 omega
def zhV (c:DCode):∀ x∈zeD c,x<64:=λx hx=>by
 obtain ⟨i,_,rfl⟩:=qaZ.1 hx;exact zx7 c i
def ziw (hp:zas c i=p) (hu:UsedP c p):zgl c i=zay (zcI c (zdk c) p (zqQ c p)) i:=by
 unfold zgl;rw [hp,qah,if_pos hu]
def znW (hp:zas c i=p) (hu:¬UsedP c p):zgl c i=63:=by
 unfold zgl;rw [hp,qah,if_neg hu]
inductive MetP (c:DCode):Nat->Prop
 | root {p:Nat} (h:RootP c p):MetP c (eN c p)
 | call {i:Nat} (h:MetP c i) (ho:(zam c i).op=4):MetP c (eN c (agN c i))
 | next {i j:Nat} (h:MetP c i) (ho:¬(zam c i).op=4) (hj:j∈zaA c i):MetP c j
 | back {i j:Nat} (h:MetP c i) (ho:(zam c i).op=4) (hz:MetP c (zN c (agN c i))) (hj:j∈zaA c i):MetP c j
theorem MetP.lt (hc:CodeR c) {i:Nat} (h:MetP c i):i<c.ins.length:=by
 induction h with
 | root h=>exact (zfU hc (by rw [hc.2.1.1];exact h.lt hc)).2.1
 | call _ ho ih=>exact (zfU hc (by rw [hc.2.1.1];exact (zby hc ih (.inl ho)).2)).2.1
 | next _ _ hj ih=>exact (zcX hc ih hj).1
 | back _ _ _ hj ih _=>exact (zcX hc ih hj).1
inductive MayP (c:DCode):Nat->Nat->Prop
 | lock {i j l:Nat} (h:MetP c i) (ho:(zam c i).op=6) (ha:agN c i=l) (hj:j∈zaA c i):MayP c j l
 | pass {i j l:Nat} (h:MetP c i) (ho:¬(zam c i).op=4) (ha:¬((zam c i).op=7/\agN c i=l)) (hm:MayP c i l) (hj:j∈zaA c i):MayP c j l
 | call {i l:Nat} (h:MetP c i) (ho:(zam c i).op=4) (hm:MayP c i l):MayP c (eN c (agN c i)) l
 | back {i j l:Nat} (h:MetP c i) (ho:(zam c i).op=4) (hz:MetP c (zN c (agN c i))) (hm:MayP c (zN c (agN c i)) l) (hj:j∈zaA c i):MayP c j l
noncomputable def zg9 (c:DCode):List Bool:=zbZ c.ins.length (MetP c)
noncomputable def zpl (c:DCode):List Nat:=(List.range c.ins.length).map λi=>m6 (MayP c i)
def zjm (c:DCode):(zpl c).length=c.ins.length:=by simp [zpl]
def zpm (hi:i<c.ins.length):zay (zpl c) i=m6 (MayP c i):=by rw [<-zbl (by rw [zjm];exact hi)];simp [zpl]
def zsz (c:DCode):∀ x∈zpl c,x<64:=λx hx=>by
 obtain ⟨i,_,rfl⟩:=qaZ.1 hx;exact zmm
structure MetC (c:DCode) (M:Nat->Prop):Prop where
 root:∀ p,RootP c p->M (eN c p)
 call:∀ i,M i->(zam c i).op=4->M (eN c (agN c i))
 next:∀ i j,M i->¬(zam c i).op=4->j∈zaA c i->M j
 back:∀ i j,M i->(zam c i).op=4->M (zN c (agN c i))->j∈zaA c i->M j
theorem MetC.all {M:Nat->Prop} (h:MetC c M) {i:Nat} (k:MetP c i):M i:=by
 induction k with
 | root h1=>exact h.root _ h1
 | call _ ho ih=>exact h.call _ ih ho
 | next _ ho hj ih=>exact h.next _ _ ih ho hj
 | back _ ho _ hj ih1 ih2=>exact h.back _ _ ih1 ho ih2 hj
structure MayC (c:DCode) (H:Nat->Nat->Prop):Prop where
 lock:∀ i j,MetP c i->(zam c i).op=6->j∈zaA c i->H j (agN c i)
 pass:∀ i j l,MetP c i->l<6->¬(zam c i).op=4->¬((zam c i).op=7/\agN c i=l)->H i l->j∈zaA c i->H j l
 call:∀ i l,MetP c i->l<6->(zam c i).op=4->H i l->H (eN c (agN c i)) l
 back:∀ i j l,MetP c i->l<6->(zam c i).op=4->MetP c (zN c (agN c i))->H (zN c (agN c i)) l->j∈zaA c i->H j l
theorem MayC.all {H:Nat->Nat->Prop} (h:MayC c H) {i l:Nat} (hl:l<6) (k:MayP c i l):H i l:=by
 induction k with
 | lock hm ho ha hj=>exact ha▸h.lock _ _ hm ho hj
 | pass hm ho ha _ hj ih=>exact h.pass _ _ _ hm hl ho ha (ih hl) hj
 | call hm ho _ ih=>exact h.call _ _ hm hl ho (ih hl)
 | back hm ho hz _ hj ih=>exact h.back _ _ _ hm hl ho hz (ih hl) hj
structure DEffect where
 keep:Int
 gen:Int
def DEffect.ext_iff {x y:DEffect}:x=y↔(x.keep=y.keep/\x.gen=y.gen):=⟨λh=>by rw [h];exact ⟨rfl,rfl⟩,λh=>by obtain ⟨h0,h1⟩:=h;cases x;cases y;simp only at h0 h1;simp only [h0,h1]⟩
instance:DecidableEq DEffect:=λx y=>decidable_of_iff (x.keep=y.keep/\x.gen=y.gen) DEffect.ext_iff.symm
instance:Rep DEffect:=Rep.via λx=>(x.keep,x.gen)
def zkM {x:DEffect} (h:At w b o x):At w b (o+0) x.keep:=zcG (α:=Int) (β:=Int) (p:=(x.keep,x.gen)) h
def zfI {x:DEffect} (h:At w b o x):At w b (o+1) x.gen:=zbh (α:=Int) (β:=Int) (p:=(x.keep,x.gen)) h
instance:RepZ DEffect:=⟨⟨(RepZ.zv:Int),(RepZ.zv:Int)⟩,RepZ.zc (Int×Int),λw=>RepZ.zr (α:=Int×Int) w⟩
def znh {γ:Type} {H:List Nat->World->γ->Prop} {x:DEffect} {upd:DEffect->γ} (h:Lens H F w b o G x upd) :
   ∃ G1,Lens H F w b (o+1) G1 x.gen (λy=>upd ⟨x.keep,y⟩):=by
 have h':Lens H F w b o G (x.keep,x.gen) (λp:Int×Int=>upd ⟨p.1,p.2⟩):=⟨h.here,h.sub,λw' G' y' hc hO hs=>h.back w' G' _ hc hO hs⟩;obtain ⟨G0,h'⟩:=h'.snd;exact ⟨_,h'⟩
def zvo {x:DEffect} (h_keep:I64 x.keep) (h_gen:I64 x.gen):Mine [] w (.agg #[.int .i64 x.keep,.int .i64 x.gen]) x:=⟨⟨[.int .i64 x.keep,.int .i64 x.gen],⟨[],[],[.int .i64 x.keep],[.int .i64 x.gen],rfl,rfl,⟨rfl,rfl,h_keep⟩,⟨rfl,rfl,h_gen⟩⟩,rfl⟩,qaq,Wr.nil w⟩
instance:Flat DEffect:=⟨λh=>Flat.flat (α:=Int×Int) h⟩
def zzo (x:Nat×Nat):DEffect:=⟨(x.1:Int),(x.2:Int)⟩
def zif (T:Tab):List DEffect:=T.map zzo
def zfJ (T:Tab):(zif T).length=T.length:=by simp [zif]
def zgU {T:Tab} (h:q<(zif T).length):(zif T)[q]=zzo (tbl T q):=by
 have h':q<T.length:=by rw [<-zfJ];exact h
 rw [<-zj9 h'];simp [zif]
def zz9 (T:Tab) (q:Nat) (v:Nat×Nat):zif (T.set q v)=(zif T).set q (zzo v):=by simp [zif,qcg]
def zfV (h:n<6):2^n<64:=qaJ (n:=6) oo h
def FL.updM {T:Tab} (hF:FL c T p h out) (hc:CodeR c) (hp:p<c.entry.length) {i j:Nat} (hi:zaN c p i) (hj:j∈zaA c i)
   (hm:∀ l,l<6->m.testBit l=false->LostP c (tK T) (tG T) p (λl=>h.testBit l=true) i l):FL c T p h (out.set j (zay out j &&& aft c T i m)):=by
 have g1:=(zbV hc hp hi).1;have g0:=(zcX hc g1 hj).1;refine ⟨by simp [hF.len],λx hx=>?_,λk l hk hl hb=>?_,λl hl hb=>?_⟩
 . rcases zdq hx with rfl | hx
   . exact qaF qaX (hF.lt0 j)
   exact hF.lt x hx
 . rw [zb9 (by rw [hF.len];exact g0)] at hb
   split at hb
   . rename_i e
     subst e;rw [qaP,qbE] at hb;rcases hb with hb | hb
     . exact hF.snd j l hk hl hb
     rcases zmn.1 hb with h1 | ⟨h1,h2⟩
     . exact .gen hi hj h1
     exact .pass hi hj (hm l hl h2) h1
   exact hF.snd k l hk hl hb
 rw [zb9 (by rw [hF.len];exact g0)];split
 . rename_i e
   rw [qaP,e,hF.ent l hl hb];rfl
 exact hF.ent l hl hb
def zx8 {T:Tab} (h0:Is W0 v0 (zam c i)) (e0:Ext W0 w) (h1:Is W1 v1 (zif T)) (e1:Ext W1 w) (hc:CodeR c) (hT:zx4 c T) (hi:i<c.ins.length) (hm:m<64) :
   CALL tp 230 [v0,v1,.int .i64 (m:Int)] w λr w'=>Ext w w'/\r=.int .i64 (aft c T i m:Nat):=by
 refine co (g:=kf [] [] [(7,[0,1,2,3,4,5,6,7,8,9,10,11,12,13,14,15],0)]) Tryz.func230 ?_;refine za9 h0 e0 λw1 g2 hA=>?_;have g3:=λh=>zby hc hi (.inl h);have g0:=λh=>zcY hc hi h;have h8:=hc.1.procs8;have g1:aft c T i m=if (zam c i).op=6 then m ||| 2^agN c i else if (zam c i).op=7 then zlg m (2^agN c i) else if (zam c i).op=4 then (m &&& (tbl T (agN c i)).1) ||| (tbl T (agN c i)).2 else m:=rfl;rw [g1];clear g1;generalize agN c i=q at *;generalize zam c i=I at *;refine zab zbp<|zac ty3 (zaw hA) (xrf _) λ_=>zai<|br (λc6=>?_) (λc6=>?_)
 . obtain ⟨ha,_,hq⟩:=g0 (.inl c6)
   have hp:=zfV hq;rw [if_pos c6];refine zab za8<|zac ty3 (zaq hA) (xrf _) λ_=>?_;rw [ha];refine zb0 kK zkA oo<|zdF oo<|zgz oo oo<|⟨g2,rfl⟩
 rw [if_neg c6];refine zai<|br (λc7=>?_) (λc7=>?_)
 . obtain ⟨ha,_,hq⟩:=g0 (.inr c7)
   have hp:=zfV hq;rw [if_pos c7];refine zab za8<|zac ty3 (zaq hA) (xrf _) λ_=>?_;rw [ha];refine zb0 kK zkA oo<|zdF oo<|zft oo oo<|⟨g2,rfl⟩
 rw [if_neg c7];refine zai<|br (λc4=>?_) (λc4=>?_)
 . obtain ⟨ha,hq⟩:=g3 c4
   rw [if_pos c4];have g4:=zah w1;generalize World.drew1 w1=w2 at *;have g5:q<(zif T).length:=by rw [zfJ,hT.1];exact hq
   have hr:=hT.2 q;have C:=g2.t g4;refine zab za8<|zac ty3 (zaq hA) g4 λ_=>?_;rw [ha];refine zad zxg zm9 h1 g5 λb1 o1 hE=>?_;rw [zgU] at hE;refine zab zxi<|zac ty3 (zkM hE) (e1.trans C) λ_=>zeA (n:=(tbl T q).1) oo oo<|zab za8<|zac ty3 (zaq hA) g4 λ_=>?_;rw [ha];refine zad zxg zm9 h1 g5 λb2 o2 g9=>?_;rw [zgU] at g9;refine zab zlF<|zac ty3 (zfI g9) (e1.trans C) λ_=>?_;have:=qaX (n:=m) (m:=(tbl T q).1);refine zgz (n:=(tbl T q).2) oo oo<|⟨C,rfl⟩
 rw [if_neg c4];exact ⟨g2,rfl⟩
def zka {a:Nat}   (ha:a<64) (hb:b<64) :
   CALL tp 278 [.int .i64 (a:Int),.int .i64 (b:Int)] w λr w'=>Ext w w'/\(r=.int .i64 ((a &&& (63-b):Nat):Int)):=by
 refine co (g:=kf [] [] []) Tryz.func278 ?_;refine (zt3 ).mono ?_;rintro _ w1_ ⟨y1,rfl⟩;refine zav<|br (λc1=>?_) (λc1=>?_)
 . refine ⟨y1,?_⟩
   first | rfl | (exfalso;omega)
 refine (zt3 ).mono ?_;rintro _ w2_ ⟨y2,rfl⟩;refine zav<|br (λc2=>?_) (λc2=>?_)
 . refine ⟨(y1.t y2),?_⟩
   first | rfl | (exfalso;omega)
 have g0:(63:Int)-(b:Int)=((63-b:Nat):Int):=oo
 refine zbc (by unfold I64;omega) ?_;rw [g0];refine zeA oo oo<|⟨(y1.t y2),?_⟩
 first | rfl | (exfalso;omega)
def zix {a b:Nat} (ha:a<64) (hb:b<64):a &&& (63-b)=zlg a b:=by
 refine qbd λl=>?_;rw [qaP,zdg];cases h:a.testBit l
 . rfl
 have hl:=zgS ha h;have:=Nat.testBit_two_pow_sub_succ (n:=6) (x:=b) hb l;rw [show 2^6-(b+1)=63-b by omega] at this;rw [this,decide_eq_true hl,qbT]
def zsA {T:Tab} (h0:Is W0 v0 (zam c i)) (e0:Ext W0 w) (h1:Is W1 v1 (zif T)) (e1:Ext W1 w) (hc:CodeR c) (hT:zx4 c T) (hi:i<c.ins.length) (hm:m<64) :
   CALL tp 325 [v0,v1,.int .i64 (m:Int)] w λr w'=>Ext w w'/\r=.int .i64 (aft c T i m:Nat):=by
 refine co (g:=kf [] [] [(7,[0,1,2,3,4,5,6,7,8,9,10,11,12,13,14,15],0)]) Tryz.func325 ?_;refine za9 h0 e0 λw1 g2 hA=>?_;have g3:=λh=>zby hc hi (.inl h);have g0:=λh=>zcY hc hi h;have h8:=hc.1.procs8;have g1:aft c T i m=if (zam c i).op=6 then m ||| 2^agN c i else if (zam c i).op=7 then zlg m (2^agN c i) else if (zam c i).op=4 then (m &&& (tbl T (agN c i)).1) ||| (tbl T (agN c i)).2 else m:=rfl;rw [g1];clear g1;generalize agN c i=q at *;generalize zam c i=I at *;refine zab zbp<|zac ty3 (zaw hA) (xrf _) λ_=>zai<|br (λc6=>?_) (λc6=>?_)
 . obtain ⟨ha,_,hq⟩:=g0 (.inl c6)
   have hp:=zfV hq;rw [if_pos c6];refine zab za8<|zac ty3 (zaq hA) (xrf _) λ_=>?_;rw [ha];refine (zgi oo).mono ?_;rintro _ w2 ⟨C,rfl⟩;refine zgz oo oo<|⟨g2.t C,rfl⟩
 rw [if_neg c6];refine zai<|br (λc7=>?_) (λc7=>?_)
 . obtain ⟨ha,_,hq⟩:=g0 (.inr c7)
   have hp:=zfV hq;rw [if_pos c7];refine zab za8<|zac ty3 (zaq hA) (xrf _) λ_=>?_;rw [ha];refine (zgi oo).mono ?_;rintro _ w2 ⟨C,rfl⟩;refine (zka hm hp).mono ?_;rintro _ w3 ⟨g9,rfl⟩;exact ⟨(g2.t C).trans g9,by rw [zix hm hp]⟩
 rw [if_neg c7];refine zai<|br (λc4=>?_) (λc4=>?_)
 . obtain ⟨ha,hq⟩:=g3 c4
   rw [if_pos c4];have C:=zah w1;generalize World.drew1 w1=w2 at *;have g4:q<(zif T).length:=by rw [zfJ,hT.1];exact hq
   have hr:=hT.2 q;have D:=g2.t C;refine zab za8<|zac ty3 (zaq hA) C λ_=>?_;rw [ha];refine zad zxg zm9 h1 g4 λb1 o1 hE=>?_;rw [zgU] at hE;refine zab zxi<|zac ty3 (zkM hE) (e1.trans D) λ_=>zeA (n:=(tbl T q).1) oo oo<|zab za8<|zac ty3 (zaq hA) C λ_=>?_;rw [ha];refine zad zxg zm9 h1 g4 λb2 o2 g5=>?_;rw [zgU] at g5;refine zab zlF<|zac ty3 (zfI g5) (e1.trans D) λ_=>?_;have:=qaX (n:=m) (m:=(tbl T q).1);refine zgz (n:=(tbl T q).2) oo oo<|⟨D,rfl⟩
 rw [if_neg c4];exact ⟨g2,rfl⟩
def zfW (c:DCode) (i:Nat):Prop:=∃ p,p<c.procs.length/\zaN c p i
structure WL (W0:World) (b:Nat) (c:DCode):Prop where
 code:At W0 b 0 c
 live:At W0 b (0+5) (zbZ c.ins.length (zfW c))
theorem zjn {p:Nat->Prop} (h:n<=m) (hp:∀ i,n<=i->i<m->¬p i):zbd m p=zbd n p:=by
 induction m with
 | zero=>(have:n=0:=by omega);subst this;rfl
 | succ m ih=>
   by_cases e:n=m+1
   . rw [e]
   rw [zdw (hp m oo oo),ih oo λi h1 h2=>hp i h1 oo]
def zhr (hW:WL W0 b c) (e0:Ext W0 w) (hc:CodeR c) (hp:p<c.procs.length) :
   CALL tp 183 [.pointer (some ⟨b,0,none⟩),.int .i64 (p:Int)] w λr w'=>Ext w w'/\Own w.heap.size w' r (zaT (zbd c.ins.length (zaN c p))):=by
 refine co (g:=kf [] [(3,68719444064,[5,6])] []) Tryz.func183 ?_;have D:p<c.entry.length:=by rw [hc.2.1.1];exact hp
 have hil:=hc.f.ins;have h8:=hc.1.procs8;obtain ⟨g9,he2,he3⟩:=zfU hc D;obtain ⟨gb,hz2,hz3⟩:=zng hc D
 have g4:∀ i,zaN c p i->eN c p<=i/\i<=zN c p:=λi h=>by
   have:=zbV hc D h;exact zsx hc this.1 D this.2
 refine NIL.mk rfl<|zab zbM<|zab zbi<|zaa za4 (zar hW.code) e0 λv11 gc=>zad u33 ty3 gc D λb1 o1 g5=>?_;rw [zbx D,g9] at g5;refine zac ty3 g5 e0 λ_=>?_;generalize hE:eN c p=E at *;generalize hZ:zN c p=Z at *
 have h0:zbd E (zaN c p)=[]:=by
   rw [zjn (n:=0) (z0 _) λi _ h2 h3=>by have:=g4 i h3;omega];rfl
 refine zao (Z+1-E) (λk us w'=>∃ (v:Value),us=[v,.int .i64 ((E+k:Nat):Int)]/\E+k<=Z+1/\Ext w w'/\RowI w.heap.size w'.heap.size 3 w' v (zaT (zbd (E+k) (zaN c p)))) 0 (z0 _) ⟨_,rfl,oo,xrf _,by rw [qcf,h0];exact zb6 _ _ _ _⟩ ?_;rintro k mk u w2 hkm ⟨v,hu,hkl,M,g2⟩;obtain ⟨gd,gf⟩:=zcB hu;rw [gd,gf];have I:=e0.t M;have hs2:=M.size;refine NIL.mk rfl<|zab zbM<|zaa zbq hW.code I λv19 gg=>?_;refine (zdJ gg I oo).mono ?_;rintro _ w3 ⟨C,rfl⟩;rw [gb];have g0:=I.t C;refine zag<|br (λhlt=>?_) (λhge=>?_)
 case refine_2=>
   have hk:E+k=Z+1:=oo
   refine ⟨M.t C,?_⟩;rw [zjn (n:=Z+1) oo λi h1 _ h3=>by have:=g4 i h3;omega,<-hk];exact (g2.ext C).own.own
 have hk:E+k<c.ins.length:=oo
 refine NIL.mk rfl<|zab ztv<|zaa zgt hW.live g0 λv28 gh=>zad u90 ty4 (i:=E+k) gh (by rw [zan];exact hk) λb2 o2 gi=>zaG ty4 gi g0 ?_;have g3:=zaU (n:=c.ins.length) (p:=zfW c) (i:=E+k);rw [za5 (by rw [zan];exact hk)] at g3
 have g1:zfW c (E+k)↔zaN c p (E+k):=by
   constructor
   . rintro ⟨q,hq,hl⟩
     have h1:=zbV hc (by rw [hc.2.1.1];exact hq) hl;have h2:=zph hc (p:=p) (i:=E+k) D oo oo;have:q=p:=oo
     rwa [this] at hl
   exact λh=>⟨p,hp,h⟩
 have hsl:=zbg (n:=E+k) (p:=zaN c p);refine zbz (λhf=>?_) (λhf=>?_)
 . refine zbO (lo2:=w3.heap.size) (hi2:=w3.heap.size) (x:=((E+k:Nat):Int)) u33 ty3 z3 zc3 qd (g2.ext C) (by have:=C.size;omega) (zc2 _ _ (by unfold I64;omega)) (by have:=C.size;omega) (by have:=C.size;omega) (by rw [zal,zaf];omega) (by rw [zaf];omega) λgj w9 gl gp=>?_
   refine zau<|⟨mk-1,oo,k+1,oo,gj,rfl,oo,(M.t C).chgI gl oo,?_⟩;rw [<-qci,zdf (g1.1 (g3.1 hf).2),zcF];exact gp
 refine zau<|⟨mk-1,oo,k+1,oo,v,rfl,oo,M.t C,?_⟩;rw [<-qci,zdw λh=>by rw [g3.2 ⟨hk,g1.2 h⟩] at hf;cases hf];exact (g2.ext C).mono (lr _) C.size
def zd1 {K:VW} (h0:0<n) (hn:n<=1000000)
   (k:∀ w',Ext w w'->Mine [w.heap.size] w' (.slice (some ⟨w.heap.size,0,none⟩) n n) (zaT (List.replicate n 0))->K (.slice (some ⟨w.heap.size,0,none⟩) n n) w'):OP tp (Instr.makeSlice 33 (.int .i64 (n:Int)) (.int .i64 (n:Int))) w K:=
 ze0 (α:=Int) u33 ty3 rfl rfl zE8 oo oo λw2 hx2 hr2=>by
   refine k w2 hx2 ?_;obtain ⟨F,hM,hF⟩:=hr2.own;obtain ⟨b,o,cap,hv,hF2⟩:=zfG hM (by intro e;have:=congrArg List.length e;simp at this;omega);simp only [Value.slice.injEq,qak,Addr.mk.injEq,qbf,and_true] at hv;obtain ⟨⟨hb,ho⟩,_⟩:=hv;rw [<-hb] at hF2;rw [hF2] at hM;have e:zaT (List.replicate n 0)=List.replicate n (RepZ.zv:Int):=by simp only [zaT,List.map_replicate];rfl
   rw [e];exact hM
def zkb {t ty e:TypeId} {a:Option Addr} {n c:Nat} (ht:P.underlying t=some (.slice e)) (k:K (.int .i64 (n:Int))) :
   RD P (Builtin.len_ #[t] ty [Value.slice a n c].toArray) w K:=zbb (λw' _=>by simp [Builtin.len_,run_underlying ht];rfl) k
structure FW (w1 w:World) (g n:Nat) (out:List Nat):Prop where
 ext:Ext w1 w
 mine:Mine [g] w (.slice (some ⟨g,0,none⟩) n n) (zaT out)
 g0:w1.heap.size<=g
section
variable {w1 w w':World} {g n:Nat} {out:List Nat}
def FW.step (h:FW w1 w g n out) (hx:Ext w w'):FW w1 w' g n out:=⟨h.ext.trans hx,h.mine.ext hx,h.g0⟩
def zfu (hc:Chg [g] w w'):ChgI g (g+1) w w':=hc.toI λb hb=>by simp only [qaa,qac,or_false] at hb;omega
def FW.set {i v:Nat} (h:FW w1 w g n out) (hc:Chg [g] w w') (hm:Mine [g] w' (.slice (some ⟨g,0,none⟩) n n) ((zaT out).set i (v:Int))):FW w1 w' g n (out.set i v):=
 ⟨h.ext.chgI (zfu hc) h.g0,by rw [zgT];exact hm,h.g0⟩
def FW.lt (h:FW w1 w g n out):g<w.heap.size:=h.mine.lt g sS
def FW.own (h:FW w1 w g n out):Own w1.heap.size w (.slice (some ⟨g,0,none⟩) n n) (zaT out):=⟨[g],h.mine,λb hb=>by simp only [qaa,qac,or_false] at hb;have:=h.g0;omega⟩
end
def zbY {v:Nat} (h:v<9223372036854775808):Mine [] w (.int .i64 (v:Int)) (v:Int):=zbA (by unfold I64;omega)
def fil (n k:Nat):List Nat:=List.replicate k 63++List.replicate (n-k) 0
def zsB (h:k<=n):(fil n k).length=n:=by simp [fil];omega
def zsC (h:k<n):(fil n k).set k 63=fil n (k+1):=by
 obtain ⟨m,hm⟩:∃ m,n-k=m+1:=⟨n-k-1,oo⟩;unfold fil;rw [qba _ _ sS,hm,qbD,qc0,List.replicate_succ,List.set_cons_zero,qcx,show n-(k+1)=m by omega];simp
def zpn (n:Nat):fil n n=List.replicate n 63:=by simp [fil]
structure FP (c:DCode) (T:Tab) (p h:Nat) (out0 L:List Nat) (k:Nat) (ag:Bool) (out:List Nat):Prop where
 fl:FL c T p h out
 yes:ag=true->out.sum<out0.sum
 no:ag=false->out=out0/\∀ i∈L.take k,zEw c T out0 i
structure FQ (c:DCode) (T:Tab) (p h:Nat) (out0 L:List Nat) (k i q:Nat) (ag:Bool) (out:List Nat):Prop where
 fl:FL c T p h out
 yes:ag=true->out.sum<out0.sum
 no:ag=false->out=out0/\(∀ i∈L.take k,zEw c T out0 i)/\∀ j∈(zaA c i).take q,zay out0 j &&& aft c T i (zay out0 i)=zay out0 j
section
variable {c:DCode} {T:Tab} {p h k i q m:Nat} {out0 L out:List Nat} {ag:Bool}
def FP.enter (H:FP c T p h out0 L k ag out) (i:Nat):FQ c T p h out0 L k i 0 ag out:=⟨H.fl,H.yes,λe=>⟨(H.no e).1,(H.no e).2,sS⟩⟩
theorem FQ.set (H:FQ c T p h out0 L k i q ag out) (hc:CodeR c) (hp:p<c.entry.length) (hi:zaN c p i) (hq:q<(zaA c i).length) (hm:∀ l,l<6->m.testBit l=false->LostP c (tK T) (tG T) p (λl=>h.testBit l=true) i l)
   (g1:zay out (zaA c i)[q] &&& aft c T i m≠zay out (zaA c i)[q]):FQ c T p h out0 L k i (q+1) true (out.set (zaA c i)[q] (zay out (zaA c i)[q] &&& aft c T i m)):=by
 have hj:=qab hq;have g0:=(zcX hc (zbV hc hp hi).1 hj).1;refine ⟨H.fl.updM hc hp hi hj hm,λ_=>?_,λe=>by cases e⟩;have h1:=zj8 (l:=out) (i:=(zaA c i)[q]) (v:=zay out (zaA c i)[q] &&& aft c T i m) (by rw [H.fl.len];exact g0);have h2:=zBW g1;cases ag with
 | true=>have:=H.yes rfl;omega
 | false=>rw [(H.no rfl).1] at h1 h2 ⊢;omega
def FQ.skip (H:FQ c T p h out0 L k i q ag out) (hq:q<(zaA c i).length) (hz:ag=false->m=zay out0 i) (he:zay out (zaA c i)[q] &&& aft c T i m=zay out (zaA c i)[q]):FQ c T p h out0 L k i (q+1) ag out:=by
 refine ⟨H.fl,H.yes,λe=>⟨(H.no e).1,(H.no e).2.1,λj hj=>?_⟩⟩;rw [tk hq] at hj;rcases qae.1 hj with hj | hj
 . exact (H.no e).2.2 j hj
 simp only [qaa,qac,or_false] at hj;rw [(H.no e).1,hz e] at he;rw [hj];exact he
def FQ.done (H:FQ c T p h out0 L k i q ag out) (hk:k<L.length) (hi:L[k]=i) (hq:(zaA c i).length<=q):FP c T p h out0 L (k+1) ag out:=by
 refine ⟨H.fl,H.yes,λe=>⟨(H.no e).1,λi' g0=>?_⟩⟩;rw [tk hk] at g0;rcases qae.1 g0 with h1 | h1
 . exact (H.no e).2.1 i' h1
 simp only [qaa,qac,or_false] at h1;rw [h1,hi];have:=(H.no e).2.2;rw [qaf hq] at this;exact this
end
def zsD {T:Tab} (hW:WL W0 b c) (e0:Ext W0 w) (h1:Is W1 v1 (zif T)) (e1:Ext W1 w) (hc:CodeR c) (hT:zx4 c T) (hp:p<c.procs.length) (hh:h<64) :
   CALL tp 151 [.pointer (some ⟨b,0,none⟩),v1,.int .i64 (p:Int),.int .i64 (h:Int)] w λr w'=>Ext w w'/\Own w.heap.size w' r (zaT (zcI c T p h)):=by
 refine co (g:=kf [] [(3,17045652480,[27]),(10,158456325028528393712111374336,[12]),(13,158456325028526423387274399744,[12,51]),(17,79228153069531371854253658112,[12,73])] [(15,[0,1,2,3,4,5,6,7,8,9,10,11,12,13,14],0),(19,[0,1,2,3,4,5,6,7,8,9,10],0)]) Tryz.func151 ?_;have U:p<c.entry.length:=by rw [hc.2.1.1];exact hp
 have hv:=hc.f.ins;obtain ⟨hw,gq,he3⟩:=zfU hc U;have gr:=FL.start (T:=T) hc U hh;have gs:=λ{out}=>FL.fin (c:=c) (T:=T) (p:=p) (h:=h) (out:=out);refine NIL.mk rfl<|zab zbM<|zab zaM<|zaa zcQ (zak hW.code) e0 λv22 hx=>zae u34 hx ?_;have hn:c.ins.length=c.ins.length:=rfl;generalize hnn:c.ins.length=n at hn;rw [hnn] at gq gr hv;refine zd1 oo oo λw2 gS gU=>?_;have hs2:=gS.size;generalize hg:w.heap.size=g at *;have gV:FW w w2 g n (fil n 0):=⟨gS,by simpa [fil] using gU,oo⟩;refine zkb u33<|zao n (λk us w'=>us=[.int .i64 (k:Int)]/\k<=n/\FW w w' g n (fil n k)) 0 (z0 _) ⟨rfl,z0 _,gV⟩ ?_;rintro k mk u w3 gW ⟨hu,gX,X⟩;try replace hu:=zbt hu
 rw [hu];refine zag<|br (λgY=>?_) (λgZ=>?_)
 . have hk:k<n:=oo
   refine zb8 (α:=Int) rfl u33 ty3 hk<|zbr (α:=Int) rfl ty3 X.mine (by rw [zaf,zsB gX]) hk (zbY (v:=63) oo) λw4 gt gx=>?_;have g0:=X.set (v:=63) gt gx;rw [zsC hk] at g0;refine zau<|⟨mk-1,oo,k+1,oo,rfl,oo,g0⟩
 have hk:k=n:=oo
 rw [hk,zpn] at X;clear gV gU hu gW;refine NIL.mk rfl<|zab zbM<|zab zbi<|zaa za4 (zar hW.code) (e0.t X.ext) λv39 hy=>zad u33 ty3 hy U λb1 o1 g2=>?_;rw [zbx U,hw] at g2;refine zac ty3 g2 (e0.t X.ext) λ_=>zb8 (α:=Int) rfl u33 ty3 gq<|zbr (α:=Int) rfl ty3 X.mine (by rw [zaf];simp) gq (zbY (v:=h) oo) λw4 gt gx=>?_;have g0:=X.set (v:=h) gt gx;refine (zhr hW (e0.t g0.ext) hc hp).mono ?_;rintro gy w5 ⟨hz,hB⟩;have h2:=g0.step hz;have hg4:=g0.lt;have hL:∀ i∈zbd c.ins.length (zaN c p),zaN c p i:=λi hi=>(zaH.1 hi).2;have hC:∀ i,zaN c p i->i∈zbd c.ins.length (zaN c p):=λi hi=>zaH.2 ⟨(zbV hc U hi).1,hi⟩;have hLl:(zbd c.ins.length (zaN c p)).length<=1500:=qan zbg (by rw [hnn];omega);generalize zbd c.ins.length (zaN c p)=L at *;generalize (List.replicate n 63).set (eN c p) h=out at gr h2;have hD:=hB.toI;generalize hlo:w4.heap.size=lo at *;generalize hhi:w5.heap.size=hi at *;refine LOOPI.mk (λm us w'=>∃ (ag:Bool) (out:List Nat),us=[.bool ag]/\m=out.sum+(if ag then 1 else 0)/\FW w w' g n out/\OwnI lo hi w' gy (zaT L)/\FL c T p h out/\(ag=false->∀ i,zaN c p i->zEw c T out i)) (out.sum+1) ⟨true,out,rfl,rfl,h2,hD,gr,λe=>by cases e⟩ ?_;rintro m u w6 ⟨ag,out,hu,hm,gz,h4,h5,hG⟩;try replace hu:=zbt hu
 rw [hu];refine zbz (λgC=>?_) (λgC=>?_)
 case refine_2=>have:=gs h5 hc U (hG gC);rw [<-this];have h6:=gz.own;rw [hg] at h6;exact ⟨gz.ext,h6⟩
 rw [gC,if_pos rfl] at hm;refine zae u33 h4.is ?_;rw [zaf];refine zao L.length (λk us w'=>∃ (ag:Bool) (out':List Nat),us=[.bool ag,.int .i64 (k:Int)]/\k<=L.length/\FW w w' g n out'/\OwnI lo hi w' gy (zaT L)/\FP c T p h out L k ag out') 0 (z0 _) ⟨false,out,rfl,z0 _,gz,h4,h5,λe=>(by cases e),λ_=>⟨rfl,sS⟩⟩ ?_;rintro k mk u w7 gW ⟨g3,D,hu,gX,h8,gD,O⟩;obtain ⟨gE,gF⟩:=zcB hu;clear hu;rw [gE,gF];refine zag<|br (λgY=>?_) (λgZ=>?_)
 case refine_2=>
   refine ⟨D.sum+(if g3 then 1 else 0),?_,g3,D,rfl,rfl,h8,gD,O.fl,λe i hi=>?_⟩
   . cases g3 with
     | true=>have:=O.yes rfl;simp;omega
     | false=>rw [(O.no rfl).1];simp;omega
   have:=O.no e;rw [this.1];exact this.2 i (by rw [qaf oo];exact hC i hi)
 have hk:k<L.length:=oo
 refine zad u33 ty3 (i:=k) gD.is (by rw [zaf];exact hk) λb2 o2 h9=>?_;rw [za3] at h9;refine zac ty3 h9 (xrf _) λ_=>?_;generalize hix:L[k]=i at *;have ha:zaN c p i:=hL i (by rw [<-hix];exact qab hk);have Y:=(zbV hc U ha).1;have hd:=zah w7;have g1:=h8.step hd;have hH:=gD.ext hd;generalize World.drew1 w7=w8 at *;refine NIL.mk rfl<|zab zbM<|zab zaM<|zaa zcQ (zak hW.code) (e0.t g1.ext) λv59 hI=>zad u34 zcL hI Y λb3 o3 he=>?_;rw [zaz] at he;refine zaa zcL he (e0.t g1.ext) λv62 hJ=>?_;have hK:=O.fl.len;refine zad u33 ty3 (i:=i) g1.mine.is (by rw [zaf,hK];exact Y) λb4 o4 hf=>?_;rw [zaR] at hf;refine zac ty3 hf (xrf _) λ_=>?_;have g4:=O.fl.lt0 i;have hM:∀ l,l<6->(zay D i).testBit l=false->LostP c (tK T) (tG T) p (λl=>h.testBit l=true) i l:=λl hl hb=>O.fl.snd i l Y hl hb;have hN:g3=false->zay D i=zay out i:=λe=>by rw [(O.no e).1]
 generalize zay D i=mm at *;refine (zx8 hJ (e0.t g1.ext) h1 (e1.trans g1.ext) hc hT Y g4).mono ?_;rintro _ w9 ⟨hr,rfl⟩;have gG:=g1.step hr;have hO:=hH.ext hr;have haf:=zBV hc hT Y g4;refine (zje hW.code (e0.t gG.ext) hc Y).mono ?_;rintro hP hQ ⟨g5,g9⟩;have gH:=gG.step g5;have gI:=hO.ext g5;have hg9:=gG.lt;have gJ:=g9.toI;have hl2:=zfs c i;refine zae u33 g9.is ?_;rw [zaf];have gK:=O.enter i;refine zao (zaA c i).length (λq us w'=>∃ (ag:Bool) (out':List Nat),us=[.bool ag,.int .i64 (q:Int)]/\q<=(zaA c i).length/\FW w w' g n out'/\OwnI lo hi w' gy (zaT L)/\OwnI w9.heap.size hQ.heap.size w' hP (zaT (zaA c i))/\FQ c T p h out L k i q ag out'/\(ag=false->mm=zay out i)) 0 (z0 _) ⟨g3,D,rfl,z0 _,gH,gI,gJ,gK,hN⟩ ?_;rintro q mq u hs hqm ⟨gb,C,hu,hql,gc,gd,gf,M,gg⟩;obtain ⟨gE,gF⟩:=zcB hu;rw [gE,gF];refine zag<|br (λgY=>?_) (λgZ=>?_)
 case refine_2=>refine zau<|⟨mk-1,oo,k+1,oo,gb,C,rfl,oo,gc,gd,M.done hk hix oo⟩
 have hq:q<(zaA c i).length:=oo
 refine zad u33 ty3 (i:=q) gf.is (by rw [zaf];exact hq) λb5 o5 ht=>?_;rw [za3] at ht;refine zac ty3 ht (xrf _) λ_=>?_;have Z:=zah hs;have I:=gc.step Z;have gh:=gd.ext Z;have gi:=gf.ext Z;generalize World.drew1 hs=w12 at *;have hj:=zcX hc Y (qab hq);have gj:=M.fl.len;have gM:=M.set (m:=mm) hc U ha hq hM;have gl:=M.skip (m:=mm) hq gg;have hR:=M.fl.lt0 (zaA c i)[q];have gN:=hj.1;rw [hnn] at gN;generalize (zaA c i)[q]=j at *
 have gO:∀ {w':World} {K:Value->Prop} (hF:FW w w' g n C) (k:K (.int .i64 (zay C j:Int))),RD tp (Instr.indexAt 33 (.slice (some ⟨g,0,none⟩) n n) (.int .i64 (j:Int))) w' λhS=>RD tp (Instr.loadAt 3 hS) w' K:=λhF k=>by
   refine zad u33 ty3 (i:=j) hF.mine.is (by rw [zaf,gj];exact hj.1) λb1 o1 g2=>?_;rw [zaR] at g2;exact zac ty3 g2 (xrf _) λ_=>k
 refine gO I<|zeA oo oo<|gO I<|zaP<|br (λhV=>?_) (λhX=>?_)
 . have gP:zay C j &&& aft c T i mm≠zay C j:=λe=>hV (by rw [e])
   refine gO I<|zeA oo oo<|zb8 (α:=Int) rfl u33 ty3 gN ?_;have hvl:=qaX (n:=zay C j) (m:=aft c T i mm);refine zbr (α:=Int) rfl ty3 I.mine (by rw [zaf,gj,hnn]) gN (zbY (v:=zay C j &&& aft c T i mm) oo) λw13 gp gQ=>?_;have gR:=I.set (v:=zay C j &&& aft c T i mm) gp gQ;have V:=zfu gp;refine zau<|⟨mq-1,oo,q+1,oo,true,_,rfl,oo,gR,gh.chg V oo,gi.chg V oo,gM gP,λe=>by cases e⟩
 refine zau<|⟨mq-1,oo,q+1,oo,gb,C,rfl,oo,I,gh,gi,gl (qaY.1 (qad.1 hX)),gg⟩
def zkc {T:Tab} (h0:Is W0 v0 c) (e0:Ext W0 w) (h1:Is W1 v1 (zif T)) (e1:Ext W1 w) (hc:CodeR c) (hT:zx4 c T) (hp:p<c.procs.length) (hh:h<64) :
   CALL tp 275 [v0,v1,.int .i64 (p:Int),.int .i64 (h:Int)] w λr w'=>Ext w w'/\Own w.heap.size w' r (zaT (zcI c T p h)):=by
 refine co (g:=kf [] [(3,2143290368,[10]),(10,20282409603651670406355065495552,[13]),(13,20282409603651670388762879451136,[13,14]),(17,20282409603651526308759175634944,[13,16])] [(15,[0,1,2,3,4,5,6],0),(19,[0,1,2,3,4,5,6,7,8,9,10,11,12,13,14,15,16,17,18,19,20,21,22,23,24,25],8388608)]) Tryz.func275 ?_;have O:p<c.entry.length:=by rw [hc.2.1.1];exact hp
 have hD:=hc.f.ins;obtain ⟨hG,gz,he3⟩:=zfU hc O;have gC:=FL.start (T:=T) hc O hh;have gD:=λ{out}=>FL.fin (c:=c) (T:=T) (p:=p) (h:=h) (out:=out);refine za9 h0 e0 λw1 gE hA=>?_;have hs1:=gE.size;refine zab zaM<|zaa zcQ (zak hA) (xrf _) λv22 hH=>zae u34 hH ?_;have hn:c.ins.length=c.ins.length:=rfl;generalize hnn:c.ins.length=n at hn;rw [hnn] at gz gC hD;refine zd1 oo oo λw2 h5 h6=>?_;have hs2:=h5.size;generalize hg:w1.heap.size=g at *;have h8:FW w1 w2 g n (fil n 0):=⟨h5,by simpa [fil] using h6,oo⟩;refine zao n (λk us w'=>us=[.int .i64 (k:Int)]/\k<=n/\FW w1 w' g n (fil n k)) 0 (z0 _) ⟨rfl,z0 _,h8⟩ ?_;rintro k mk u w3 h9 ⟨hu,ha,Z⟩;try replace hu:=zbt hu
 rw [hu];refine zkb u33<|zag<|br (λhd=>?_) (λhe=>?_)
 . have hk:k<n:=oo
   refine zb8 (α:=Int) rfl u33 ty3 hk<|zbr (α:=Int) rfl ty3 Z.mine (by rw [zaf,zsB ha]) hk (zbY (v:=63) oo) λw4 gF gG=>?_;have g0:=Z.set (v:=63) gF gG;rw [zsC hk] at g0;refine zau<|⟨mk-1,oo,k+1,oo,rfl,oo,g0⟩
 have hk:k=n:=oo
 rw [hk,zpn] at Z;clear h8 h6 hu h9;refine zab zbi<|zaa za4 (zar hA) Z.ext λv39 hI=>zad u33 ty3 hI O λb1 o1 M=>?_;rw [zbx O,hG] at M;refine zac ty3 M Z.ext λ_=>zb8 (α:=Int) rfl u33 ty3 gz<|zbr (α:=Int) rfl ty3 Z.mine (by rw [zaf];simp) gz (zbY (v:=h) oo) λw4 gF gG=>?_;have g0:=Z.set (v:=h) gF gG;refine zaa zbq hA g0.ext λv40 hJ=>?_;refine (zgf hJ g0.ext hc O).mono ?_;rintro v42 w5 ⟨hf,hK⟩;have gt:=g0.step hf;refine (zfH hK.is (xrf _) (by rw [zan,hnn];omega)).mono ?_;rintro g5 hM ⟨gH,g9⟩;rw [zan,zho] at g9;have gt:=gt.step gH;have hg4:=g0.lt;have hg5:g<w5.heap.size:=by have:=hf.size;omega
 have hL:∀ i∈zbd c.ins.length (zaN c p),zaN c p i:=λi hi=>(zaH.1 hi).2;have hN:∀ i,zaN c p i->i∈zbd c.ins.length (zaN c p):=λi hi=>zaH.2 ⟨(zbV hc O hi).1,hi⟩;have hLl:(zbd c.ins.length (zaN c p)).length<=1500:=qan zbg (by rw [hnn];omega);generalize zbd c.ins.length (zaN c p)=L at *;generalize (List.replicate n 63).set (eN c p) h=out at gC gt;have hP:=g9.toI;generalize hlo:w5.heap.size=lo at *;generalize hhi:hM.heap.size=hi at *;refine LOOPI.mk (λm us w'=>∃ (ag:Bool) (out:List Nat),us=[.bool ag]/\m=out.sum+(if ag then 1 else 0)/\FW w1 w' g n out/\OwnI lo hi w' g5 (zaT L)/\FL c T p h out/\(ag=false->∀ i,zaN c p i->zEw c T out i)) (out.sum+1) ⟨true,out,rfl,rfl,gt,hP,gC,λe=>by cases e⟩ ?_;rintro m u w6 ⟨ag,out,hu,hm,gI,hQ,hr,hR⟩;try replace hu:=zbt hu
 rw [hu];refine zbz (λgJ=>?_) (λgJ=>?_)
 case refine_2=>have:=gD hr hc O (hR gJ);rw [<-this];exact ⟨gE.t gI.ext,gI.own.mono oo⟩
 rw [gJ,if_pos rfl] at hm;refine zao L.length (λk us w'=>∃ (ag:Bool) (out':List Nat),us=[.bool ag,.int .i64 (k:Int)]/\k<=L.length/\FW w1 w' g n out'/\OwnI lo hi w' g5 (zaT L)/\FP c T p h out L k ag out') 0 (z0 _) ⟨false,out,rfl,z0 _,gI,hQ,hr,λe=>(by cases e),λ_=>⟨rfl,sS⟩⟩ ?_;rintro k mk u w7 h9 ⟨gx,g1,hu,ha,hs,gK,gb⟩;obtain ⟨gM,gN⟩:=zcB hu;clear hu;rw [gM,gN];refine zae u33 gK.is ?_;rw [zaf];refine zag<|br (λhd=>?_) (λhe=>?_)
 case refine_2=>
   refine ⟨g1.sum+(if gx then 1 else 0),?_,gx,g1,rfl,rfl,hs,gK,gb.fl,λe i hi=>?_⟩
   . cases gx with
     | true=>have:=gb.yes rfl;simp;omega
     | false=>rw [(gb.no rfl).1];simp;omega
   have:=gb.no e;rw [this.1];exact this.2 i (by rw [qaf oo];exact hN i hi)
 have hk:k<L.length:=oo
 have ht:=zah w7;have gy:=hs.step ht;have hv:=gK.ext ht;generalize World.drew1 w7=w8 at *;refine zaa zbq hA gy.ext λv51 hS=>zad u33 ty3 (i:=k) hv.is (by rw [zaf];exact hk) λb2 o2 hw=>?_;rw [za3] at hw;refine zac ty3 hw (xrf _) λ_=>?_
 have hx:∀ {w':World} {K:Value->Prop} (hO:OwnI lo hi w' g5 (zaT L)) (kk:K (.int .i64 ((L[k]:Nat):Int))),RD tp (Instr.indexAt 33 g5 (.int .i64 (k:Int))) w' λgc=>RD tp (Instr.loadAt 3 gc) w' K:=λhO kk=>by
   refine zad u33 ty3 (i:=k) hO.is (by rw [zaf];exact hk) λb1 o1 M=>?_;rw [za3] at M;exact zac ty3 M (xrf _) λ_=>kk
 generalize hix:L[k]=i at *;have hy:zaN c p i:=hL i (by rw [<-hix];exact qab hk);have g2:=(zbV hc O hy).1;refine (zj7 hS gy.ext hc g2).mono ?_;rintro gO hz ⟨gd,gP⟩;have gQ:=gy.step gd;have gR:=hv.ext gd;have hg8:=gy.lt;have gS:=gP.toI;have hl2:=zfs c i;have gU:=gb.enter i;refine zao (zaA c i).length (λq us w'=>∃ (ag:Bool) (out':List Nat),us=[.bool ag,.int .i64 (q:Int)]/\q<=(zaA c i).length/\FW w1 w' g n out'/\OwnI lo hi w' g5 (zaT L)/\OwnI w8.heap.size hz.heap.size w' gO (zaT (zaA c i))/\FQ c T p h out L k i q ag out') 0 (z0 _) ⟨gx,g1,rfl,z0 _,gQ,gR,gS,gU⟩ ?_;rintro q mq u hB hqm ⟨gf,C,hu,hql,gg,gh,gi,D⟩;obtain ⟨gM,gN⟩:=zcB hu;rw [gM,gN];refine zae u33 gi.is ?_;rw [zaf];refine zag<|br (λhd=>?_) (λhe=>?_)
 case refine_2=>refine zau<|⟨mk-1,oo,k+1,oo,gf,C,rfl,oo,gg,gh,D.done hk hix oo⟩
 have hq:q<(zaA c i).length:=oo
 have g3:=zah hB;have I:=gg.step g3;have g4:=gh.ext g3;have gj:=gi.ext g3;generalize World.drew1 hB=w12 at *;have hj:=zcX hc g2 (qab hq);have gl:=D.fl.len;have gp:=D.fl.lt0 i;have hV:∀ l,l<6->(zay C i).testBit l=false->LostP c (tK T) (tG T) p (λl=>h.testBit l=true) i l:=λl hl hb=>D.fl.snd i l g2 hl hb;have gV:=D.set (m:=zay C i) hc O hy hq hV;have gq:=D.skip (m:=zay C i) hq (λe=>by rw [(D.no e).1]);have hW:=D.fl.lt0 (zaA c i)[q];have gW:=hj.1;rw [hnn] at gW
 have gX:∀ {w':World} {K:Value->Prop} (hO:OwnI w8.heap.size hz.heap.size w' gO (zaT (zaA c i))) (kk:K (.int .i64 (((zaA c i)[q]:Nat):Int))),RD tp (Instr.indexAt 33 gO (.int .i64 (q:Int))) w' λgc=>RD tp (Instr.loadAt 3 gc) w' K:=λhO kk=>by
   refine zad u33 ty3 (i:=q) hO.is (by rw [zaf];exact hq) λb1 o1 M=>?_;rw [za3] at M;exact zac ty3 M (xrf _) λ_=>kk
 generalize (zaA c i)[q]=j at *
 have gY:∀ {w':World} {K:Value->Prop} {i:Nat} (hF:FW w1 w' g n C) (hi:i<c.ins.length) (k:K (.int .i64 (zay C i:Int))),RD tp (Instr.indexAt 33 (.slice (some ⟨g,0,none⟩) n n) (.int .i64 (i:Int))) w' λgc=>RD tp (Instr.loadAt 3 gc) w' K:=λ{w' K i} hF hi k=>by
   refine zad u33 ty3 (i:=i) hF.mine.is (by rw [zaf,gl];exact hi) λb1 o1 M=>?_;rw [zaR] at M;exact zac ty3 M (xrf _) λ_=>k
 refine gX gj<|gY I hj.1<|zab zaM<|zaa zcQ (zak hA) I.ext λv71 hX=>hx g4<|zad u34 zcL hX g2 λb3 o3 hC=>?_;rw [zaz] at hC;refine zaa zcL hC I.ext λv77 hY=>hx g4<|gY I g2 ?_;refine (zsA hY I.ext h1 (e1.trans (gE.t I.ext)) hc hT g2 gp).mono ?_;rintro _ w13 ⟨U,rfl⟩;refine ⟨U,?_⟩;have V:=I.step U;have gr:=g4.ext U;have X:=gj.ext U;have haf:=zBV hc hT g2 gp;have hvl:=qaX (n:=zay C j) (m:=aft c T i (zay C i));refine zeA (m:=zay C j) (n:=aft c T i (zay C i)) oo oo<|gX X<|gY V hj.1<|zaP<|br (λhZ=>?_) (λj0=>?_)
 . have gZ:zay C j &&& aft c T i (zay C i)≠zay C j:=λe=>hZ (by rw [e])
   refine gX X<|zb8 (α:=Int) rfl u33 ty3 gW<|zbr (α:=Int) rfl ty3 V.mine (by rw [zaf,gl,hnn]) gW (zbY (v:=zay C j &&& aft c T i (zay C i)) oo) λw14 gs h2=>?_;have h4:=V.set (v:=zay C j &&& aft c T i (zay C i)) gs h2;have Y:=zfu gs;refine zau<|⟨mq-1,oo,q+1,oo,true,_,rfl,oo,h4,gr.chg Y oo,X.chg Y oo,gV gZ⟩
 refine zau<|⟨mq-1,oo,q+1,oo,gf,C,rfl,oo,V,gr,X,gq (qaY.1 (qad.1 j0))⟩
theorem zmo {p:Nat->Prop} {n:Nat}:∀ {k:Nat},k<=n->zdM (zcR p n) k=zaT (zbd k p)
 | 0,_=>rfl
 | k+1,h=>by
   rw [zdM,zmo (k:=k) oo];by_cases hp:p k
   . rw [if_pos (za7.2 ⟨oo,hp⟩),zdf hp,zcF];rfl
   rw [if_neg λe=>hp (za7.1 e).2,zdw hp]
def zen {p:Nat->Prop} (h:n<=62):zbJ (zcR p n)=zaT (zbd n p):=by
 rw [zlh (k:=n) zj6 oo,zmo (lr _)]
def zbs {p:Nat->Prop} (h:n<=8):zcR p n<256:=qal zj6 (qat (n:=2) oo h)
noncomputable def cls (c:DCode) (op:Int):List Nat:=(List.range c.procs.length).map λp=>zcR (zk0 c p op) c.procs.length
noncomputable def frs (c:DCode):List Nat:=(List.range c.procs.length).map λp=>zcR (FromP c p) c.procs.length
def zhs (c:DCode) (op:Int):(cls c op).length=c.procs.length:=by simp [cls]
def zkd (c:DCode):(frs c).length=c.procs.length:=by simp [frs]
def zBX (hp:p<c.procs.length):zay (cls c op) p=zcR (zk0 c p op) c.procs.length:=by rw [<-zbl (by rw [zhs];exact hp)];simp [cls]
def zt8 (hp:p<c.procs.length):zay (frs c) p=zcR (FromP c p) c.procs.length:=by rw [<-zbl (by rw [zkd];exact hp)];simp [frs]
noncomputable def zdh (c:DCode):Nat:=zcR (RootP c) c.procs.length
noncomputable def zeJ (c:DCode):Nat:=zcR (UsedP c) c.procs.length
structure WAt (W0:World) (b:Nat) (c:DCode):Prop where
 wl:WL W0 b c
 calls:At W0 b (0+6) (zaT (cls c 4))
 spawns:At W0 b (0+7) (zaT (cls c 5))
 frm:At W0 b (0+8) (zaT (frs c))
 roots:At W0 b (0+9) (zdh c:Int)
 used:At W0 b (0+10) (zeJ c:Int)
def KI (m:Nat) (P:Nat->Prop):Prop:=m<64/\∀ l,l<6->(m.testBit l=false↔P l)
def KI.start {P:Nat->Prop} (h:∀ l,¬P l):KI 63 P:=⟨oo,λl hl=>by rw [zjk hl];exact ⟨λe=>(by cases e),λe=>absurd e (h l)⟩⟩
def KI.drop {m a:Nat} {P P':Nat->Prop} (h:KI m P) (hP:∀ l,P' l↔P l\/a=l):KI (zlg m (2^a)) P':=by
 refine ⟨qaF (ziv _ _) h.1,λl hl=>?_⟩;rw [zdg,qaG,hP,<-h.2 l hl];simp only [qbE,qb2,decide_eq_true_eq]
def KI.congr {P P':Nat->Prop} (h:KI m P) (hP:∀ l,P' l↔P l):KI m P':=⟨h.1,λl hl=>by rw [h.2 l hl,hP]⟩
def KI.eq {P:Nat->Prop} (h:KI m P):m=m6 λl=>¬P l:=zx1 h.1 λl hl=>by rw [<-h.2 l hl];simp
def zbD {α:Type} {l:List α} (hk:k<l.length) {x:α}:x∈l.take (k+1)↔x∈l.take k\/x=l[k]:=by
 rw [tk hk,qae];simp
def zqR (c:DCode) (q l:Nat):Prop:=∃ i,zaN c q i/\(zam c i).op=7/\agN c i=l
def zx9 (hW:WAt W0 b c) (e0:Ext W0 w) (hc:CodeR c) (hp:p<c.procs.length) :
   CALL tp 284 [.pointer (some ⟨b,0,none⟩),.int .i64 (p:Int)] w λr w'=>Ext w w'/\r=.int .i64 (zd5 c p:Nat):=by
 refine co (g:=kf [] [(3,72057594037404320,[5,19]),(6,36028796884746784,[5,27])] []) Tryz.func284 ?_;have h8:=hc.1.procs8;have hil:=hc.f.ins;refine NIL.mk rfl<|zab zqe<|zaa za4 hW.frm e0 λv13 gj=>zad u33 ty3 gj (by rw [zaf,zkd];exact hp) λb1 o1 g9=>?_;rw [zaR,zt8 hp] at g9;refine zac ty3 g9 e0 λ_=>?_;have hsm:=zbs (p:=FromP c p) h8.1;refine (zdr (m:=zcR (FromP c p) c.procs.length) oo).mono ?_;rintro v17 w1 ⟨gb,g2⟩;rw [zen oo] at g2;have hL:∀ q,q∈zbd c.procs.length (FromP c p)↔q<c.procs.length/\FromP c p q:=λq=>zaH;have hLl:=zbg (n:=c.procs.length) (p:=FromP c p);generalize zbd c.procs.length (FromP c p)=L at *;refine zae u33 g2.is ?_;rw [zaf];refine zao L.length (λk us w'=>∃ m:Nat,us=[.int .i64 (m:Int),.int .i64 (k:Int)]/\k<=L.length/\Ext w1 w'/\KI m (λl=>∃ q∈L.take k,zqR c q l)) 0 (z0 _) ⟨63,rfl,z0 _,xrf _,KI.start sS⟩ ?_;rintro k mk u w2 hkm ⟨m,hu,hkl,g1,hK⟩;obtain ⟨g3,g4⟩:=zcB hu;clear hu;rw [g3,g4];refine zag<|br (λgl=>?_) (λgp=>?_)
 case refine_2=>
   rw [show L.take k=L from qaf oo] at hK;refine ⟨gb.t g1,?_⟩
   have:m=zd5 c p:=by
     rw [hK.eq];refine zt6 λl hl=>not_congr ?_;constructor
     . rintro ⟨q,hq,i,h1,h2,h3⟩
       exact ⟨q,i,((hL q).1 hq).1,((hL q).1 hq).2,h1,h2,h3⟩
     rintro ⟨q,i,h0,hf,h1,h2,h3⟩;exact ⟨q,(hL q).2 ⟨h0,hf⟩,i,h1,h2,h3⟩
   rw [this]
 have hk:k<L.length:=oo
 refine zad u33 ty3 (i:=k) (g2.is) (by rw [zaf];exact hk) λb2 o2 gc=>?_;rw [za3] at gc;refine zac ty3 gc g1 λ_=>?_;have hq:=(hL L[k]).1 (qab hk);have g5:=λx=>zbD hk (x:=x);generalize L[k]=q at *;have g0:=(e0.t gb).trans g1;refine (zhr hW.wl g0 hc hq.1).mono ?_;rintro v25 w3 ⟨gd,gf⟩;have hM:∀ i,i∈zbd c.ins.length (zaN c q)↔i<c.ins.length/\zaN c q i:=λi=>zaH;have hMl:=zbg (n:=c.ins.length) (p:=zaN c q);generalize zbd c.ins.length (zaN c q)=M at *;refine zae u33 gf.is ?_;rw [zaf];refine zao M.length (λj us w'=>∃ m:Nat,us=[.int .i64 (m:Int),.int .i64 (j:Int)]/\j<=M.length/\Ext w3 w'/\KI m (λl=>(∃ q∈L.take k,zqR c q l)\/∃ i∈M.take j,(zam c i).op=7/\agN c i=l)) 0 (z0 _) ⟨m,rfl,z0 _,xrf _,hK.congr λl=>by simp⟩ ?_;rintro j mj u w4 hjm ⟨m4,hu,hjl,D,I⟩;obtain ⟨g3,g4⟩:=zcB hu;rw [g3,g4];refine zag<|br (λgl=>?_) (λgp=>?_)
 case refine_2=>
   rw [show M.take j=M from qaf oo] at I;refine zau<|⟨mk-1,oo,k+1,oo,m4,rfl,oo,g1.t (gd.t D),I.congr λl=>?_⟩;constructor
   . rintro ⟨r,hr,h1⟩
     rcases (g5 r).1 hr with hr | rfl
     . exact .inl ⟨r,hr,h1⟩
     obtain ⟨i,h1,h2,h3⟩:=h1;exact .inr ⟨i,(hM i).2 ⟨(zbV hc (by rw [hc.2.1.1];exact hq.1) h1).1,h1⟩,h2,h3⟩
   rintro (⟨r,hr,h1⟩ | ⟨i,hi,h2,h3⟩)
   . exact ⟨r,(g5 r).2 (.inl hr),h1⟩
   exact ⟨q,(g5 q).2 (.inr rfl),i,((hM i).1 hi).2,h2,h3⟩
 have hj:j<M.length:=oo
 refine zad u33 ty3 (i:=j) (gf.is) (by rw [zaf];exact hj) λb3 o3 gg=>?_;rw [za3] at gg;refine zac ty3 gg D λ_=>?_;have hi:=(hM M[j]).1 (qab hj);have O:=λx=>zbD hj (x:=x);generalize M[j]=i at *;have C:=g0.t (gd.t D);refine NIL.mk rfl<|zab zbM<|zab zaM<|zaa zcQ (zak hW.wl.code) C λv35 gq=>zad u34 zcL gq hi.1 λb4 o4 gh=>?_;rw [zaz] at gh;refine zab zbp<|zac ty3 (zaw gh) C λ_=>zai<|br (λc7=>?_) (λc7=>?_)
 . obtain ⟨ha,_,gr⟩:=zcY hc hi.1 (.inr c7)
   have hpw:=zfV gr;refine NIL.mk rfl<|zab zbM<|zab zaM<|zaa zcQ (zak hW.wl.code) C λv46 gs=>zad u34 zcL gs hi.1 λb5 o5 gi=>?_;rw [zaz] at gi;refine zab za8<|zac ty3 (zaq gi) C λ_=>?_;rw [ha];refine zb0 kK zkA oo<|zdF oo ?_;have h64:=I.1;refine zft (m:=m4) (n:=2^agN c i) oo oo<|zau<|⟨mj-1,oo,j+1,oo,_,rfl,oo,D,I.drop λl=>?_⟩;constructor
   . rintro (h | ⟨r,hr,h1,h2⟩)
     . exact .inl (.inl h)
     rcases (O r).1 hr with hr | rfl
     . exact .inl (.inr ⟨r,hr,h1,h2⟩)
     exact .inr h2
   rintro ((h | ⟨r,hr,h1⟩) | h)
   . exact .inl h
   . exact .inr ⟨r,(O r).2 (.inl hr),h1⟩
   exact .inr ⟨i,(O i).2 (.inr rfl),c7,h⟩
 refine zau<|⟨mj-1,oo,j+1,oo,_,rfl,oo,D,I.congr λl=>?_⟩;constructor
 . rintro (h | ⟨r,hr,h1,h2⟩)
   . exact .inl h
   rcases (O r).1 hr with hr | rfl
   . exact .inr ⟨r,hr,h1,h2⟩
   exact absurd h1 c7
 rintro (h | ⟨r,hr,h1⟩)
 . exact .inl h
 exact .inr ⟨r,(O r).2 (.inl hr),h1⟩
def zvp (h0:Is W0 v0 c) (e0:Ext W0 w) (hc:CodeR c) (hp:p<c.procs.length) :
   CALL tp 339 [v0,.int .i64 (p:Int)] w λr w'=>Ext w w'/\r=.int .i64 (zd5 c p:Nat):=by
 refine co (g:=kf [] [(4,144115188075848640,[6,7]),(9,144115187807420992,[6,9])] []) Tryz.func339 ?_;have h8:=hc.1.procs8;have hil:=hc.f.ins;refine za9 h0 e0 λw0 gh hA=>zaa zbq hA (xrf _) λv10 gi=>?_;refine (zgR gi (xrf _) hc hp).mono ?_;rintro _ w1 ⟨gj,g,rfl,hg,g9⟩;have gl:(λi=>i=p\/RP (zml c) p i)=FromP c p:=rfl;rw [gl] at g9;refine zao c.procs.length (λk us w'=>∃ m:Nat,us=[.int .i64 (m:Int),.int .i64 (k:Int)]/\k<=c.procs.length/\Ext w1 w'/\KI m (λl=>∃ q,q<k/\FromP c p q/\zqR c q l)) 0 (z0 _) ⟨63,rfl,z0 _,xrf _,KI.start sS⟩ ?_;rintro k mk u w2 hkm ⟨m,hu,hkl,g0,hK⟩;obtain ⟨g2,g3⟩:=zcB hu;clear hu;rw [g2,g3];have C:=gj.t g0;refine zab zbG<|zaa zcv (zaC hA) C λv15 gp=>zae u24 gp<|zag<|br (λgq=>?_) (λgr=>?_)
 case refine_2=>
   have gs:k=c.procs.length:=oo
   rw [gs] at hK;refine ⟨gh.t C,?_⟩
   have:m=zd5 c p:=by
     rw [hK.eq];refine zt6 λl hl=>not_congr ?_;constructor
     . rintro ⟨q,hq,hf,i,h1,h2,h3⟩
       exact ⟨q,i,hq,hf,h1,h2,h3⟩
     rintro ⟨q,i,h0,hf,h1,h2,h3⟩;exact ⟨q,h0,hf,i,h1,h2,h3⟩
   rw [this]
 have hk:k<c.procs.length:=oo
 refine zad u90 ty4 (i:=k) g9.is (by rw [zan];exact hk) λb2 o2 gt=>zaG ty4 gt g0 ?_;have g4:=zaU (n:=c.procs.length) (p:=FromP c p) (i:=k);rw [za5 (by rw [zan];exact hk)] at g4;refine zaV<|zbz (λhf=>?_) (λhf=>?_)
 . have gx:¬FromP c p k:=λh=>by rw [g4.2 ⟨hk,h⟩] at hf;cases hf
   refine zau<|⟨mk-1,oo,k+1,oo,m,rfl,oo,g0,hK.congr λl=>?_⟩;constructor
   . rintro ⟨q,hq,h1,h2⟩
     by_cases e:q=k
     . subst e;exact absurd h1 gx
     exact ⟨q,oo,h1,h2⟩
   rintro ⟨q,hq,h1⟩;exact ⟨q,oo,h1⟩
 have gy:FromP c p k:=(g4.1 (by simpa using hf)).2;refine zaa zbq hA C λv25 gz=>?_;refine (zgf gz C hc (by rw [hc.2.1.1];exact hk)).mono ?_;rintro v27 w3 ⟨gb,gC⟩;refine zao c.ins.length (λj us w'=>∃ m:Nat,us=[.int .i64 (m:Int),.int .i64 (j:Int)]/\j<=c.ins.length/\Ext w3 w'/\KI m (λl=>(∃ q,q<k/\FromP c p q/\zqR c q l)\/∃ i,i<j/\zaN c k i/\(zam c i).op=7/\agN c i=l)) 0 (z0 _) ⟨m,rfl,z0 _,xrf _,hK.congr λl=>by simp⟩ ?_;rintro j mj u w4 hjm ⟨m4,hu,hjl,I,M⟩;obtain ⟨g2,g3⟩:=zcB hu;rw [g2,g3];have D:=C.t (gb.t I);refine zab zaM<|zaa zcQ (zak hA) D λv30 gD=>zae u34 gD<|zag<|br (λgq=>?_) (λgr=>?_)
 case refine_2=>
   have gE:j=c.ins.length:=oo
   rw [gE] at M;refine zau<|⟨mk-1,oo,k+1,oo,m4,rfl,oo,g0.t (gb.t I),M.congr λl=>?_⟩;constructor
   . rintro ⟨q,hq,h1,h2⟩
     by_cases e:q=k
     . subst e
       obtain ⟨i,h3,h4⟩:=h2;exact .inr ⟨i,(zbV hc (by rw [hc.2.1.1];exact hk) h3).1,h3,h4⟩
     exact .inl ⟨q,oo,h1,h2⟩
   rintro (⟨q,hq,h1⟩ | ⟨i,hi,h2⟩)
   . exact ⟨q,oo,h1⟩
   exact ⟨k,oo,gy,i,h2⟩
 have hj:j<c.ins.length:=oo
 refine zad u90 ty4 (i:=j) gC.is (by rw [zan];exact hj) λb3 o3 gF=>zaG ty4 gF I ?_;have g5:=zaU (n:=c.ins.length) (p:=zaN c k) (i:=j);rw [za5 (by rw [zan];exact hj)] at g5
 have gc:∀ w',Ext w3 w'->¬(zaN c k j/\(zam c j).op=7)->∃ m:Nat,[Value.int .i64 (m4:Int),Value.int .i64 ((j+1:Nat):Int)]=[.int .i64 (m:Int),.int .i64 ((j+1:Nat):Int)]/\j+1<=c.ins.length/\Ext w3 w'/\KI m (λl=>(∃ q,q<k/\FromP c p q/\zqR c q l)\/∃ i,i<j+1/\zaN c k i/\(zam c i).op=7/\agN c i=l):=λw' hx hn=>by
   refine ⟨m4,rfl,oo,hx,M.congr λl=>or_congr Iff.rfl ?_⟩;constructor
   . rintro ⟨i,h1,h2,h3,h4⟩
     by_cases e:i=j
     . subst e;exact absurd ⟨h2,h3⟩ hn
     exact ⟨i,oo,h2,h3,h4⟩
   rintro ⟨i,h1,h2⟩;exact ⟨i,oo,h2⟩
 refine zbz (λg1=>?_) (λg1=>?_)
 . refine zab zaM ?_
   refine zaa zcQ (zak hA) D λv41 gG=>zad u34 zcL gG hj λb4 o4 gd=>?_;rw [zaz] at gd;refine zab zbp<|zac ty3 (zaw gd) D λ_=>zai<|br (λc7=>?_) (λc7=>?_)
   . obtain ⟨ha,_,gH⟩:=zcY hc hj (.inr c7)
     have gf:=zfV gH;refine zab zaM<|zaa zcQ (zak hA) D λv50 gI=>zad u34 zcL gI hj λb5 o5 gg=>?_;rw [zaz] at gg;refine zab za8<|zac ty3 (zaq gg) D λ_=>?_;rw [ha];refine (zgi oo).mono ?_;rintro _ w5 ⟨gJ,rfl⟩;refine (zka M.1 gf).mono ?_;rintro _ w6 ⟨gK,rfl⟩;rw [zix M.1 gf];refine zau<|⟨mj-1,oo,j+1,oo,_,rfl,oo,I.t (gJ.t gK),M.drop λl=>?_⟩;constructor
     . rintro (h | ⟨i,h1,h2,h3,h4⟩)
       . exact .inl (.inl h)
       by_cases e:i=j
       . subst e;exact .inr h4
       exact .inl (.inr ⟨i,oo,h2,h3,h4⟩)
     rintro ((h | ⟨i,h1,h2⟩) | h)
     . exact .inl h
     . exact .inr ⟨i,oo,h2⟩
     exact .inr ⟨j,oo,(g5.1 g1).2,c7,h⟩
   refine zau<|⟨mj-1,oo,j+1,oo,gc w4 I λh=>c7 h.2⟩
 refine zau<|⟨mj-1,oo,j+1,oo,gc w4 I λh=>by rw [g5.2 ⟨hj,h.1⟩] at g1;cases g1⟩
def zeE (hc:CodeR c) {p:Nat} (hp:p<c.procs.length):zep c p=((zN c p+1:Nat):Int)/\zfT c p=(zN c p:Int)/\zN c p<c.ins.length:=by
 have h:=zng hc (p:=p) (by rw [hc.2.1.1];exact hp);refine ⟨oo,?_,h.2.2⟩;rw [zdU];omega
def zAa {T:Tab} (hW:WL W0 b c) (e0:Ext W0 w) (h1:Is W1 v1 (zif T)) (e1:Ext W1 w) (hc:CodeR c) (hT:zx4 c T) (hp:p<c.procs.length) :
   CALL tp 229 [.pointer (some ⟨b,0,none⟩),v1,.int .i64 (p:Int)] w λr w'=>Ext w w'/\r=.int .i64 (zeC c T p:Nat):=by
 refine co (g:=kf [] [] [(1,[0,1,2,4,5,6,7,8,3,9,10,11,12,13],8)]) Tryz.func229 ?_;obtain ⟨g3,hz2,g4⟩:=zeE hc hp;have hil:=hc.f.ins;have h8:=hc.1.procs8;have C:=zah w;generalize World.drew1 w=w1 at *;refine NIL.mk rfl<|zab zbM<|zaa zbq hW.code (e0.t C) λv14 g5=>?_;refine (zsD hW (e0.t C) h1 (e1.trans C) hc hT hp (h:=0) oo).mono ?_;rintro v10 w2 ⟨g0,g9⟩;refine ⟨g0,?_⟩;refine (zdJ g5 ((e0.t C).trans g0) oo).mono ?_;rintro _ w3 ⟨g1,rfl⟩;rw [g3];refine zbc (by unfold I64;omega) ?_;rw [show ((zN c p+1:Nat):Int)-1=(zN c p:Int) by omega];refine zad u33 ty3 g9.is (by rw [zaf,zeB];exact g4) λb1 o1 g2=>?_;rw [zaR] at g2;refine zac ty3 g2 g1 λ_=>⟨C.t (g0.t g1),rfl⟩
def zya {T:Tab} (h0:Is W0 v0 c) (e0:Ext W0 w) (h1:Is W1 v1 (zif T)) (e1:Ext W1 w) (hc:CodeR c) (hT:zx4 c T) (hp:p<c.procs.length) :
   CALL tp 323 [v0,v1,.int .i64 (p:Int)] w λr w'=>Ext w w'/\r=.int .i64 (zeC c T p:Nat):=by
 refine co (g:=kf [] [] [(1,[0,1,2,4,5,3,6,7,8,9],8)]) Tryz.func323 ?_;obtain ⟨hz1,g4,g5⟩:=zeE hc hp;have hil:=hc.f.ins;have h8:=hc.1.procs8;refine za9 h0 e0 λw0 g1 hA=>?_;have C:=zah w0;generalize World.drew1 w0=w1 at *;refine zaa zbq hA C λv7 h7=>zaa zbq hA C λv11 g9=>?_;refine (zkc h7 C h1 (e1.trans (g1.t C)) hc hT hp (h:=0) oo).mono ?_;rintro v10 w2 ⟨g0,gb⟩;refine ⟨g0,?_⟩;refine (zfl g9 (C.t g0) (p:=(p:Int)) oo oo hc.2.1.nonneg).mono ?_;rintro _ w3 ⟨g2,rfl⟩;rw [g4];refine zad u33 ty3 gb.is (by rw [zaf,zeB];exact g5) λb1 o1 g3=>?_;rw [zaR] at g3;refine zac ty3 g3 g2 λ_=>⟨(g1.t C).trans (g0.t g2),rfl⟩
noncomputable def zwf (c:DCode) (k:Nat):Tab:=(List.range k).map λp=>(zd5 c p,63)
def zqS (c:DCode) (k:Nat):zif (zwf c (k+1))=zif (zwf c k)++[zzo (zd5 c k,63)]:=by simp [zwf,zif,qbz]
def zlk (c:DCode) (k:Nat):(zif (zwf c k)).length=k:=by simp [zwf,zif]
def zt9 (lo hi:Nat) {x:Nat×Nat} (h1:x.1<64) (h2:x.2<64):OwnI lo hi w (.agg #[.int .i64 (x.1:Int),.int .i64 (x.2:Int)]) (zzo x):=
 ⟨[],zvo (x:=zzo x) (by unfold zzo I64;simp only;omega) (by unfold zzo I64;simp only;omega),sS⟩
def zmp (hW:WAt W0 b c) (e0:Ext W0 w) (hc:CodeR c) :
   CALL tp 228 [.pointer (some ⟨b,0,none⟩)] w λr w'=>Ext w w'/\Own w.heap.size w' r (zif (zwf c c.procs.length)):=by
 refine co (g:=kf [] [(3,4192280,[3,11])] []) Tryz.func228 ?_;have h8:=hc.1.procs8;refine NIL.mk rfl<|zab zbM<|zab zbG<|zaa zcv (zaC hW.wl.code) e0 λv9 h9=>zae u24 h9<|zao c.procs.length (λk us w'=>∃ v:Value,us=[v,.int .i64 (k:Int)]/\k<=c.procs.length/\Ext w w'/\RowI w.heap.size w'.heap.size 244 w' v (zif (zwf c k))) 0 (z0 _) ⟨_,rfl,z0 _,xrf _,zb6 _ _ _ _⟩ ?_;rintro k mk u w2 hkm ⟨v,hu,hkl,g0,g1⟩;obtain ⟨g3,g4⟩:=zcB hu;rw [g3,g4];refine zag<|br (λhlt=>?_) (λhge=>?_)
 case refine_2=>
   have:k=c.procs.length:=oo
   rw [this] at g1;exact ⟨g0,g1.own.own⟩
 have hk:k<c.procs.length:=oo
 have hs2:=g0.size;refine (zx9 hW (e0.t g0) hc hk).mono ?_;rintro _ w3 ⟨g2,rfl⟩;have hs3:=g2.size;refine zaX (cells:=#[.int .i64 (zd5 c k:Nat),.int .i64 63]) kK<|zbO (lo2:=w3.heap.size) (hi2:=w3.heap.size) (x:=zzo (zd5 c k,63)) zxg zm9 zFi zEf qd (g1.ext g2) oo (zt9 _ _ (x:=(zd5 c k,63)) zmm oo) oo oo (by rw [zal,zlk];omega) (by rw [zlk];omega) λg5 w9 g9 gb=>zau<|⟨mk-1,oo,k+1,oo,g5,rfl,oo,(g0.t g2).chgI g9 (lr _),?_⟩;rw [zqS];exact gb
def zyb (h0:Is W0 v0 c) (e0:Ext W0 w) (hc:CodeR c) :
   CALL tp 322 [v0] w λr w'=>Ext w w'/\Own w.heap.size w' r (zif (zwf c c.procs.length)):=by
 refine co (g:=kf [] [(3,1048536,[3,4])] []) Tryz.func322 ?_;have h8:=hc.1.procs8;refine za9 h0 e0 λw0 g2 hA=>?_;have hs0:=g2.size;refine zaK (α:=DEffect) zxg zm9 λa w1 g3 g4=>?_;have g5:=g3.size;refine zao c.procs.length (λk us w'=>∃ v:Value,us=[v,.int .i64 (k:Int)]/\k<=c.procs.length/\Ext w0 w'/\RowI w0.heap.size w'.heap.size 244 w' v (zif (zwf c k))) 0 (z0 _) ⟨_,rfl,z0 _,g3,g4.mono g5 (lr _)⟩ ?_;rintro k mk u w2 hkm ⟨v,hu,hkl,C,g0⟩;obtain ⟨g9,gb⟩:=zcB hu;rw [g9,gb];refine zab zbG<|zaa zcv (zaC hA) C λv9 h9=>zae u24 h9<|zag<|br (λhlt=>?_) (λhge=>?_)
 case refine_2=>
   have:k=c.procs.length:=oo
   rw [this] at g0;exact ⟨g2.t C,g0.own.own.mono oo⟩
 have hk:k<c.procs.length:=oo
 have hs2:=C.size;refine zaa zbq hA C λv14 gc=>?_;refine (zvp gc C hc hk).mono ?_;rintro _ w3 ⟨g1,rfl⟩;have hs3:=g1.size;refine zaX (cells:=#[.int .i64 (zd5 c k:Nat),.int .i64 63]) kK<|zbO (lo2:=w3.heap.size) (hi2:=w3.heap.size) (x:=zzo (zd5 c k,63)) zxg zm9 zFi zEf qd (g0.ext g1) oo (zt9 _ _ (x:=(zd5 c k,63)) zmm oo) oo oo (by rw [zal,zlk];omega) (by rw [zlk];omega) λgd w9 gf gg=>zau<|⟨mk-1,oo,k+1,oo,gd,rfl,oo,(C.t g1).chgI gf oo,?_⟩;rw [zqS];exact gg
structure FE (w1 w:World) (g:Nat) (v:Value) (T:Tab):Prop where
 ext:Ext w1 w
 mine:Mine [g] w v (zif T)
 g0:w1.heap.size<=g
section
variable {w1 w w':World} {g:Nat} {v:Value} {T:Tab}
def FE.step (h:FE w1 w g v T) (hx:Ext w w'):FE w1 w' g v T:=⟨h.ext.trans hx,h.mine.ext hx,h.g0⟩
def FE.own (h:FE w1 w g v T):Own w1.heap.size w v (zif T):=⟨[g],h.mine,λb hb=>by simp only [qaa,qac,or_false] at hb;have:=h.g0;omega⟩
def FE.make (ho:Own w1.heap.size w v (zif T)) (hx:Ext w1 w) (hT:T≠[]):∃ g,FE w1 w g v T:=by
 obtain ⟨F,hm,hF⟩:=ho;obtain ⟨b,o,cap,hv,rfl⟩:=zfG hm (by intro e;exact hT (List.map_eq_nil_iff.1 e));exact ⟨b,hx,hm,hF b sS⟩
def zyc {q m:Nat} {K:World->Prop} (h:FE w1 w g v T) (hT:T≠[]) (hq:q<T.length) (hm:m<64) (k:∀ w',FE w1 w' g v (T.set q ((tbl T q).1,m))->ChgI g (g+1) w w'->K w') :
   RD tp (Instr.indexAt 172 v (.int .i64 (q:Int))) w λa=>RD tp (Instr.fieldAt 244 a 1) w λf=>OPU tp (Instr.storeAt 3 f (.int .i64 (m:Int))) w K:=by
 refine zEk (α:=DEffect) (β:=Int) (sel:=DEffect.gen) (g:=λa y=>⟨a.keep,y⟩) zxg zm9 zlF ty3 (λh=>znh h) h.mine (by rw [zfJ];exact hq) (zbY (v:=m) oo) λw2 F2 g3 g1 g4=>?_
 have hF:F2=[g]:=by
   obtain ⟨b,o,cap,hv,rfl⟩:=zfG g1 (by intro e;have:=congrArg List.length e;rw [qaL,zfJ] at this;simp only [qay] at this;omega);have:=g4 b sS;simpa using this
 subst hF;have g2:=zfu g3;refine k w2 ⟨h.ext.chgI g2 h.g0,?_,h.g0⟩ g2;rw [zz9];rw [zgU] at g1;exact g1
end
def zyd (hc:CodeR c):EI c (zwf c c.procs.length):=EI.start c hc
def EI.len {T:Tab} (h:EI c T):T.length=c.procs.length:=h.tab.1
def EI.ne (hc:CodeR c) {T:Tab} (h:EI c T):T≠[]:=λe=>by
 have h1:=h.len;have h2:=hc.1.procs8;rw [e] at h1;simp at h1;omega
structure EP (c:DCode) (T0:Tab) (k:Nat) (ag:Bool) (T:Tab):Prop where
 ei:EI c T
 yes:ag=true->zx6 T<zx6 T0
 no:ag=false->T=T0/\∀ p,p<k->zeC c T0 p=(tbl T0 p).2
theorem EP.set (hc:CodeR c) {T0 T:Tab} {k:Nat} {ag:Bool} (H:EP c T0 k ag T) (hk:k<c.procs.length) (g0:zeC c T k≠(tbl T k).2):EP c T0 (k+1) true (T.set k ((tbl T k).1,zeC c T k)):=by
 refine ⟨H.ei.upd hc hk,λ_=>?_,λe=>by cases e⟩;have h1:=zz8 (T:=T) (p:=k) (v:=((tbl T k).1,zeC c T k)) (by rw [H.ei.len];exact hk);have h2:=H.ei.le hc hk;simp only at h1;cases ag with
 | true=>have:=H.yes rfl;omega
 | false=>rw [(H.no rfl).1] at h1 h2 g0 ⊢;omega
def EP.skip {T0 T:Tab} (H:EP c T0 k ag T) (he:zeC c T k=(tbl T k).2):EP c T0 (k+1) ag T:=
 ⟨H.ei,H.yes,λe=>⟨(H.no e).1,λp hp=>by
   by_cases h:p=k
   . subst h;rw [(H.no e).1] at he;exact he
   exact (H.no e).2 p oo⟩⟩
def zvq (hW:WAt W0 b c) (e0:Ext W0 w) (hc:CodeR c) :
   CALL tp 149 [.pointer (some ⟨b,0,none⟩)] w λr w'=>Ext w w'/\Own w.heap.size w' r (zif (zdk c)):=by
 refine co (g:=kf [] [(3,4294966896,[4]),(6,4294963312,[4,12])] []) Tryz.func149 ?_;have h8:=hc.1.procs8;refine (zmp hW e0 hc).mono ?_;rintro v8 w1 ⟨gc,gd⟩;have g5:=zyd hc;obtain ⟨g,gf⟩:=FE.make gd gc (g5.ne hc);generalize zwf c c.procs.length=T at *;refine LOOPI.mk (λm us w'=>∃ (ag:Bool) (T:Tab),us=[.bool ag]/\m=zx6 T+(if ag then 1 else 0)/\FE w w' g v8 T/\EI c T/\(ag=false->∀ p,p<c.procs.length->zeC c T p=(tbl T p).2)) (zx6 T+1) ⟨true,T,rfl,rfl,gf,g5,λe=>by cases e⟩ ?_;rintro m u w2 ⟨ag,T,hu,hm,D,g2,gg⟩;try replace hu:=zbt hu
 rw [hu];refine zbz (λg3=>?_) (λg3=>?_)
 case refine_2=>rw [g2.fin hc (gg g3)] at D;exact ⟨D.ext,D.own⟩
 rw [g3,if_pos rfl] at hm;refine zae zxg D.mine.is ?_;rw [zfJ,g2.len];refine zao c.procs.length (λk us w'=>∃ (ag:Bool) (T':Tab),us=[.bool ag,.int .i64 (k:Int)]/\k<=c.procs.length/\FE w w' g v8 T'/\EP c T k ag T') 0 (z0 _) ⟨false,T,rfl,z0 _,D,g2,λe=>(by cases e),λ_=>⟨rfl,λp hp=>oo⟩⟩ ?_;rintro k mk u w3 hkm ⟨g0,T3,hu,hkl,g1,C⟩;obtain ⟨gh,gi⟩:=zcB hu;rw [gh,gi];refine zag<|br (λhlt=>?_) (λhge=>?_)
 case refine_2=>
   refine ⟨zx6 T3+(if g0 then 1 else 0),?_,g0,T3,rfl,rfl,g1,C.ei,λe p hp=>?_⟩
   . cases g0 with
     | true=>have:=C.yes rfl;simp;omega
     | false=>rw [(C.no rfl).1];simp;omega
   have:=C.no e;rw [this.1];exact this.2 p oo
 have hk:k<c.procs.length:=oo
 refine (zAa hW.wl (e0.t g1.ext) g1.mine.is (xrf _) hc C.ei.tab hk).mono ?_;rintro _ w4 ⟨gj,rfl⟩;have g4:=g1.step gj;have gl:=zli (T:=T3) hc hk;have hgl:=C.ei.tab.2 k;have g9:k<T3.length:=by rw [C.ei.len];exact hk
 refine zad zxg zm9 g4.mine.is (by rw [zfJ];exact g9) λb1 o1 gb=>?_;rw [zgU] at gb;refine zab zlF<|zac ty3 (zfI gb) (xrf _) λ_=>zaP<|br (λgp=>?_) (λgq=>?_)
 . refine zyc g4 (C.ei.ne hc) g9 gl λw5 gr hc5=>?_
   refine zau<|⟨mk-1,oo,k+1,oo,true,_,rfl,oo,gr,C.set hc hk λe=>gp (by rw [e];rfl)⟩
 refine zau<|⟨mk-1,oo,k+1,oo,g0,T3,rfl,oo,g4,C.skip (qaY.1 (qad.1 gq))⟩
def zpo (h0:Is W0 v0 c) (e0:Ext W0 w) (hc:CodeR c) :
   CALL tp 272 [v0] w λr w'=>Ext w w'/\Own w.heap.size w' r (zif (zdk c)):=by
 refine co (g:=kf [] [(3,8589934192,[4]),(6,8589933680,[4,5])] []) Tryz.func272 ?_;have h8:=hc.1.procs8;refine za9 h0 e0 λw0 g4 hA=>?_;have hs0:=g4.size;refine zaa zbq hA (xrf _) λv7 h7=>?_;refine (zyb h7 (xrf _) hc).mono ?_;rintro v8 w1 ⟨gd,gf⟩;have g5:=zyd hc;obtain ⟨g,gg⟩:=FE.make gf gd (g5.ne hc);generalize zwf c c.procs.length=T at *;refine LOOPI.mk (λm us w'=>∃ (ag:Bool) (T:Tab),us=[.bool ag]/\m=zx6 T+(if ag then 1 else 0)/\FE w0 w' g v8 T/\EI c T/\(ag=false->∀ p,p<c.procs.length->zeC c T p=(tbl T p).2)) (zx6 T+1) ⟨true,T,rfl,rfl,gg,g5,λe=>by cases e⟩ ?_;rintro m u w2 ⟨ag,T,hu,hm,g0,g9,gh⟩;try replace hu:=zbt hu
 rw [hu];refine zbz (λg2=>?_) (λg2=>?_)
 case refine_2=>rw [g9.fin hc (gh g2)] at g0;exact ⟨g4.t g0.ext,g0.own.mono oo⟩
 rw [g2,if_pos rfl] at hm;refine zao c.procs.length (λk us w'=>∃ (ag:Bool) (T':Tab),us=[.bool ag,.int .i64 (k:Int)]/\k<=c.procs.length/\FE w0 w' g v8 T'/\EP c T k ag T') 0 (z0 _) ⟨false,T,rfl,z0 _,g0,g9,λe=>(by cases e),λ_=>⟨rfl,λp hp=>oo⟩⟩ ?_;rintro k mk u w3 hkm ⟨g1,T3,hu,hkl,D,C⟩;obtain ⟨gi,gj⟩:=zcB hu;rw [gi,gj];refine zab zbG<|zaa zcv (zaC hA) D.ext λv12 gl=>zae u24 gl<|zag<|br (λhlt=>?_) (λhge=>?_)
 case refine_2=>
   refine ⟨zx6 T3+(if g1 then 1 else 0),?_,g1,T3,rfl,rfl,D,C.ei,λe p hp=>?_⟩
   . cases g1 with
     | true=>have:=C.yes rfl;simp;omega
     | false=>rw [(C.no rfl).1];simp;omega
   have:=C.no e;rw [this.1];exact this.2 p oo
 have hk:k<c.procs.length:=oo
 refine zaa zbq hA D.ext λv17 gp=>?_;refine (zya gp D.ext D.mine.is (xrf _) hc C.ei.tab hk).mono ?_;rintro _ w4 ⟨gq,rfl⟩;have g3:=D.step gq;have gr:=zli (T:=T3) hc hk;have hgl:=C.ei.tab.2 k;have gb:k<T3.length:=by rw [C.ei.len];exact hk
 refine zad zxg zm9 g3.mine.is (by rw [zfJ];exact gb) λb1 o1 gc=>?_;rw [zgU] at gc;refine zab zlF<|zac ty3 (zfI gc) (xrf _) λ_=>zaP<|br (λgs=>?_) (λgt=>?_)
 . refine zyc g3 (C.ei.ne hc) gb gr λw5 gx hc5=>?_
   refine zau<|⟨mk-1,oo,k+1,oo,true,_,rfl,oo,gx,C.set hc hk λe=>gs (by rw [e];rfl)⟩
 refine zau<|⟨mk-1,oo,k+1,oo,g1,T3,rfl,oo,g3,C.skip (qaY.1 (qad.1 gt))⟩
noncomputable def zwg (c:DCode) (p:Nat):List Nat:=zbd c.procs.length (zk0 c p 5)
noncomputable def zAb (c:DCode) (r:Nat):List Nat:=zbd c.procs.length (FromP c r)
noncomputable def znX (c:DCode) (r:Nat):List Nat:=(zAb c r).flatMap (zwg c)
def zye (hc:CodeR c) (q:Nat):RootP c q↔q=zcm c\/RP (znX c) (zcm c) q:=by
 have g0:∀ r q,q∈znX c r↔∃ p,p<c.procs.length/\FromP c r p/\q<c.procs.length/\zk0 c p 5 q:=λr q=>by
   unfold znX zAb zwg;simp only [qaE,zaH];exact ⟨λ⟨p,⟨h1,h2⟩,h3,h4⟩=>⟨p,h1,h2,h3,h4⟩,λ⟨p,h1,h2,h3,h4⟩=>⟨p,⟨h1,h2⟩,h3,h4⟩⟩
 constructor
 . intro h
   induction h with
   | main=>exact .inl rfl
   | @spawn r p q h0 h1 h2 hq ih=>
     have hm:=(g0 r q).2 ⟨p,h1.lt (h0.lt hc),h1,hq,h2⟩;rcases ih with rfl | ih
     . exact .inr (.one hm)
     exact .inr (.more ih hm)
 rintro (rfl | h)
 . exact .main
 refine h.keeps (p:=RootP c) .main λi j hi hj=>?_;obtain ⟨p,_,h1,h2,h3⟩:=(g0 i j).1 hj;exact .spawn hi h1 h3 h2
def zAc {α β:Type} {f:α->List β} {L:List α} (hi:i<L.length) (hj:j<(f L[i]).length):∃ h:((L.take i).flatMap f).length+j<(L.flatMap f).length,(L.flatMap f)[((L.take i).flatMap f).length+j]=(f L[i])[j]:=by
 have e:L.flatMap f=(L.take i).flatMap f++(f L[i]++(L.drop (i+1)).flatMap f):=by
   rw [<-qbs,<-qa4];congr 1;rw [<-qau hi,qct]
 have g0:((L.take i).flatMap f).length+j<(L.flatMap f).length:=by rw [e];simp only [qag];omega
 refine ⟨g0,?_⟩
 have:(L.flatMap f)[((L.take i).flatMap f).length+j]?=some (f L[i])[j]:=by
   rw [e,List.getElem?_append_right oo,qcl,List.getElem?_append_left hj,List.getElem?_eq_getElem hj]
 rw [List.getElem?_eq_getElem g0] at this;exact qaW this
def zyf {α β:Type} {f:α->List β} {L:List α} (hi:i<L.length):((L.take (i+1)).flatMap f).length=((L.take i).flatMap f).length+(f L[i]).length:=by
 rw [tk hi,qa4,qag];simp
def zgV (h0:Is W0 v0 c) (e0:Ext W0 w) (hc:CodeR c) :
   CALL tp 222 [v0] w λr w'=>Ext w w'/\Own w.heap.size w' r (zbZ c.procs.length (RootP c)):=by
 refine co (g:=kf [] [(5,9444732965739288331248,[4,5]),(9,9444732965722110559120,[4,7]),(13,9444732895370546250256,[4,9])] [(7,[0,1,2,3,4,5,6,7],0),(11,[0,1,2,3,4,5,6],0)]) Tryz.func222 ?_;have h8:=hc.1.procs8;obtain ⟨hg,gC⟩:=ze2 hc;have hR:=zye hc;have hl:∀ x,znX c x=(zAb c x).flatMap (zwg c):=λ_=>rfl
 have hV:∀ {i j:Nat},i<c.procs.length->j∈znX c i->j<c.procs.length/\True:=λ{i j} _ hj=>by
   rw [hl] at hj;obtain ⟨p,_,h⟩:=qaE.1 hj;exact ⟨(zaH.1 h).1,trivial⟩
 refine za9 h0 e0 λw1 hr hA=>?_;have hs1:=hr.size;refine zab zbG<|zaa zcv (zaC hA) (xrf _) λv11 hW=>zae u24 hW<|ze1 h8.2 oo λw2 g5 hX=>?_;have hs2:=g5.size;refine zaa zbq hA g5 λv15 hY=>?_;refine (zhR hY g5).mono ?_;rintro _ hZ ⟨V,rfl⟩;rw [hg];have j0:=V.size;have gH:=hX.ext V;generalize hn:c.procs.length=n at *;generalize zcm c=a at *;refine zb8 (α:=Bool) rfl u90 ty4 gC<|zbr (α:=Bool) rfl ty4 gH sS gC zbU λhs j1 g9=>?_;have g0:ChgI w1.heap.size (w1.heap.size+1) hZ hs:=j1.toI λb hb=>by simp only [qaa,qac,or_false] at hb;omega
 have j2:=g0.size;have gI:((List.replicate n false).set a true).length=n:=by simp
 have ht:∀ i,mkd ((List.replicate n false).set a true) i↔i=a:=λi=>by
   rw [zde (by simp;exact gC)];exact ⟨λh=>h.resolve_left zbX,.inr⟩
 generalize (List.replicate n false).set a true=M0 at *;have Y:Ext w1 hs:=(g5.t V).chgI g0 oo;refine zaa zbq hA Y λv18 j3=>?_;refine (zhR j3 Y).mono ?_;rintro _ j4 ⟨g1,rfl⟩;rw [hg];have j5:=g1.size;refine zb7 (x:=(a:Int)) u33 ty3 z3 qd (zbA (by unfold I64;omega)) λhv w3 gJ j6=>?_;have j7:=gJ.size;generalize hm:w1.heap.size=m at *;have j8:WI w1 w3 m n j4.heap.size w3.heap.size hv [a] M0:=⟨(((g5.t V).toI.trans g0).trans g1.toI).trans gJ.toI,j6,(g9.ext g1).ext gJ,oo,by have:=g9.lt m sS;omega,j7,qas _⟩;have j9:∀ x p,p∈zAb c x->p<n:=λx p hp=>by have:=(zaH.1 hp).1;omega
 have gK:∀ x,(zAb c x).length<=n:=λx=>by have:=zbg (n:=c.procs.length) (p:=FromP c x);rw [hn] at this;unfold zAb;rw [hn];exact this
 have gM:∀ x,(zwg c x).length<=n:=λx=>by have:=zbg (n:=c.procs.length) (p:=zk0 c x 5);rw [hn] at this;unfold zwg;rw [hn];exact this
 generalize hnx:znX c=nx at *;refine zao (1+n) (λh us w'=>∃ (tv:Value) (lo hi:Nat) (L:List Nat) (ms:List Bool),us=[tv,.int .i64 (h:Int)]/\h<=L.length/\WI w1 w' m n lo hi tv L ms/\SInv nx n a M0 ms (L.drop h) h) 0 (z0 _) ⟨hv,_,_,[a],_,rfl,sS,j8,SInv.start gI gC⟩ ?_;rintro h mk u w4 hkm ⟨tv,lo,hi,L,ms,hu,hhL,gD,g3⟩;obtain ⟨gb,gc⟩:=zcB hu;clear hu;rw [gb,gc];have ja:=g3.bound;rw [qa0] at ja;refine zae u33 gD.row.is ?_;rw [zaf];refine zag<|br (λhlt=>?_) (λhge=>?_)
 case refine_2=>
   have jb:h=L.length:=oo
   rw [jb,qbo] at g3;have gN:=g3.fin λi hi jc=>absurd ((ht i).1 hi) jc;have jd:ms=zbZ n (RootP c):=zcu g3.len λi hi=>by rw [gN i,ht,hR]
   rw [<-jd];have je:Ext w1 w4:=(xrf w1).chgI gD.chg oo;exact ⟨hr.t je,[m],gD.mks,λb hb=>by simp only [qaa,qac,or_false] at hb;omega⟩
 have hh:h<L.length:=oo
 have jf:=zah w4;have g4:=gD.step jf;generalize World.drew1 w4=w5 at *;have gE:∀ {w:World} {lo hi tv L ms},WI w1 w m n lo hi tv L ms->Ext w1 w:=λh=>(xrf w1).chgI h.chg oo;refine zaa zbq hA (gE g4) λv27 jg=>zad u33 ty3 (i:=h) g4.row.is (by rw [zaf];exact hh) λb1 o1 gd=>?_;rw [za3] at gd;refine zac ty3 gd (xrf _) λ_=>?_;generalize hx:L[h]=x at *;have gO:L.drop h=x :: L.drop (h+1):=by rw [qau hh,hx]
 have hw:x<n:=(g3.tdo x (by rw [gO];simp)).2;refine (zgR jg (gE g4) hc (by rw [hn];exact hw)).mono ?_;rintro _ gg ⟨gh,gf,rfl,hgf,jh⟩;refine (zfH jh.is (xrf _) (by rw [zan];omega)).mono ?_;rintro gP w6 ⟨hz,hB⟩;have ji:(λi=>i=x\/RP (zml c) x i)=FromP c x:=rfl;rw [zan,zho,ji] at hB;have gQ:Own gg.heap.size w6 gP (zaT (zAb c x)):=hB;have jj:=(g4.step gh).step hz;have hI6:=g4.h3;have jk:=gh.size;have hs6:=hz.size;have jl:SIn2 nx n a M0 ms (L.drop (h+1)) h x 0:=g3.pop (λi=>by rw [gO];simp [or_comm]) (by rw [gO];simp);have hfx:=gK x;have gR:=j9 x;have gi:nx x=(zAb c x).flatMap (zwg c):=hl x;generalize zAb c x=Fl at *;refine zao Fl.length (λk us w'=>∃ (tv:Value) (lo hi:Nat) (L:List Nat) (ms:List Bool),us=[tv,.int .i64 (k:Int)]/\k<=Fl.length/\h<L.length/\WI w1 w' m n lo hi tv L ms/\SIn2 nx n a M0 ms (L.drop (h+1)) h x ((Fl.take k).flatMap (zwg c)).length/\OwnI gg.heap.size w6.heap.size w' gP (zaT Fl)/\(hi<=gg.heap.size\/w6.heap.size<=lo)/\w6.heap.size<=w'.heap.size) 0 (z0 _) ⟨tv,lo,hi,L,ms,rfl,z0 _,hh,jj,jl,gQ.toI,.inl oo,qas _⟩ ?_;rintro k jm u w7 jn ⟨hC,hD,hF,L7,hG,hu,hkl,jo,hH,hI,hJ,jp,hz7⟩;obtain ⟨gb,gc⟩:=zcB hu;clear hu;rw [gb,gc];refine zae u33 hJ.is ?_;rw [zaf];refine zag<|br (λjq=>?_) (λjr=>?_)
 case refine_2=>refine zau<|⟨mk-1,oo,h+1,oo,hC,hD,hF,L7,hG,rfl,oo,hH,hI.done ?_⟩;rw [gi,show Fl.take k=Fl from qaf oo];exact qas _
 have hk:k<Fl.length:=oo
 have gS:=zah w7;have gF:=hH.step gS;have hK:=hJ.ext gS;have hs8:=gS.size;generalize World.drew1 w7=w8 at *;refine zaa zbq hA (gE gF) λv40 js=>zad u33 ty3 (i:=k) hK.is (by rw [zaf];exact hk) λb2 o2 hL=>?_;rw [za3] at hL;refine zac ty3 hL (xrf _) λ_=>?_;have hM:=λj=>zAc (f:=zwg c) (L:=Fl) (i:=k) (j:=j) hk;have jt:=zyf (f:=zwg c) (L:=Fl) (i:=k) hk;have ju:=gR _ (qab hk);rw [<-gi] at hM;generalize Fl[k]=p at *;refine (zmi js (gE gF) hc (p:=p) (op:=5) (by rw [hc.2.1.1,hn];exact ju) (.inr rfl)).mono ?_;rintro gG w9 ⟨gU,jv⟩;have gV:Own w8.heap.size w9 gG (zaT (zwg c p)):=jv;have jw:=gF.step gU;have hs9:=gU.size;have hop:=gM p;generalize zwg c p=Ol at *;generalize hq0:((Fl.take k).flatMap (zwg c)).length=q0 at *;have jx:=gF.h3;refine zao Ol.length (λj us w'=>∃ (tv:Value) (lo hi:Nat) (L:List Nat) (ms:List Bool),us=[tv,.int .i64 (j:Int)]/\j<=Ol.length/\h<L.length/\WI w1 w' m n lo hi tv L ms/\SIn2 nx n a M0 ms (L.drop (h+1)) h x (q0+j)/\OwnI gg.heap.size w6.heap.size w' gP (zaT Fl)/\(hi<=gg.heap.size\/w6.heap.size<=lo)/\OwnI w8.heap.size w9.heap.size w' gG (zaT Ol)/\(hi<=w8.heap.size\/w9.heap.size<=lo)/\w9.heap.size<=w'.heap.size) 0 (z0 _) ⟨hC,hD,hF,L7,hG,rfl,z0 _,jo,jw,hI,hK.ext gU,jp,gV.toI,.inl jx,qas _⟩ ?_;rintro j gj u jy hN ⟨gl,gp,gq,L10,D,hu,hjl,gr,I,M,g2,gs,O,gt,gW⟩;obtain ⟨gb,gc⟩:=zcB hu;rw [gb,gc];refine zae u33 O.is ?_;rw [zaf];refine zag<|br (λhO=>?_) (λhP=>?_)
 case refine_2=>refine zau<|⟨jm-1,oo,k+1,oo,gl,gp,gq,L10,D,rfl,oo,gr,I,?_,g2,gs,oo⟩;rw [jt,show Ol.length=j by omega];exact M
 have hj:j<Ol.length:=oo
 obtain ⟨hq,jz⟩:=hM j hj
 have gX:∀ {w:World} {K:Value->Prop} (ho:OwnI w8.heap.size w9.heap.size w gG (zaT Ol)) (kk:K (.int .i64 (((nx x)[q0+j]:Nat):Int))),RD tp (Instr.indexAt 33 gG (.int .i64 (j:Int))) w λjA=>RD tp (Instr.loadAt 3 jA) w K:=λho kk=>by
   refine zad u33 ty3 (i:=j) ho.is (by rw [zaf];exact hj) λb1 o1 gd=>?_;rw [za3,<-jz] at gd;exact zac ty3 gd (xrf _) λ_=>kk
 have hy:=hV hw (qab hq);refine gX O ?_;have C:=M.len;refine zad u90 ty4 I.mks.is (by rw [C];exact hy.1) λb3 o3 jB=>zaG ty4 jB (xrf _)<|zaV ?_;have Z:=za5 (ms:=D) (i:=(nx x)[q0+j]) (by rw [C];exact hy.1);refine zbz (λhf=>?_) (λhf=>?_)
 . have gY:¬mkd D (nx x)[q0+j]:=by rw [Z];simpa using hf
   refine gX O<|zb8 (α:=Bool) rfl u90 ty4 hy.1<|zbr (α:=Bool) rfl ty4 I.mks C hy.1 zbU λjC gx gZ=>?_;have gy:=I.mark gx gZ;have U:ChgI m (m+1) jy jC:=gx.toI λb hb=>by simp only [qaa,qac,or_false] at hb;omega
   have hm4:=g4.mks.lt m sS;have h4:=g2.chg U oo;have gz:=O.chg U oo;refine gX gz ?_;have h5:=M.push hq hy.1 gY;generalize (nx x)[q0+j]=y at *
   have hLb:L10.length<=2+n:=by
     have h1:=M.cnt;have h2:=zhn D;rw [qa0] at h1;omega
   refine zdA (x:=(y:Int)) u33 ty3 z3 zc3 qd gy.row (zc2 0 0 (by unfold I64;omega)) (by rw [zal,zaf];omega) (by rw [zaf];omega) λjD w12 h6 h9 X ha hd=>?_;have he:=gy.push X ha hd;have hQ:=U.size;have hS:=X.size;refine zau<|⟨gj-1,oo,j+1,oo,jD,h6,h9,L10++[y],_,rfl,oo,by simp;omega,he,?_,h4.chg X oo,oo,gz.chg X oo,oo,oo⟩;rw [qbV oo];exact h5
 have gY:mkd D (nx x)[q0+j]:=by rw [Z];simpa using hf
 refine zau<|⟨gj-1,oo,j+1,oo,gl,gp,gq,L10,D,rfl,oo,gr,I,M.skip hq gY,g2,gs,O,gt,gW⟩
def zhW (h0:Is W0 v0 c) (e0:Ext W0 w) (hc:CodeR c) :
   CALL tp 274 [v0] w λr w'=>Ext w w'/\Own w.heap.size w' r (zbZ c.procs.length (UsedP c)):=by
 refine co (g:=kf [] [(4,281474976694496,[5]),(9,281474439839872,[7])] []) Tryz.func274 ?_;have h8:=hc.1.procs8;refine za9 h0 e0 λw1 gs hA=>?_;have hs1:=gs.size;refine zaa zbq hA (xrf _) λv8 gy=>?_;refine (zgV gy (xrf _) hc).mono ?_;rintro v9 w2 ⟨g4,gz⟩;have hs2:=g4.size;refine zab zbG<|zaa zcv (zaC hA) g4 λv11 gC=>zae u24 gC<|ze1 h8.2 oo λw3 g5 g9=>?_;have hs3:=g5.size;have gD:=gz.toI.ext g5;have hm3:=g9.lt _ (qax.2 rfl);have gb:=g4.t g5;generalize hm:w2.heap.size=m at *;rw [zdB c.procs.length (p:=λq=>∃ r,r<0/\RootP c r/\FromP c r q) (λi ⟨j,h,_⟩=>oo)] at g9;refine zao c.procs.length (λk us w'=>us=[.int .i64 (k:Int)]/\k<=c.procs.length/\ChgI m (m+1) w3 w'/\Mine [m] w' (.slice (some ⟨m,0,none⟩) c.procs.length c.procs.length) (zbZ c.procs.length λq=>∃ r,r<k/\RootP c r/\FromP c r q)) 0 (z0 _) ⟨rfl,z0 _,ChgI.refl _,g9⟩ ?_;rintro k mk u w4 hkm ⟨hu,hkl,g1,C⟩;try replace hu:=zbt hu
 rw [hu];have g2:Ext w1 w4:=gb.chgI g1 oo;have gt:=gD.chg g1 oo;have hm4:=C.lt _ (qax.2 rfl);refine zab zbG<|zaa zcv (zaC hA) g2 λv16 gE=>zae u24 gE<|zag<|br (λhlt=>?_) (λhge=>?_)
 case refine_2=>
   have gF:k=c.procs.length:=oo
   have hS:(zbZ c.procs.length λq=>∃ r,r<k/\RootP c r/\FromP c r q)=zbZ c.procs.length (UsedP c):=za0 λq _=>
     ⟨λ⟨r,_,h1,h2⟩=>⟨r,h1,h2⟩,λ⟨r,h1,h2⟩=>⟨r,by rw [gF];exact h1.lt hc,h1,h2⟩⟩
   rw [hS] at C;exact ⟨gs.t g2,[m],C,λb hb=>by simp only [qaa,qac,or_false] at hb;omega⟩
 have hk:k<c.procs.length:=oo
 refine zad u90 ty4 (i:=k) gt.is (by rw [zan];exact hk) λb2 o2 gG=>zaG ty4 gG (xrf _) ?_;have gc:=zaU (n:=c.procs.length) (p:=RootP c) (i:=k);rw [za5 (by rw [zan];exact hk)] at gc;refine zaV<|zbz (λhf=>?_) (λhf=>?_)
 . have gH:¬RootP c k:=λh=>by rw [gc.2 ⟨hk,h⟩] at hf;cases hf
   refine zau<|⟨mk-1,oo,k+1,oo,rfl,oo,g1,?_⟩
   rw [za0 (q:=λq=>∃ r,r<k/\RootP c r/\FromP c r q) λq _=>⟨λ⟨r,h1,h2,h3⟩=>by
     by_cases e:r=k
     . subst e;exact absurd h2 gH
     exact ⟨r,oo,h2,h3⟩,λ⟨r,h1,h2⟩=>⟨r,oo,h2⟩⟩]
   exact C
 have g0:RootP c k:=(gc.1 (by simpa using hf)).2;refine zaa zbq hA g2 λv26 gI=>?_;refine (zgR gI g2 hc hk).mono ?_;rintro _ w5 ⟨gd,gf,rfl,hgf,gg⟩;have gJ:(λi=>i=k\/RP (zml c) k i)=FromP c k:=rfl;rw [gJ] at gg;have ho5:=gt.ext gd;have gK:=C.ext gd;have gM:=g1.trans gd.toI;refine zao c.procs.length (λj us w'=>us=[.int .i64 (j:Int)]/\j<=c.procs.length/\ChgI m (m+1) w5 w'/\Mine [m] w' (.slice (some ⟨m,0,none⟩) c.procs.length c.procs.length) (zbZ c.procs.length λq=>(∃ r,r<k/\RootP c r/\FromP c r q)\/(q<j/\FromP c k q))) 0 (z0 _) ⟨rfl,z0 _,ChgI.refl _,by rw [za0 (q:=λq=>∃ r,r<k/\RootP c r/\FromP c r q) λq _=>⟨λh=>h.resolve_right λh=>oo,.inl⟩];exact gK⟩ ?_;rintro j mj u w6 hjm ⟨hu,hjl,gh,gi⟩;try replace hu:=zbt hu
 rw [hu];refine zkb u90<|zag<|br (λgN=>?_) (λgO=>?_)
 case refine_2=>
   refine zau<|⟨mk-1,oo,k+1,oo,rfl,oo,gM.trans gh,?_⟩
   rw [za0 (q:=λq=>(∃ r,r<k/\RootP c r/\FromP c r q)\/(q<j/\FromP c k q)) λq hq=>⟨λ⟨r,h1,h2,h3⟩=>by
     by_cases e:r=k
     . subst e;exact .inr ⟨oo,h3⟩
     exact .inl ⟨r,oo,h2,h3⟩,λh=>h.elim (λ⟨r,h1,h2⟩=>⟨r,oo,h2⟩) λ⟨_,h⟩=>⟨k,oo,g0,h⟩⟩]
   exact gi
 have hj:j<c.procs.length:=oo
 have gj:Is w6 (.slice (some ⟨gf,0,none⟩) c.procs.length c.procs.length) (zbZ c.procs.length (FromP c k)):=(gg.keep λb hb=>by
   simp only [qaa,qac,or_false] at hb;subst hb;exact gh.block b (gg.lt b sS) oo).is
 refine zad u90 ty4 (i:=j) gi.is (by rw [zan];exact hj) λb3 o3 gP=>zaG ty4 gP (xrf _) ?_;have gl:=zaU (n:=c.procs.length) (p:=λq=>(∃ r,r<k/\RootP c r/\FromP c r q)\/(q<j/\FromP c k q)) (i:=j);have gp:=zaU (n:=c.procs.length) (p:=FromP c k) (i:=j);rw [za5 (by rw [zan];exact hj)] at gl gp
 have gx:∀ (bb:Bool),(bb=true↔((∃ r,r<k/\RootP c r/\FromP c r j)\/FromP c k j))->RD tp (Instr.indexAt 90 (.slice (some ⟨m,0,none⟩) c.procs.length c.procs.length) (.int .i64 (j:Int))) w6 λgQ=>OPU tp (Instr.storeAt 4 gQ (.bool bb)) w6 λw=>RD tp (bin .add 3 (.tmp 0) (.const undef) (.int .i64 (j:Int)) (.int .i64 1)) w λgR=>∃ m',m'<mj/\∃ k',k'+m'=c.procs.length/\[gR]=[.int .i64 (k':Int)]/\k'<=c.procs.length/\ChgI m (m+1) w5 w/\Mine [m] w (.slice (some ⟨m,0,none⟩) c.procs.length c.procs.length) (zbZ c.procs.length λq=>(∃ r,r<k/\RootP c r/\FromP c r q)\/(q<k'/\FromP c k q)):=λbb gS=>by
   refine zb8 (α:=Bool) rfl u90 ty4 hj<|zbr (α:=Bool) rfl ty4 gi zan hj zbU λw7 gU gV=>?_;have gq:ChgI m (m+1) w6 w7:=gU.toI λb hb=>by simp only [qaa,qac,or_false] at hb;omega
   refine zau<|⟨mj-1,oo,j+1,oo,rfl,oo,gh.trans gq,?_⟩
   have gr:(zbZ c.procs.length λq=>(∃ r,r<k/\RootP c r/\FromP c r q)\/(q<j/\FromP c k q)).set j bb=zbZ c.procs.length λq=>(∃ r,r<k/\RootP c r/\FromP c r q)\/(q<j+1/\FromP c k q):=zcu (by rw [qaL,zan]) λq hq=>by
     unfold mkd;rw [List.getD_eq_getElem?_getD,List.getElem?_set];by_cases e:j=q
     . subst e
       simp only [zan,hj,if_true,Option.getD_some,gS];exact ⟨λh=>h.imp id λh=>⟨oo,h⟩,λh=>h.imp id (·.2)⟩
     rw [if_neg e,<-List.getD_eq_getElem?_getD];show mkd _ q↔_;rw [zaU];exact ⟨λ⟨_,h⟩=>h.imp id λh=>⟨oo,h.2⟩,λh=>⟨hq,h.imp id λh=>⟨oo,h.2⟩⟩⟩
   rw [<-gr];exact gV
 refine zbz (λg3=>?_) (λg3=>?_)
 . refine gx true ⟨λ_=>((gl.1 g3).2).imp id (·.2),λ_=>rfl⟩
 refine zad u90 ty4 (i:=j) gj (by rw [zan];exact hj) λb4 o4 gW=>zaG ty4 gW (xrf _)<|gx _ ⟨λh=>.inr (gp.1 h).2,λh=>gp.2 ⟨hj,h.resolve_left λh=>?_⟩⟩;rw [gl.2 ⟨hj,.inl h⟩] at g3;cases g3
def BI.updM (hc:CodeR c) {out:List Nat} (h:BI c out) {p i hh:Nat} (hu:UsedP c p) (hi:zaN c p i) (ho:(zam c i).op=4) (g2:∀ l,l<6->hh.testBit l=false->LostM c (tK (zdk c)) (tG (zdk c)) p none l) :
   BI c (out.set (agN c i) (zay out (agN c i) &&& zay (zcI c (zdk c) p hh) i)):=by
 have hp:=hu.lt hc;have g0:=(zbV hc (by rw [hc.2.1.1];exact hp) hi).1;have hq:=(zby hc g0 (.inl ho)).2;refine ⟨by simp [h.len],λx hx=>?_,λr l hr hl hb=>?_,λr l hr hl=>?_⟩
 . rcases zdq hx with rfl | hx
   . exact qaF qaX (h.lt0 _)
   exact h.lt x hx
 . rw [zb9 (by rw [h.len];exact hq)] at hb
   split at hb
   . rename_i e
     subst e;rw [qaP,qbE] at hb;rcases hb with hb | hb
     . exact h.snd _ l hr hl hb
     refine .call hu hi ho ?_;have k:=(zpk g0 hl).1 hb
     have g1:∀ {i l:Nat},l<6->LostP c (tK (zdk c)) (tG (zdk c)) p (λl=>hh.testBit l=true) i l->LostM c (tK (zdk c)) (tG (zdk c)) p (some i) l:=λ{i l} hl k=>by
       induction k with
       | ent h0=>exact .ent (g2 _ hl (by simpa using h0))
       | gen h0 hj h1=>exact .gen h0 hj h1
       | pass h0 hj _ h2 ih=>exact .pass h0 hj (ih hl) h2
     exact g1 hl k
   exact h.snd r l hr hl hb
 rw [zb9 (by rw [h.len];exact hq)];split
 . rename_i e
   rw [qaP,e,h.root r l hr hl];rfl
 exact h.root r l hr hl
def CL (c:DCode) (out:List Nat) (p i:Nat):Prop:=zay out (agN c i) &&& zay (zcI c (zdk c) p (zay out p)) i=zay out (agN c i)
structure BQ (c:DCode) (out0:List Nat) (ag:Bool) (out:List Nat) (D:Nat->Nat->Prop):Prop where
 bi:BI c out
 yes:ag=true->out.sum<out0.sum
 no:ag=false->out=out0/\∀ p i,D p i->UsedP c p->zaN c p i->(zam c i).op=4->CL c out0 p i
def BQ.mono {out0 out:List Nat} {D D':Nat->Nat->Prop} (H:BQ c out0 ag out D) (h:∀ p i,UsedP c p->zaN c p i->(zam c i).op=4->D' p i->D p i):BQ c out0 ag out D':=
 ⟨H.bi,H.yes,λe=>⟨(H.no e).1,λp i hd hu hl ho=>(H.no e).2 p i (h p i hu hl ho hd) hu hl ho⟩⟩
theorem BQ.set (hc:CodeR c) {out0 out:List Nat} {ag:Bool} {D D':Nat->Nat->Prop} (H:BQ c out0 ag out D) {p i hh:Nat} (hu:UsedP c p) (hi:zaN c p i) (ho:(zam c i).op=4) (hb:∀ l,l<6->hh.testBit l=false->LostM c (tK (zdk c)) (tG (zdk c)) p none l)
   (g1:zay out (agN c i) &&& zay (zcI c (zdk c) p hh) i≠zay out (agN c i)):BQ c out0 true (out.set (agN c i) (zay out (agN c i) &&& zay (zcI c (zdk c) p hh) i)) D':=by
 have g0:=(zbV hc (by rw [hc.2.1.1];exact hu.lt hc) hi).1;have hq:=(zby hc g0 (.inl ho)).2;refine ⟨H.bi.updM hc hu hi ho hb,λ_=>?_,λe=>by cases e⟩;have h1:=zj8 (l:=out) (i:=agN c i) (v:=zay out (agN c i) &&& zay (zcI c (zdk c) p hh) i) (by rw [H.bi.len];exact hq);have h2:=zBW g1;cases ag with
 | true=>have:=H.yes rfl;omega
 | false=>rw [(H.no rfl).1] at h1 h2 ⊢;omega
def BQ.skip {out0 out:List Nat} {D D':Nat->Nat->Prop} (H:BQ c out0 ag out D) {p i hh:Nat} (hz:ag=false->hh=zay out0 p) (hD:∀ q j,D' q j->D q j\/(q=p/\j=i)) (he:zay out (agN c i) &&& zay (zcI c (zdk c) p hh) i=zay out (agN c i)):BQ c out0 ag out D':=
 ⟨H.bi,H.yes,λe=>⟨(H.no e).1,λq j hd hu hl ho=>by
   rcases hD q j hd with h | ⟨rfl,rfl⟩
   . exact (H.no e).2 q j h hu hl ho
   unfold CL;rw [<-hz e,<-(H.no e).1];exact he⟩⟩
def BS (c:DCode) (k:Nat) (out:List Nat):Prop:=out.length=c.procs.length/\∀ p,p<c.procs.length->(¬(p<k/\¬RootP c p)->zay out p=0)/\(p<k->¬RootP c p->zay out p=63)
def BS.fin (hc:CodeR c) {out:List Nat} (h:BS c c.procs.length out):BI c out:=BI.start hc out h.1 λp hp=>⟨λhr=>(h.2 p hp).1 λhn=>hn.2 hr,λhr=>(h.2 p hp).2 hp hr⟩
def zvr (hW:WAt W0 b c) (e0:Ext W0 w) (h1:Is W1 v1 (zif (zdk c))) (e1:Ext W1 w) (hc:CodeR c) :
   CALL tp 150 [.pointer (some ⟨b,0,none⟩),v1] w λr w'=>Ext w w'/\Own w.heap.size w' r (zaT (zC1 c)):=by
 refine co (g:=kf [] [(3,137430564928,[23]),(9,81129638414606681695651566204544,[7]),(12,81129638414606681678196819113600,[7,44]),(16,40564819207302187926389895737472,[7,60])] [(19,[0,1,2,3,4,5,6,7,8,9,10,11,12,13,14,15,16,17,18,19,20],0),(20,[0,1,2,3,4,5,6,7,8,9,10,11],0)]) Tryz.func150 ?_;have h8:=hc.1.procs8;have hQ:=hc.f.ins;have hR:=zhU c;refine NIL.mk rfl<|zab zbM<|zab zbG<|zaa zcv (zaC hW.wl.code) e0 λv18 hS=>zae u24 hS ?_;have hn:c.procs.length=c.procs.length:=rfl;generalize hnn:c.procs.length=n at hn;rw [hnn] at h8;refine zd1 oo oo λw2 ha hd=>?_;have hs2:=ha.size;generalize hg:w.heap.size=g at *;have he:FW w w2 g n (List.replicate n 0):=⟨ha,hd,oo⟩;have hq:BS c 0 (List.replicate n 0):=⟨by simp [hnn],λp hp=>⟨λ_=>by rw [<-zbl (by simp;omega)];simp,λh=>oo⟩⟩;refine zkb u33 ?_;have hrs:zdh c<256:=zbs (by rw [hnn];omega);refine zao n (λk us w'=>∃ out,us=[.int .i64 (k:Int)]/\k<=n/\FW w w' g n out/\BS c k out) 0 (z0 _) ⟨_,rfl,z0 _,he,hq⟩ ?_;rintro k mk u w3 hs ⟨out,hu,hV,gF,gg⟩;try replace hu:=zbt hu
 rw [hu];have gG:=gg.1;refine zag<|br (λht=>?_) (λhv=>?_)
 . have hk:k<n:=oo
   refine NIL.mk rfl<|zab zlB<|zac ty3 hW.roots (e0.t gF.ext) λ_=>?_;refine (zgh (m:=zdh c) (i:=k) oo oo).mono ?_;rintro _ w4 ⟨hX,rfl⟩;have gH:=gF.step hX
   have gj:(zdh c).testBit k=true↔RootP c k:=by
     unfold zdh;rw [za7];exact ⟨λh=>h.2,λh=>⟨oo,h⟩⟩
   refine zaV<|zbz (λhf=>?_) (λhf=>?_)
   . have hY:¬RootP c k:=λh=>by rw [gj.2 h] at hf;cases hf
     refine zb8 (α:=Int) rfl u33 ty3 hk<|zbr (α:=Int) rfl ty3 gH.mine (by rw [zaf];omega) hk (zbY (v:=63) oo) λw5 hZ j0=>?_;have j1:=gH.set (v:=63) hZ j0;refine zau<|⟨mk-1,oo,k+1,oo,_,rfl,oo,j1,by simp [gG],λp hp=>?_⟩;rw [zb9 (by rw [gG,hnn];exact hk)];have:=gg.2 p hp;by_cases e:k=p
     . subst e
       exact ⟨λh=>absurd ⟨oo,hY⟩ h,λ_ _=>by rw [if_pos rfl]⟩
     rw [if_neg e];exact ⟨λh=>this.1 λh2=>h ⟨oo,h2.2⟩,λh=>this.2 oo⟩
   have hr:RootP c k:=gj.1 (by simpa using hf);refine zau<|⟨mk-1,oo,k+1,oo,_,rfl,oo,gH,gG,λp hp=>?_⟩;have:=gg.2 p hp;by_cases e:k=p
   . subst e
     exact ⟨λ_=>this.1 λh=>h.2 hr,λ_ h=>absurd hr h⟩
   exact ⟨λh=>this.1 λh2=>h ⟨oo,h2.2⟩,λh=>this.2 oo⟩
 have hk:k=n:=oo
 rw [hk,<-hnn] at gg;have j2:=gg.fin hc;clear he hd hq hu hs gg;have hus:zeJ c<256:=zbs (by rw [hnn];omega);refine LOOPI.mk (λm us w'=>∃ (ag:Bool) (out:List Nat),us=[.bool ag]/\m=out.sum+(if ag then 1 else 0)/\FW w w' g n out/\BI c out/\(ag=false->∀ p i,UsedP c p->zaN c p i->(zam c i).op=4->CL c out p i)) (out.sum+1) ⟨true,out,rfl,rfl,gF,j2,λe=>by cases e⟩ ?_;rintro m u w6 ⟨ag,out,hu,hm,gh,hw,j3⟩;try replace hu:=zbt hu
 rw [hu];refine zbz (λgI=>?_) (λgI=>?_)
 case refine_2=>rw [hw.fin hc (j3 gI)] at gh;have hx:=gh.own;rw [hg] at hx;exact ⟨gh.ext,hx⟩
 rw [gI,if_pos rfl] at hm;refine NIL.mk rfl<|zab zlC<|zac ty3 hW.used (e0.t gh.ext) λ_=>?_;refine (zdr (m:=zeJ c) oo).mono ?_;rintro hy w7 ⟨j4,gE⟩;unfold zeJ at gE;rw [zen (by rw [hnn];omega)] at gE;have j5:=gh.step j4;have hg6:=gh.lt;have hL:∀ p,p∈zbd c.procs.length (UsedP c)↔UsedP c p:=λp=>by rw [zaH];exact ⟨λh=>h.2,λh=>⟨h.lt hc,h⟩⟩
 have hLl:(zbd c.procs.length (UsedP c)).length<=8:=qan zbg (by rw [hnn];omega);generalize zbd c.procs.length (UsedP c)=L at *;have j6:=gE.toI;generalize hlo:w6.heap.size=lo at *;generalize hhi:w7.heap.size=hi at *;refine zae u33 gE.is ?_;rw [zaf];refine zao L.length (λk us w'=>∃ (ag:Bool) (out':List Nat),us=[.bool ag,.int .i64 (k:Int)]/\k<=L.length/\FW w w' g n out'/\OwnI lo hi w' hy (zaT L)/\BQ c out ag out' (λp i=>p∈L.take k)) 0 (z0 _) ⟨false,out,rfl,z0 _,j5,j6,hw,λe=>(by cases e),λ_=>⟨rfl,λp i h=>by simp at h⟩⟩ ?_;rintro k mk u w8 hs ⟨gl,I,hu,hV,gi,hz,g1⟩;obtain ⟨gJ,gK⟩:=zcB hu;clear hu;rw [gJ,gK];refine zag<|br (λht=>?_) (λhv=>?_)
 case refine_2=>
   refine ⟨I.sum+(if gl then 1 else 0),?_,gl,I,rfl,rfl,gi,g1.bi,λe p i hu hl ho=>?_⟩
   . cases gl with
     | true=>have:=g1.yes rfl;simp;omega
     | false=>rw [(g1.no rfl).1];simp;omega
   have:=g1.no e;rw [this.1];exact this.2 p i (by rw [qaf oo];exact (hL p).2 hu) hu hl ho
 have hk:k<L.length:=oo
 refine zad u33 ty3 (i:=k) hz.is (by rw [zaf];exact hk) λb2 o2 hB=>?_;rw [za3] at hB;refine zac ty3 hB (xrf _) λ_=>?_;have j7:=λx=>zbD hk (x:=x);have hC:=(hL L[k]).1 (qab hk);generalize L[k]=p at *;have gp:=hC.lt hc;have hD:p<c.entry.length:=by rw [hc.2.1.1];exact gp
 have j8:=g1.bi.len;refine zad u33 ty3 (i:=p) gi.mine.is (by rw [zaf,j8];exact gp) λb3 o3 hG=>?_;rw [zaR] at hG;refine zac ty3 hG (xrf _) λ_=>?_;have gM:=g1.bi.lt0 p;have j9:∀ l,l<6->(zay I p).testBit l=false->LostM c (tK (zdk c)) (tG (zdk c)) p none l:=λl hl hb=>g1.bi.snd p l gp hl hb;have ja:gl=false->zay I p=zay out p:=λe=>by rw [(g1.no e).1]
 generalize zay I p=hh at *;refine (zsD hW.wl (e0.t gi.ext) h1 (e1.trans gi.ext) hc hR gp gM).mono ?_;rintro gN w9 ⟨hH,jb⟩;have gO:=gi.step hH;have jc:=hz.ext hH;have hg8:=gi.lt;refine (zhr hW.wl (e0.t gO.ext) hc gp).mono ?_;rintro jd je ⟨g9,gq⟩;have gP:=gO.step g9;have gQ:=jc.ext g9;have hg9:=gO.lt;have gR:=jb.toI.ext g9;have hM:∀ i,i∈zbd c.ins.length (zaN c p)↔zaN c p i:=λi=>by rw [zaH];exact ⟨λh=>h.2,λh=>⟨(zbV hc hD h).1,h⟩⟩
 have hMl:(zbd c.ins.length (zaN c p)).length<=1500:=qan zbg hQ;generalize zbd c.ins.length (zaN c p)=M at *;have gr:=gq.toI;generalize hl9:w9.heap.size=lo9 at *;generalize hl10:je.heap.size=hi10 at *;generalize hl8':w8.heap.size=lo8 at *;refine zae u33 gq.is ?_;rw [zaf];have jf:(zcI c (zdk c) p hh).length=c.ins.length:=zeB _ _ _ _;have gS:=zjj (c:=c) (T:=zdk c) (p:=p) (h:=hh);refine zao M.length (λj us w'=>∃ (ag:Bool) (out':List Nat),us=[.bool ag,.int .i64 (j:Int)]/\j<=M.length/\FW w w' g n out'/\OwnI lo hi w' hy (zaT L)/\OwnI lo8 lo9 w' gN (zaT (zcI c (zdk c) p hh))/\OwnI lo9 hi10 w' jd (zaT M)/\BQ c out ag out' (λq i=>q∈L.take k\/(q=p/\i∈M.take j))/\(ag=false->hh=zay out p)) 0 (z0 _) ⟨gl,I,rfl,z0 _,gP,gQ,gR,gr,g1.mono λq i _ _ _ h=>h.elim id λh=>by simp at h,ja⟩ ?_;rintro j mj u w11 hjm ⟨g2,C,hu,hjl,U,gs,gU,g5,O,gb⟩;obtain ⟨gJ,gK⟩:=zcB hu;clear hu;rw [gJ,gK];refine zag<|br (λht=>?_) (λhv=>?_)
 case refine_2=>
   refine zau<|⟨mk-1,oo,k+1,oo,g2,C,rfl,oo,U,gs,O.mono λq i hu hl ho h=>?_⟩;rcases (j7 q).1 h with h | rfl
   . exact .inl h
   exact .inr ⟨rfl,by rw [qaf oo];exact (hM i).2 hl⟩
 have hj:j<M.length:=oo
 refine zad u33 ty3 (i:=j) g5.is (by rw [zaf];exact hj) λb4 o4 hI=>?_;rw [za3] at hI;refine zac ty3 hI (xrf _) λ_=>?_;have hJ:=λx=>zbD hj (x:=x);have hK:=(hM M[j]).1 (qab hj);generalize M[j]=i at *;have gV:=(zbV hc hD hK).1;refine NIL.mk rfl<|zab zbM<|zab zaM<|zaa zcQ (zak hW.wl.code) (e0.t U.ext) λv68 jg=>zad u34 zcL jg gV λb5 o5 hN=>?_;rw [zaz] at hN;refine zaa zcL hN (e0.t U.ext) λv71 jh=>zck zqd rfl zcL rfl jh (e0.t U.ext) λhO gW g3 ji=>?_;have V:=zah hO;have D:=gW.t V;have X:=U.step D;have gc:=gs.ext D;have g4:=gU.ext D;have Y:=g5.ext D;generalize World.drew1 hO=w13 at *;refine zab zbp<|zac ty3 (zaw g3) V λ_=>zai ?_
 have jj:¬(zam c i).op=4->BQ c out g2 C (λq i=>q∈L.take k\/(q=p/\i∈M.take (j+1))):=λhn=>O.mono λq i' _ _ ho h=>h.imp id λ⟨h1,h2⟩=>⟨h1,by
   rcases (hJ i').1 h2 with h | rfl
   . exact h
   exact absurd ho hn⟩
 refine br (λc4=>?_) (λc4=>?_)
 case refine_2=>refine zau<|⟨mj-1,oo,j+1,oo,g2,C,rfl,oo,X,gc,g4,Y,jj c4,gb⟩
 obtain ⟨gd,gX⟩:=zby hc gV (.inl c4);have gt:=O.bi.len;have gY:=λD'=>O.set (D':=D') hc hC hK c4 j9
 have gx:=O.skip (D':=λq i=>q∈L.take k\/(q=p/\i∈M.take (j+1))) (p:=p) (i:=i) gb λq j' h=>by
   rcases h with h | ⟨h1,h2⟩
   . exact .inl (.inl h)
   rcases (hJ j').1 h2 with h | h
   . exact .inl (.inr ⟨h1,h⟩)
   exact .inr ⟨h1,h⟩
 have jk:=O.bi.lt0 (agN c i);have jl:=zcZ gS i
 have gZ:∀ {w':World} {K:Value->Prop} (hF:FW w w' g n C) (k:K (.int .i64 (zay C (agN c i):Int))),RD tp (Instr.indexAt 33 (.slice (some ⟨g,0,none⟩) n n) (.int .i64 (agN c i:Int))) w' λh4=>RD tp (Instr.loadAt 3 h4) w' K:=λhF k=>by
   refine zad u33 ty3 (i:=agN c i) hF.mine.is (by rw [zaf,gt];exact gX) λb1 o1 gy=>?_;rw [zaR] at gy;exact zac ty3 gy (xrf _) λ_=>k
 have hP:∀ {w':World} {K:Value->Prop} (hA:OwnI lo8 lo9 w' gN (zaT (zcI c (zdk c) p hh))) (k:K (.int .i64 (zay (zcI c (zdk c) p hh) i:Int))),RD tp (Instr.indexAt 33 gN (.int .i64 (i:Int))) w' λh4=>RD tp (Instr.loadAt 3 h4) w' K:=λhA k=>by
   refine zad u33 ty3 (i:=i) hA.is (by rw [zaf,jf];exact gV) λb1 o1 gy=>?_;rw [zaR] at gy;exact zac ty3 gy (xrf _) λ_=>k
 refine zab za8<|zac ty3 (zaq g3) V λ_=>?_;rw [gd];refine gZ X<|hP g4<|zeA oo oo<|zab za8<|zac ty3 (zaq g3) V λ_=>?_;rw [gd];refine gZ X<|zaP<|br (λjm=>?_) (λjn=>?_)
 . have Z:=zah w13
   have gf:=X.step Z;have h5:=gc.ext Z;have gz:=g4.ext Z;have gC:=Y.ext Z;generalize World.drew1 w13=w14 at *;refine zab za8<|zac ty3 (zaq g3) (V.t Z) λ_=>?_;rw [gd];refine gZ gf<|hP gz<|zeA oo oo ?_;have hvl:=qaX (n:=zay C (agN c i)) (m:=zay (zcI c (zdk c) p hh) i);refine zb8 (α:=Int) rfl u33 ty3 oo<|zbr (α:=Int) rfl ty3 gf.mine (by rw [zaf,gt,hnn]) oo (zbY (v:=zay C (agN c i) &&& zay (zcI c (zdk c) p hh) i) oo) λw15 gD h6=>?_;have h9:=gf.set (v:=zay C (agN c i) &&& zay (zcI c (zdk c) p hh) i) gD h6;have g0:=zfu gD;refine zau<|⟨mj-1,oo,j+1,oo,true,_,rfl,oo,h9,h5.chg g0 oo,gz.chg g0 oo,gC.chg g0 oo,gY _ λe=>jm (by rw [e]),λe=>by cases e⟩
 refine zau<|⟨mj-1,oo,j+1,oo,g2,C,rfl,oo,X,gc,g4,Y,gx (qaY.1 (qad.1 jn)),gb⟩
structure FV (w1 w:World) (g:Nat) (v:Value) (out:List Nat):Prop where
 ext:Ext w1 w
 mine:Mine [g] w v (zaT out)
 g0:w1.heap.size<=g
section
variable {w1 w w':World} {g:Nat} {v:Value} {out:List Nat}
def FV.step (h:FV w1 w g v out) (hx:Ext w w'):FV w1 w' g v out:=⟨h.ext.trans hx,h.mine.ext hx,h.g0⟩
def FV.lt (h:FV w1 w g v out):g<w.heap.size:=h.mine.lt g sS
def FV.own (h:FV w1 w g v out):Own w1.heap.size w v (zaT out):=⟨[g],h.mine,λb hb=>by simp only [qaa,qac,or_false] at hb;have:=h.g0;omega⟩
def FV.make (ho:Own w1.heap.size w v (zaT out)) (hx:Ext w1 w) (hT:0<out.length):∃ g,FV w1 w g v out:=by
 obtain ⟨F,hm,hF⟩:=ho;obtain ⟨b,o,cap,hv,rfl⟩:=zfG hm (by intro e;have:=congrArg List.length e;rw [zaf] at this;simp only [qay] at this;omega);exact ⟨b,hx,hm,hF b sS⟩
def zC2 {q m:Nat} {K:World->Prop} (h:FV w1 w g v out) (hq:q<out.length) (hm:m<9223372036854775808) (k:∀ w',FV w1 w' g v (out.set q m)->ChgI g (g+1) w w'->K w') :
   RD tp (Instr.indexAt 33 v (.int .i64 (q:Int))) w λa=>OPU tp (Instr.storeAt 3 a (.int .i64 (m:Int))) w K:=by
 refine zeZ u33 ty3 h.mine (by rw [zaf];exact hq) λb o G hL=>zdX (upd:=λy=>(zaT out).set q y) (y':=(m:Int)) ty3 hL (zbY hm) λw2 F2 g3 g1 g4=>?_
 have hF:F2=[g]:=by
   obtain ⟨b,o,cap,hv,rfl⟩:=zfG g1 (by intro e;have:=congrArg List.length e;rw [qaL,zaf] at this;simp only [qay] at this;omega);have:=g4 b sS;simpa using this
 subst hF;have g2:=zfu g3;exact k w2 ⟨h.ext.chgI g2 h.g0,by rw [zgT];exact g1,h.g0⟩ g2
end
noncomputable def bg0 (c:DCode) (p:Nat):Nat:=@ite _ (RootP c p) (Classical.propDecidable _) 0 63
noncomputable def bgL (c:DCode) (k:Nat):List Nat:=(List.range k).map (bg0 c)
def zua (c:DCode) (k:Nat):zaT (bgL c (k+1))=zaT (bgL c k)++[(bg0 c k:Int)]:=by simp [bgL,zaT,qbz]
def ziy (c:DCode) (k:Nat):(bgL c k).length=k:=by simp [bgL]
def zEx (hc:CodeR c):BI c (bgL c c.procs.length):=BI.start hc _ (ziy c _) λp hp=>by
 have:zay (bgL c c.procs.length) p=bg0 c p:=by rw [<-zbl (by rw [ziy];exact hp)];simp [bgL]
 rw [this];unfold bg0;exact ⟨λh=>by rw [if_pos h],λh=>by rw [if_neg h]⟩
def zpp (h0:Is W0 v0 c) (e0:Ext W0 w) (h1:Is W1 v1 (zif (zdk c))) (e1:Ext W1 w) (hc:CodeR c) :
   CALL tp 273 [v0,v1] w λr w'=>Ext w w'/\Own w.heap.size w' r (zaT (zC1 c)):=by
 refine co (g:=kf [] [(5,68717380480,[7,8]),(12,332306998946228968225951696350673920,[10]),(15,332306998946228968225951627631197184,[10,11]),(21,332306998946228931332463617651033088,[10,14])] [(18,[0,1,2,3,4,5,6,7,8],0),(24,[0,1,2,3,4,5,6,7,8,9,10,11,12,13,14,15,16,17,18,19,20,21,22,23,24,25,26],0),(25,[0,1,2,3,4,5,6,7,8,9,10,11,12,13,14],0)]) Tryz.func273 ?_;have h8:=hc.1.procs8;have hil:=hc.f.ins;have hW:=zhU c;have hX:=zEx hc;refine za9 h0 e0 λw0 gZ hA=>?_;have hs0:=gZ.size;refine zaa zbq hA (xrf _) λv16 hY=>?_;refine (zgV hY (xrf _) hc).mono ?_;rintro v17 wa ⟨gV,j0⟩;have hsa:=gV.size;refine zaa zbq hA gV λv18 j1=>?_;refine (zhW j1 gV hc).mono ?_;rintro v19 wb ⟨h4,j2⟩;have hsb:=h4.size;have C:=gV.t h4;have j3:=j0.is.ext h4;have j4:=j2.is;have hn:c.procs.length=c.procs.length:=rfl;generalize hnn:c.procs.length=n at hn;rw [hnn] at h8;refine zaK (α:=Int) u33 ty3 λa w1 hH j5=>?_;have j6:=hH.size;refine zao n (λk us w'=>∃ v,us=[v,.int .i64 (k:Int)]/\k<=n/\Ext wb w'/\RowI wb.heap.size w'.heap.size 3 w' v (zaT (bgL c k))) 0 (z0 _) ⟨_,rfl,z0 _,hH,by simpa [bgL,zaT] using j5.mono j6 (lr _)⟩ ?_;rintro k mk u w3 hI ⟨v,hu,j7,gj,gr⟩;obtain ⟨gs,gt⟩:=zcB hu;clear hu;rw [gs,gt];have hs3:=gj.size;have h5:=C.t gj;refine zab zbG<|zaa zcv (zaC hA) h5 λv23 j8=>zae u24 j8 ?_;rw [hnn];refine zag<|br (λhJ=>?_) (λhK=>?_)
 . have hk:k<n:=oo
   refine zad u90 ty4 (i:=k) j3 (by rw [zan];omega) λb2 o2 h6=>zaG ty4 h6 gj ?_;have gd:=zaU (n:=c.procs.length) (p:=RootP c) (i:=k);rw [za5 (by rw [zan];omega)] at gd;refine zbz (λhf=>?_) (λhf=>?_)
   . have h9:bg0 c k=0:=by unfold bg0;rw [if_pos (gd.1 hf).2]
     refine zbO (lo2:=w3.heap.size) (hi2:=w3.heap.size) (x:=((0:Nat):Int)) u33 ty3 z3 zc3 qd gr oo (zc2 _ _ (by unfold I64;omega)) oo oo (by rw [zal,zaf,ziy];omega) (by rw [zaf,ziy];omega) λha w9 hd he=>zau<|⟨mk-1,oo,k+1,oo,ha,rfl,oo,gj.chgI hd (lr _),?_⟩;rw [zua,h9];exact he
   have h9:bg0 c k=63:=by unfold bg0;rw [if_neg λh=>by rw [gd.2 ⟨oo,h⟩] at hf;cases hf]
   refine zbO (lo2:=w3.heap.size) (hi2:=w3.heap.size) (x:=((63:Nat):Int)) u33 ty3 z3 zc3 qd gr oo (zc2 _ _ (by unfold I64;omega)) oo oo (by rw [zal,zaf,ziy];omega) (by rw [zaf,ziy];omega) λha w9 hd he=>zau<|⟨mk-1,oo,k+1,oo,ha,rfl,oo,gj.chgI hd (lr _),?_⟩;rw [zua,h9];exact he
 have hk:k=c.procs.length:=oo
 rw [hk] at gr;obtain ⟨g,j9⟩:=FV.make gr.own.own gj (by rw [ziy];omega);generalize bgL c c.procs.length=out at *;clear gr hI;refine LOOPI.mk (λm us w'=>∃ (ag:Bool) (out:List Nat),us=[.bool ag]/\m=out.sum+(if ag then 1 else 0)/\FV wb w' g v out/\BI c out/\(ag=false->∀ p i,UsedP c p->zaN c p i->(zam c i).op=4->CL c out p i)) (out.sum+1) ⟨true,out,rfl,rfl,j9,hX,λe=>by cases e⟩ ?_;rintro m u w6 ⟨ag,out,hu,hm,gW,hM,ja⟩;try replace hu:=zbt hu
 rw [hu];refine zbz (λhg=>?_) (λhg=>?_)
 case refine_2=>rw [hM.fin hc (ja hg)] at gW;exact ⟨gZ.t (C.t gW.ext),gW.own.mono oo⟩
 rw [hg,if_pos rfl] at hm;refine zao n (λk us w'=>∃ (ag:Bool) (D:List Nat),us=[.bool ag,.int .i64 (k:Int)]/\k<=n/\FV wb w' g v D/\BQ c out ag D (λp i=>p<k)) 0 (z0 _) ⟨false,out,rfl,z0 _,gW,hM,λe=>(by cases e),λ_=>⟨rfl,λp i h=>oo⟩⟩ ?_;rintro p mk u w8 hI ⟨gl,O,hu,j7,gx,g5⟩;obtain ⟨gs,gt⟩:=zcB hu;clear hu;rw [gs,gt];have hj:=C.t gx.ext;refine zab zbG<|zaa zcv (zaC hA) hj λv38 jb=>zae u24 jb ?_;rw [hnn];refine zag<|br (λhJ=>?_) (λhK=>?_)
 case refine_2=>
   refine ⟨O.sum+(if gl then 1 else 0),?_,gl,O,rfl,rfl,gx,g5.bi,λe p' i hu hl ho=>?_⟩
   . cases gl with
     | true=>have:=g5.yes rfl;simp;omega
     | false=>rw [(g5.no rfl).1];simp;omega
   have:=g5.no e;rw [this.1];exact this.2 p' i (by have:=hu.lt hc;omega) hu hl ho
 have jc:p<n:=oo
 have gp:p<c.procs.length:=oo
 have gf:p<c.entry.length:=by rw [hc.2.1.1];exact gp
 refine zad u90 ty4 (i:=p) j4 (by rw [zan];omega) λb2 o2 h6=>zaG ty4 h6 gx.ext ?_;have gd:=zaU (n:=c.procs.length) (p:=UsedP c) (i:=p);rw [za5 (by rw [zan];omega)] at gd;refine zaV<|zbz (λhf=>?_) (λhf=>?_)
 . have jd:¬UsedP c p:=λh=>by rw [gd.2 ⟨gp,h⟩] at hf;cases hf
   refine zau<|⟨mk-1,oo,p+1,oo,gl,O,rfl,oo,gx,g5.mono λq i hu _ _ h=>?_⟩;by_cases e:q=p
   . subst e;exact absurd hu jd
   omega
 have je:UsedP c p:=(gd.1 (by simpa using hf)).2;have jf:=zah w8;have V:=gx.step jf;generalize World.drew1 w8=w8d at *;have jg:=g5.bi.len;refine zaa zbq hA (C.t V.ext) λv49 jh=>zad u33 ty3 (i:=p) V.mine.is (by rw [zaf,jg];exact gp) λb3 o3 hN=>?_;rw [zaR] at hN;refine zac ty3 hN (xrf _) λ_=>?_;have hq:=g5.bi.lt0 p;have ji:∀ l,l<6->(zay O p).testBit l=false->LostM c (tK (zdk c)) (tG (zdk c)) p none l:=λl hl hb=>g5.bi.snd p l gp hl hb;have jj:gl=false->zay O p=zay out p:=λe=>by rw [(g5.no e).1]
 generalize zay O p=hh at *;refine (zkc jh (C.t V.ext) h1 (e1.trans (gZ.t (C.t V.ext))) hc hW gp hq).mono ?_;rintro gy w9 ⟨jk,jl⟩;have gX:=V.step jk;have hg8:=V.lt;refine zaa zbq hA (C.t gX.ext) λv57 jm=>?_;refine (zgf jm (C.t gX.ext) hc gf).mono ?_;rintro hr jn ⟨gz,hs⟩;have gg:=gX.step gz;have hg9:=gX.lt;have ht:=jl.toI.ext gz;have gC:=hs.toI;generalize hl9:w9.heap.size=lo9 at *;generalize hl10:jn.heap.size=hi10 at *;generalize hl8':w8d.heap.size=lo8 at *;obtain ⟨jo,he2,he3⟩:=zfU hc gf;obtain ⟨hz1,jp,hz3⟩:=zeE hc gp;obtain ⟨_,hez,_⟩:=zng hc gf;refine zab zbi<|zaa za4 (zar hA) (C.t gg.ext) λv61 jq=>zad u33 ty3 jq gf λb5 o5 hO=>?_;rw [zbx gf,jo] at hO;refine zac ty3 hO (C.t gg.ext) λ_=>?_;have jr:(zcI c (zdk c) p hh).length=c.ins.length:=zeB _ _ _ _;have hv:=zjj (c:=c) (T:=zdk c) (p:=p) (h:=hh)
 have hP:∀ i,zaN c p i->eN c p<=i/\i<=zN c p:=λi h=>by
   have:=zbV hc gf h;exact zsx hc this.1 gf this.2
 generalize hE:eN c p=E at *;generalize hZ:zN c p=Z at *;refine zao (Z+1-E) (λj us w'=>∃ (ag:Bool) (D:List Nat),us=[.bool ag,.int .i64 ((E+j:Nat):Int)]/\E+j<=Z+1/\FV wb w' g v D/\OwnI lo8 lo9 w' gy (zaT (zcI c (zdk c) p hh))/\OwnI lo9 hi10 w' hr (zbZ c.ins.length (zaN c p))/\BQ c out ag D (λq i=>q<p\/(q=p/\i<E+j))/\(ag=false->hh=zay out p)) 0 (z0 _) ⟨gl,O,rfl,oo,gg,ht,gC,g5.mono λq i _ hl _ h=>h.elim id λ⟨h1,h2⟩=>by subst h1;have:=hP i hl;omega,jj⟩ ?_;rintro j mj u w11 hjm ⟨gD,I,hu,hjl,gE,hw,gF,X,g9⟩;obtain ⟨gs,gt⟩:=zcB hu;clear hu;rw [gs,gt];have gG:=C.t gE.ext;refine zaa zbq hA gG λv66 js=>?_;refine (zfl js gG (p:=(p:Int)) oo oo hc.2.1.nonneg).mono ?_;rintro _ w12 ⟨gh,rfl⟩;rw [jp];have gi:=gE.step gh;have hx:=hw.ext gh;have gH:=gF.ext gh;have g1:=C.t gi.ext;refine zdT<|br (λhJ=>?_) (λhK=>?_)
 case refine_2=>
   refine zau<|⟨mk-1,oo,p+1,oo,gD,I,rfl,oo,gi,X.mono λq i hu hl ho h=>?_⟩;by_cases e:q=p
   . subst e
     have:=hP i hl;exact .inr ⟨rfl,oo⟩
   exact .inl oo
 have gq:E+j<c.ins.length:=oo
 generalize hij:E+j=i at *;refine zab zaM<|zaa zcQ (zak hA) g1 λv73 jt=>zad u34 zcL jt gq λb6 o6 hR=>?_;rw [zaz] at hR;refine zaa zcL hR g1 λv76 ju=>zck zqd rfl zcL rfl ju g1 λgI gJ gK jv=>?_;have Y:=zah gI;have g2:=gJ.t Y;have g0:=gi.step g2;have g3:=hx.ext g2;have M:=gH.ext g2;generalize World.drew1 gI=w13 at *;have hy:=zaU (n:=c.ins.length) (p:=zaN c p) (i:=i);rw [za5 (by rw [zan];exact gq)] at hy
 have hS:¬(zaN c p i/\(zam c i).op=4)->BQ c out gD I (λq i'=>q<p\/(q=p/\i'<i+1)):=λhn=>X.mono λq i' _ hl ho h=>h.imp id λ⟨h1,h2⟩=>⟨h1,by
   by_cases e:i'=i
   . subst e;subst h1;exact absurd ⟨hl,ho⟩ hn
   omega⟩
 have U:∀ {w':World} {gM:Bool} {D:List Nat} (hF:FV wb w' g v D) (hA:OwnI lo8 lo9 w' gy (zaT (zcI c (zdk c) p hh))) (hL:OwnI lo9 hi10 w' hr (zbZ c.ins.length (zaN c p))) (hQ:BQ c out gM D (λq i'=>q<p\/(q=p/\i'<i+1))) (hz:gM=false->hh=zay out p),
     ∃ m',m'<mj/\∃ k',k'+m'=Z+1-E/\∃ (ag:Bool) (out'':List Nat),[Value.bool gM,Value.int .i64 ((i+1:Nat):Int)]=[.bool ag,.int .i64 ((E+k':Nat):Int)]/\E+k'<=Z+1/\FV wb w' g v out''/\OwnI lo8 lo9 w' gy (zaT (zcI c (zdk c) p hh))/\OwnI lo9 hi10 w' hr (zbZ c.ins.length (zaN c p))/\BQ c out ag out'' (λq i=>q<p\/(q=p/\i<E+k'))/\(ag=false->hh=zay out p):=λ{w' gM D} hF hA hL hQ hz=>
   ⟨mj-1,oo,j+1,oo,gM,D,by rw [show i+1=E+(j+1) by omega],oo,hF,hA,hL,by rw [show E+(j+1)=i+1 by omega];exact hQ,hz⟩
 refine zad u90 ty4 (i:=i) M.is (by rw [zan];exact gq) λb7 o7 jw=>zaG ty4 jw (xrf _)<|zbz (λgY=>?_) (λgY=>?_)
 case refine_2=>refine zau<|U g0 g3 M (hS λh=>by rw [hy.2 ⟨gq,h.1⟩] at gY;cases gY) g9
 have jx:zaN c p i:=(hy.1 gY).2;refine zab zbp<|zac ty3 (zaw gK) Y λ_=>zai<|br (λc4=>?_) (λc4=>?_)
 case refine_2=>refine zau<|U g0 g3 M (hS λh=>c4 h.2) g9
 obtain ⟨gb,gN⟩:=zby hc gq (.inl c4);have gO:=X.bi.len;have hB:=λD'=>X.set (D':=D') hc je jx c4 ji
 have gP:=X.skip (D':=λq i'=>q<p\/(q=p/\i'<i+1)) (p:=p) (i:=i) g9 λq j' h=>by
   rcases h with h | ⟨h1,h2⟩
   . exact .inl (.inl h)
   by_cases e:j'=i
   . exact .inr ⟨h1,e⟩
   exact .inl (.inr ⟨h1,oo⟩)
 have jy:=X.bi.lt0 (agN c i);have jz:=zcZ hv i
 have hC:∀ {w':World} {K:Value->Prop} (hF:FV wb w' g v I) (k:K (.int .i64 (zay I (agN c i):Int))),RD tp (Instr.indexAt 33 v (.int .i64 (agN c i:Int))) w' λhD=>RD tp (Instr.loadAt 3 hD) w' K:=λhF k=>by
   refine zad u33 ty3 (i:=agN c i) hF.mine.is (by rw [zaf,gO];exact gN) λb1 o1 gQ=>?_;rw [zaR] at gQ;exact zac ty3 gQ (xrf _) λ_=>k
 have hV:∀ {w':World} {K:Value->Prop} (hA:OwnI lo8 lo9 w' gy (zaT (zcI c (zdk c) p hh))) (k:K (.int .i64 (zay (zcI c (zdk c) p hh) i:Int))),RD tp (Instr.indexAt 33 gy (.int .i64 (i:Int))) w' λhD=>RD tp (Instr.loadAt 3 hD) w' K:=λhA k=>by
   refine zad u33 ty3 (i:=i) hA.is (by rw [zaf,jr];exact gq) λb1 o1 gQ=>?_;rw [zaR] at gQ;exact zac ty3 gQ (xrf _) λ_=>k
 refine zab za8<|zac ty3 (zaq gK) Y λ_=>?_;rw [gb];refine hC g0<|hV g3<|zeA oo oo<|zab za8<|zac ty3 (zaq gK) Y λ_=>?_;rw [gb];refine hC g0<|zaP<|br (λjA=>?_) (λjB=>?_)
 . have g4:=zah w13
   have gR:=g0.step g4;have gS:=g3.ext g4;have gU:=M.ext g4;generalize World.drew1 w13=w14 at *;refine zab za8<|zac ty3 (zaq gK) (Y.t g4) λ_=>?_;rw [gb];refine zab za8<|zac ty3 (zaq gK) (Y.t g4) λ_=>?_;rw [gb];refine hC gR<|hV gS<|zeA oo oo ?_;have hvl:=qaX (n:=zay I (agN c i)) (m:=zay (zcI c (zdk c) p hh) i);refine zC2 (m:=zay I (agN c i) &&& zay (zcI c (zdk c) p hh) i) gR (by rw [gO];exact gN) oo λw15 hG gc=>zau<|U hG (gS.chg gc oo) (gU.chg gc oo) (hB _ λe=>jA (by rw [e])) (λe=>by cases e)
 refine zau<|U g0 g3 M (gP (qaY.1 (qad.1 jB))) g9
def MS (c:DCode) (out:List Nat) (D:Nat->Prop):Prop:=out.length=c.ins.length/\∀ i,i<c.ins.length->D i->zay out i=zgl c i
def MS.set {D D':Nat->Prop} (h:MS c out D) {i v:Nat} (hi:i<c.ins.length) (hv:v=zgl c i) (hD:∀ j,D' j->D j\/j=i):MS c (out.set i v) D':=by
 refine ⟨by simp [h.1],λj hj hd=>?_⟩;rw [zb9 (by rw [h.1];exact hi)];by_cases e:i=j
 . subst e;rw [if_pos rfl];exact hv
 rw [if_neg e];exact h.2 j hj ((hD j hd).resolve_right λe'=>e e'.symm)
def MS.mono {D D':Nat->Prop} (h:MS c out D) (hD:∀ j,j<c.ins.length->D' j->D j):MS c out D':=⟨h.1,λj hj hd=>h.2 j hj (hD j hj hd)⟩
def MS.fin {D:Nat->Prop} (h:MS c out D) (hD:∀ j,j<c.ins.length->D j):out=zeD c:=by
 refine qaO (by rw [h.1,zhq]) λi h1 h2=>?_;have hi:i<c.ins.length:=by rw [<-h.1];exact h1
 rw [zbl h1,zbl h2,zt7 hi,h.2 i hi (hD i hi)]
def zeF (hc:CodeR c) {i:Nat} (hi:i<c.ins.length):∃ p,p<c.procs.length/\zas c i=p/\eN c p<=i/\i<=zN c p:=by
 obtain ⟨q,hq,h1,h2,h3⟩:=hc.f.find hc.1.procs8.2 (a:=(i:Int)) oo oo;have g0:=zsx hc hi hq h3;exact ⟨q,by have:=hc.2.1.1;omega,h3,g0⟩
def zyg (hW:WAt W0 b c) (e0:Ext W0 w) (hc:CodeR c) :
   CALL tp 68 [.pointer (some ⟨b,0,none⟩)] w λr w'=>Ext w w'/\Own w.heap.size w' r (zaT (zeD c)):=by
 refine co (g:=kf [] [(5,4261412928,[25]),(10,75557863725639445513984,[38]),(14,37778643632581009998848,[10])] []) Tryz.func68 ?_;have h8:=hc.1.procs8;have gP:=hc.f.ins;have gQ:=zhU c;refine (zvq hW e0 hc).mono ?_;rintro v12 w1 ⟨gd,gr⟩;have hs1:=gd.size;refine (zvr hW (e0.t gd) gr.is (xrf _) hc).mono ?_;rintro v15 w2 ⟨gf,gR⟩;have hs2:=gf.size;have g0:=gd.t gf;have e2:=e0.t g0;have gS:=gr.is.ext gf;have gU:=gR.is;refine NIL.mk rfl<|zab zbM<|zab zaM<|zaa zcQ (zak hW.wl.code) e2 λv20 gV=>zae u34 gV ?_;have hn:c.ins.length=c.ins.length:=rfl;generalize hnn:c.ins.length=n at hn;rw [hnn] at gP;have hz0:=(zeE hc h8.2).2.2;refine zd1 oo oo λw3 gs gW=>?_;have hs3:=gs.size;generalize hg:w2.heap.size=g at *;have gX:FW w2 w3 g n (fil n 0):=⟨gs,by simpa [fil] using gW,oo⟩;refine zkb u33<|zao n (λk us w'=>us=[.int .i64 (k:Int)]/\k<=n/\FW w2 w' g n (fil n k)) 0 (z0 _) ⟨rfl,z0 _,gX⟩ ?_;rintro k mk u w4 gt ⟨hu,gx,U⟩;try replace hu:=zbt hu
 rw [hu];refine zag<|br (λgy=>?_) (λgz=>?_)
 . have hk:k<n:=oo
   refine zb8 (α:=Int) rfl u33 ty3 hk<|zbr (α:=Int) rfl ty3 U.mine (by rw [zaf,zsB gx]) hk (zbY (v:=63) oo) λw5 gY gZ=>?_;have g9:=U.set (v:=63) gY gZ;rw [zsC hk] at g9;refine zau<|⟨mk-1,oo,k+1,oo,rfl,oo,g9⟩
 have hk:k=n:=oo
 rw [hk,zpn] at U
 have h4:MS c (List.replicate n 63) (λi=>¬UsedP c (zas c i).toNat):=⟨by simp [hnn],λi hi hd=>by
   rw [<-zbl (by simp;omega)];obtain ⟨p,_,h1,_⟩:=zeF hc hi;have gC:¬UsedP c (zas c i).toNat:=hd;rw [h1,qah] at gC;rw [znW (p:=p) h1 gC];simp⟩
 generalize List.replicate n 63=out at *;clear hu gt;have hus:zeJ c<256:=zbs h8.1;refine NIL.mk rfl<|zab zlC<|zac ty3 hW.used (e2.trans U.ext) λ_=>?_;refine (zdr (m:=zeJ c) oo).mono ?_;rintro gD w5 ⟨h5,gb⟩;unfold zeJ at gb;rw [zen oo] at gb;have g9:=U.step h5;have hg4:=U.lt;have hL:∀ p,p∈zbd c.procs.length (UsedP c)↔UsedP c p:=λp=>by rw [zaH];exact ⟨λh=>h.2,λh=>⟨h.lt hc,h⟩⟩
 have hLl:(zbd c.procs.length (UsedP c)).length<=8:=qan zbg h8.1;generalize zbd c.procs.length (UsedP c)=L at *;have h6:=gb.toI;generalize hlo:w4.heap.size=lo at *;generalize hhi:w5.heap.size=hi at *;refine zae u33 gb.is ?_;rw [zaf];refine zao L.length (λk us w'=>∃ (out':List Nat),us=[.int .i64 (k:Int)]/\k<=L.length/\FW w2 w' g n out'/\OwnI lo hi w' gD (zaT L)/\MS c out' (λi=>¬UsedP c (zas c i).toNat\/(zas c i).toNat∈L.take k)) 0 (z0 _) ⟨out,rfl,z0 _,g9,h6,h4.mono λj _ h=>h.elim id λh=>by simp at h⟩ ?_;rintro k mk u w8 gt ⟨gg,hu,gx,D,gE,gF⟩;try replace hu:=zbt hu
 rw [hu];refine zag<|br (λgy=>?_) (λgz=>?_)
 case refine_2=>
   rw [gF.fin λj hj=>by
     by_cases hu:UsedP c (zas c j).toNat
     . exact .inr (by rw [qaf oo];exact (hL _).2 hu)
     exact .inl hu] at D
   exact ⟨g0.t D.ext,D.own.mono oo⟩
 have hk:k<L.length:=oo
 refine zad u33 ty3 (i:=k) gE.is (by rw [zaf];exact hk) λb2 o2 gG=>?_;rw [za3] at gG;refine zac ty3 gG (xrf _) λ_=>?_;have h9:=λx=>zbD hk (x:=x);have gH:=(hL L[k]).1 (qab hk);generalize L[k]=p at *;have V:=gH.lt hc;have X:p<c.entry.length:=by rw [hc.2.1.1];exact V
 have e8:=e2.trans D.ext;refine zad u33 ty3 (i:=p) gU (by rw [zaf,zlj];exact V) λb3 o3 gI=>?_;rw [zaR,zsy V] at gI;refine zac ty3 gI D.ext λ_=>?_;refine (zsD hW.wl e8 gS D.ext hc gQ V (h:=zqQ c p) zmm).mono ?_;rintro ha w9 ⟨gJ,hb⟩;have gK:=D.step gJ;have he:=gE.ext gJ;have hg8:=D.lt;have hf:=hb.toI;have e9:=e2.trans gK.ext;generalize hl8':w8.heap.size=lo8 at *;generalize hl9:w9.heap.size=lo9 at *;obtain ⟨hh,he2,he3⟩:=zfU hc X;obtain ⟨hl,hz2,hz3⟩:=zeE hc V;obtain ⟨_,hez,_⟩:=zng hc X;have gh:∀ i,eN c p<=i->i<=zN c p->zay (zcI c (zdk c) p (zqQ c p)) i=zgl c i:=λi h1 h2=>(ziw (zph hc X h1 h2) gH).symm
 have hr:∀ i,i<c.ins.length->(zas c i).toNat=p->eN c p<=i/\i<=zN c p:=λi hi h=>by
   obtain ⟨q,hq,h1,h2⟩:=zeF hc hi;have:q=p:=by rw [h1,qah] at h;exact h
   subst this;exact h2
 have hs:(zcI c (zdk c) p (zqQ c p)).length=c.ins.length:=zeB _ _ _ _;have gi:=zjj (c:=c) (T:=zdk c) (p:=p) (h:=zqQ c p);generalize zcI c (zdk c) p (zqQ c p)=fl at *;refine NIL.mk rfl<|zab zbM<|zab zbi<|zaa za4 (zar hW.wl.code) e9 λv54 ht=>zad u33 ty3 ht X λb5 o5 gM=>?_;rw [zbx X,hh] at gM;refine zac ty3 gM e9 λ_=>?_;generalize hE:eN c p=E at *;generalize hZ:zN c p=Z at *;refine zao (Z+1-E) (λj us w'=>∃ (out':List Nat),us=[.int .i64 ((E+j:Nat):Int)]/\E+j<=Z+1/\FW w2 w' g n out'/\OwnI lo hi w' gD (zaT L)/\OwnI lo8 lo9 w' ha (zaT fl)/\MS c out' (λi=>¬UsedP c (zas c i).toNat\/(zas c i).toNat∈L.take k\/(E<=i/\i<E+j))) 0 (z0 _) ⟨gg,rfl,oo,gK,he,hf,gF.mono λi _ h=>h.imp id λh=>h.resolve_right λh=>oo⟩ ?_;rintro j mj u w11 hjm ⟨g1,hu,hjl,g2,gj,gl,M⟩;try replace hu:=zbt hu
 rw [hu];have gN:=e2.trans g2.ext;refine NIL.mk rfl<|zab zbM<|zaa zbq hW.wl.code gN λv62 hw=>?_;refine (zdJ hw gN oo).mono ?_;rintro _ w12 ⟨C,rfl⟩;rw [hl];have O:=g2.step C;have g3:=gj.ext C;have g4:=gl.ext C;refine zag<|br (λgy=>?_) (λgz=>?_)
 case refine_2=>
   refine zau<|⟨mk-1,oo,k+1,oo,g1,rfl,oo,O,g3,M.mono λi hi h=>?_⟩;rcases h with h | h
   . exact .inl h
   rcases (h9 _).1 h with h | h
   . exact .inr (.inl h)
   have:=hr i hi h;exact .inr (.inr oo)
 have gc:E+j<n:=oo
 have hv:=gh (E+j) oo oo;have hx:=zcZ gi (E+j);refine zad u33 ty3 (i:=E+j) g4.is (by rw [zaf,hs,hnn];exact gc) λb6 o6 gO=>?_;rw [zaR] at gO;refine zac ty3 gO (xrf _) λ_=>zb8 (α:=Int) rfl u33 ty3 gc<|zbr (α:=Int) rfl ty3 O.mine (by rw [zaf,M.1,hnn]) gc (zbY (v:=zay fl (E+j)) oo) λw13 g5 gp=>?_;have gq:=O.set (v:=zay fl (E+j)) g5 gp;have I:=zfu g5;refine zau<|⟨mj-1,oo,j+1,oo,_,rfl,oo,gq,g3.chg I oo,g4.chg I oo,M.set (by rw [hnn];exact gc) hv λi h=>?_⟩;by_cases e:i=E+j
 . exact .inr e
 exact .inl (h.imp id λh=>h.imp id λh=>oo)
def zvs (h0:Is W0 v0 c) (e0:Ext W0 w) (hc:CodeR c) :
   CALL tp 220 [v0] w λr w'=>Ext w w'/\Own w.heap.size w' r (zaT (zeD c)):=by
 refine co (g:=kf [] [(6,4611686018425291648,[7]),(10,4611683819404132864,[9])] [(8,[0,1,2,3,4,5,6,7,8],0)]) Tryz.func220 ?_;have h8:=hc.1.procs8;have gM:=hc.f.ins;have gN:=zhU c;refine za9 h0 e0 λw0 gy hA=>?_;have hs0:=gy.size;refine zaa zbq hA (xrf _) λv10 gO=>?_;refine (zpo gO (xrf _) hc).mono ?_;rintro v12 w1 ⟨g1,gz⟩;have hs1:=g1.size;refine zaa zbq hA g1 λv11 gP=>?_;refine (zpp gP g1 gz.is (xrf _) hc).mono ?_;rintro v15 w1b ⟨C,gi⟩;have gQ:=C.size;refine zaa zbq hA (g1.t C) λv16 gR=>?_;refine (zhW gR (g1.t C) hc).mono ?_;rintro v17 w2 ⟨gh,gS⟩;have hs2:=gh.size;have D:=g1.t (C.t gh);have gU:=gz.is.ext (C.t gh);have gV:=gi.is.ext gh;have gW:=gS.is;refine zab zaM<|zaa zcQ (zak hA) D λv20 gX=>zae u34 gX ?_;have hn:c.ins.length=c.ins.length:=rfl;generalize hnn:c.ins.length=n at hn;rw [hnn] at gM;have hz0:=(zeE hc h8.2).2.2;refine zd1 oo oo λw3 gC gY=>?_;have hs3:=gC.size;generalize hg:w2.heap.size=g at *;have gZ:FW w2 w3 g n (List.replicate n 0):=⟨gC,gY,oo⟩;refine zao c.procs.length (λk us w'=>∃ (out':List Nat),us=[.int .i64 (k:Int)]/\k<=c.procs.length/\FW w2 w' g n out'/\MS c out' (λi=>(zas c i).toNat<k)) 0 (z0 _) ⟨_,rfl,z0 _,gZ,by simp [hnn],λi _ h=>oo⟩ ?_;rintro p mk u w8 hkm ⟨gj,hu,hkl,g3,gD⟩;try replace hu:=zbt hu
 rw [hu];have e8:=D.t g3.ext;refine zab zbG<|zaa zcv (zaC hA) e8 λv23 h4=>zae u24 h4<|zag<|br (λh5=>?_) (λh6=>?_)
 case refine_2=>rw [gD.fin λj hj=>by obtain ⟨q,hq,h1,_⟩:=zeF hc hj;rw [h1,qah];omega] at g3;exact ⟨gy.t (D.t g3.ext),g3.own.mono oo⟩
 have U:p<c.procs.length:=oo
 have g2:p<c.entry.length:=by rw [hc.2.1.1];exact U
 have gE:=zah w8;have M:=g3.step gE;have gF:=e8.trans gE;generalize World.drew1 w8=w8d at *;refine zaa zbq hA gF λv28 h9=>zad u33 ty3 (i:=p) gV (by rw [zaf,zlj];exact U) λb3 o3 gG=>?_;rw [zaR,zsy U] at gG;refine zac ty3 gG M.ext λ_=>?_;refine (zkc h9 gF gU M.ext hc gN U (h:=zqQ c p) zmm).mono ?_;rintro ha w9 ⟨hb,hd⟩;have gH:=M.step hb;have hg8:=M.lt;have he:=hd.toI;have e9:=D.t gH.ext;generalize hl8':w8d.heap.size=lo8 at *;generalize hl9:w9.heap.size=lo9 at *;obtain ⟨hh,he2,he3⟩:=zfU hc g2;obtain ⟨hz1,hk,hz3⟩:=zeE hc U;obtain ⟨_,hez,_⟩:=zng hc g2;have gl:UsedP c p->∀ i,eN c p<=i->i<=zN c p->zay (zcI c (zdk c) p (zqQ c p)) i=zgl c i:=λhu i h1 h2=>(ziw (zph hc g2 h1 h2) hu).symm;have g4:¬UsedP c p->∀ i,eN c p<=i->i<=zN c p->63=zgl c i:=λhu i h1 h2=>(znW (zph hc g2 h1 h2) hu).symm
 have hl:∀ i,i<c.ins.length->(zas c i).toNat=p->eN c p<=i/\i<=zN c p:=λi hi h=>by
   obtain ⟨q,hq,h1,h2⟩:=zeF hc hi;have:q=p:=by rw [h1,qah] at h;exact h
   subst this;exact h2
 have hr:(zcI c (zdk c) p (zqQ c p)).length=c.ins.length:=zeB _ _ _ _;have gp:=zjj (c:=c) (T:=zdk c) (p:=p) (h:=zqQ c p);generalize zcI c (zdk c) p (zqQ c p)=fl at *;refine zab zbi<|zaa za4 (zar hA) e9 λv37 hs=>zad u33 ty3 hs g2 λb5 o5 gI=>?_;rw [zbx g2,hh] at gI;refine zac ty3 gI e9 λ_=>?_;generalize hE:eN c p=E at *;generalize hZ:zN c p=Z at *;refine zao (Z+1-E) (λj us w'=>∃ (out':List Nat),us=[.int .i64 ((E+j:Nat):Int)]/\E+j<=Z+1/\FW w2 w' g n out'/\OwnI lo8 lo9 w' ha (zaT fl)/\MS c out' (λi=>(zas c i).toNat<p\/(E<=i/\i<E+j))) 0 (z0 _) ⟨gj,rfl,oo,gH,he,gD.mono λi _ h=>h.resolve_right λh=>oo⟩ ?_;rintro j mj u w11 hjm ⟨g5,hu,hjl,g9,gq,I⟩;try replace hu:=zbt hu
 rw [hu];have gJ:=D.t g9.ext;refine zaa zbq hA gJ λv42 ht=>?_;refine (zfl ht gJ (p:=(p:Int)) oo oo hc.2.1.nonneg).mono ?_;rintro _ w12 ⟨V,rfl⟩;rw [hk];have X:=g9.step V;have gr:=gq.ext V;refine zdT<|br (λh5=>?_) (λh6=>?_)
 case refine_2=>
   refine zau<|⟨mk-1,oo,p+1,oo,g5,rfl,oo,X,I.mono λi hi h=>?_⟩;by_cases e:(zas c i).toNat=p
   . have:=hl i hi e
     exact .inr oo
   exact .inl oo
 have Y:E+j<n:=oo
 refine zb8 (α:=Int) rfl u33 ty3 Y<|zbr (α:=Int) rfl ty3 X.mine (by rw [zaf,I.1,hnn]) Y (zbY (v:=63) oo) λw13 gb gs=>?_;have O:=X.set (v:=63) gb gs;have gc:=zfu gb;have g0:=gr.chg gc oo;refine zad u90 ty4 (i:=p) gW (by rw [zan];exact U) λb7 o7 hw=>zaG ty4 hw O.ext ?_;have gt:=zaU (n:=c.procs.length) (p:=UsedP c) (i:=p);rw [za5 (by rw [zan];exact U)] at gt
 have hD:∀ i:Nat,((zas c i).toNat<p\/(E<=i/\i<E+(j+1)))->((zas c i).toNat<p\/(E<=i/\i<E+j))\/i=E+j:=λi h=>by
   by_cases e:i=E+j
   . exact .inr e
   exact .inl (h.imp id λh=>oo)
 refine zbz (λhf=>?_) (λhf=>?_)
 . have hv:=gl (gt.1 hf).2 (E+j) oo oo
   have hx:=zcZ gp (E+j);refine zad u33 ty3 (i:=E+j) g0.is (by rw [zaf,hr,hnn];exact Y) λb6 o6 gK=>?_;rw [zaR] at gK;refine zac ty3 gK (xrf _) λ_=>zb8 (α:=Int) rfl u33 ty3 Y<|zbr (α:=Int) rfl ty3 O.mine (by rw [zaf,qaL,I.1,hnn]) Y (zbY (v:=zay fl (E+j)) oo) λw14 gd gx=>?_;have gf:=O.set (v:=zay fl (E+j)) gd gx;have gg:=zfu gd;rw [qda] at gf;refine zau<|⟨mj-1,oo,j+1,oo,_,rfl,oo,gf,g0.chg gg oo,I.set (by rw [hnn];exact Y) hv hD⟩
 have hv:=g4 (λh=>by rw [gt.2 ⟨U,h⟩] at hf;cases hf) (E+j) oo oo;refine zau<|⟨mj-1,oo,j+1,oo,_,rfl,oo,O,g0,I.set (by rw [hnn];exact Y) hv hD⟩
def MC (c:DCode) (ms:List Bool) (i:Nat):Prop:=
 ((zam c i).op=4->mkd ms (eN c (agN c i))/\(mkd ms (zN c (agN c i))->∀ j∈zaA c i,mkd ms j))/\(¬(zam c i).op=4->∀ j∈zaA c i,mkd ms j)
structure TP (c:DCode) (ms0:List Bool) (ag:Bool) (ms:List Bool) (k:Nat):Prop where
 len:ms.length=c.ins.length
 snd:∀ i,mkd ms i->MetP c i
 root:∀ p,RootP c p->mkd ms (eN c p)
 yes:ag=true->zlf ms0<zlf ms
 no:ag=false->ms=ms0/\∀ i,i<k->mkd ms0 i->MC c ms0 i
def zfK {ms:List Bool} (h:mkd ms j):mkd (ms.set i true) j:=by
 have hl:=ztZ h;by_cases hi:i<ms.length
 . exact (zde hi).2 (.inl h)
 rw [qcR oo];exact h
def zmq {ms:List Bool} (h:mkd ms i):ms.set i true=ms:=by
 have hl:=ztZ h;rw [za5 hl] at h;rw [<-h];exact qc2 hl
def zDG (ms:List Bool) (i:Nat) (ag:Bool):Bool:=ag || !ms.getD i false
def zub {ms:List Bool} (h:mkd ms i):zDG ms i ag=ag:=by
 unfold mkd at h;unfold zDG;rw [h];simp
def zuc {ms:List Bool} (h:¬mkd ms i):zDG ms i ag=true:=by
 unfold mkd at h;unfold zDG;rw [qb9] at h;rw [h];simp
theorem TP.meet {g0 ms:List Bool} (h:TP c g0 ag ms k) (hi:i<c.ins.length) (hm:MetP c i):TP c g0 (zDG ms i ag) (ms.set i true) k:=by
 by_cases hk:mkd ms i
 . rw [zub hk,zmq hk];exact h
 rw [zuc hk];have hc:=zjd (by rw [h.len];exact hi) hk;refine ⟨by simp [h.len],λj hj=>?_,λp hp=>zfK (h.root p hp),λ_=>?_,λe=>by cases e⟩
 . rcases (zde (by rw [h.len];exact hi)).1 hj with h1 | h1
   . exact h.snd j h1
   rw [h1];exact hm
 cases ag with
 | true=>have:=h.yes rfl;omega
 | false=>rw [<-(h.no rfl).1];omega
def TP.next {ms0 ms:List Bool} (h:TP c ms0 ag ms k) (hk:mkd ms k->MC c ms k):TP c ms0 ag ms (k+1):=
 ⟨h.len,h.snd,h.root,h.yes,λe=>⟨(h.no e).1,λi hi hm=>by
   by_cases e2:i=k
   . subst e2;rw [(h.no e).1] at hk;exact hk hm
   exact (h.no e).2 i oo hm⟩⟩
def TP.fin (hc:CodeR c) {g1 ms:List Bool} (h:TP c g1 false ms c.ins.length):ms=zg9 c:=by
 obtain ⟨h1,h2⟩:=h.no rfl;refine zcu h.len λi hi=>⟨h.snd i,λhm=>?_⟩;have hC:MetC c (mkd ms):=⟨h.root,λi hi ho=>?_,λi j hi ho hj=>?_,λi j hi ho hz hj=>?_⟩
 . exact hC.all hm
 all_goals
   have g0:=ztZ hi;rw [h.len] at g0;have:=h2 i g0 (by rw [<-h1];exact hi);rw [<-h1] at this
 . exact (this.1 ho).1
 . exact this.2 ho j hj
 exact (this.1 ho).2 hz j hj
def TP.again {ms0 ms:List Bool} (h:TP c ms0 ag ms k):TP c ms false ms 0:=
 ⟨h.len,h.snd,h.root,λe=>(by cases e),λ_=>⟨rfl,λi hi=>oo⟩⟩
def zha (m n:Nat):Prop:=∀ l,l<6->m.testBit l=true->n.testBit l=true
def HC (c:DCode) (out:List Nat) (i:Nat):Prop:=
 ((zam c i).op=4->zha (zay out i) (zay out (eN c (agN c i)))/\(MetP c (zN c (agN c i))->∀ j∈zaA c i,zha (zay out (zN c (agN c i))) (zay out j)))/\(¬(zam c i).op=4->∀ j∈zaA c i,zha (aft c [] i (zay out i)) (zay out j))
structure HP (c:DCode) (out0:List Nat) (ag:Bool) (out:List Nat) (k:Nat):Prop where
 len:out.length=c.ins.length
 lt:∀ x∈out,x<64
 snd:∀ i l,i<c.ins.length->(zay out i).testBit l=true->MayP c i l/\MetP c i
 yes:ag=true->out0.sum<out.sum
 no:ag=false->out=out0/\∀ i,i<k->MetP c i->HC c out0 i
def HP.lt0 {out0 out:List Nat} (h:HP c out0 ag out k) (i:Nat):zay out i<64:=zcZ h.lt i
def zyh (h:n ||| m=n):zha m n:=λl _ hb=>by
 rw [<-h,qaH,hb];simp
def zBY:zha m (n ||| m):=λl _ hb=>by rw [qaH,hb];simp
def zmr (h:zha k n):zha k (n ||| m):=λl hl hb=>by rw [qaH,h l hl hb];rfl
def zgm (hm:m<64) (hn:n<64):zlg m n=0↔zha m n:=by
 constructor
 . intro h l hl hb
   have:=congrArg (·.testBit l) h;simp only [zdg,hb,qbT,qcb,qb2] at this;exact this
 intro h;refine qbd λl=>?_;rw [zdg,qcb];cases e:m.testBit l
 . rfl
 rw [h l (zgS hm e) e];rfl
def zpq (hm:m<64) (hn:n<64):n ||| m<64:=qaT (n:=6) hn hm
def zAd (h:¬n ||| m=n):n<n ||| m:=by
 have:n<=n ||| m:=Nat.left_le_or;omega
theorem HP.add {out0 out:List Nat} (h:HP c out0 ag out k) (hi:i<c.ins.length) (hm:m<64) (g1:MetP c i) (g0:∀ l,l<6->m.testBit l=true->MayP c i l) (hn:¬zha m (zay out i)):HP c out0 true (out.set i (zay out i ||| m)) k:=by
 have g2:=h.lt0 i;refine ⟨by simp [h.len],λx hx=>?_,λj l hj hb=>?_,λ_=>?_,λe=>by cases e⟩
 . rcases zdq hx with rfl | hx
   . exact zpq hm g2
   exact h.lt x hx
 . rw [zb9 (by rw [h.len];exact hi)] at hb
   split at hb
   . rename_i e
     subst e;rw [qaH,qaK] at hb;rcases hb with hb | hb
     . exact h.snd i l hj hb
     exact ⟨g0 l (zgS hm hb) hb,g1⟩
   exact h.snd j l hj hb
 have h1:=zj8 (l:=out) (i:=i) (v:=zay out i ||| m) (by rw [h.len];exact hi);have h2:=zAd (m:=m) (n:=zay out i) λe=>hn (zyh e);cases ag with
 | true=>have:=h.yes rfl;omega
 | false=>rw [<-(h.no rfl).1];omega
def HP.next {out0 out:List Nat} (h:HP c out0 ag out k) (hk:ag=false->MetP c k->HC c out k):HP c out0 ag out (k+1):=
 ⟨h.len,h.lt,h.snd,h.yes,λe=>⟨(h.no e).1,λi hi hm=>by
   by_cases e2:i=k
   . subst e2
     have:=hk e hm;rw [(h.no e).1] at this;exact this
   exact (h.no e).2 i oo hm⟩⟩
def zpr (h4:¬(zam c i).op=4):(aft c [] i m).testBit l=true↔¬((zam c i).op=7/\agN c i=l)/\(((zam c i).op=6/\agN c i=l)\/m.testBit l=true):=by
 rw [<-Bool.not_eq_false,zmn];unfold zEv zx3;have e4:((zam c i).op=4)=False:=eq_false h4;simp only [e4,false_and,or_false,not_false_eq_true,and_true,not_or,not_and,Bool.not_eq_false];constructor
 . rintro ⟨h1,h2⟩
   refine ⟨h1,?_⟩;by_cases e:(zam c i).op=6/\agN c i=l
   . exact .inl e
   exact .inr (h2 λa b=>e ⟨a,b⟩)
 rintro ⟨h1,h2⟩;refine ⟨h1,λh3=>?_⟩;rcases h2 with h2 | h2
 . exact absurd h2.2 (h3 h2.1)
 exact h2
def zyi (h4:¬(zam c i).op=4) (hm:MetP c i) (hj:j∈zaA c i) (g0:m.testBit l=true->MayP c i l) (hb:(aft c [] i m).testBit l=true):MayP c j l:=by
 obtain ⟨h1,h2⟩:=(zpr h4).1 hb;rcases h2 with h2 | h2
 . exact .lock hm h2.1 h2.2 hj
 exact .pass hm h4 h1 (g0 h2) hj
def HC.may (hc:CodeR c) (h:∀ i,MetP c i->HC c out i):MayC c λi l=>(zay out i).testBit l=true:=by
 refine ⟨λi j hm ho hj=>?_,λi j l hm hl ho ha hb hj=>?_,λi l hm hl ho hb=>?_,λi j l hm hl ho hz hb hj=>?_⟩
 . have ha:=zcY hc (hm.lt hc) (.inl ho)
   exact (h i hm).2 oo j hj _ ha.2.2 ((zpr oo).2 ⟨λh=>oo,.inl ⟨ho,rfl⟩⟩)
 . exact (h i hm).2 ho j hj l hl ((zpr ho).2 ⟨ha,.inr hb⟩)
 . exact ((h i hm).1 ho).1 l hl hb
 exact ((h i hm).1 ho).2 hz j hj l hl hb
def zyj (hc:CodeR c) {out:List Nat} (g0:out.length=c.ins.length) (g1:∀ x∈out,x<64) (hs:∀ i l,i<c.ins.length->(zay out i).testBit l=true->MayP c i l) (h:∀ i,MetP c i->HC c out i):out=zpl c:=by
 have hC:=HC.may hc h;refine qaO (by rw [g0,zjm]) λi h1 h2=>?_;have hi:i<c.ins.length:=by rw [<-g0];exact h1
 rw [zbl h1,zbl h2,zpm hi];exact zx1 (zcZ g1 i) λl hl=>⟨hs i l hi,λhm=>hC.all hl hm⟩
def HP.fin (hc:CodeR c) {out0 out:List Nat} (h:HP c out0 false out c.ins.length):out=zpl c:=by
 obtain ⟨h1,h2⟩:=h.no rfl;exact zyj hc h.len h.lt (λi l hi hb=>(h.snd i l hi hb).1) λi hm=>by rw [h1];exact h2 i (hm.lt hc) hm
def HP.again {out0 out:List Nat} (h:HP c out0 ag out k):HP c out false out 0:=
 ⟨h.len,h.lt,h.snd,λe=>(by cases e),λ_=>⟨rfl,λi hi=>oo⟩⟩
def HP.start:HP c (List.replicate c.ins.length 0) false (List.replicate c.ins.length 0) 0:=
 ⟨sS,λx hx=>by rw [(qcD.1 hx).2];omega,λi l hi hb=>by rw [<-zbl (by simp;exact hi)] at hb;simp at hb,λe=>(by cases e),λ_=>⟨rfl,λi hi=>oo⟩⟩
def HP.sum_le {out0 out:List Nat} (h:HP c out0 ag out k):out.sum<=c.ins.length*63:=by
 rw [<-h.len];exact Go.Proofs.YtcnglfeoglgebaaGreat.sum_le λx hx=>by have:=h.lt x hx;omega
end Go.Proofs.YtcnglfeoglgebaaGreat
namespace Go.Sh
open Rep (rep)
variable {F:List Nat} {cs:List Value} {g:Nat} {w w' w0:World}
def ChgI.one (h:ChgI g (g+1) w w'):Chg [g] w w':=⟨h.os,h.tape,h.output,h.size,λb hb hn=>h.block b hb (by simp at hn;omega)⟩
def OwnI.chgF {α:Type} [Rep α] {w w':World} {lo hi:Nat} {v:Value} {x:α} {F:List Nat} (h:OwnI lo hi w v x) (hc:Chg F w w') (hd:∀ b∈F,b<lo\/hi<=b):OwnI lo hi w' v x:=by
 obtain ⟨G,hm,hG⟩:=h;exact ⟨G,hm.keep λb hb=>hc.block b (hm.lt b hb) λhF=>by have:=hG b hb;have:=hd b hF;omega,hG⟩
def Blk.chgF {g e:Nat} (h:Blk g e w cs) (hc:Chg F w w') (hd:g∉F):Blk g e w' cs:=h.keep (hc.block g h.lt hd)
def Ext.chgF (h:Ext w0 w) (hc:Chg F w w') (hd:∀ b∈F,w0.heap.size<=b):Ext w0 w':=
 ⟨hc.os.trans h.os,hc.tape.trans h.tape,hc.output.trans h.output,qan h.size hc.size,λb hb=>(hc.block b (qal hb h.size) λhF=>by have:=hd b hF;omega).trans (h.block b hb)⟩
end Go.Sh
namespace Go.Proofs.YtcnglfeoglgebaaGreat
open Go Go.Sh Go.Proofs
open Rep (rep)
variable {P:Program} {W W0 w:World} {b by_ f hi k lo t:Nat} {c:DCode} {u v z:Value}
def zud {args caps:List Value} {K:VW} (hE:zfx P f=true) (h:CALL P f (args++caps) w K):OPN P (zrK (.func (.func f) #[] caps.toArray) args) w K:=by
 obtain ⟨h⟩:=h;refine .enter f (args++caps).toArray w ?_ h;simp [zrK,Deferred.ofValue,invoke,zev hE]
def zBZ:zfx tp 154=true:=by kernel_rfl
def zB0:zfx tp 152=true:=by kernel_rfl
def zFG:zcz tp 90=some [.slice none 0 0]:=by kernel_rfl
def zFH:zcz tp 33=some [.slice none 0 0]:=by kernel_rfl
def zdi (h:u.oneCell'=true):OwnI lo hi w u (⟨u⟩:Raw):=⟨[],⟨⟨[u],⟨rfl,rfl,h⟩,rfl⟩,qaq,Wr.nil _⟩,sS⟩
def zke {K:VW} (hz:zcz tp t=some [z]) (ht:tyI tp t=some (1,by_,false)) (hu:u.oneCell'=true) (k:∀ w',Ext w w'->Blk w.heap.size t w' [u]->K (.pointer (some ⟨w.heap.size,0,none⟩)) w') :
   OP tp (Instr.alloc t true (.tuple #[])) w λp w1=>OPU tp (Instr.storeAt t p u) w1 λw2=>K p w2:=by
 refine zb5 hz λw1 g0 g1=>zbW (α:=Raw) (lo:=0) (hi:=0) ht rfl rfl g1 sS (zdi hu) λw2 g2 g3=>k w2 (g0.chgI g2 (lr _)) g3
structure MW (w1 w:World) (gv g ga n:Nat) (ms:List Bool) (ag:Bool):Prop where
 ext:Ext w1 w
 var:Blk gv 90 w [.slice (some ⟨g,0,none⟩) n n]
 mks:Mine [g] w (.slice (some ⟨g,0,none⟩) n n) ms
 agn:Blk ga 4 w [.bool ag]
 n1:gv≠g
 n2:gv≠ga
 n3:g≠ga
 g0:w1.heap.size<=g
 g1:w1.heap.size<=gv
 g2:w1.heap.size<=ga
section
variable {w1 w w':World} {gv g ga n:Nat} {ms:List Bool} {ag:Bool}
def MW.step (h:MW w1 w gv g ga n ms ag) (hx:Ext w w'):MW w1 w' gv g ga n ms ag:=⟨h.ext.trans hx,h.var.ext hx,h.mks.ext hx,h.agn.ext hx,h.n1,h.n2,h.n3,h.g0,h.g1,h.g2⟩
def MW.mark {ms':List Bool} (h:MW w1 w gv g ga n ms ag) (hc:Chg [g] w w') (hm:Mine [g] w' (.slice (some ⟨g,0,none⟩) n n) ms'):MW w1 w' gv g ga n ms' ag:=
 ⟨h.ext.chgF hc (by simp [h.g0]),h.var.chgF hc (by simp [h.n1]),hm,h.agn.chgF hc (by simp [Ne.symm h.n3]),h.n1,h.n2,h.n3,h.g0,h.g1,h.g2⟩
def MW.agains {ag':Bool} (h:MW w1 w gv g ga n ms ag) (hc:Chg [ga] w w') (hB:Blk ga 4 w' [.bool ag']):MW w1 w' gv g ga n ms ag':=
 ⟨h.ext.chgF hc (by simp [h.g2]),h.var.chgF hc (by simp [h.n2]),h.mks.keep λb hb=>by
   simp only [qaa,qac,or_false] at hb;subst hb;exact hc.block b (h.mks.lt b sS) (by simp [h.n3]),hB,h.n1,h.n2,h.n3,h.g0,h.g1,h.g2⟩
def MW.cell {ga':Nat} {ag':Bool} (h:MW w1 w gv g ga n ms ag) (hx:Ext w w') (hB:Blk ga' 4 w' [.bool ag']) (hg:w.heap.size<=ga'):MW w1 w' gv g ga' n ms ag':=
 ⟨h.ext.trans hx,h.var.ext hx,h.mks.ext hx,hB,h.n1,by have:=h.var.lt;omega,by have:=h.mks.lt g sS;omega,h.g0,h.g1,by have:=h.ext.size;omega⟩
def zyk {i:Nat} (h:MW w1 w gv g ga n ms ag) (hi:i<n) (hl:ms.length=n) :
   CALL tp 154 [.int .i64 (i:Int),.pointer (some ⟨gv,0,none⟩),.pointer (some ⟨ga,0,none⟩)] w λr w'=>r=.tuple #[]/\MW w1 w' gv g ga n (ms.set i true) (zDG ms i ag)/\Chg [g,ga] w w':=by
 refine co (g:=kf [] [] []) Tryz.func154 ?_;refine zax zgt h.var rfl<|zad u90 ty4 h.mks.is (by rw [hl];exact hi) λb1 o1 g3=>zaG ty4 g3 (xrf _) ?_;have g0:=za5 (ms:=ms) (i:=i) (by rw [hl];exact hi);refine zaV<|zbz (λhf=>?_) (λhf=>?_)
 . have hn:¬mkd ms i:=by rw [g0];simpa using hf
   rw [zuc hn];refine zax zgt h.var rfl<|zb8 (α:=Bool) rfl u90 ty4 hi<|zbr (α:=Bool) rfl ty4 h.mks hl hi zbU λw2 g1 g4=>?_;have h2:=h.mark g1 g4;refine zbW (α:=Raw) (lo:=0) (hi:=0) ty4 rfl rfl h2.agn sS (zdi rfl) λw3 g2 g5=>⟨rfl,h2.agains g2.one g5,(g1.mono sS).trans (g2.one.mono sS)⟩
 have hy:mkd ms i:=by rw [g0];simpa using hf
 rw [zub hy,zmq hy];exact ⟨rfl,h,Chg.refl _ _⟩
end
def zyl (hW:WAt W0 b c) (e0:Ext W0 w) (hc:CodeR c) :
   CALL tp 70 [.pointer (some ⟨b,0,none⟩)] w λr w'=>Ext w w'/\Own w.heap.size w' r (zg9 c):=by
 refine co (g:=kf [(18,19342812825603690643587072,[])] [(3,1099478073376,[25]),(8,316912650057057349274664176576,[6]),(12,158456325028528393712111192832,[48]),(19,78918677504442992524819171328,[88])] [(5,[0,1,2,3,4,5,6,7,8,9,10],0),(16,[0,1,2,3,4,5,6,7,8,9,10],0),(17,[0,1,2,3,4,5,6,7,8,9,10,11],128)]) Tryz.func70 ?_;have h8:=hc.1.procs8;have hS:=hc.f.ins;have C:=hW.wl.code;refine NIL.mk rfl<|zab zbM<|zab zaM<|zaa zcQ (zak C) e0 λv16 hV=>zae u34 hV ?_;have hz0:=(zeE hc h8.2).2.2;have hn:c.ins.length=c.ins.length:=rfl;generalize hnn:c.ins.length=n at hn;rw [hnn] at hS;refine ze1 oo oo λw1 gJ ht=>?_;have hs1:=gJ.size;have hg1:=ht.lt _ (qax.2 rfl);generalize hg:w.heap.size=g at *;refine zke zFG zgt rfl λw2 gF hv=>?_;have hs2:=gF.size;have hX:=ht.ext gF;generalize hgv:w1.heap.size=gv at *;refine NIL.mk rfl<|zab zlB<|zac ty3 hW.roots (e0.t (gJ.t gF)) λ_=>?_;have hrs:zdh c<256:=zbs h8.1;refine (zdr (m:=zdh c) oo).mono ?_;rintro hY w3 ⟨gG,gb⟩;unfold zdh at gb;rw [zen oo] at gb;have hL:∀ p,p∈zbd c.procs.length (RootP c)↔RootP c p:=λp=>by rw [zaH];exact ⟨λh=>h.2,λh=>⟨h.lt hc,h⟩⟩
 have hLl:(zbd c.procs.length (RootP c)).length<=8:=qan zbg h8.1;generalize zbd c.procs.length (RootP c)=L at *;have hs3:=gG.size;have hZ:=hv.lt;refine zae u33 gb.is ?_;rw [zaf];refine zao L.length (λk us w'=>∃ ms,us=[.int .i64 (k:Int)]/\k<=L.length/\Ext w w'/\Blk gv 90 w' [.slice (some ⟨g,0,none⟩) n n]/\Mine [g] w' (.slice (some ⟨g,0,none⟩) n n) ms/\OwnI w2.heap.size w3.heap.size w' hY (zaT L)/\ms.length=n/\(∀ i,mkd ms i->MetP c i)/\∀ p∈L.take k,mkd ms (eN c p)) 0 (z0 _) ⟨_,rfl,z0 _,gJ.t (gF.t gG),hv.ext gG,hX.ext gG,gb.toI,sS,λi h=>absurd h zbX,sS⟩ ?_;rintro k mk u w4 hw ⟨ms,hu,j0,gK,gM,gN,gO,gc,gd,gf⟩;try replace hu:=zbt hu
 rw [hu];refine zag<|br (λhx=>?_) (λhy=>?_)
 . have hk:k<L.length:=oo
   refine zad u33 ty3 (i:=k) gO.is (by rw [zaf];exact hk) λb2 o2 hz=>?_;rw [za3] at hz;refine zac ty3 hz (xrf _) λ_=>?_;have j1:=λx=>zbD hk (x:=x);have hB:=(hL L[k]).1 (qab hk);generalize L[k]=p at *;have Y:p<c.entry.length:=by rw [hc.2.1.1];exact hB.lt hc
   obtain ⟨gP,hC,_⟩:=zfU hc Y;have O:=zah w4;have Z:=gK.t O;have gH:=gM.ext O;have j2:=gN.ext O;have j3:=gO.ext O;generalize World.drew1 w4=w5 at *;refine zax zgt gH rfl<|NIL.mk rfl<|zab zbM<|zab zbi<|zaa za4 (zar C) (e0.t Z) λv34 j4=>zad u33 ty3 j4 Y λb5 o5 gg=>?_;rw [zbx Y,gP] at gg;refine zac ty3 gg (e0.t Z) λ_=>zb8 (α:=Bool) rfl u90 ty4 oo<|zbr (α:=Bool) rfl ty4 j2 gc oo zbU λw6 gQ j5=>zau<|⟨mk-1,oo,k+1,oo,_,rfl,oo,Z.chgF gQ (by simp [hg]),gH.chgF gQ (by simp;omega),j5,j3.chgF gQ (by simp;omega),by simp [gc],λi hi=>?_,λq hq=>?_⟩
   . rcases (zde (by rw [gc];omega)).1 hi with h | h
     . exact gd i h
     rw [h];exact .root hB
   rcases (j1 q).1 hq with h | h
   . exact zfK (gf q h)
   rw [h];exact (zde (by rw [gc];omega)).2 (.inr rfl)
 have j6:∀ p,RootP c p->mkd ms (eN c p):=λp hp=>gf p (by rw [qaf oo];exact (hL p).2 hp);have hT:TP c ms false ms 0:=⟨by rw [gc,hnn],gd,j6,λe=>(by cases e),λ_=>⟨rfl,λi hi=>oo⟩⟩;clear hu hw gO gb;refine zke zDF ty4 rfl λw5 Z gH=>?_;have hs4:=gK.size;have j7:MW w w5 gv g w4.heap.size n ms true:=⟨gK.t Z,gM.ext Z,gN.ext Z,gH,oo,by have:=gM.lt;omega,by have:=gN.lt g sS;omega,oo,oo,oo⟩;generalize w4.heap.size=ga at *;refine LOOPI.mk (λm us w'=>∃ (ga:Nat) (ms:List Bool) (ag:Bool),us=[.pointer (some ⟨ga,0,none⟩)]/\m=(n-zlf ms)+(if ag then 1 else 0)/\MW w w' gv g ga n ms ag/\TP c ms false ms 0/\(ag=false->ms=zg9 c)) (n-zlf ms+1) ⟨ga,ms,true,rfl,rfl,j7,hT,λe=>by cases e⟩ ?_;rintro m u w6 ⟨ga,ms,ag,hu,hm,g9,hD,gR⟩;try replace hu:=zbt hu
 rw [hu];have j8:=zhn ms;rw [hD.len,hnn] at j8;refine zax ty4 g9.agn rfl<|zbz (λgS=>?_) (λgS=>?_)
 case refine_2=>refine zax zgt g9.var rfl ?_;rw [<-gR gS];exact ⟨g9.ext,[g],g9.mks,λb hb=>by simp only [qaa,qac,or_false] at hb;omega⟩
 rw [gS,if_pos rfl] at hm;refine zbW (α:=Raw) (lo:=0) (hi:=0) ty4 rfl rfl g9.agn sS (zdi rfl) λw7 j9 ja=>?_;have hF:=g9.agains j9.one ja;refine zbb (v:=.func (.func 154) #[] #[.pointer (some ⟨gv,0,none⟩),.pointer (some ⟨ga,0,none⟩)]) (λw' _=>by simp [Instr.makeFunc])<|NIL.mk rfl<|zab zbM<|zab zaM<|zaa zcQ (zak C) (e0.t hF.ext) λv46 hG=>zae u34 hG ?_;rw [hnn];refine zao n (λk us w'=>∃ (ms':List Bool) (ag':Bool),us=[.int .i64 (k:Int)]/\k<=n/\MW w w' gv g ga n ms' ag'/\TP c ms ag' ms' k) 0 (z0 _) ⟨ms,false,rfl,z0 _,hF,hD⟩ ?_;rintro k mk u w8 hw ⟨D,gh,hu,j0,g0,I⟩;try replace hu:=zbt hu
 rw [hu];refine zag<|br (λhx=>?_) (λhy=>?_)
 case refine_2=>
   have jb:k=n:=oo
   rw [jb] at I;refine zax ty4 g0.agn rfl<|zke zDF ty4 rfl λw9 gU jc=>?_;have gV:=zhn D;rw [I.len,hnn] at gV;refine ⟨(n-zlf D)+(if gh then 1 else 0),?_,_,D,gh,rfl,rfl,g0.cell gU jc (lr _),I.again,λe=>?_⟩
   . cases gh with
     | true=>have:=I.yes rfl;simp;omega
     | false=>rw [(I.no rfl).1];simp;omega
   rw [e,<-hnn] at I;exact I.fin hc
 have hk:k<n:=oo
 have gI:k<c.ins.length:=oo
 have gi:D.length=n:=by rw [I.len,hnn]
 refine zad u34 zcL hG gI λb3 o3 hH=>?_;rw [zaz] at hH;refine zaa zcL hH (e0.t g0.ext) λv52 hI=>zck zqd rfl zcL rfl hI (e0.t g0.ext) λw9 gU hJ hK=>?_;have gj:=g0.step gU;have gW:=zgF hI hK rfl;refine zax zgt gj.var rfl<|zad u90 ty4 (i:=k) gj.mks.is (by rw [gi];exact hk) λb4 o4 jd=>zaG ty4 jd (xrf _)<|zaV ?_;have gl:=za5 (ms:=D) (i:=k) (by rw [gi];exact hk);refine zbz (λhf=>?_) (λhf=>?_)
 . have gX:¬mkd D k:=by rw [gl];simpa using hf
   refine zau<|⟨mk-1,oo,k+1,oo,D,gh,rfl,oo,gj,I.next λh=>absurd h gX⟩
 have je:mkd D k:=by rw [gl];simpa using hf
 have gY:=I.snd k je;refine JOIN.mk (λus w'=>∃ (ms':List Bool) (ag':Bool),MW w w' gv g ga n ms' ag'/\TP c ms ag' ms' k/\((zam c k).op=4->mkd ms' (eN c (agN c k)))/\∀ j∈zaA c k,MetP c j) ?_ ?_
 . refine zab zbp ?_
   refine zac ty3 (zaw hJ) (xrf _) λ_=>zai<|br (λc4=>?_) (λc4=>?_)
   . obtain ⟨hM,hN⟩:=zby hc gI (.inl c4)
     have Y:agN c k<c.entry.length:=by rw [hc.2.1.1];exact hN
     obtain ⟨gP,hC,_⟩:=zfU hc Y;obtain ⟨jf,hz2,hz3⟩:=zeE hc hN;have O:=zah w9;have g1:=gj.step O;generalize World.drew1 w9=w10 at *;refine NIL.mk rfl<|zab zbM<|zab zbi<|zaa za4 (zar C) (e0.t g1.ext) λv66 jg=>zab za8<|zac ty3 (zaq hJ) O λ_=>?_;rw [hM];refine zad u33 ty3 jg Y λb5 o5 gg=>?_;rw [zbx Y,gP] at gg;refine zac ty3 gg (e0.t g1.ext) λ_=>zud (args:=[_]) (caps:=[_,_]) zBZ ((zyk (i:=eN c (agN c k)) g1 oo gi).mono ?_);rintro _ hO ⟨rfl,gZ,h5⟩;have g2:=I.meet hC (.call gY c4);have hP:mkd (D.set (eN c (agN c k)) true) (eN c (agN c k)):=(zde (by rw [gi];omega)).2 (.inr rfl);have gp:=zah hO;have M:=gZ.step gp;have jh:w8.heap.size<w10.heap.size:=by have:=hK.lt;have:=O.size;omega
     have ji:w8.heap.size∉[g,ga]:=by have h1:=g0.mks.lt g sS;have h2:=g0.agn.lt;simp;omega
     have gq:=(gW.ext O).keep (h5.block _ jh ji);have gr:=(gq.ext gp).at (e0.t M.ext);generalize World.drew1 hO=w12 at *;refine zax zgt M.var rfl<|NIL.mk rfl<|zab zbM<|zaa zbq C (e0.t M.ext) λv76 jj=>zab za8<|zac ty3 (zaq gr) (xrf _) λ_=>?_;rw [hM];refine (zdJ jj (e0.t M.ext) oo).mono ?_;rintro _ w13 ⟨gs,rfl⟩;refine ⟨gs,?_⟩;have g3:=M.step gs;rw [jf];refine zbc (by unfold I64;omega) ?_;rw [show ((zN c (agN c k)+1:Nat):Int)-1=(zN c (agN c k):Int) by omega];have gt:(D.set (eN c (agN c k)) true).length=n:=by rw [qaL,gi]
     generalize D.set (eN c (agN c k)) true=ms13 at *;refine zad u90 ty4 (i:=zN c (agN c k)) g3.mks.is (by rw [gt];omega) λb6 o6 jk=>zaG ty4 jk (xrf _)<|zaV ?_;have X:=za5 (ms:=ms13) (i:=zN c (agN c k)) (by rw [gt];omega);refine zbz (λg4=>?_) (λg4=>?_)
     . have gX:¬mkd ms13 (zN c (agN c k)):=by rw [X];simpa using g4
       refine zau<|⟨mk-1,oo,k+1,oo,ms13,_,rfl,oo,g3,g2.next λ_=>⟨λ_=>⟨hP,λh=>absurd h gX⟩,λh=>absurd c4 h⟩⟩
     have jl:mkd ms13 (zN c (agN c k)):=by rw [X];simpa using g4
     exact ⟨ms13,_,g3,g2,λ_=>hP,λj hj=>.back gY c4 (g2.snd _ jl) hj⟩
   exact ⟨D,gh,gj,I,λh=>absurd h c4,λj hj=>.next gY c4 hj⟩
 rintro us jm ⟨h6,h9,U,ha,hd,jn⟩;refine (zje C (e0.t U.ext) hc gI).mono ?_;rintro jo jp ⟨he,gx⟩;have hh:=U.step he;have hl2:=zfs c k;have jq:=λ{j:Nat} (hj:j∈zaA c k)=>(zcX hc gI hj).1;generalize hNx:zaA c k=N at *;refine zae u33 gx.is ?_;rw [zaf];refine zao N.length (λq us w'=>∃ (ms':List Bool) (ag':Bool),us=[.int .i64 (q:Int)]/\q<=N.length/\MW w w' gv g ga n ms' ag'/\TP c ms ag' ms' k/\((zam c k).op=4->mkd ms' (eN c (agN c k)))/\(∀ j∈N.take q,mkd ms' j)/\OwnI jm.heap.size jp.heap.size w' jo (zaT N)) 0 (z0 _) ⟨h6,h9,rfl,z0 _,hh,ha,hd,sS,gx.toI⟩ ?_;rintro q mq u w16 hqm ⟨gy,hl,hu,hql,gz,g5,gC,V,gD⟩;try replace hu:=zbt hu
 rw [hu];refine zag<|br (λhx=>?_) (λhy=>?_)
 case refine_2=>refine zau ?_;rw [qaf oo] at V;exact ⟨mk-1,oo,k+1,oo,gy,hl,rfl,oo,gz,g5.next λ_=>⟨λh4=>⟨gC h4,λ_=>hNx▸V⟩,λ_=>hNx▸V⟩⟩
 have hq:q<N.length:=oo
 refine zad u33 ty3 (i:=q) gD.is (by rw [zaf];exact hq) λb7 o7 hQ=>?_;rw [za3] at hQ;refine zac ty3 hQ (xrf _) λ_=>?_;have jr:=λx=>zbD hq (x:=x);have hj:=qab hq;have js:=jq hj;have jt:=jn _ hj;generalize N[q]=j at *;have gE:gy.length=n:=by rw [g5.len,hnn]
 refine zud (args:=[_]) (caps:=[_,_]) zBZ ((zyk (i:=j) gz oo gE).mono ?_);rintro _ w17 ⟨rfl,hr,hs⟩;refine zau ?_;have ju:=U.mks.lt g sS;have hR:=U.agn.lt;refine ⟨mq-1,oo,q+1,oo,_,_,rfl,oo,hr,g5.meet js jt,λh4=>zfK (gC h4),λi hi=>?_,gD.chgF hs (by simp;omega)⟩;rcases (jr i).1 hi with h | h
 . exact zfK (V i h)
 rw [h];exact (zde (by rw [gE];omega)).2 (.inr rfl)
abbrev Raw5:=Raw×Raw×Raw×Raw×Raw
def zqT {a b c d e:Value} (ha:a.oneCell'=true) (hb:b.oneCell'=true) (hc:c.oneCell'=true) (hd:d.oneCell'=true) (he:e.oneCell'=true):OwnI lo hi w (.agg #[a,b,c,d,e]) ((⟨a⟩,⟨b⟩,⟨c⟩,⟨d⟩,⟨e⟩):Raw5):=by
 refine ⟨[],⟨⟨[a,b,c,d,e],?_,rfl⟩,qaq,Wr.nil _⟩,sS⟩;have r:∀ {v:Value},v.oneCell'=true->rep [] w [v] (⟨v⟩:Raw):=λh=>⟨rfl,rfl,h⟩;exact za2 (F:=[]) (r ha) (za2 (F:=[]) (r hb) (za2 (F:=[]) (r hc) (za2 (F:=[]) (r hd) (r he))))
def zym {p:DProg} (h:Is w v p):∃ c0 c1 c2,v=.agg #[c0,c1,c2]/\c0.oneCell'=true/\c1.oneCell'=true/\c2.oneCell'=true:=by
 obtain ⟨F,cs,hr,rfl⟩:=h;have r:=Rep.one hr;obtain ⟨F1,F2,x1,x2,rfl,rfl,h1,F3,F4,x3,x4,rfl,rfl,h2,h3⟩:=hr;have e1:∃ a,x1=[a]:=by obtain ⟨a,cap,Fi,xs,rfl,_⟩:=h1;exact ⟨_,rfl⟩
 have e2:∃ a,x3=[a]:=by obtain ⟨a,cap,Fi,xs,rfl,_⟩:=h2;exact ⟨_,rfl⟩
 have e3:∃ a,x4=[a]:=by obtain ⟨a,cap,Fi,xs,rfl,_⟩:=h3;exact ⟨_,rfl⟩
 obtain ⟨a1,rfl⟩:=e1;obtain ⟨a2,rfl⟩:=e2;obtain ⟨a3,rfl⟩:=e3;exact ⟨a1,a2,a3,rfl,r a1 sS,r a2 sS,r a3 sS⟩
def zyn {α:Type} [Rep α] (ha:Rep.agg α=false) {lo hi:Nat} {w:World} {v:Value} {x:α} (h:OwnI lo hi w v x):v.oneCell'=true:=by
 obtain ⟨F,⟨hm,_,_⟩,_⟩:=h;exact Rep.one (zb2 ha hm) v sS
def cdQ (p:DProg) (g1:Nat) (w0:World):ParQ:=λi u T w=>match i with
 | 0=>∃ a,u 11=.slice (some a) 0 0
 | 1=>u 12=.pointer (some ⟨g1,0+0,none⟩)
 | 2=>Is w0 (u 13) p.globals
 | 3=>OwnI (T 3).1 (T 3).2 w (u 14) p.globals
 | 4=>∃ a,u 15=.slice (some a) 0 0
 | 5=>u 16=.pointer (some ⟨g1,0+1,none⟩)
 | 6=>Is w0 (u 17) p.locks
 | 7=>OwnI (T 7).1 (T 7).2 w (u 18) p.locks
 | 8=>u 19=.agg #[u 14,u 18,.slice none 0 0,.slice none 0 0,.slice none 0 0]
 | 9=>∃ g,u 4=.pointer (some ⟨g,0,none⟩)/\(T 9).1<=g/\g<(T 9).2/\Blk g 36 w [.slice none 0 0,.slice none 0 0,.slice none 0 0,.slice none 0 0,.slice none 0 0]
 | _=>True
structure CdS (W:World) (p:DProg) (gk ge bs x2 l3 h3 l7 h7:Nat) (v14 v18 vp ve:Value) (N:List ByteArray) (E:List Int) (L:List DIns) (Fp Fe Fi:List Nat) (w:World):Prop where
 bk:Blk gk 36 w [v14,v18,vp,ve,.slice none 0 0]
 g:OwnI l3 h3 w v14 p.globals
 l:OwnI l7 h7 w v18 p.locks
 n:RowG Fp 9 w vp N
 e:RowG Fe 3 w ve E
 nn:Fp.Nodup
 en:Fe.Nodup
 em:EmF W ge p L Fi w
 x:Blk x2 36 w [.slice none 0 0,.slice none 0 0,.slice none 0 0,.slice none 0 0,.slice none 0 0]
 dpe:∀ c∈Fp,c∉Fe
 dpi:∀ c∈Fp,c∉Fi
 dei:∀ c∈Fe,c∉Fi
 bp:∀ c∈Fp,bs<=c
 be:∀ c∈Fe,bs<=c
 bi:∀ c∈Fi,bs<=c
section
variable {W:World} {p:DProg} {gk ge bs x2 l3 h3 l7 h7:Nat} {v14 v18 vp ve:Value} {N:List ByteArray} {E:List Int} {L:List DIns} {Fp Fe Fi:List Nat} {w w':World}
def zfc {α:Type} [Rep α] {lo hi:Nat} {v:Value} {x:α} {S:List Nat} (h:OwnI lo hi w v x) (hc:Chg S w w') (hd:∀ c∈S,c<lo\/hi<=c):OwnI lo hi w' v x:=by
 obtain ⟨F,hm,hF⟩:=h;exact ⟨F,hm.keep λc g0=>hc.block c (hm.lt c g0) λhs=>by have:=hF c g0;have:=hd c hs;omega,hF⟩
def CdS.ext (h:CdS W p gk ge bs x2 l3 h3 l7 h7 v14 v18 vp ve N E L Fp Fe Fi w) (hx:Ext w w'):CdS W p gk ge bs x2 l3 h3 l7 h7 v14 v18 vp ve N E L Fp Fe Fi w':=
 ⟨h.bk.ext hx,h.g.ext hx,h.l.ext hx,h.n.keep λc hc=>hx.heap (h.n.lt c hc),h.e.keep λc hc=>hx.heap (h.e.lt c hc),h.nn,h.en,h.em.ext hx,h.x.ext hx,h.dpe,h.dpi,h.dei,h.bp,h.be,h.bi⟩
variable (ho:gk<bs/\ge<bs/\gk≠ge/\x2<bs/\x2≠gk/\x2≠ge/\h3<=bs/\h7<=bs/\(gk<l3\/h3<=gk)/\(gk<l7\/h7<=gk)/\(ge<l3\/h3<=ge)/\(ge<l7\/h7<=ge)/\W.heap.size<=gk/\W.heap.size<=ge)
include ho
def CdS.names (h:CdS W p gk ge bs x2 l3 h3 l7 h7 v14 v18 vp ve N E L Fp Fe Fi w) {vp':Value} {N':List ByteArray} {Fp':List Nat} (hc:Chg (gk :: Fp) w w') (hB:Blk gk 36 w' [v14,v18,vp',ve,.slice none 0 0])
   (hR:RowG Fp' 9 w' vp' N') (hn:Fp'.Nodup) (hs:∀ c∈Fp',c∈Fp\/w.heap.size<=c) (hb:bs<=w.heap.size):CdS W p gk ge bs x2 l3 h3 l7 h7 v14 v18 vp' ve N' E L Fp' Fe Fi w':=by
 have g0:=h.em.lt
 have hS:∀ c∈gk :: Fp,c=gk\/bs<=c:=λc hc=>by
   rcases qaa.1 hc with e | hc
   . exact .inl e
   exact .inr (h.bp c hc)
 refine ⟨hB,zfc h.g hc λc r=>by have:=hS c r;omega,zfc h.l hc λc r=>by have:=hS c r;omega,hR,h.e.keep λc r=>hc.block c (h.e.lt c r) λhm=>?_,hn,h.en,h.em.keep (λc r=>hc.block c ?_ λhm=>?_) (h.em.old.chgL hc λc r=>?_),h.x.chg hc λhm=>?_,λc r g1=>?_,λc r g2=>?_,h.dei,λc r=>?_,h.be,h.bi⟩
 . rcases qaa.1 hm with e | hm
   . have:=h.be c r;omega
   exact h.dpe c hm r
 . rcases qaa.1 r with rfl | r
   . exact g0.1
   exact g0.2.1 c r
 . rcases qaa.1 r with e1 | r
   . rcases qaa.1 hm with e | hm
     . omega
     have:=h.bp c hm;omega
   rcases qaa.1 hm with e | hm
   . have:=h.bi c r;omega
   exact h.dpi c hm r
 . rcases qaa.1 r with e | r
   . omega
   have:=h.bp c r;omega
 . have:=hS _ hm;omega
 . rcases hs c r with k | k
   . exact h.dpe c k g1
   have:=h.e.lt c g1;omega
 . rcases hs c r with k | k
   . exact h.dpi c k g2
   have:=g0.2.1 c g2;omega
 rcases hs c r with k | k
 . exact h.bp c k
 omega
def CdS.ents (h:CdS W p gk ge bs x2 l3 h3 l7 h7 v14 v18 vp ve N E L Fp Fe Fi w) {ve':Value} {E':List Int} {Fe':List Nat} (hc:Chg (gk :: Fe) w w') (hB:Blk gk 36 w' [v14,v18,vp,ve',.slice none 0 0])
   (hR:RowG Fe' 3 w' ve' E') (hn:Fe'.Nodup) (hs:∀ c∈Fe',c∈Fe\/w.heap.size<=c) (hb:bs<=w.heap.size):CdS W p gk ge bs x2 l3 h3 l7 h7 v14 v18 vp ve' N E' L Fp Fe' Fi w':=by
 have g0:=h.em.lt
 have hS:∀ c∈gk :: Fe,c=gk\/bs<=c:=λc hc=>by
   rcases qaa.1 hc with e | hc
   . exact .inl e
   exact .inr (h.be c hc)
 refine ⟨hB,zfc h.g hc λc r=>by have:=hS c r;omega,zfc h.l hc λc r=>by have:=hS c r;omega,h.n.keep λc r=>hc.block c (h.n.lt c r) λhm=>?_,hR,h.nn,hn,h.em.keep (λc r=>hc.block c ?_ λhm=>?_) (h.em.old.chgL hc λc r=>?_),h.x.chg hc λhm=>?_,λc r g2=>?_,h.dpi,λc r g1=>?_,h.bp,λc r=>?_,h.bi⟩
 . rcases qaa.1 hm with e | hm
   . have:=h.bp c r;omega
   exact h.dpe c r hm
 . rcases qaa.1 r with rfl | r
   . exact g0.1
   exact g0.2.1 c r
 . rcases qaa.1 r with e1 | r
   . rcases qaa.1 hm with e | hm
     . omega
     have:=h.be c hm;omega
   rcases qaa.1 hm with e | hm
   . have:=h.bi c r;omega
   exact h.dei c hm r
 . rcases qaa.1 r with e | r
   . omega
   have:=h.be c r;omega
 . have:=hS _ hm;omega
 . rcases hs c g2 with k | k
   . exact h.dpe c r k
   have:=h.n.lt c r;omega
 . rcases hs c r with k | k
   . exact h.dei c k g1
   have:=g0.2.1 c g1;omega
 rcases hs c r with k | k
 . exact h.be c k
 omega
def CdS.ems (h:CdS W p gk ge bs x2 l3 h3 l7 h7 v14 v18 vp ve N E L Fp Fe Fi w) {L':List DIns} {g1:List Nat} (hc:Chg (ge :: Fi) w w') (hE:EmF W ge p L' g1 w') (hs:∀ c∈g1,c∈Fi\/w.heap.size<=c) (hb:bs<=w.heap.size) :
   CdS W p gk ge bs x2 l3 h3 l7 h7 v14 v18 vp ve N E L' Fp Fe g1 w':=by
 have hS:∀ c∈ge :: Fi,c=ge\/bs<=c:=λc hc=>by
   rcases qaa.1 hc with e | hc
   . exact .inl e
   exact .inr (h.bi c hc)
 refine ⟨h.bk.chg hc λhm=>?_,zfc h.g hc λc r=>by have:=hS c r;omega,zfc h.l hc λc r=>by have:=hS c r;omega,h.n.keep λc r=>hc.block c (h.n.lt c r) λhm=>?_,h.e.keep λc r=>hc.block c (h.e.lt c r) λhm=>?_,h.nn,h.en,hE,h.x.chg hc λhm=>?_,h.dpe,λc r g0=>?_,λc r g0=>?_,h.bp,h.be,λc r=>?_⟩
 . have:=hS _ hm;omega
 . rcases qaa.1 hm with e | hm
   . have:=h.bp c r;omega
   exact h.dpi c r hm
 . rcases qaa.1 hm with e | hm
   . have:=h.be c r;omega
   exact h.dei c r hm
 . have:=hS _ hm;omega
 . rcases hs c g0 with k | k
   . exact h.dpi c r k
   have:=h.n.lt c r;omega
 . rcases hs c g0 with k | k
   . exact h.dei c r k
   have:=h.e.lt c r;omega
 rcases hs c r with k | k
 . exact h.bi c k
 omega
end
def zAe {G L P:List ByteArray} {l:List DProc} (hk:k<l.length) (a:Nat):emP G L P (l.drop k) a=emL G L P l[k].body a++(zCS :: emP G L P (l.drop (k+1)) (a+(emL G L P l[k].body a).length+1)):=by
 rw [qau hk,emP]
def zyo {G L P:List ByteArray} {l:List DProc} (hk:k<l.length) (a:Nat):zqx G L P (l.drop k) a=(a:Int) :: zqx G L P (l.drop (k+1)) (a+(emL G L P l[k].body a).length+1):=by
 rw [qau hk,zqx]
def zms {α:Type} [Rep α] {e:TypeId} {F:List Nat} {w:World} {v:Value} {l:List α} (h:RowG F e w v l) (hn:F.Nodup):Mine F w v l:=⟨h.own,hn,h.wr⟩
def zps {p:DProg} (h:Is W v p) (e:Ext W w) (hp:ProgR p) :
   CALL tp 130 [v] w λr w'=>Ext w w'/\∃ a,r=.tuple #[a,.bool true]/\OwnI w.heap.size w'.heap.size w' a (zcE p):=by
 have hcl:=(zj1 hp).2;obtain ⟨f1,f2,f3,f4⟩:=hp.facts;refine co (g:=⟨extL,[],[(6,4611686018418999360,[6])],[(8,[0,1,2,3,4,5,6,7,8,9,10,11],256),(9,[0,1,2,3,4,5,6,7,8,9,10],128)],[(3,1046544,10)],[],[]⟩) Tryz.func130 ?_;refine za9 h e λw1 hN hA=>?_;have hs1:=hN.size;refine zb5 zCE λw2 gO hO=>?_;have hs2:=gO.size;have hg2:=hO.lt;refine zaa zqb hA gO λv7 h7=>?_;refine (zqC h7 gO hp).mono ?_;rintro _ w3 ⟨gQ,rfl⟩;have hs3:=gQ.size;refine zaP<|br (λhc=>absurd rfl hc) (λ_=>?_);have Z:=gO.t gQ;have gR:=zah w3;have hs4:=gR.size;generalize World.drew1 w3=w4 at *;have U:=Z.t gR
 have hP:w.heap.size<w1.heap.size:=by
   obtain ⟨F,cs,hr,j3⟩:=hA;exact zjF j3 (by rw [Rep.len hr];decide)
 refine PAR.mk (cdQ p w.heap.size w4) ?_ ?_ ?_
 . intro i u u' T T' wa wb hxa gS hd hq
   match i,hd,hq with
   | 0,hd,⟨a,hq⟩=>exact ⟨a,(hd (0,11) qd).1.trans hq⟩
   | 1,hd,hq=>exact (hd (1,12) qd).1.trans hq
   | 2,hd,hq=>have:=(hd (2,13) qd).1;show Is _ (u' 13) _;simp only [this];exact hq
   | 3,hd,hq=>
     obtain ⟨e1,e2⟩:=hd (3,14) qd;simp only at e1 e2;show OwnI (T' 3).1 (T' 3).2 wb (u' 14) p.globals;rw [e1,e2];exact OwnI.ext hq gS
   | 4,hd,⟨a,hq⟩=>exact ⟨a,(hd (4,15) qd).1.trans hq⟩
   | 5,hd,hq=>exact (hd (5,16) qd).1.trans hq
   | 6,hd,hq=>have:=(hd (6,17) qd).1;show Is _ (u' 17) _;simp only [this];exact hq
   | 7,hd,hq=>
     obtain ⟨e1,e2⟩:=hd (7,18) qd;simp only at e1 e2;show OwnI (T' 7).1 (T' 7).2 wb (u' 18) p.locks;rw [e1,e2];exact OwnI.ext hq gS
   | 8,hd,hq=>
     have e1:=(hd (8,19) qd).1;have e2:=(hd (3,14) qd).1;have e3:=(hd (7,18) qd).1;simp only at e1 e2 e3;show u' 19=.agg #[u' 14,u' 18,.slice none 0 0,.slice none 0 0,.slice none 0 0];rw [e1,e2,e3];exact hq
   | 9,hd,⟨g,q1,q2,q3,q4⟩=>
     obtain ⟨e1,e2⟩:=hd (9,4) qd;simp only at e1 e2;exact ⟨g,e1.trans q1,by rw [e2];exact q2,by rw [e2];exact q3,q4.ext gS⟩
   | n+10,_,_=>trivial
 . refine ⟨λu T w' hx _ _=>?_,λu T w' hx _ _=>?_,λu T w' hx _ O=>?_,λu T w' hx _ O=>?_,λu T w' hx _ _=>?_,λu T w' hx _ _=>?_,λu T w' hx _ O=>?_,λu T w' hx _ O=>?_,λu T w' hx _ O=>?_,λu T w' hx _ _=>?_,trivial⟩
   . exact zaK (α:=ByteArray) u24 ty9 λa w5 M _=>⟨M,a,rfl⟩
   . exact zab znC ⟨xrf _,rfl⟩
   . have q0:u 12=_:=O.1
     rw [q0];exact zaa zcv (zf5 hA) (U.t hx) λv6 h6=>⟨xrf _,h6.ext U⟩
   . obtain ⟨a,q0⟩:∃ a,u 11=.slice (some a) 0 0:=O.1
     have q1:Is _ (u 13) p.globals:=O.2.1;rw [q0];exact zfa (α:=ByteArray) u24 ty9 zc9 q1 hx (by rcases hp.g with e | e<;>(rw [e,zal];decide)) (by rcases hp.g with e | e<;>(rw [e];decide)) λv5 w5 M r5=>⟨M,r5.own⟩
   . exact zaK (α:=ByteArray) u24 ty9 λa w5 M _=>⟨M,a,rfl⟩
   . exact zab zqc ⟨xrf _,rfl⟩
   . have q0:u 16=_:=O.1
     rw [q0];exact zaa zcv (zhG hA) (U.t hx) λv6 h6=>⟨xrf _,h6.ext U⟩
   . obtain ⟨a,q0⟩:∃ a,u 15=.slice (some a) 0 0:=O.1
     have q1:Is _ (u 17) p.locks:=O.2.1;rw [q0];exact zfa (α:=ByteArray) u24 ty9 zc9 q1 hx (by rcases hp.l with e | e | e<;>(rw [e,zal];decide)) (by rcases hp.l with e | e | e<;>(rw [e];decide)) λv5 w5 M r5=>⟨M,r5.own⟩
   . have o1:OwnI _ _ _ (u 14) p.globals:=O.1
     have o2:OwnI _ _ _ (u 18) p.locks:=O.2.1;obtain ⟨a,n,cap,q1⟩:=zge o1;obtain ⟨a',n',gU,hQ⟩:=zge o2;rw [q1,hQ];refine zaX (cells:=#[.slice a n cap,.slice a' n' gU,.slice none 0 0,.slice none 0 0,.slice none 0 0]) kK ⟨xrf _,?_⟩;show _=Value.agg #[u 14,u 18,.slice none 0 0,.slice none 0 0,.slice none 0 0];rw [q1,hQ];rfl
   exact zb5 zCE λw5 M hB=>⟨M,w'.heap.size,rfl,lr _,hB.lt,hB⟩
 rintro u T w5 M gl ⟨-,-,-,gt,-,-,-,gx,gV,⟨gk,q4,j4,j5,j6⟩,-⟩;have gt:OwnI (T 3).1 (T 3).2 w5 (u 14) p.globals:=gt;have gx:OwnI (T 7).1 (T 7).2 w5 (u 18) p.locks:=gx;have gV:u 19=.agg #[u 14,u 18,.slice none 0 0,.slice none 0 0,.slice none 0 0]:=gV;have t3:=gl.1 3 qd;have t7:=gl.1 7 qd;have t9:=gl.1 9 qd;have hR:=gl.2 3 qd 7 qd qd;have j7:=gl.2 3 qd 9 qd qd;have j8:=gl.2 7 qd 9 qd qd;have hs5:=M.size;obtain ⟨l3,j9⟩:∃ x,(T 3).1=x:=⟨_,rfl⟩;obtain ⟨h3,ja⟩:∃ x,(T 3).2=x:=⟨_,rfl⟩;obtain ⟨l7,jb⟩:∃ x,(T 7).1=x:=⟨_,rfl⟩;obtain ⟨h7,jc⟩:∃ x,(T 7).2=x:=⟨_,rfl⟩;rw [j9,ja] at gt t3 hR j7;rw [jb,jc] at gx t7 hR j8;generalize u 14=v14 at *;generalize u 18=v18 at *;rw [gV,q4];have g3:=zyn rfl gt;have g4:=zyn rfl gx;refine zcg (α:=Raw5) (x:=(⟨v14⟩,⟨v18⟩,⟨.slice none 0 0⟩,⟨.slice none 0 0⟩,⟨.slice none 0 0⟩)) (lo:=0) (hi:=0) zbq rfl j6 rfl (zqT g3 g4 rfl rfl rfl) λw6 gy jd=>?_;have hs6:=gy.size;have gz:Ext w1 w6:=Ext.chgI (U.t M) gy oo;refine zaa zqb hA gz λv20 hS=>?_;obtain ⟨c0,c1,c2,rfl,gW,gX,gY⟩:=zym hS;refine zaX (cells:=#[c0,c1,c2,.slice none 0 0]) kK<|zo0 λw7 gp gZ=>?_;have hs7:=gp.size;have hg7:=gZ.lt
 have je:EmF w1 w6.heap.size p [] [] w7:=by
   refine ⟨c0,c1,c2,.slice none 0 0,hS,⟨[c0,c1,c2,.slice none 0 0],?_,gZ.range,qaq,Wr.nil _,sS,_,_,gZ⟩,gz.t gp,oo,sS⟩;have r:∀ {v:Value},v.oneCell'=true->rep [] w7 [v] (⟨v⟩:Raw):=λh=>⟨rfl,rfl,h⟩;exact za2 (F:=[]) (r gW) (za2 (F:=[]) (r gX) (za2 (F:=[]) (r gY) (show rep [] w7 [Value.slice none 0 0] (⟨.slice none 0 0,[]⟩:RIns) from ⟨rfl,.inl ⟨none,rfl,rfl,rfl⟩⟩)))
 have g0:gk<w7.heap.size/\w6.heap.size<w7.heap.size/\gk≠w6.heap.size/\w1.heap.size<w7.heap.size/\w1.heap.size≠gk/\w1.heap.size≠w6.heap.size/\h3<=w7.heap.size/\h7<=w7.heap.size/\(gk<l3\/h3<=gk)/\(gk<l7\/h7<=gk) /\
     (w6.heap.size<l3\/h3<=w6.heap.size)/\(w6.heap.size<l7\/h7<=w6.heap.size)/\w1.heap.size<=gk/\w1.heap.size<=w6.heap.size:=oo
 have jf:CdS w1 p gk w6.heap.size w7.heap.size w1.heap.size l3 h3 l7 h7 v14 v18 (.slice none 0 0) (.slice none 0 0) [] [] [] [] [] [] w7:=
   ⟨jd.ext gp,(gt.chg gy oo).ext gp,(gx.chg gy oo).ext gp,.inl ⟨none,rfl,rfl,rfl⟩,.inl ⟨none,rfl,rfl,rfl⟩,qaq,qaq,je,((((hO.ext gQ).ext gR).ext M).chgI gy oo).ext gp,sS,sS,sS,sS,sS,sS⟩
 generalize hge:w6.heap.size=ge at *;generalize hbs:w7.heap.size=bs at *;obtain ⟨G,hG⟩:∃ G,G=p.globals:=⟨_,rfl⟩;obtain ⟨Lk,h4⟩:∃ G,G=p.locks:=⟨_,rfl⟩;obtain ⟨Pn,h5⟩:∃ G,G=p.procs.map DProc.name:=⟨_,rfl⟩;have hV:zcE p=⟨G,Lk,Pn,zqx G Lk Pn p.procs 0,emP G Lk Pn p.procs 0⟩:=by rw [hG,h4,h5];rfl
 refine zao p.procs.length (λk us w'=>us=[.int .i64 (k:Int)]/\∃ vp ve E L Fp Fe Fi,k<=p.procs.length/\E.length=k/\CdS w1 p gk ge bs w1.heap.size l3 h3 l7 h7 v14 v18 vp ve ((p.procs.take k).map DProc.name) E L Fp Fe Fi w'/\bs<=w'.heap.size /\
     zqx G Lk Pn p.procs 0=E++zqx G Lk Pn (p.procs.drop k) L.length/\emP G Lk Pn p.procs 0=L++emP G Lk Pn (p.procs.drop k) L.length) 0 (z0 _)
     ⟨rfl,_,_,[],[],[],[],[],z0 _,rfl,by simpa using jf,oo,sS,sS⟩ ?_
 rintro k m uu w8 hkm ⟨hu,vp,ve,E,L,Fp,Fe,Fi,hkl,h8,C,hb8,g1,gC⟩;try replace hu:=zbt hu
 rw [hu];have g9:=C.em.old;refine zab zfg<|zaa zr3 (zcj hA) g9 λv25 jg=>zae u25 jg<|zag ?_
 have hLl:L.length<=436:=by
   have h1:=congrArg List.length gC;have h2:(zcE p).ins.length=(emP G Lk Pn p.procs 0).length:=by rw [hV]
   rw [qag] at h1;omega
 refine br (λhlt=>?_) (λjh=>?_)
 . have hk:k<p.procs.length:=oo
   have V:=hp.b _ (qab hk);rw [zyo hk] at g1;rw [zAe hk] at gC;have gD:=zah w8;have gq:=C.ext gD;have ji:=gD.size;generalize World.drew1 w8=w9 at *;have gE:=g9.t gD;refine zab zbG<|zax zcv gq.bk rfl<|zab zfg<|zaa zr3 (zcj hA) gE λv33 jj=>zad u25 zBF jj hk λb35 o35 h9=>zab ztt<|zaB ty9 (zhF h9) gE λhe=>?_;have hW:((p.procs.take k).map DProc.name).length=k:=by rw [qav,qai];omega
   refine zdD (β:=ByteArray) (G:=Fp) u24 ty9 z9 zc9 qd gq.n gq.nn (ztH he) sS (by rw [zal,hW];omega) (by rw [hW];omega) (λhf jk w11 Fp' gb gc gd hg gF=>?_) λs' w' hh h'=>⟨hh,h'⟩;have hj:=gb.size;have hX:=gc.size;have gG:gk∉Fp:=λhm=>by have:=gq.bp _ hm;omega
   have hl:=(gq.bk.ext gb).chg gc gG;refine zab zbG<|zbW (α:=Raw) (lo:=0) (hi:=0) zcv rfl rfl hl sS (zdi gd.one) λhn gf hs=>?_;have jl:=gf.size
   have gH:gk∉Fp':=λhm=>by
     rcases gF _ hm with h | h | h
     . exact gG h
     . simp at h
     omega
   have ht:=gq.names g0 (vp':=jk) (N':=(p.procs.take (k+1)).map DProc.name) (Fp':=Fp') (w':=hn) ((((gb.chg Fp).trans gc).mono (by simp +contextual)).trans (gf.toC.mono sS)) hs
     (by rw [tk hk,qa6];exact gd.keep λc hc=>gf.block c (gd.lt c hc) (by have:c≠gk:=λe=>gH (e▸hc);omega)) hg (λc hc=>by
       rcases gF c hc with h | h | h
       . exact .inl h
       . simp at h
       exact .inr h) oo
   have Z:=zah hn;have D:=ht.ext Z;have jm:=Z.size;generalize World.drew1 hn=w13 at *;have hY:=D.em.old;refine zab zbi<|zax za4 D.bk rfl<|NIL.mk rfl ?_;obtain ⟨d0,d1,d2,rv,jn,gP,jo,jp,jq⟩:=D.em;refine zab zij<|zaa (α:=RIns) zcQ (zo7 gP.at) (xrf _) λjr js=>?_;obtain ⟨hv,hw⟩:=znb js;have hv:jr=rv:=hv;have hw:Is w13 rv L:=hw;rw [hv];refine zae u34 hw<|zdD (β:=Int) (G:=Fe) (x:=(L.length:Int)) u33 ty3 z3 zc3 qd D.e D.en (zbA (by unfold I64;omega)) sS (by rw [zal,h8];omega) (by rw [h8];omega) (λw14 jt w15 Fe' X gg gh hy gI=>?_) λs' w' hh h'=>⟨hh,h'⟩;have ju:=X.size;have hZ:=gg.size;have gJ:gk∉Fe:=λhm=>by have:=D.be _ hm;omega
   have hz:=(D.bk.ext X).chg gg gJ;refine zab zbi<|zbW (α:=Raw) (lo:=0) (hi:=0) za4 rfl rfl hz sS (zdi gh.one) λjv gi hC=>?_;have jw:=gi.size
   have gK:gk∉Fe':=λhm=>by
     rcases gI _ hm with h | h | h
     . exact gJ h
     . simp at h
     omega
   have gj:=D.ents g0 (ve':=jt) (E':=E++[(L.length:Int)]) (Fe':=Fe') (w':=jv) ((((X.chg Fe).trans gg).mono (by simp +contextual)).trans (gi.toC.mono sS)) hC
     (gh.keep λc hc=>gi.block c (gh.lt c hc) (by have:c≠gk:=λe=>gK (e▸hc);omega)) hy (λc hc=>by
       rcases gI c hc with h | h | h
       . exact .inl h
       . simp at h
       exact .inr h) oo
   have g5:=gj.em.old;refine zab zfg<|zaa zr3 (zcj hA) g5 λv53 jx=>zad u25 zBF jx hk λb55 o55 hD=>zab zxd<|zaa ziT (zjH hD) g5 λv57 jy=>?_;have hbl:=zj3 G Lk Pn (p.procs[k]).body L.length;refine (zmb _ 2 _ gj.em jy V.1 (by have:=V.2;omega)).mono ?_;rintro r58 j0 ⟨gM,Fi',g2,hF⟩;have jz:=gM.size;rw [<-hG,<-h4,<-h5] at g2;have hH:=gj.ems g0 gM g2 hF oo;obtain ⟨z1,z2,z3,z4,z5⟩:=g2.lt;refine zma (lo:=j0.heap.size) (hi:=j0.heap.size) (by unfold I64;omega) λv60 jA=>?_;refine (zi6 g2 jA z1 z2 (lr _) (by have:=V.2;rw [qag];omega)).mono ?_;rintro r61 w18 ⟨-,gN,jB,hI,hJ⟩;have jC:=gN.size;have hK:=hH.ems g0 gN hI hJ oo;refine zau<|⟨m-1,oo,k+1,oo,rfl,_,_,_,_,_,_,_,oo,by simp [h8],hK,oo,?_,?_⟩
   . rw [g1];simp [qci]
   rw [gC];simp [qci,zCS]
 have hk:k=p.procs.length:=oo
 subst hk;rw [qbo,zqx,qaC] at g1;rw [qbo,emP,qaC] at gC;rw [qaD] at C;refine NIL.mk rfl ?_;obtain ⟨d0,d1,d2,rv,jn,gP,jo,jp,jq⟩:=C.em;refine zab zij<|zaa (α:=RIns) zcQ (zo7 gP.at) (xrf _) λjD jE=>?_;obtain ⟨hL,-⟩:=znb jE;have hL:jD=rv:=hL;rw [hL];obtain ⟨Gi,j1⟩:=zj2 (Lens.var gP);obtain ⟨cs1,⟨rfl,I⟩,hr1,j2,_,hP,_⟩:=j1.here;have I:RowG Gi 84 w8 rv L:=I
 have gr:∀ c∈Gi,c∈Fi:=λc hc=>by
   rcases qaa.1 (j1.sub c (by simp [hc])) with e | h
   . exact absurd (e▸hc) hP
   exact h
 refine zab zaM<|zbW (α:=Raw) (lo:=0) (hi:=0) zcQ rfl rfl C.bk sS (zdi I.one) λw9 gs jF=>?_;have ji:=gs.size;refine ziq jF zbq ?_;have gD:=C.x.chgI gs oo;refine zcg (α:=Raw5) (x:=(⟨v14⟩,⟨v18⟩,⟨vp⟩,⟨ve⟩,⟨rv⟩)) (lo:=0) (hi:=0) zbq rfl gD rfl (zqT g3 g4 C.n.one C.e.one I.one) λhf Y hM=>?_;have hj:=Y.size;refine zeI hM zbq ?_;have jG:Ext w hf:=Ext.chgI (Ext.chgI (hN.t g9) gs oo) Y oo;refine ⟨jG,_,rfl,?_⟩;obtain ⟨F3,M3,B3⟩:=(C.g.chg gs oo).chg Y oo;obtain ⟨F7,M7,B7⟩:=(C.l.chg gs oo).chg Y oo;have keep:∀ c,bs<=c->c<w8.heap.size->hf.heap[c]?=w8.heap[c]?:=λc h1 h2=>(Y.block c oo oo).trans (gs.block c h2 oo);have Mp:=zms (C.n.keep λc hc=>keep c (C.bp c hc) (C.n.lt c hc)) C.nn;have Me:=zms (C.e.keep λc hc=>keep c (C.be c hc) (C.e.lt c hc)) C.en;have Mi:=zms (I.keep λc hc=>keep c (C.bi c (gr c hc)) (I.lt c hc)) j2;rw [hV,g1,gC,hG,h4,h5];refine ⟨F3++(F7++(Fp++(Fe++Gi))),⟨⟨[v14,v18,vp,ve,rv],za2 (zb2 rfl M3.own) (za2 (zb2 rfl M7.own) (za2 (zb2 rfl Mp.own) (za2 (zb2 rfl Me.own) (zb2 rfl Mi.own)))),rfl⟩,?_,M3.wr.append (M7.wr.append (Mp.wr.append (Me.wr.append Mi.wr)))⟩,λc hc=>?_⟩
 . simp only [qao,qae]
   refine ⟨M3.nodup,⟨M7.nodup,⟨C.nn,⟨C.en,j2,λa ha b hb e=>?_⟩,λa ha b hb e=>?_⟩,λa ha b hb e=>?_⟩,λa ha b hb e=>?_⟩
   . exact C.dei a ha (gr a (e▸hb))
   . subst e
     rcases hb with h | h
     . exact C.dpe a ha h
     exact C.dpi a ha (gr a h)
   . subst e
     have:=B7 a ha;rcases hb with h | h | h
     . have:=C.bp a h;omega
     . have:=C.be a h;omega
     have:=C.bi a (gr a h);omega
   subst e;have:=B3 a ha;rcases hb with h | h | h | h
   . have:=B7 a h;omega
   . have:=C.bp a h;omega
   . have:=C.be a h;omega
   have:=C.bi a (gr a h);omega
 simp only [qae] at hc;rcases hc with h | h | h | h | h
 . have:=B3 c h;omega
 . have:=B7 c h;omega
 . have:=C.bp c h;have:=C.n.lt c h;omega
 . have:=C.be c h;have:=C.e.lt c h;omega
 have:=C.bi c (gr c h);have:=I.lt c h;omega
end Go.Proofs.YtcnglfeoglgebaaGreat
