/-
  The law FnOrders of the given program returns true for every input, and its arguments read afterwards as before: the given statement Rows.FnOrdersSaid.
-/
import Derived.Test.YtbnjpfjjmhodnaaGreatPFnOrders7
set_option linter.unusedVariables false
set_option linter.unusedSimpArgs false
set_option linter.unusedSectionVars false
namespace Go.Proofs.YtbnjpfjjmhodnaaGreat
open Go Go.Sh Go.Proofs
open Rep (rep)
theorem zrF {α:Type} [DecidableEq α]:∀ {l m:List α},l.Nodup→(∀ x∈l,x∈m)→l.length≤m.length
 | [],_,_,_=>Nat.zero_le _
 | x :: l,m,hn,h=>by
   rw [List.nodup_cons] at hn
   have hx:=h x (by simp)
   have:=zrF (l:=l) (m:=m.erase x) hn.2 fun y hy=>(List.mem_erase_of_ne (fun e=>hn.1 (by rw [←e];exact hy))).2 (h y (by simp [hy]))
   rw [List.length_erase_of_mem hx] at this
   have:=List.length_pos_of_mem hx
   simp only [List.length_cons];omega
theorem zpw {n:Nat} {p:Nat→Prop}:(zby n p).Nodup:=by unfold zby;exact List.nodup_range.filter _
theorem zpx {c:DCode} (hc:CodeR c) {p:List Nat} (hp:p∈zcA c) {l:Nat} (hl:l∈p):∃ m∈p,l∈nxL c m:=by
 obtain ⟨h1,x,hx,hxx⟩:=zcQ.1 hp
 obtain ⟨i,hi,rfl⟩:=zgG p h1
 have hll:RP (nxL c) l l:=by
   rcases (zaw.1 hl).2 with e | ⟨h2,h3⟩
   · subst e
     rcases (zaw.1 hx).2 with e | ⟨h2,h3⟩
     · subst e;exact hxx
     exact h2.trans h3
   exact h3.trans h2
 have key:∀ m,l∈nxL c m→(m=l∨RP (nxL c) l m)→∃ m∈zby c.locks.length (zbg (RP (nxL c)) i),l∈nxL c m:=fun m k1 k2=>by
   refine ⟨m,zaw.2 ⟨(zu2 hc _ _ k1).1,?_⟩,k1⟩
   rcases k2 with rfl | k2
   · exact (zaw.1 hl).2
   rcases (zaw.1 hl).2 with e | ⟨h3,h4⟩
   · rw [←e];exact .inr ⟨k2,.one k1⟩
   exact .inr ⟨h3.trans k2,(RP.one k1).trans h4⟩
 have gen:∀ y,RP (nxL c) l y→y=l→∃ m∈zby c.locks.length (zbg (RP (nxL c)) i),l∈nxL c m:=fun y hy=>by
   cases hy with
   | one h=>intro e;rw [e] at h;exact key _ h (.inl rfl)
   | more k1 k2=>intro e;rw [e] at k2;exact key _ k2 (.inr k1)
 exact gen l hll rfl
theorem zny {c:DCode} (hc:CodeR c) {p:List Nat} (hp:p∈zcA c):p.length≤(zma c (zaI p)).length:=by
 have hpn:p.Nodup:=by
   obtain ⟨i,_,rfl⟩:=zgG p (zcQ.1 hp).1
   exact zpw
 have hs:=zrF (m:=(zby c.ins.length (zrp (zaJ c) (zaI p) (zaJ c).length)).map (agN c)) hpn fun l hl=>by
   obtain ⟨m,hm,hnx⟩:=zpx hc hp hl
   obtain ⟨_,k,hk⟩:=zaw.1 hnx
   refine List.mem_map.2 ⟨k,zaw.2 ⟨hk.1.lt hc,mkO m l k,?_,zgw.2 ⟨m,hm,rfl⟩,zgw.2 ⟨l,hl,rfl⟩,rfl⟩,hk.2.2.1⟩
   rw [List.take_length]
   unfold zaJ
   rw [if_pos hc]
   exact (zea hc).2 ⟨m,l,k,hk,rfl⟩
 rw [List.length_map] at hs
 unfold zma
 rw [zag];exact hs
theorem zi6 {n:Nat} {way:Nat→Nat→Prop} (ht:∀ i j k,way i j→way j k→way i k):∀ (f:Nat) (told:Nat→Prop),Whole way told→zcz n told≤f →
   (zc1 n way f told).flatten.length=zcz n told∧∀ i,i<n→¬told i→i∈(zc1 n way f told).flatten
 | 0,told,hw,hf=>by
   refine ⟨by simp [zc1];omega,fun i hi hti=>?_⟩
   have:=zeR (p:=fun i=>¬told i) hi hti
   unfold zcz at hf;omega
 | f+1,told,hw,hf=>by
   cases e:zeA n way told with
   | none=>
     have h0:zcz n told=0:=by
       rcases Nat.eq_zero_or_pos (zcz n told) with h | h
       · exact h
       obtain ⟨i,hi⟩:=zhf ht h;rw [e] at hi;cases hi
     refine ⟨by rw [zf2 e];simp [h0],fun i hi hti=>?_⟩
     have:=zeR (p:=fun i=>¬told i) hi hti
     unfold zcz at h0;omega
   | some a=>
     have ho:=zeS e
     obtain ⟨f',h1,h2,h3⟩:=zeT hf e
     obtain rfl:f=f':=by omega
     obtain ⟨i1,i2⟩:=zi6 ht f (zfC way told a) (hw.more ht) h2
     rw [h1]
     refine ⟨by rw [List.flatten_cons,List.length_append,i1,zok hw ho.2.1];omega,fun i hi hti=>?_⟩
     rw [List.flatten_cons,List.mem_append]
     by_cases hp:zbg way a i
     · exact .inl (zaw.2 ⟨hi,hp⟩)
     exact .inr (i2 i hi fun h=>by
       rcases h with h | h
       · exact hti h
       exact hp h)
theorem zhy {n:Nat} {way:Nat→Nat→Prop} (ht:∀ i j k,way i j→way j k→way i k) {i j:Nat} (hi:i<n) (hj:j<n) (hw:way i j) (hb:¬way j i):∀ (f:Nat) (told:Nat→Prop),Whole way told→zcz n told≤f→¬told i→¬told j →
   ∃ a b,(zc1 n way f told).flatten=a++b∧j∈a∧i∉a
 | 0,told,hwh,hf,hti,htj=>by
   have:=zeR (p:=fun i=>¬told i) hi hti
   unfold zcz at hf;omega
 | f+1,told,hwh,hf,hti,htj=>by
   cases e:zeA n way told with
   | none=>
     have:=zeR (p:=fun i=>¬told i) hi hti
     obtain ⟨a,ha⟩:=zhf (n:=n) (told:=told) ht this
     rw [e] at ha;cases ha
   | some a=>
     have ho:=zeS e
     obtain ⟨f',h1,h2,h3⟩:=zeT hf e
     obtain rfl:f=f':=by omega
     have hia:¬zbg way a i:=fun hp=>by
       have hwa:way a j:=by
         rcases hp with rfl | ⟨h4,_⟩
         · exact hw
         exact ht _ _ _ h4 hw
       rcases ho.2.2 j hj hwa with h5 | h5
       · rcases hp with rfl | ⟨h4,_⟩
         · exact hb h5
         exact hb (ht _ _ _ h5 h4)
       exact htj h5
     rw [h1,List.flatten_cons]
     by_cases hja:zbg way a j
     · exact ⟨_,_,rfl,zaw.2 ⟨hj,hja⟩,fun h=>hia (zaw.1 h).2⟩
     obtain ⟨x,y,h6,h7,h8⟩:=zhy ht hi hj hw hb f (zfC way told a) (hwh.more ht) h2 (fun h=>by
       rcases h with h | h
       · exact hti h
       · exact hia h) (fun h=>by
       rcases h with h | h
       · exact htj h
       exact hja h)
     refine ⟨zby n (zbg way a)++x,y,by rw [h6,List.append_assoc],List.mem_append_right _ h7,fun h=>?_⟩
     rcases List.mem_append.1 h with h | h
     · exact hia (zaw.1 h).2
     exact h8 h
def zkW (n:Int):List Int→Int
 | []=>-1
 | x :: l=>if x=n then 0 else if zkW n l<0 then -1 else zkW n l+1
theorem zmn {n:Int}:∀ {l:List Int},n∉l→zkW n l=-1
 | [],_=>rfl
 | x :: l,h=>by
   simp only [List.mem_cons,not_or] at h
   rw [zkW,if_neg (fun e=>h.1 e.symm),zmn h.2];rfl
theorem zrG {n:Int}:∀ {l:List Int} {k:Nat} (hk:k<l.length),n∉l.take k→l[k]=n→zkW n l=k
 | x :: l,0,_,_,e=>by
   have e:x=n:=e
   rw [zkW,if_pos e];rfl
 | x :: l,k+1,hk,h,e=>by
   simp only [List.take_succ_cons,List.mem_cons,not_or] at h
   have:=zrG (l:=l) (k:=k) (by simpa using hk) h.2 (by simpa using e)
   rw [zkW,if_neg (fun e=>h.1 e.symm),if_neg (by omega),this];omega
theorem zi7 {x y:Int}:∀ {a b:List Int},x∈a→y∉a→y∈b→zkW x (a++b)<zkW y (a++b)
 | [],_,h,_,_=>by cases h
 | z :: a,b,hx,hy,hb=>by
   simp only [List.mem_cons,not_or] at hy
   have hyp:∀ {l:List Int},y∈l→0≤zkW y l:=fun {l} h=>by
     induction l with
     | nil=>cases h
     | cons u l ih=>
       rw [zkW]
       split
       · omega
       rename_i hu
       have:=ih ((List.mem_cons.1 h).resolve_left fun e=>hu e.symm)
       rw [if_neg (by omega)];omega
   have h0:=hyp (l:=a++b) (by simp [hb])
   have ey:zkW y (z :: (a++b))=zkW y (a++b)+1:=by rw [zkW,if_neg (fun e=>hy.1 e.symm),if_neg (by omega)]
   rw [List.cons_append,ey,zkW]
   split
   · omega
   rename_i hz
   have:=zi7 (b:=b) ((List.mem_cons.1 hx).resolve_left fun e=>hz e.symm) hy.2 hb
   split
   · omega
   omega
theorem zsT {c:DCode}:(ziU c).length=c.locks.length:=by
 have h:=zi6 (n:=c.locks.length) (way:=RP (nxL c)) (fun _ _ _=>RP.trans) c.locks.length (fun _=>False) Whole.start zfA
 have e:zcz c.locks.length (fun _=>False)=c.locks.length:=by
   unfold zcz
   have:∀ n,zby n (fun _=>¬False)=List.range n:=fun n=>by unfold zby;simp
   rw [this];simp
 unfold ziU zaN zjJ
 rw [h.1,e]
theorem zow {c:DCode} {i:Nat} (hi:i<c.locks.length):i∈ziU c:=
 (zi6 (n:=c.locks.length) (way:=RP (nxL c)) (fun _ _ _=>RP.trans) c.locks.length (fun _=>False) Whole.start zfA).2 i hi id
theorem znz {c:DCode} (hc:CodeR c) (h0:zcA c=[]) {x:DOrder} (hx:x∈zdp c):zkW x.to (zaI (ziU c))<zkW x.fr (zaI (ziU c)):=by
 obtain ⟨fr,to,k,ho,rfl⟩:=(zea hc).1 hx
 obtain ⟨hf,ht⟩:=ho.in hc
 have hw:RP (nxL c) fr to:=.one (zaw.2 ⟨ht,k,ho⟩)
 have hb:¬RP (nxL c) to fr:=fun hb=>by
   have hm:=zow hf
   unfold ziU at hm
   obtain ⟨p,hp,hfp⟩:=List.mem_flatten.1 hm
   have:p∈zcA c:=zcQ.2 ⟨hp,fr,hfp,hw.trans hb⟩
   rw [h0] at this;cases this
 obtain ⟨a,b,e,h1,h2⟩:=zhy (way:=RP (nxL c)) (i:=fr) (j:=to) (fun _ _ _=>RP.trans) hf ht hw hb c.locks.length (fun _=>False) Whole.start zfA id id
 have e:ziU c=a++b:=e
 have hm:=zow hf
 rw [e] at hm
 rw [e,zbE]
 exact zi7 (zgw.2 ⟨to,h1,rfl⟩) (fun h=>by
   obtain ⟨i,hi,e⟩:=zgw.1 h
   have e:=Int.ofNat_inj.1 e
   subst e;exact h2 hi) (zgw.2 ⟨fr,(List.mem_append.1 hm).resolve_left h2,rfl⟩)
theorem zox {w:World} {v:Value} {x:DOrder}:Is w v x↔v=.agg #[.int .i64 x.fr,.int .i64 x.to,.int .i64 x.at_]∧(I64 x.fr∧I64 x.to∧I64 x.at_):=by
 constructor
 · rintro ⟨F,cs,hr,rfl⟩
   obtain ⟨F1,F2,c1,c2,rfl,rfl,⟨_,rfl,h1⟩,F3,F4,c3,c4,rfl,rfl,⟨_,rfl,h2⟩,⟨_,rfl,h3⟩⟩:=hr
   exact ⟨rfl,h1,h2,h3⟩
 rintro ⟨rfl,h1,h2,h3⟩
 exact ⟨[],_,⟨[],[],[_],[_,_],rfl,rfl,⟨rfl,rfl,h1⟩,[],[],[_],[_],rfl,rfl,⟨rfl,rfl,h2⟩,⟨rfl,rfl,h3⟩⟩,rfl⟩
set_option maxRecDepth 20000 in
theorem zmo {w w0 w1:World} {K:Value→Prop} {x y:Operand} {v1 v2:Value} {a b:DOrder} (h1:Is w0 v1 a) (h2:Is w1 v2 b) (k:K (.bool (decide (a≠b)))):RD Tryz.prog (bin .neq 72 x y v1 v2) w K:=by
  obtain ⟨rfl,_⟩:=zox.1 h1
  obtain ⟨rfl,_⟩:=zox.1 h2
  refine zaM (fun w' _=>?_) k
  have hg:Tryz.prog.eqGuardType Tryz.prog.depth 72=false:=by kernel_rfl
  have e0:∀ xs ys w,(eqGuard .neq 72 x y (.agg xs) (.agg ys)).run Tryz.prog w=.ok () w:=fun xs ys w=>run_eqGuard_agg (P:=Tryz.prog) w .neq 72 x y xs ys hg
  have e1:∀ xs ys w,(Op.equalIn 10000 72 (.agg xs) (.agg ys)).run Tryz.prog w=(Op.eqFields 9999 xs ys (Tryz.prog.fieldsOf 72).toList).run Tryz.prog w:=fun xs ys w=>run_equalIn_struct w 9999 72 xs ys (by kernel_rfl) (by kernel_rfl)
  have e2:(Tryz.prog.fieldsOf 72).toList.map (fun f=>(f.name,f.type,f.offset))=[("From", 3,0),("To", 3,1),("At", 3,2)]:=by kernel_rfl
  have e3:∀ (c d:Int) (w:World),(Op.equalIn 9999 3 (.int .i64 c) (.int .i64 d)).run Tryz.prog w=.ok (c == d) w:=fun c d w=>run_equalIn_int w 9998 3 .i64 .i64 c d u3
  have hd:(a=b)↔(a.fr=b.fr∧a.to=b.to∧a.at_=b.at_):=⟨fun e=>by rw [e];exact ⟨rfl,rfl,rfl⟩,fun ⟨x,y,z⟩=>by cases a;cases b;simp only at x y z;rw [x,y,z]⟩
  generalize hF:(Tryz.prog.fieldsOf 72).toList=fs at e1 e2
  match fs,e2 with
  | [f0,f1,f2],e2=>
    simp only [List.map_cons,List.map_nil,List.cons.injEq,Prod.mk.injEq,and_true] at e2
    obtain ⟨⟨n0,t0,o0⟩,⟨n1,t1,o1⟩,⟨n2,t2,o2⟩⟩:=e2
    have p0:∀ (a b c:Value) (w:World),(part 3 #[a,b,c] 0).run Tryz.prog w=.ok a w:=fun a b c w=>by simp [part,zbJ ty3]
    have p1:∀ (a b c:Value) (w:World),(part 3 #[a,b,c] 1).run Tryz.prog w=.ok b w:=fun a b c w=>by simp [part,zbJ ty3]
    have p2:∀ (a b c:Value) (w:World),(part 3 #[a,b,c] 2).run Tryz.prog w=.ok c w:=fun a b c w=>by simp [part,zbJ ty3]
    simp only [bin,Sem.run_bind,e0,Result.andThen_ok,run_neq_struct,e1,Op.eqFields,n0,n1,n2,t0,t1,t2,o0,o1,o2]
    simp only [ne_eq,String.reduceEq,not_false_eq_true,if_true,Sem.run_bind,p0,p1,p2,Result.andThen_ok,e3,Sem.run_ite,Sem.run_pure,hd]
    by_cases x0:a.fr=b.fr<;>by_cases x1:a.to=b.to<;>by_cases x2:a.at_=b.at_<;>simp [x0,x1,x2,hd]
def F9 (a0:Value) (w:World) (R:VW):Prop:=
 rN 22 3 a0 w fun x4=>
 rB .gtr 3 T0 U0 x4 (iV 1048576) w fun x5=>
 R x5 w
def cfg9:Cfg:=⟨extL,[],[],[],[],[],[]⟩
theorem F9_call {a0:Value} {w:World} {R:VW} (h:F9 a0 w R):cL 9 [a0] w R:=co (g:=cfg9) Tryz.func9 (by kernel_rfl) (by kernel_rfl) (by kernel_rfl) h
theorem zu4 {w:World} {v0:Value} {W0:World} {bs:(List UInt8)}  (h0:Is W0 v0 bs) (e0:Ext W0 w)  :
   CALL Tryz.prog 9 [v0] w fun r w'=>Ext w w'∧(r=.bool (decide ((1048576:Int)<bs.length))):=by
 refine F9_call ?_
 unfold F9
 have hln4:=zaj h0
 refine zae u22 h0 ?_
 refine zcu ?_
 refine ⟨Ext.refl w,?_⟩
 rfl
def F15 (a0 a1:Value) (w:World) (R:VW):Prop:=
 rN 25 3 a0 w fun x7=>
 rN 25 3 a1 w fun x9=>
 rB .neq 3 T0 T0 x7 x9 w fun x10=>
 BR x10
 (R (Value.bool false) w)
 (LOOPI [5] [(iV 0)] w fun u4 w next4=>
 rN 25 3 a0 w fun x13=>
 rC (u4 5) x13 w fun x14=>
 BR x14
 ((fun w=>rX 25 a0 (u4 5) w fun x19=>
 rL 3 x19 w fun x20=>
 rX 25 a1 (u4 5) w fun x23=>
 rL 3 x23 w fun x24=>
 rB .neq 3 T0 T0 x20 x24 w fun x25=>
 BR x25
 (R (Value.bool false) w)
 (rA (u4 5) (iV 1) w fun x16=>
 next4 [x16] w)) (World.drew1 w))
 (R (Value.bool true) w))
def cfg15:Cfg:=⟨extL,[],[(4,67106864,[5])],[(6,[0,1,2,3,4,5,6,7,8],0)],[],[],[]⟩
theorem F15_call {a0 a1:Value} {w:World} {R:VW} (h:F15 a0 a1 w R):cL 15 [a0,a1] w R:=co (g:=cfg15) Tryz.func15 (by kernel_rfl) (by kernel_rfl) (by kernel_rfl) h
theorem zmp {w:World} {v0:Value} {W0:World} {l1:(List Int)} {v1:Value} {W1:World} {l2:(List Int)}  (h0:Is W0 v0 l1) (e0:Ext W0 w) (h1:Is W1 v1 l2) (e1:Ext W1 w)  :
   CALL Tryz.prog 15 [v0,v1] w fun r w'=>Ext w w'∧(r=.bool (decide (l1=l2))):=by
 refine F15_call ?_
 unfold F15
 have hl1:=zaj h0
 have hln7:=zaj h0
 refine zae u25 h0 ?_
 have hln9:=zaj h1
 refine zae u25 h1 ?_
 refine zaW ?_
 refine br (fun c1=>?_) (fun c1=>?_)
 · refine ⟨Ext.refl w,?_⟩
   have:l1≠l2:=fun e=>c1 (by rw [e])
   simp [this]
 refine zat (l1.length) (fun k us w'=>us=[.int .i64 (k:Int)]∧Ext w w'∧(l1.take k=l2.take k)) (0) (by omega) ⟨by simp,Ext.refl w,by simp⟩ ?_
 rintro k m4 uu4 w1_ hk4 ⟨hu,hx1_,hinv⟩
 simp only [List.map_cons,List.map_nil,List.cons.injEq,and_true] at hu
 try rw [hu]
 try clear hu
 have hln13:=zaj h0
 refine zae u25 h0 ?_
 refine zah ?_
 refine br (fun c2=>?_) (fun c2=>?_)
 · have hx2_:=zak w1_
   refine zac u25 ty3 h0 (by omega) fun b19 o19 h19=>?_
   refine zad ty3 h19 (e0.trans (hx1_.trans hx2_)) fun hI20=>?_
   refine zac u25 ty3 h1 (by omega) fun b23 o23 h23=>?_
   refine zad ty3 h23 (e1.trans (hx1_.trans hx2_)) fun hI24=>?_
   refine zaW ?_
   refine br (fun c3=>?_) (fun c3=>?_)
   · refine ⟨(hx1_.trans hx2_),?_⟩
     have:l1≠l2:=fun e=>c3 (by subst e;rfl)
     simp [this]
   refine zaf (by omega) ?_
   refine ⟨m4-1,by omega,k+1,by omega,by simp,(hx1_.trans hx2_),?_⟩
   rw [List.take_succ_eq_append_getElem (by omega),List.take_succ_eq_append_getElem (by omega),hinv,Decidable.not_not.1 c3]
 refine ⟨hx1_,?_⟩
 rw [List.take_of_length_le (by omega),List.take_of_length_le (by omega)] at hinv
 simp [hinv]
def F55 (a0 a1:Value) (w:World) (R:VW):Prop:=
 rN 31 3 a0 w fun x7=>
 rN 31 3 a1 w fun x9=>
 rB .neq 3 T0 T0 x7 x9 w fun x10=>
 BR x10
 (R (Value.bool false) w)
 (LOOPI [5] [(iV 0)] w fun u4 w next4=>
 rN 31 3 a0 w fun x13=>
 rC (u4 5) x13 w fun x14=>
 BR x14
 ((fun w=>rX 31 a0 (u4 5) w fun x19=>
 rL 25 x19 w fun x20=>
 rX 31 a1 (u4 5) w fun x23=>
 rL 25 x23 w fun x24=>
 cL 15 [x20,x24] w fun x25 w=>
 rD (Op.unary .not x25) w fun x26=>
 BR x26
 (R (Value.bool false) w)
 (rA (u4 5) (iV 1) w fun x16=>
 next4 [x16] w)) (World.drew1 w))
 (R (Value.bool true) w))
def cfg55:Cfg:=⟨extL,[],[(4,134215728,[5])],[(6,[0,1,2,3,4,5,6,7,8,9],0)],[],[],[]⟩
theorem F55_call {a0 a1:Value} {w:World} {R:VW} (h:F55 a0 a1 w R):cL 55 [a0,a1] w R:=co (g:=cfg55) Tryz.func55 (by kernel_rfl) (by kernel_rfl) (by kernel_rfl) h
theorem zmq {w:World} {v0:Value} {W0:World} {l1:(List (List Int))} {v1:Value} {W1:World} {l2:(List (List Int))}  (h0:Is W0 v0 l1) (e0:Ext W0 w) (h1:Is W1 v1 l2) (e1:Ext W1 w)  :
   CALL Tryz.prog 55 [v0,v1] w fun r w'=>Ext w w'∧(r=.bool (decide (l1=l2))):=by
 refine F55_call ?_
 unfold F55
 have hl1:=zaj h0
 have hln7:=zaj h0
 refine zae u31 h0 ?_
 have hln9:=zaj h1
 refine zae u31 h1 ?_
 refine zaW ?_
 refine br (fun c1=>?_) (fun c1=>?_)
 · refine ⟨Ext.refl w,?_⟩
   have:l1≠l2:=fun e=>c1 (by rw [e])
   simp [this]
 refine zat (l1.length) (fun k us w'=>us=[.int .i64 (k:Int)]∧Ext w w'∧(l1.take k=l2.take k)) (0) (by omega) ⟨by simp,Ext.refl w,by simp⟩ ?_
 rintro k m4 uu4 w1_ hk4 ⟨hu,hx1_,hinv⟩
 simp only [List.map_cons,List.map_nil,List.cons.injEq,and_true] at hu
 try rw [hu]
 try clear hu
 have hln13:=zaj h0
 refine zae u31 h0 ?_
 refine zah ?_
 refine br (fun c2=>?_) (fun c2=>?_)
 · have hx2_:=zak w1_
   refine zac u31 zbG h0 (by omega) fun b19 o19 h19=>?_
   refine zab zbG h19 (e0.trans (hx1_.trans hx2_)) fun v20 h20=>?_
   refine zac u31 zbG h1 (by omega) fun b23 o23 h23=>?_
   refine zab zbG h23 (e1.trans (hx1_.trans hx2_)) fun v24 h24=>?_
   refine (zmp h20 (e0.trans (hx1_.trans hx2_)) h24 (e1.trans (hx1_.trans hx2_))).mono ?_
   rintro _ w3_ ⟨hx3_,rfl⟩
   refine zaA ?_
   refine br (fun c3=>?_) (fun c3=>?_)
   · refine ⟨(hx1_.trans (hx2_.trans hx3_)),?_⟩
     have:l1≠l2:=fun e=>c3 (by subst e;rfl)
     simp [this]
   refine zaf (by omega) ?_
   refine ⟨m4-1,by omega,k+1,by omega,by simp,(hx1_.trans (hx2_.trans hx3_)),?_⟩
   rw [List.take_succ_eq_append_getElem (by omega),List.take_succ_eq_append_getElem (by omega),hinv,Decidable.not_not.1 c3]
 refine ⟨hx1_,?_⟩
 rw [List.take_of_length_le (by omega),List.take_of_length_le (by omega)] at hinv
 simp [hinv]
def F52 (a0 a1:Value) (w:World) (R:VW):Prop:=
 rN 65 3 a0 w fun x7=>
 rN 65 3 a1 w fun x9=>
 rB .neq 3 T0 T0 x7 x9 w fun x10=>
 BR x10
 (R (Value.bool false) w)
 (LOOPI [5] [(iV 0)] w fun u4 w next4=>
 rN 65 3 a0 w fun x13=>
 rC (u4 5) x13 w fun x14=>
 BR x14
 ((fun w=>rX 65 a0 (u4 5) w fun x19=>
 rL 72 x19 w fun x20=>
 rX 65 a1 (u4 5) w fun x23=>
 rL 72 x23 w fun x24=>
 rB .neq 72 T0 T0 x20 x24 w fun x25=>
 BR x25
 (R (Value.bool false) w)
 (rA (u4 5) (iV 1) w fun x16=>
 next4 [x16] w)) (World.drew1 w))
 (R (Value.bool true) w))
def cfg52:Cfg:=⟨extL,[],[(4,67106864,[5])],[(6,[0,1,2,3,4,5,6,7,8],0)],[],[],[]⟩
theorem F52_call {a0 a1:Value} {w:World} {R:VW} (h:F52 a0 a1 w R):cL 52 [a0,a1] w R:=co (g:=cfg52) Tryz.func52 (by kernel_rfl) (by kernel_rfl) (by kernel_rfl) h
theorem zkT {w:World} {v0:Value} {W0:World} {l1:(List DOrder)} {v1:Value} {W1:World} {l2:(List DOrder)}  (h0:Is W0 v0 l1) (e0:Ext W0 w) (h1:Is W1 v1 l2) (e1:Ext W1 w)  :
   CALL Tryz.prog 52 [v0,v1] w fun r w'=>Ext w w'∧(r=.bool (decide (l1=l2))):=by
 refine F52_call ?_
 unfold F52
 have hl1:=zaj h0
 have hln7:=zaj h0
 refine zae u65 h0 ?_
 have hln9:=zaj h1
 refine zae u65 h1 ?_
 refine zaW ?_
 refine br (fun c1=>?_) (fun c1=>?_)
 · refine ⟨Ext.refl w,?_⟩
   have:l1≠l2:=fun e=>c1 (by rw [e])
   simp [this]
 refine zat (l1.length) (fun k us w'=>us=[.int .i64 (k:Int)]∧Ext w w'∧(l1.take k=l2.take k)) (0) (by omega) ⟨by simp,Ext.refl w,by simp⟩ ?_
 rintro k m4 uu4 w1_ hk4 ⟨hu,hx1_,hinv⟩
 simp only [List.map_cons,List.map_nil,List.cons.injEq,and_true] at hu
 try rw [hu]
 try clear hu
 have hln13:=zaj h0
 refine zae u65 h0 ?_
 refine zah ?_
 refine br (fun c2=>?_) (fun c2=>?_)
 · have hx2_:=zak w1_
   refine zac u65 zj1 h0 (by omega) fun b19 o19 h19=>?_
   refine zab zj1 h19 (e0.trans (hx1_.trans hx2_)) fun v20 h20=>?_
   refine zac u65 zj1 h1 (by omega) fun b23 o23 h23=>?_
   refine zab zj1 h23 (e1.trans (hx1_.trans hx2_)) fun v24 h24=>?_
   refine zmo h20 h24 ?_
   refine br (fun c3=>?_) (fun c3=>?_)
   · refine ⟨(hx1_.trans hx2_),?_⟩
     have:l1≠l2:=fun e=>c3 (by subst e;rfl)
     simp [this]
   refine zaf (by omega) ?_
   refine ⟨m4-1,by omega,k+1,by omega,by simp,(hx1_.trans hx2_),?_⟩
   rw [List.take_succ_eq_append_getElem (by omega),List.take_succ_eq_append_getElem (by omega),hinv,Decidable.not_not.1 c3]
 refine ⟨hx1_,?_⟩
 rw [List.take_of_length_le (by omega),List.take_of_length_le (by omega)] at hinv
 simp [hinv]
def F59 (a0 a1:Value) (w:World) (R:VW):Prop:=
 LOOPI [5] [(iV 0)] w fun u2 w next2=>
 rN 25 3 a0 w fun x8=>
 rC (u2 5) x8 w fun x9=>
 BR x9
 (rX 25 a0 (u2 5) w fun x14=>
 rL 3 x14 w fun x15=>
 rB .eql 3 T0 T0 x15 a1 w fun x17=>
 BR x17
 (R (u2 5) w)
 (rA (u2 5) (iV 1) w fun x11=>
 next2 [x11] w))
 (R (iV (-1)) w)
def cfg59:Cfg:=⟨extL,[],[(2,524272,[5])],[],[],[],[]⟩
theorem F59_call {a0 a1:Value} {w:World} {R:VW} (h:F59 a0 a1 w R):cL 59 [a0,a1] w R:=co (g:=cfg59) Tryz.func59 (by kernel_rfl) (by kernel_rfl) (by kernel_rfl) h
theorem zoy {w:World} {v0:Value} {W0:World} {l:(List Int)} {y:Int}  (h0:Is W0 v0 l) (e0:Ext W0 w)  :
   CALL Tryz.prog 59 [v0,.int .i64 y] w fun r w'=>Ext w w'∧(r=.int .i64 (zkW y l)):=by
 refine F59_call ?_
 unfold F59
 refine zat (l.length) (fun k us w'=>us=[.int .i64 (k:Int)]∧Ext w w'∧(y∉l.take k)) (0) (by omega) ⟨by simp,Ext.refl w,by simp⟩ ?_
 rintro k m2 uu2 w1_ hk2 ⟨hu,hx1_,hinv⟩
 simp only [List.map_cons,List.map_nil,List.cons.injEq,and_true] at hu
 try rw [hu]
 try clear hu
 have hln8:=zaj h0
 refine zae u25 h0 ?_
 refine zah ?_
 refine br (fun c1=>?_) (fun c1=>?_)
 · refine zac u25 ty3 h0 (by omega) fun b14 o14 h14=>?_
   refine zad ty3 h14 (e0.trans hx1_) fun hI15=>?_
   refine zai ?_
   refine br (fun c2=>?_) (fun c2=>?_)
   · refine ⟨hx1_,?_⟩
     rw [zrG (k:=k) (by omega) hinv c2]
   refine zaf (by omega) ?_
   refine ⟨m2-1,by omega,k+1,by omega,by simp,hx1_,?_⟩
   exact zgH (by omega) hinv c2
 refine ⟨hx1_,?_⟩
 rw [List.take_of_length_le (by omega)] at hinv
 rw [zmn hinv]
def F58 (a0 a1:Value) (w:World) (R:VW):Prop:=
 oP (Instr.box 28 a0) w fun x2 w=>
 rL 28 x2 w fun x8=>
 cL 109 [x8] w fun x9 w=>
 rE x9 0 w fun x10=>
 rE x9 1 w fun x11=>
 rD (Op.unary .not x11) w fun x13=>
 BR x13
 (R (iV 0) w)
 (rL 28 x2 w fun x15=>
 cL 105 [x15,a1] w fun x17 w=>
 rD (Op.unary .not x17) w fun x18=>
 BR x18
 (R (iV 0) w)
 (cL 119 [x10] w fun x22 w=>
 cL 118 [x10,x22] w fun x23 w=>
 rX 25 x23 a1 w fun x25=>
 rL 3 x25 w fun x26=>
 R x26 w))
def cfg58:Cfg:=⟨extL,[],[],[],[],[],[]⟩
theorem F58_call {a0 a1:Value} {w:World} {R:VW} (h:F58 a0 a1 w R):cL 58 [a0,a1] w R:=co (g:=cfg58) Tryz.func58 (by kernel_rfl) (by kernel_rfl) (by kernel_rfl) h
def F57 (a0 a1:Value) (w:World) (R:VW):Prop:=
 cL 116 [a0] w fun x6 w=>
 BR x6
 (rB .geq 3 T0 U0 a1 (iV 0) w fun x9=>
 BR x9
 (rB .lss 3 T0 U0 a1 (iV 6) w fun x13=>
 BR x13
 (cL 117 [a0,a1] w fun x18 w=>
 R x18 w)
 (R (Value.bool false) w))
 (R (Value.bool false) w))
 (R (Value.bool false) w)
def cfg57:Cfg:=⟨extL,[],[],[],[],[],[]⟩
theorem F57_call {a0 a1:Value} {w:World} {R:VW} (h:F57 a0 a1 w R):cL 57 [a0,a1] w R:=co (g:=cfg57) Tryz.func57 (by kernel_rfl) (by kernel_rfl) (by kernel_rfl) h
theorem zmr {w W0:World} {v0:Value} {c:DCode} {i:Nat} (h0:Is W0 v0 c) (e0:Ext W0 w) (hc:CodeR c) (hi:i<c.ins.length) :
   CALL Tryz.prog 58 [v0,.int .i64 (i:Int)] w fun r w'=>Ext w w'∧r=.int .i64 ((m6 (MayP c i):Nat):Int):=by
 refine F58_call ?_
 unfold F58
 refine zbS h0 e0 fun w1 hx1 hA=>?_
 refine zab zcF hA (Ext.refl _) fun v8 h8=>?_
 refine (zfB h8 (Ext.refl _)).mono ?_
 rintro r9 w2 ⟨hx2,hr⟩
 rcases hr with ⟨hn,rfl⟩ | ⟨_,b,rfl,hW⟩
 · exact absurd hc hn
 refine zaO rfl ?_
 refine zaO rfl ?_
 refine zaC ?_
 refine zbH (fun h=>by cases h) (fun _=>?_)
 refine zab zcF hA hx2 fun v15 h15=>?_
 refine (zo2 h15 hx2).mono ?_
 rintro _ w3 ⟨hx3,rfl⟩
 refine zaA ?_
 refine br (fun h=>absurd (by omega) h) (fun _=>?_)
 refine (ztk hW hx3 hc).mono ?_
 rintro v22 w4 ⟨hx4,o22⟩
 refine (ztp hW (hx3.trans hx4) o22.is (Ext.refl _) hc).mono ?_
 rintro v23 w5 ⟨hx5,o23⟩
 have hl:i<(zaI (zkV c)).length:=by rw [zag,zgB];exact hi
 refine zac u25 ty3 o23.is hl fun b25 o25 hA25=>?_
 refine zad ty3 hA25 (Ext.refl _) fun hI=>?_
 exact ⟨hx1.trans (hx2.trans (hx3.trans (hx4.trans hx5))),by rw [zbz,zkw hi]⟩
theorem zms {w:World} {m i:Nat} (hm:m<64) (hi:i<6):CALL Tryz.prog 57 [.int .i64 (m:Int),.int .i64 (i:Int)] w fun r w'=>Ext w w'∧r=.bool (m.testBit i):=by
 refine F57_call ?_
 unfold F57
 refine (zsB (w:=w)).mono ?_
 rintro _ w1 ⟨hx1,rfl⟩
 refine br (fun _=>?_) (fun h=>absurd (by omega) h)
 refine zbF ?_
 refine br (fun _=>?_) (fun h=>absurd (by omega) h)
 refine zah ?_
 refine br (fun _=>?_) (fun h=>absurd (by omega) h)
 refine (zlN (by omega) (by omega)).mono ?_
 rintro _ w2 ⟨hx2,rfl⟩
 exact ⟨hx1.trans hx2,rfl⟩
def F183 (a0:Value) (w:World) (R:VW):Prop:=
 oP (Instr.box 28 a0) w fun x1 w=>
 oP (Instr.buildSlice 131 0 #[]) w fun x7 w=>
 rL 28 x1 w fun x8=>
 cL 111 [x8] w fun x9 w=>
 LOOPI [3,5] [x7,(iV 0)] w fun u4 w next4=>
 rN 65 3 x9 w fun x12=>
 rC (u4 5) x12 w fun x13=>
 BR x13
 ((fun w=>rX 65 x9 (u4 5) w fun x18=>
 rF 72 x18 0 w fun x19=>
 rL 3 x19 w fun x20=>
 rX 65 x9 (u4 5) w fun x23=>
 rF 72 x23 1 w fun x24=>
 rL 3 x24 w fun x25=>
 rD (Instr.build 195 #[(0,x20),(1,x25)]) w fun x26=>
 (fun w_=>oP (Instr.alloc 195 true (.tuple #[])) w_ fun x6 w=>
 Ext w_ w ∧
 (oS 195 x6 x26 w fun w=>
 (fun w=>rN 131 3 (u4 3) w fun x28=>
 rB .eql 3 T0 U0 x28 (iV 0) w fun x29=>
 BR x29
 (rL 195 x6 w fun x41=>
 oP (Instr.buildSlice 131 1 #[(0,x41)]) w fun x42 w=>
 oP (Builtin.append_ #[131,131] 131 [(u4 3),x42].toArray) w fun x43 w=>
 rA (u4 5) (iV 1) w fun x15=>
 next4 [x43,x15] w)
 (rN 131 3 (u4 3) w fun x33=>
 rB .sub 3 T0 U0 x33 (iV 1) w fun x34=>
 rX 131 (u4 3) x34 w fun x35=>
 rL 195 x35 w fun x36=>
 rL 195 x6 w fun x37=>
 rB .neq 195 T0 T0 x36 x37 w fun x38=>
 BR x38
 (rL 195 x6 w fun x41=>
 oP (Instr.buildSlice 131 1 #[(0,x41)]) w fun x42 w=>
 oP (Builtin.append_ #[131,131] 131 [(u4 3),x42].toArray) w fun x43 w=>
 rA (u4 5) (iV 1) w fun x15=>
 next4 [x43,x15] w)
 (rA (u4 5) (iV 1) w fun x15=>
 next4 [(u4 3),x15] w))) (World.drew1 w))) w) (World.drew1 w))
 (R (u4 3) w)
def cfg183:Cfg:=⟨extL,[],[(4,17592186043496,[3,5])],[(6,[0,1,2,3,4,5,6,7,8,9,10,11,12],2048),(7,[0,1,2,3,4,5,6,7,8,9,10,11,12],0)],[],[],[]⟩
theorem F183_call {a0:Value} {w:World} {R:VW} (h:F183 a0 w R):cL 183 [a0] w R:=co (g:=cfg183) Tryz.func183 (by kernel_rfl) (by kernel_rfl) (by kernel_rfl) h
def F115 (a0:Value) (w:World) (R:VW):Prop:=
 oP (Instr.box 28 a0) w fun x1 w=>
 rL 28 x1 w fun x8=>
 cL 183 [x8] w fun x9 w=>
 rF 28 x1 1 w fun x10=>
 rL 24 x10 w fun x11=>
 rN 24 3 x11 w fun x12=>
 cL 184 [x12,x9] w fun x14 w=>
 oP (Instr.buildSlice 31 0 #[]) w fun x15 w=>
 LOOPI [5,6] [x15,(iV 0)] w fun u5 w next5=>
 rF 28 x1 1 w fun x17=>
 rL 24 x17 w fun x18=>
 rN 24 3 x18 w fun x19=>
 rC (u5 6) x19 w fun x20=>
 BR x20
 (LOOPI [5,7] [(u5 5),(iV 0)] w fun u8 w next8=>
 rN 31 3 x14 w fun x25=>
 rC (u8 7) x25 w fun x26=>
 BR x26
 ((fun w=>rX 31 x14 (u8 7) w fun x31=>
 rL 25 x31 w fun x32=>
 rX 25 x32 (iV 0) w fun x33=>
 rL 3 x33 w fun x34=>
 rB .eql 3 T0 T0 x34 (u5 6) w fun x36=>
 BR x36
 (rF 28 x1 1 w fun x38=>
 rL 24 x38 w fun x39=>
 rN 24 3 x39 w fun x40=>
 rX 31 x14 (u8 7) w fun x44=>
 rL 25 x44 w fun x45=>
 cL 185 [x40,x9,x45] w fun x46 w=>
 BR x46
 (oP (Instr.buildSlice 25 0 #[]) w fun x49 w=>
 rX 31 x14 (u8 7) w fun x52=>
 rL 25 x52 w fun x53=>
 oP (Builtin.append_ #[25,25] 25 [x49,x53].toArray) w fun x54 w=>
 oP (Instr.buildSlice 31 1 #[(0,x54)]) w fun x55 w=>
 oP (Builtin.append_ #[31,31] 31 [(u8 5),x55].toArray) w fun x56 w=>
 rA (u8 7) (iV 1) w fun x28=>
 next8 [x56,x28] w)
 (rA (u8 7) (iV 1) w fun x28=>
 next8 [(u8 5),x28] w))
 (rA (u8 7) (iV 1) w fun x28=>
 next8 [(u8 5),x28] w)) (World.drew1 w))
 (rA (u5 6) (iV 1) w fun x22=>
 next5 [(u8 5),x22] w))
 (R (u5 5) w)
def cfg115:Cfg:=⟨extL,[],[(5,144115188075790560,[5,6]),(8,144115188067467424,[5,7])],[(10,[0,1,2,3,4,5,6,7,8,9,10,11,12,13,14,15,16,17,18],0)],[],[],[]⟩
theorem F115_call {a0:Value} {w:World} {R:VW} (h:F115 a0 w R):cL 115 [a0] w R:=co (g:=cfg115) Tryz.func115 (by kernel_rfl) (by kernel_rfl) (by kernel_rfl) h
def F56 (a0:Value) (w:World) (R:VW):Prop:=
 oP (Instr.box 28 a0) w fun x1 w=>
 rL 28 x1 w fun x3=>
 cL 81 [x3] w fun x4 w=>
 rD (Op.unary .not x4) w fun x5=>
 BR x5
 (oP (Instr.buildSlice 31 0 #[]) w fun x6 w=>
 R x6 w)
 (rL 28 x1 w fun x7=>
 cL 115 [x7] w fun x8 w=>
 R x8 w)
def cfg56:Cfg:=⟨extL,[],[],[],[],[],[]⟩
theorem F56_call {a0:Value} {w:World} {R:VW} (h:F56 a0 w R):cL 56 [a0] w R:=co (g:=cfg56) Tryz.func56 (by kernel_rfl) (by kernel_rfl) (by kernel_rfl) h
open Rep (rep)
theorem zpy {w W0:World} {v0:Value} {c:DCode} (h0:Is W0 v0 c) (e0:Ext W0 w) (hc:CodeR c) :
   CALL Tryz.prog 183 [v0] w fun r w'=>Ext w w'∧∃ A,AInv (zdp c) A∧Own w.heap.size w' r A:=by
 refine F183_call ?_
 unfold F183
 have hol:=zkD hc
 have h6l:=hc.1.locks6
 refine zbS h0 e0 fun w1 hx1 hA=>?_
 refine za1 (α:=DArc) zjq zdr fun a8 w2 hx2 hr2=>?_
 refine zab zcF hA hx2 fun v8 h8=>?_
 refine (zl8 h8 hx2 hc).mono ?_
 rintro v9 w3 ⟨hx3,ho3⟩
 have h9:=ho3.is
 have hx13:=(hx1.trans hx2).trans hx3
 have hs13:=hx13.size
 refine zat (zdp c).length (fun k us w'=>∃ out A,us=[out,.int .i64 (k:Int)]∧k≤(zdp c).length∧Ext w3 w'∧RowI w3.heap.size w'.heap.size 195 w' out A∧AInv ((zdp c).take k) A) 0 (Nat.zero_le _) ⟨_,[],rfl,Nat.zero_le _,Ext.refl _,zcf _ _ _ _ _,by rw [List.take_zero];exact AInv.start⟩ ?_
 rintro k mk q w4 hkm ⟨out,A,hq,hkl,hx4,hr4,hI⟩
 obtain ⟨hq1,hq2⟩:=zdY hq
 rw [hq1,hq2]
 have hs4:=hx4.size
 refine zae u65 h9 ?_
 refine zah ?_
 refine br (fun hlt=>?_) (fun hge=>?_)
 case refine_2=>
   have hke:k=(zdp c).length:=by omega
   rw [hke,List.take_length] at hI
   exact ⟨hx13.trans hx4,A,hI,hr4.own.own.mono hs13⟩
 have hk:k<(zdp c).length:=by omega
 have hso:((zdp c).take k++[(zdp c)[k]]).Pairwise ltO:=by
   rw [←List.take_succ_eq_append_getElem hk]
   exact (znm c).sublist (List.take_sublist _ _)
 have hlenA:=zkE h6l hI.pw (hI.rng hc)
 have hxd:=zak w4
 generalize World.drew1 w4=w5 at *
 have e5:=hx4.trans hxd
 refine zac u65 zj1 h9 hk fun b3 o3 hA3=>?_
 refine zaa zh3 ?_
 refine zad ty3 (zdT hA3) e5 fun hI0=>?_
 refine zac u65 zj1 h9 hk fun b4 o4 hA4=>?_
 refine zaa zh4 ?_
 refine zad ty3 (zdU hA4) e5 fun hI1=>?_
 refine zaQ (cells:=#[.int .i64 (zdp c)[k].fr,.int .i64 (zdp c)[k].to]) (by kernel_rfl) ?_
 have hIs:Is w5 (.agg #[.int .i64 (zdp c)[k].fr,.int .i64 (zdp c)[k].to]) (zfD (zdp c)[k]):=zjO.2 ⟨rfl,hI0,hI1⟩
 refine ztD zr3 rfl zdr rfl hIs (Ext.refl _) fun w6 hx6 hAt6 hV6=>?_
 have hxd2:=zak w6
 generalize World.drew1 w6=w7 at *
 have hr7:=((hr4.ext hxd).ext hx6).ext hxd2
 have hx47:=(hxd.trans hx6).trans hxd2
 have hs47:=hx47.size
 have hpush:zfD (zdp c)[k]∉A→RD Tryz.prog (Instr.loadAt 195 (.pointer (some ⟨w5.heap.size,0,none⟩))) w7 fun x41=>OP Tryz.prog (Instr.buildSlice 131 1 #[(0,x41)]) w7 fun x42 w=>OP Tryz.prog (Builtin.append_ #[131,131] 131 [out,x42].toArray) w fun x43 w=>RD Tryz.prog (bin .add 3 (.tmp 0) (.const undef) (.int .i64 (k:Int)) (.int .i64 1)) w fun x15=>∃ m',m'<mk∧∃ k',k'+m'=(zdp c).length∧∃ out A,[x43,x15]=[out,.int .i64 (k':Int)]∧k'≤(zdp c).length∧Ext w3 w∧RowI w3.heap.size w.heap.size 195 w out A∧AInv ((zdp c).take k') A:=fun hno=>by
   refine zab zdr hAt6 hxd2 fun v23 h23=>?_
   refine zct (lo2:=w7.heap.size) (hi2:=w7.heap.size) (x:=zfD (zdp c)[k]) zjq zdr zvw zuP (by decide) hr7 (by omega) (zhO (h23.ext hxd2)) (by omega) (by omega) (by rw [zan];omega) (by omega) fun v' w9 hc9 hr9=>?_
   refine zaf (by omega) ?_
   refine ⟨mk-1,by omega,k+1,by omega,v',A++[zfD (zdp c)[k]],rfl,by omega,(hx4.trans hx47).chgI hc9 (Nat.le_refl _),hr9,?_⟩
   rw [List.take_succ_eq_append_getElem hk]
   exact hI.new hso hno
 refine zae zjq hr7.is ?_
 refine zai ?_
 refine br (fun h0=>?_) (fun hn0=>?_)
 · have:A=[]:=List.eq_nil_of_length_eq_zero (by omega)
   exact hpush (by rw [this];simp)
 have hlast:=hI.last hso (by omega)
 refine zae zjq hr7.is ?_
 refine za4 (by unfold I64;omega) ?_
 rw [show ((A.length:Int)-1)=((A.length-1:Nat):Int) by omega]
 refine zac (i:=A.length-1) zjq zdr hr7.is (by omega) fun b8 o8 hA8=>?_
 refine zab zdr hA8 (Ext.refl _) fun v36 h36=>?_
 refine zab zdr hAt6 hxd2 fun v37 h37=>?_
 refine zpr h36 h37 ?_
 refine br (fun hne=>?_) (fun heq=>?_)
 · exact hpush fun h=>hne (hlast.2 h)
 have hyes:=hlast.1 (Decidable.not_not.1 heq)
 refine zaf (by omega) ?_
 refine ⟨mk-1,by omega,k+1,by omega,out,A,rfl,by omega,hx4.trans hx47,hr7.mono (Nat.le_refl _) hs47,?_⟩
 rw [List.take_succ_eq_append_getElem hk]
 exact hI.old hyes
open Classical in
noncomputable def zi8 (c:DCode) (n:Nat):List (List Nat):=(List.range n).flatMap fun n=>(zaN c).filter fun p=>decide (p.head?=some n∧zol (nxL c) p)
open Classical in
noncomputable def zeW (c:DCode) (n k:Nat):List (List Nat):=((zaN c).take k).filter fun p=>decide (p.head?=some n∧zol (nxL c) p)
theorem znA (c:DCode) (n:Nat):zi8 c (n+1)=zi8 c n++zeW c n (zaN c).length:=by
 unfold zi8 zeW
 rw [List.range_succ,List.flatMap_append,List.take_length];simp
theorem zpz {c:DCode} {n k:Nat} (hk:k<(zaN c).length) (h:(zaN c)[k].head?=some n∧zol (nxL c) (zaN c)[k]):zeW c n (k+1)=zeW c n k++[(zaN c)[k]]:=by
 unfold zeW
 rw [List.take_succ_eq_append_getElem hk,List.filter_append]
 simp [h]
theorem zrH {c:DCode} {n k:Nat} (hk:k<(zaN c).length) (h:¬((zaN c)[k].head?=some n∧zol (nxL c) (zaN c)[k])):zeW c n (k+1)=zeW c n k:=by
 unfold zeW
 rw [List.take_succ_eq_append_getElem hk,List.filter_append]
 simp [h]
theorem zpA (c:DCode) (n k:Nat):(zeW c n k).length≤k:=Nat.le_trans (List.length_filter_le _ _) (by rw [List.length_take];omega)
open Classical in
theorem zpB {c:DCode} (hc:CodeR c) (n:Nat):(zi8 c n).length≤n*6:=by
 have h6:=hc.1.locks6
 have hll:=zeB c
 have:=zhd (l:=List.range n) (B:=6) (f:=fun n=>(zaN c).filter fun p=>decide (p.head?=some n∧zol (nxL c) p)) fun a _=>Nat.le_trans (List.length_filter_le _ _) (by omega)
 rw [List.length_range] at this;exact this
theorem zmt {w W0:World} {v0:Value} {c:DCode} (h0:Is W0 v0 c) (e0:Ext W0 w) (hc:CodeR c) :
   CALL Tryz.prog 115 [v0] w fun r w'=>Ext w w'∧Own w.heap.size w' r ((zcA c).map zaI):=by
 refine F115_call ?_
 unfold F115
 have h6l:=hc.1.locks6
 refine zbS h0 e0 fun w1 hx1 hA=>?_
 refine zab zcF hA (Ext.refl _) fun v8 h8=>?_
 refine (zpy h8 (Ext.refl _) hc).mono ?_
 rintro v9 w2 ⟨hx2,A,hAI,ho2⟩
 obtain ⟨hAr,hAl⟩:=zkR hc hAI
 refine zaa zdy ?_
 refine zab zc5 (zaZ hA) hx2 fun v11 h11=>?_
 refine zae u24 h11 ?_
 refine (zps ho2.is (Ext.refl _) (by omega) hAr hAl).mono ?_
 rintro v14 w3 ⟨hx3,ho3⟩
 rw [zgF hc hAI] at ho3
 change Own w2.heap.size w3 v14 ((zaN c).map zaI) at ho3
 have hx13:=(hx1.trans hx2).trans hx3
 have hs13:=hx13.size
 have hll:=zeB c
 refine za1 (α:=List Int) u31 zbG fun a9 w4 hx4 hr4=>?_
 refine zat c.locks.length (fun n us w'=>∃ out,us=[out,.int .i64 (n:Int)]∧n≤c.locks.length∧Ext w3 w'∧RowI w3.heap.size w'.heap.size 25 w' out ((zi8 c n).map zaI)) 0 (Nat.zero_le _) ⟨_,rfl,Nat.zero_le _,hx4,zcf _ _ _ _ _⟩ ?_
 rintro n mn q w5 hnm ⟨out,hq,hnl,hx5,hr5⟩
 obtain ⟨hq1,hq2⟩:=zdY hq
 rw [hq1,hq2]
 refine zaa zdy ?_
 refine zab zc5 (zaZ hA) ((hx2.trans hx3).trans hx5) fun v18 h18=>?_
 refine zae u24 h18 ?_
 refine zah ?_
 refine br (fun hlt=>?_) (fun hge=>?_)
 case refine_2=>
   have hne:n=c.locks.length:=by omega
   rw [hne] at hr5
   exact ⟨hx13.trans hx5,hr5.own.own.mono hs13⟩
 have hn:n<c.locks.length:=by omega
 have hKl:=zpB hc n
 refine zat (zaN c).length (fun k us w'=>∃ out,us=[out,.int .i64 (k:Int)]∧k≤(zaN c).length∧Ext w3 w'∧RowI w3.heap.size w'.heap.size 25 w' out ((zi8 c n++zeW c n k).map zaI)) 0 (Nat.zero_le _) ⟨_,rfl,Nat.zero_le _,hx5,by simpa [zeW] using hr5⟩ ?_
 rintro k mk q8 w6 hkm ⟨out8,hq8,hkl,hx6,hr6⟩
 obtain ⟨hq81,hq82⟩:=zdY hq8
 rw [hq81,hq82]
 have hIl:=zpA c n k
 refine zae u31 ho3.is ?_
 rw [List.length_map]
 refine zah ?_
 refine br (fun hlt6=>?_) (fun hge6=>?_)
 case refine_2=>
   have hke:k=(zaN c).length:=by omega
   rw [hke,←znA] at hr6
   refine zaf (by omega) ?_
   exact ⟨mn-1,by omega,n+1,by omega,out8,rfl,by omega,hx6,hr6⟩
 have hk:k<(zaN c).length:=by omega
 obtain ⟨hpl,hpb⟩:=zcP (List.getElem_mem hk)
 obtain ⟨hd,hhd,hdm,hdl⟩:=zdk (List.getElem_mem hk)
 have hkm2:k<((zaN c).map zaI).length:=by rw [List.length_map];exact hk
 have hxd:=zak w6
 generalize World.drew1 w6=w7 at *
 have hx7:=hx6.trans hxd
 have hr7:=hr6.ext hxd
 have hs7:=hxd.size
 have hs36:=hx6.size
 have hpos:0<(zaI (zaN c)[k]).length:=by
   rw [zag];exact List.length_pos_of_mem hdm
 have hg0:(zaI (zaN c)[k])[0]'hpos=(hd:Int):=by
   rw [←znn (List.ne_nil_of_length_pos hpos)];exact zc2 hhd
 have hnext:¬((zaN c)[k].head?=some n∧zol (nxL c) (zaN c)[k])→∀ w8,Ext w7 w8→∃ m',m'<mk∧∃ k',k'+m'=(zaN c).length∧∃ out,[out8,Value.int .i64 ((k+1:Nat):Int)]=[out,.int .i64 (k':Int)]∧k'≤(zaN c).length∧Ext w3 w8∧RowI w3.heap.size w8.heap.size 25 w8 out ((zi8 c n++zeW c n k').map zaI):=fun h w8 hx8=>
   ⟨mk-1,by omega,k+1,by omega,out8,rfl,by omega,hx7.trans hx8,by rw [zrH hk h];exact (hr7.ext hx8).mono (Nat.le_refl _) (by have:=hx8.size;omega)⟩
 refine zac (i:=k) u31 zbG ho3.is hkm2 fun b3 o3 hA3=>?_
 rw [List.getElem_map] at hA3
 refine zab zbG hA3 hx7 fun v32 h32=>?_
 refine zac (i:=0) u25 ty3 h32 hpos fun b4 o4 hA4=>?_
 rw [hg0] at hA4
 refine zad ty3 hA4 hx7 fun _=>?_
 refine zai ?_
 refine br (fun heq=>?_) (fun hne=>?_)
 case refine_2=>
   refine zaf (by omega) ?_
   refine hnext (fun h=>hne ?_) _ (Ext.refl _)
   rw [hhd] at h
   have:=Option.some.inj h.1
   omega
 have hdn:hd=n:=by omega
 rw [hdn] at hhd
 refine zaa zdy ?_
 refine zab zc5 (zaZ hA) ((hx2.trans hx3).trans hx7) fun v39 h39=>?_
 refine zae u24 h39 ?_
 refine zac (i:=k) u31 zbG ho3.is hkm2 fun b5 o5 hA5=>?_
 rw [List.getElem_map] at hA5
 refine zab zbG hA5 hx7 fun v45 h45=>?_
 refine (zkQ ho2.is (hx3.trans hx7) h45 hx7 (by omega) hAr hAl hpb (by omega)).mono ?_
 rintro _ w8 ⟨hx8,bb,rfl,hbb⟩
 rw [zgF hc hAI] at hbb
 refine zbH (fun hy=>?_) (fun hno=>?_)
 case refine_2=>
   refine zaf (by omega) ?_
   exact hnext (fun h=>by rw [hbb.2 h.2] at hno;cases hno) _ hx8
 have hcy:=hbb.1 hy
 have hs8:=hx8.size
 refine za1 (α:=Int) u25 ty3 fun a10 w9 hx9 hr9=>?_
 have hs9:=hx9.size
 have hx39:=(hx7.trans hx8).trans hx9
 refine zac (i:=k) u31 zbG ho3.is hkm2 fun b6 o6 hA6=>?_
 rw [List.getElem_map] at hA6
 refine zab zbG hA6 hx39 fun v53 h53=>?_
 refine zgQ u25 ty3 zc3 hr9 (Nat.le_refl _) h53 hx39 (by rw [zag,zan];simp;omega) (by rw [zag];simp;omega) fun v54 w10 hc10 hr10=>?_
 rw [List.nil_append] at hr10
 have hs10:=hc10.size
 have hr10':=((hr7.ext hx8).ext hx9).chg hc10 (by omega)
 have hx3x:=hx39.chgI hc10 (by omega)
 have hsx:=hx3x.size
 refine zct (lo2:=w9.heap.size) (hi2:=w10.heap.size) (x:=zaI (zaN c)[k]) u31 zbG z25 zu7 (by decide) hr10' (by omega) hr10.own (by omega) (by omega) (by rw [List.length_map,List.length_append,zan];omega) (by rw [List.length_map,List.length_append];omega) fun v56 w11 hc11 hr11=>?_
 refine zaf (by omega) ?_
 refine ⟨mk-1,by omega,k+1,by omega,v56,rfl,by omega,hx3x.chgI hc11 (Nat.le_refl _),?_⟩
 rw [zpz hk ⟨hhd,hcy⟩,←List.append_assoc,List.map_append]
 exact hr11
theorem zi9 {w W0:World} {v0:Value} {c:DCode} (h0:Is W0 v0 c) (e0:Ext W0 w) :
   CALL Tryz.prog 56 [v0] w fun r w'=>Ext w w'∧Own w.heap.size w' r (zb5 c):=by
 refine F56_call ?_
 unfold F56
 refine zbS h0 e0 fun w1 hx1 hA=>?_
 refine zab zcF hA (Ext.refl _) fun v3 h3=>?_
 refine (zgl h3 (Ext.refl _)).mono ?_
 rintro _ w2 ⟨hx2,rfl⟩
 have hs1:=hx1.size
 have hs2:=hx2.size
 refine zaA ?_
 refine br (fun hn=>?_) (fun hy=>?_)
 · refine za1 (α:=List Int) u31 zbG fun a8 w3 hx3 hr3=>?_
   refine ⟨hx1.trans (hx2.trans hx3),?_⟩
   unfold zb5;rw [if_neg hn]
   exact hr3.own.own.mono (by have:=hx3.size;omega)
 have hc:=Decidable.not_not.1 hy
 refine zab zcF hA hx2 fun v7 h7=>?_
 refine (zmt h7 hx2 hc).mono ?_
 rintro v8 w3 ⟨hx3,ho3⟩
 refine ⟨hx1.trans (hx2.trans hx3),?_⟩
 unfold zb5;rw [if_pos hc]
 exact ho3.mono (by omega)
def F7 (a0:Value) (w:World) (R:VW):Prop:=
 cL 9 [a0] w fun x14 w=>
 BR x14
 (R (Value.bool true) w)
 (cL 10 [a0] w fun x16 w=>
 oP (Instr.alloc 28 true (.tuple #[])) w fun x3 w=>
 oS 28 x3 x16 w fun w=>
 cL 10 [a0] w fun x18 w=>
 oP (Instr.alloc 28 true (.tuple #[])) w fun x4 w=>
 oS 28 x4 x18 w fun w=>
 rL 28 x3 w fun x19=>
 cL 50 [x19] w fun x20 w=>
 rL 28 x4 w fun x21=>
 cL 51 [x21] w fun x22 w=>
 cL 52 [x20,x22] w fun x25 w=>
 rD (Op.unary .not x25) w fun x26=>
 BR x26
 (R (Value.bool false) w)
 (rL 28 x3 w fun x27=>
 cL 53 [x27] w fun x28 w=>
 rL 28 x3 w fun x30=>
 cL 54 [x30] w fun x31 w=>
 rE x31 0 w fun x32=>
 rE x31 1 w fun x33=>
 JOIN [] (fun J13=>
 rN 31 3 x28 w fun x36=>
 rB .eql 3 T0 U0 x36 (iV 0) w fun x37=>
 rB .neq 4 T0 T0 x33 x37 w fun x38=>
 BR x38
 (R (Value.bool false) w)
 (rL 28 x4 w fun x41=>
 cL 56 [x41] w fun x42 w=>
 cL 55 [x28,x42] w fun x43 w=>
 rD (Op.unary .not x43) w fun x44=>
 BR x44
 (R (Value.bool false) w)
 (GBR x33
 (rN 25 3 x32 w fun x50=>
 rF 28 x4 1 w fun x51=>
 rL 24 x51 w fun x52=>
 rN 24 3 x52 w fun x53=>
 rB .neq 3 T0 T0 x50 x53 w fun x54=>
 BR x54
 (R (Value.bool false) w)
 (J13 [] w))
 (J13 [] w)
 (BR undef
 (BR undef
 (R (Value.bool false) w)
 (J13 [] w))
 (J13 [] w))))) (fun u13 w=>
 LOOPI [10] [(iV 0)] w fun u14 w next14=>
 rN 65 3 x22 w fun x59=>
 rC (u14 10) x59 w fun x60=>
 BR x60
 (rX 65 x22 (u14 10) w fun x65=>
 rL 72 x65 w fun x66=>
 oP (Instr.alloc 72 true (.tuple #[])) w fun x11 w=>
 oS 72 x11 x66 w fun w=>
 (fun w=>rF 28 x4 4 w fun x67=>
 rL 26 x67 w fun x68=>
 rF 72 x11 2 w fun x69=>
 rL 3 x69 w fun x70=>
 rX 26 x68 x70 w fun x71=>
 rF 77 x71 0 w fun x72=>
 rL 3 x72 w fun x73=>
 rB .neq 3 T0 U0 x73 (iV 6) w fun x74=>
 BR x74
 (R (Value.bool false) w)
 (rF 28 x4 4 w fun x76=>
 rL 26 x76 w fun x77=>
 rF 72 x11 2 w fun x78=>
 rL 3 x78 w fun x79=>
 rX 26 x77 x79 w fun x80=>
 rF 77 x80 1 w fun x81=>
 rL 3 x81 w fun x82=>
 rF 72 x11 1 w fun x83=>
 rL 3 x83 w fun x84=>
 rB .neq 3 T0 T0 x82 x84 w fun x85=>
 BR x85
 (R (Value.bool false) w)
 (rL 28 x3 w fun x88=>
 rF 72 x11 2 w fun x89=>
 rL 3 x89 w fun x90=>
 rF 72 x11 0 w fun x92=>
 rL 3 x92 w fun x93=>
 (fun w_=>cL 58 [x88,x90] w_ fun x91 w=>
 Ext w_ w ∧
 cL 57 [x91,x93] w fun x94 w=>
 rD (Op.unary .not x94) w fun x95=>
 BR x95
 (R (Value.bool false) w)
 (GBR x33
 (rF 72 x11 0 w fun x101=>
 rL 3 x101 w fun x102=>
 rF 72 x11 1 w fun x105=>
 rL 3 x105 w fun x106=>
 (fun w_=>cL 59 [x32,x102] w_ fun x103 w=>
 Ext w_ w ∧
 cL 59 [x32,x106] w fun x107 w=>
 rB .leq 3 T0 T0 x103 x107 w fun x108=>
 BR x108
 (R (Value.bool false) w)
 (rA (u14 10) (iV 1) w fun x62=>
 next14 [x62] w)) w)
 (rA (u14 10) (iV 1) w fun x62=>
 next14 [x62] w)
 (BR undef
 (BR undef
 (R (Value.bool false) w)
 (rA (u14 10) (iV 1) w fun x62=>
 next14 [x62] w))
 (rA (u14 10) (iV 1) w fun x62=>
 next14 [x62] w)))) w))) (World.drew1 w))
 (LOOPI [12] [(iV 0)] w fun u20 w next20=>
 rN 31 3 x28 w fun x113=>
 rC (u20 12) x113 w fun x114=>
 BR x114
 ((fun w=>rX 31 x28 (u20 12) w fun x119=>
 rL 25 x119 w fun x120=>
 rN 25 3 x120 w fun x121=>
 rB .eql 3 T0 U0 x121 (iV 0) w fun x122=>
 BR x122
 (R (Value.bool false) w)
 (rL 28 x3 w fun x124=>
 rX 31 x28 (u20 12) w fun x127=>
 rL 25 x127 w fun x128=>
 rX 31 x28 (u20 12) w fun x133=>
 rL 25 x133 w fun x134=>
 rN 25 3 x134 w fun x135=>
 (fun w_=>cL 60 [x124,x128] w_ fun x129 w=>
 Ext w_ w ∧
 rN 25 3 x129 w fun x130=>
 rC x130 x135 w fun x136=>
 BR x136
 (R (Value.bool false) w)
 (rA (u20 12) (iV 1) w fun x116=>
 next20 [x116] w)) w)) (World.drew1 w))
 (R (Value.bool true) w)))))
def cfg7:Cfg:=⟨extL,[(13,144115170895986692,[])],[(14,2596148429267413670150060088757252,[10]),(20,348449141130892557319081783744882483924996,[12])],[(17,[0,1,2,3,4,5,6,7,8,9,10,11,12,13,14,15,16,17,18,19,20,21,22,23,25,26,24,27,28,29,30,31,32,33,34,35,37,38,39,36,40,41,42,43],68736253952),(22,[0,1,2,3,4,5,6,7,8,9,10,11,14,15,16,17,18,12,13,19,20],4096)],[],[],[]⟩
theorem F7_call {a0:Value} {w:World} {R:VW} (h:F7 a0 w R):cL 7 [a0] w R:=co (g:=cfg7) Tryz.func7 (by kernel_rfl) (by kernel_rfl) (by kernel_rfl) h
set_option maxRecDepth 20000 in
theorem zrI {w W:World} {v0:Value} {bs:List UInt8} (h0:Is W v0 bs) (e0:Ext W w):CALL Tryz.prog 7 [v0] w fun r w'=>Ext w w'∧(r=.bool true):=by
  refine F7_call ?_
  unfold F7
  refine (zu4 h0 e0).mono ?_
  rintro _ w1 ⟨hx1,rfl⟩
  refine br (fun _=>⟨hx1,rfl⟩) (fun hb=>?_)
  have hlen:bs.length≤1048576:=by omega
  have hc:=(zhc bs).1
  have hil:=(zhc bs).2
  have hw:=zo8 bs
  have hd:=fun {w2:World} (hx:Ext w w2)=>znh h0 (e0.trans hx) hlen
  generalize zcD bs=c at *
  have h6:=hc.1.locks6
  have hrl:=zpu c
  have hrkl:=znx c
  have hoL:zaJ c=zdp c:=by unfold zaJ;rw [if_pos hc]
  have hrL:zb5 c=(zcA c).map zaI:=by unfold zb5;rw [if_pos hc]
  have hok:zrM c=decide (((zb5 c).length:Int)=0):=by
    rw [hrL,List.length_map]
    by_cases h:zcA c=[]
    · simp [zrM,okR,h,hc]
    simp [zrM,okR,h]
  have hrank:zrM c=true→zeV c=zaI (ziU c)∧zcA c=[]:=fun h=>by
    have h:okR c:=by unfold zrM at h;simpa using h
    exact ⟨by unfold zeV;rw [if_pos h],h.2⟩
  refine (hd hx1).mono ?_
  rintro v16 w2 ⟨hx2,o16⟩
  refine zcc ztI rfl zcF rfl o16.is (Ext.refl _) fun w3 hx3 hA3 hV3=>?_
  have hx13:=hx1.trans (hx2.trans hx3)
  refine (hd hx13).mono ?_
  rintro v18 w4 ⟨hx4,o18⟩
  refine zcc ztI rfl zcF rfl o18.is (Ext.refl _) fun w5 hx5 hA4 hV4=>?_
  have hx35:=hx4.trans hx5
  refine zab zcF hA3 hx35 fun v19 h19=>?_
  refine (zdW h19 hx35).mono ?_
  rintro v20 w6 ⟨hx6,o20⟩
  refine zab zcF hA4 hx6 fun v21 h21=>?_
  refine (ziZ h21 hx6).mono ?_
  rintro v22 w7 ⟨hx7,o22⟩
  refine (zkT o20.is hx7 o22.is (Ext.refl _)).mono ?_
  rintro _ w8 ⟨hx8,rfl⟩
  refine zaA ?_
  refine br (fun h=>absurd rfl h) (fun _=>?_)
  have hx58:=hx6.trans (hx7.trans hx8)
  refine zab zcF hA3 (hx35.trans hx58) fun v27 h27=>?_
  refine (zi5 h27 (hx35.trans hx58)).mono ?_
  rintro v28 w9 ⟨hx9,o28⟩
  have hx59:=hx58.trans hx9
  refine zab zcF hA3 (hx35.trans hx59) fun v30 h30=>?_
  refine (zkS h30 (hx35.trans hx59)).mono ?_
  rintro _ w10 ⟨hx10,v32,rfl,o32⟩
  refine zaO rfl ?_
  refine zaO rfl ?_
  have hx510:=hx59.trans hx10
  refine JOIN.mk (fun us w'=>us=[]∧Ext w10 w') ?_ ?_
  · refine zae u31 o28.is ?_
    refine zai ?_
    refine zqc u4 ?_
    refine br (fun h=>absurd hok h) (fun _=>?_)
    refine zab zcF hA4 hx510 fun v41 h41=>?_
    refine (zi9 h41 hx510).mono ?_
    rintro v42 w11 ⟨hx11,o42⟩
    refine (zmq o28.is (hx10.trans hx11) o42.is (Ext.refl _)).mono ?_
    rintro _ w12 ⟨hx12,rfl⟩
    refine zaA ?_
    refine br (fun h=>absurd rfl h) (fun _=>?_)
    have hx1012:=hx11.trans hx12
    refine zrV (fun h=>?_) (fun h=>⟨rfl,hx1012⟩)
    refine zae u25 o32.is ?_
    refine zaa zdy ?_
    refine zab zc5 (zaZ hA4) (hx510.trans hx1012) fun v52 h52=>?_
    refine zae u24 h52 ?_
    refine zaW ?_
    refine br (fun hn=>absurd ?_ hn) (fun _=>⟨rfl,hx1012⟩)
    rw [(hrank h).1,zag,zsT]
  rintro u13 w13 ⟨-,hx13'⟩
  have hx513:=hx510.trans hx13'
  have h22:=o22.is
  have hx713:=hx8.trans (hx9.trans (hx10.trans hx13'))
  refine zat (zaJ c).length (fun k us w'=>us=[.int .i64 (k:Int)]∧Ext w13 w'∧k≤(zaJ c).length) 0 (Nat.zero_le _) ⟨rfl,Ext.refl _,Nat.zero_le _⟩ ?_
  rintro k m u w14 hkm ⟨hu,hx14,hkl⟩
  simp only [List.map_cons,List.map_nil,List.cons.injEq,and_true] at hu
  rw [hu]
  refine zae u65 h22 ?_
  refine zah ?_
  have hoLl:=ziY c
  refine br (fun hlt=>?_) (fun hge=>?_)
  · have hk:k<(zaJ c).length:=by omega
    have hmem:(zaJ c)[k]∈zdp c:=by rw [←hoL];exact List.getElem_mem hk
    obtain ⟨fr,to,i,ho,hx⟩:=(zea hc).1 hmem
    have hi:=ho.1.lt hc
    have hfr:=ho.2.2.2.locks hc
    have harg:=(zdg hc hi (.inl ho.2.1)).1
    refine zac u65 zj1 h22 hk fun b65 o65 hA65=>?_
    rw [hx] at hA65
    have hx714:=hx713.trans hx14
    refine zab zj1 hA65 hx714 fun v66 h66=>?_
    refine zcc zvf rfl zj1 rfl h66 hx714 fun w15 hx15 hA11 hV11=>?_
    have hx16:=zak w15
    have hx516:=hx513.trans (hx14.trans (hx15.trans hx16))
    refine zaa zaR ?_
    refine zab zdz (zao hA4) hx516 fun v68 h68=>?_
    refine zaa zjp ?_
    refine zad ty3 (zeQ hA11) hx16 fun hI70=>?_
    refine zac (i:=i) u26 zec h68 hi fun b71 o71 hA71=>?_
    refine zaa zbM ?_
    refine zad ty3 (zax hA71) hx516 fun hI73=>?_
    rw [zaS hi]
    refine zaW ?_
    refine br (fun h=>absurd ho.2.1 h) (fun _=>?_)
    refine zaa zaR ?_
    refine zab zdz (zao hA4) hx516 fun v77 h77=>?_
    refine zaa zjp ?_
    refine zad ty3 (zeQ hA11) hx16 fun hI79=>?_
    refine zac (i:=i) u26 zec h77 hi fun b80 o80 hA80=>?_
    refine zaa zcW ?_
    refine zad ty3 (zaX hA80) hx516 fun hI82=>?_
    rw [zaS hi,harg,ho.2.2.1]
    refine zaa zh4 ?_
    refine zad ty3 (zdU hA11) hx16 fun hI84=>?_
    refine zaW ?_
    refine br (fun h=>absurd rfl h) (fun _=>?_)
    refine zab zcF hA3 (hx35.trans hx516) fun v88 h88=>?_
    refine zaa zjp ?_
    refine zad ty3 (zeQ hA11) hx16 fun hI90=>?_
    refine zaa zh3 ?_
    refine zad ty3 (zdT hA11) hx16 fun hI93=>?_
    refine (zmr (i:=i) h88 (hx35.trans hx516) hc hi).mono ?_
    rintro _ w17 ⟨hx17,rfl⟩
    refine ⟨hx17,?_⟩
    refine (zms (i:=fr) zt5 (by omega)).mono ?_
    rintro _ w18 ⟨hx18,rfl⟩
    rw [zqS.2 ⟨by omega,ho.2.2.2⟩]
    refine zaC ?_
    refine zbH (fun h=>by cases h) (fun _=>?_)
    have hx1318:=hx14.trans (hx15.trans (hx16.trans (hx17.trans hx18)))
    refine zrV (fun hT=>?_) (fun hF=>?_)
    · have hx1518:=hx16.trans (hx17.trans hx18)
      refine zaa zh3 ?_
      refine zad ty3 (zdT hA11) hx1518 fun hI102=>?_
      refine zaa zh4 ?_
      refine zad ty3 (zdU hA11) hx1518 fun hI106=>?_
      refine (zoy o32.is (hx13'.trans hx1318)).mono ?_
      rintro _ w19 ⟨hx19,rfl⟩
      refine ⟨hx19,?_⟩
      refine (zoy o32.is (hx13'.trans (hx1318.trans hx19))).mono ?_
      rintro _ w20 ⟨hx20,rfl⟩
      refine zdv ?_
      have hrb:=znz hc (hrank hT).2 hmem
      rw [hx,←(hrank hT).1] at hrb
      refine br (fun h=>absurd h (by omega)) (fun _=>?_)
      refine zaf (by omega) ?_
      exact ⟨m-1,by omega,k+1,by omega,rfl,hx1318.trans (hx19.trans hx20),by omega⟩
    refine zaf (by omega) ?_
    exact ⟨m-1,by omega,k+1,by omega,rfl,hx1318,by omega⟩
  have h28:=o28.is
  have hx914:=hx10.trans (hx13'.trans hx14)
  refine zat (zb5 c).length (fun k us w'=>us=[.int .i64 (k:Int)]∧Ext w14 w'∧k≤(zb5 c).length) 0 (Nat.zero_le _) ⟨rfl,Ext.refl _,Nat.zero_le _⟩ ?_
  rintro k2 m2 u2 w21 hkm2 ⟨hu,hx21,hkl2⟩
  simp only [List.map_cons,List.map_nil,List.cons.injEq,and_true] at hu
  rw [hu]
  refine zae u31 h28 ?_
  refine zah ?_
  have hxw:=hx13.trans (hx35.trans (hx513.trans (hx14.trans hx21)))
  refine br (fun hlt2=>?_) (fun hge2=>⟨hxw,rfl⟩)
  have hk2:k2<(zb5 c).length:=by omega
  obtain ⟨p,hp,hpe⟩:∃ p∈zcA c,zaI p=(zb5 c)[k2]:=by
    have hm:(zb5 c)[k2]∈(zcA c).map zaI:=by rw [←hrL];exact List.getElem_mem hk2
    exact List.mem_map.1 hm
  have hpi:=zl5 hp
  have hpl:((zb5 c)[k2]).length=p.length:=by rw [←hpe,zag]
  have hpp:0<p.length:=List.length_pos_iff.2 hpi.2.2
  have hask:=zny hc hp
  rw [hpe] at hask
  have hx22:=zak w21
  have hx922:=hx914.trans (hx21.trans hx22)
  refine zac u31 zbG h28 hk2 fun b119 o119 hA119=>?_
  refine zab zbG hA119 hx922 fun v120 h120=>?_
  refine zae u25 h120 ?_
  refine zai ?_
  refine br (fun h=>absurd h (by omega)) (fun _=>?_)
  have hx522:=hx513.trans (hx14.trans (hx21.trans hx22))
  refine zab zcF hA3 (hx35.trans hx522) fun v124 h124=>?_
  refine zac u31 zbG h28 hk2 fun b127 o127 hA127=>?_
  refine zab zbG hA127 hx922 fun v128 h128=>?_
  refine zac u31 zbG h28 hk2 fun b133 o133 hA133=>?_
  refine zab zbG hA133 hx922 fun v134 h134=>?_
  refine zae u25 h134 ?_
  refine (zje h124 (hx35.trans hx522) h128 hx922 hw).mono ?_
  rintro v129 w23 ⟨hx23,o129⟩
  refine ⟨hx23,?_⟩
  refine zae u25 o129.is ?_
  refine zah ?_
  refine br (fun h=>absurd h (by omega)) (fun _=>?_)
  refine zaf (by omega) ?_
  exact ⟨m2-1,by omega,k2+1,by omega,rfl,hx21.trans (hx22.trans hx23),by omega⟩
theorem zsU {P:Program} {t:TypeId} (ht:P.underlying t=some (.int .u8)) (n:Nat):zk4 P t UInt8 n:=by
 intro H enc w spare held cs y h
 obtain ⟨m,rfl,_,hw⟩:=DataW.trod_int ht h
 have hm:0≤m∧m≤255:=by simpa [Lit.wf,IntKind.min,IntKind.max,IntKind.signed,IntKind.bits] using hw
 refine ⟨[],UInt8.ofNat m.toNat,rfl,?_⟩
 have:((UInt8.ofNat m.toNat).toNat:Int)=m:=by
   have:(UInt8.ofNat m.toNat).toNat=m.toNat:=by simp;omega
   omega
 rw [this]
theorem zum:∀ n,zk4 Tryz.prog 22 (List UInt8) n:=zh0 u22 (by kernel_rfl) (zsU u5)
end Go.Proofs.YtbnjpfjjmhodnaaGreat
namespace Go.Proofs.YtbnjpfjjmhodnaaGreat
open Go
theorem zbp {a b:Bool} (h:a=true) (k:b=true):(a&&b)=true:=by rw [h,k];rfl
theorem zun:laidOutB Tryz.prog=true:=by kernel_rfl
theorem zuo:mapsRowed Tryz.prog=true:=by kernel_rfl
theorem zsV:(Rows.fnMachinesRow.plainKeys == Tryz.prog.plainKeys)=true:=by kernel_rfl
theorem zsW:Tryz.prog.stopsHeard=true:=by kernel_rfl
theorem zu5:Tryz.prog.mayEnter=true:=by kernel_rfl
theorem zup:(Rows.fnMachinesRow.lifted == Tryz.prog.liftsFinal)=true:=by kernel_rfl
theorem zuq:(Tryz.prog.make == some Rows.fnMachinesRow.make)=true:=by kernel_rfl
end Go.Proofs.YtbnjpfjjmhodnaaGreat
namespace Go.Proofs.YtbnjpfjjmhodnaaGreat.fnOrders
open Go.ChangeShapes Go.WideShapes Go.ChangeAt Go.RowKit Go.Sh
theorem own:ownKnob Tryz.prog.godebug=none:=by kernel_rfl
theorem zur:laidOutB Tryz.prog=true:=by kernel_rfl
set_option maxRecDepth 100000 in
theorem lifted (os:Os) (started:os.Started) (H:Type) (enc:TypeId×Value→H) :
    ReturnsInHanded {} Tryz.checked os 7 .any (Rows.fnOrdersSpec.pre6 enc Tryz.prog Tryz.f7 Rows.fnOrdersRow.domain false) (Rows.fnOrdersSpec.post enc Tryz.prog Tryz.f7 false true false false):=by
  refine returnsInHanded_of_change (C:=Tryz.checked) own started (by kernel_rfl) Tryz.func7
    (ChangeSpec.witness6 (enc:=enc) (C:=Tryz.checked) false ⟨#[],#[.slice none 0 0],[]⟩ 8 (by kernel_rfl) (by kernel_rfl) (by kernel_rfl) (by kernel_rfl)) ?_
  intro W base args ds gs before hval0 hW hcnd _
  have hval:∀ (j:Nat) t v,Tryz.f7.params[j]?=some t→args[j]?=some v→Value.okWide Tryz.prog W .any base t v:=hval0
  have hW':=hW
  obtain ⟨p,q,hA0,hV,rfl,hfz,hnd⟩:=hW
  have hA:DataW.TrodAll enc Tryz.prog W 0 (fun _=>true) true Tryz.f7.params.toList args.toList ds p:=hA0
  rw [Tryz.params7] at hA hval
  obtain ⟨v0,vs0,d0,ds0,p0,q0,hargs,rfl,rfl,h0,r0⟩:=trodAll_cons hA
  obtain ⟨rfl,rfl,rfl⟩:=trodAll_nil r0
  obtain rfl:args=#[v0]:=by cases args;simp_all
  obtain ⟨rfl,rfl⟩:=trodVars_none hV
  have lt0:∀ x∈p0,x.block<W.heap.size:=by obtain ⟨m,hm⟩:=h0;exact DataW.trod_lt m _ _ _ hm
  obtain ⟨x0,i0⟩:=zmK (α:=UInt8) u22 zum (hval 0 22 v0 rfl rfl) h0
  clear hA0 hval0
  obtain ⟨hcall⟩:=zrI i0 (Ext.refl W)
  refine hcall.mono fun e W' ⟨v,he,bel,hv⟩=>?_
  subst he hv
  exact ⟨_,rfl,_,_,_,[],_,[],hW',trodAll_mk1 (shut_bool Tryz.underlying4 _),(trodAll_cons_mk (Below.trod zur (by kernel_rfl) (of_decide_eq_true (by kernel_rfl)) h0 bel lt0) trodAll_mk0),rfl,bel.frame _,fun h=>by cases h⟩
theorem zrJ:(Rows.fnOrdersRow.inPlace == Tryz.prog.inPlace 7)=true:=by kernel_rfl
theorem zmu:(Rows.fnOrdersRow.unfollowed == Tryz.prog.unfollowed 7)=true:=by kernel_rfl
theorem zpC:(Rows.fnOrdersRow.recurses == Tryz.prog.recurses 7)=true:=by kernel_rfl
theorem zus:(Rows.fnOrdersRow.named == Tryz.prog.varsNamed 7)=true:=by kernel_rfl
theorem closed:joinedFacts Tryz.prog 7 Tryz.f7 Rows.fnOrdersSpec Rows.fnOrdersRow=true:=by
 unfold joinedFacts
 exact (zbp (zbp (zbp (zbp (zbp (zbp (zbp (zbp (zbp (zbp (zbp (zbp (zbp (zbp (zbp (zbp (zbp (zbp (zbp (zbp (zbp (zbp (zbp (zbp (zbp (zbp (zbp (zbp (zbp (zbp (zbp (by kernel_rfl) zun) zuo) (by kernel_rfl)) (by kernel_rfl)) (by kernel_rfl)) (by kernel_rfl)) (by kernel_rfl)) (by kernel_rfl)) zrJ) zmu) zpC) zus) (by kernel_rfl)) (by kernel_rfl)) (by kernel_rfl)) (by kernel_rfl)) (by kernel_rfl)) (by kernel_rfl)) (by kernel_rfl)) (by kernel_rfl)) (by kernel_rfl)) zsV) (by kernel_rfl)) zsW) zu5) zup) zuq) (by kernel_rfl)) (by kernel_rfl)) (by kernel_rfl)) (by kernel_rfl))
theorem over:Rows.fnOrdersRow.holds Tryz.pinned (OpenSpec.ofChange Rows.fnOrdersSpec):=
 OpenClaim.holds_of_wide 7 Tryz.f7 rfl rfl rfl rfl rfl rfl rfl ⟨rfl,rfl,rfl,rfl,rfl⟩ rfl rfl rfl rfl rfl (by kernel_rfl) Tryz.func7 closed
   (of_decide_eq_true (by kernel_rfl)) (by unfold Func.isWrapper;first | (rw [if_pos (by decide +kernel)];kernel_rfl) | (rw [if_neg (by decide +kernel)];exact ⟨rfl,rfl⟩))
   (fun os started H enc _=>lifted os started H enc)
theorem proved:Rows.FnOrdersSaid:=over
end Go.Proofs.YtbnjpfjjmhodnaaGreat.fnOrders
