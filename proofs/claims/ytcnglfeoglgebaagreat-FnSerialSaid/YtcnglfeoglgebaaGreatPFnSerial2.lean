/-
  Parts of the proof, put together by program.
-/
import Derived.Test.YtcnglfeoglgebaaGreatPFnSerial1
set_option linter.unusedVariables false
set_option linter.unusedSimpArgs false
set_option linter.unusedSectionVars false
namespace Go.Proofs.YtcnglfeoglgebaaGreat
open Go Go.Sh Go.Proofs
open Rep (rep)
theorem zt1 {P:Program} {w:World} {K:Value→Prop} {t:TypeId} {x y:Operand} {a b:Bool} (ht:P.underlying t=some .bool) (k:K (.bool (decide (a≠b)))):RD P (bin .neq t x y (.bool a) (.bool b)) w K:=
 zaQ (fun w' _=>by
   have:=run_neq_bool (P:=P) w' t a b ht
   cases a<;>cases b<;>simp_all [bin,eqGuard]) k
def sm {α:Type} (f:α→Nat) (l:List α):Nat:=(l.map f).sum
theorem zva {α:Type} (f:α→Nat) {l:List α} {x:α} (h:x∈l):f x≤sm f l:=by
 unfold sm
 induction l with
 | nil=>cases h
 | cons y l ih=>
   rw [List.map_cons,List.sum_cons]
   rcases List.mem_cons.1 h with rfl | h
   · omega
   have:=ih h;omega
def F197 (a0 a1 a2:Value) (w:World) (R:VW):Prop:=
 rB .geq 3 T0 T0 a0 a1 w fun x9=>
 BR x9
 (rB .leq 3 T0 T0 a0 a2 w fun x13=>
 R x13 w)
 (R (Value.bool false) w)
def cfg197:Cfg:=⟨extL,[],[],[],[],[],[]⟩
theorem F197_call {a0 a1 a2:Value} {w:World} {R:VW} (h:F197 a0 a1 a2 w R):cL 197 [a0,a1,a2] w R:=co (g:=cfg197) Tryz.func197 (by kernel_rfl) (by kernel_rfl) (by kernel_rfl) h
theorem zfC {w:World} {a:Int} {b:Int} {c:Int}    :
   CALL Tryz.prog 197 [.int .i64 a,.int .i64 b,.int .i64 c] w fun r w'=>Ext w w'∧(r=.bool (decide (b≤a∧a≤c))):=by
 refine F197_call ?_
 unfold F197
 refine zb5 ?_
 refine br (fun c1=>?_) (fun c1=>?_)
 · refine zdD ?_
   refine ⟨Ext.refl w,?_⟩
   simp [c1]
 refine ⟨Ext.refl w,?_⟩
 simp [c1]
def zeb (s:DState) (t:Int):Int:=if h:0≤t∧t.toNat<s.stacks.length then (s.stacks[t.toNat]'h.2).getLastD (-1) else -1
theorem ziu {l:List Int} (h:l≠[]) (hi:((l.length:Int)-1).toNat<l.length):l[((l.length:Int)-1).toNat]'hi=l.getLastD (-1):=by
 have e:((l.length:Int)-1).toNat=l.length-1:=by omega
 simp only [e]
 rw [List.getLastD_eq_getLast?,List.getLast?_eq_getElem?,List.getElem?_eq_getElem (by omega)]
 rfl
def F168 (a0 a1:Value) (w:World) (R:VW):Prop:=
 oP (Instr.box 46 a0) w fun x2 w=>
 rF 46 x2 2 w fun x6=>
 rL 44 x6 w fun x7=>
 rN 44 3 x7 w fun x8=>
 rB .sub 3 T0 U0 x8 (iV 1) w fun x9=>
 cL 197 [a1,(iV 0),x9] w fun x10 w=>
 rD (Op.unary .not x10) w fun x11=>
 BR x11
 (R (iV (-1)) w)
 (rF 46 x2 2 w fun x13=>
 rL 44 x13 w fun x14=>
 rX 44 x14 a1 w fun x16=>
 rL 33 x16 w fun x17=>
 rN 33 3 x17 w fun x18=>
 rB .eql 3 T0 U0 x18 (iV 0) w fun x19=>
 BR x19
 (R (iV (-1)) w)
 ((fun w=>rF 46 x2 2 w fun x21=>
 rL 44 x21 w fun x22=>
 rX 44 x22 a1 w fun x24=>
 rL 33 x24 w fun x25=>
 rF 46 x2 2 w fun x26=>
 rL 44 x26 w fun x27=>
 rX 44 x27 a1 w fun x29=>
 rL 33 x29 w fun x30=>
 rN 33 3 x30 w fun x31=>
 rB .sub 3 T0 U0 x31 (iV 1) w fun x32=>
 rX 33 x25 x32 w fun x33=>
 rL 3 x33 w fun x34=>
 R x34 w) (World.drew1 w)))
def cfg168:Cfg:=⟨extL,[],[],[(3,[0,1,2,3,4,5,6,7,8,9,10,11,12,13,14],0)],[],[],[]⟩
theorem F168_call {a0 a1:Value} {w:World} {R:VW} (h:F168 a0 a1 w R):cL 168 [a0,a1] w R:=co (g:=cfg168) Tryz.func168 (by kernel_rfl) (by kernel_rfl) (by kernel_rfl) h
theorem zmR {w:World} {v0:Value} {W0:World} {s:DState} {t:Int}  (h0:Is W0 v0 s) (e0:Ext W0 w)  :
   CALL Tryz.prog 168 [v0,.int .i64 t] w fun r w'=>Ext w w'∧(r=.int .i64 (zeb s t)):=by
 refine F168_call ?_
 unfold F168
 refine zaz zck rfl h0 e0 fun w1_ hx1_ hA2 hV2=>?_
 refine zaa za6 ?_
 refine zab zes (zaN hA2) (Ext.refl w1_) fun v7 h7=>?_
 have hln8:=zah h7
 refine zae u44 h7 ?_
 refine za3 (by unfold I64;omega) ?_
 refine (zfC ).mono ?_
 rintro _ w2_ ⟨hx2_,rfl⟩
 refine zaS ?_
 refine br (fun c1=>?_) (fun c1=>?_)
 · refine ⟨(hx1_.trans hx2_),?_⟩
   unfold zeb
   rw [dif_neg (by omega)]
 refine zaa za6 ?_
 refine zab zes (zaN hA2) hx2_ fun v14 h14=>?_
 refine zav u44 za1 h14 (by omega) (by omega) fun b16 o16 h16=>?_
 refine zab za1 h16 hx2_ fun v17 h17=>?_
 have hln18:=zah h17
 refine zae u33 h17 ?_
 refine zaf ?_
 refine br (fun c2=>?_) (fun c2=>?_)
 · refine ⟨(hx1_.trans hx2_),?_⟩
   unfold zeb
   rw [dif_pos (by omega)]
   have:s.stacks[t.toNat]'(by omega)=[]:=List.eq_nil_of_length_eq_zero (by omega)
   rw [this];rfl
 have hx3_:=zak w2_
 refine zaa za6 ?_
 refine zab zes (zaN hA2) (hx2_.trans hx3_) fun v22 h22=>?_
 refine zav u44 za1 h22 (by omega) (by omega) fun b24 o24 h24=>?_
 refine zab za1 h24 (hx2_.trans hx3_) fun v25 h25=>?_
 refine zaa za6 ?_
 refine zab zes (zaN hA2) (hx2_.trans hx3_) fun v27 h27=>?_
 refine zav u44 za1 h27 (by omega) (by omega) fun b29 o29 h29=>?_
 refine zab za1 h29 (hx2_.trans hx3_) fun v30 h30=>?_
 have hln31:=zah h30
 refine zae u33 h30 ?_
 refine za3 (by unfold I64;omega) ?_
 refine zav u33 ty3 h25 (by omega) (by omega) fun b33 o33 h33=>?_
 refine zac ty3 h33 (hx2_.trans hx3_) fun hI34=>?_
 refine ⟨(hx1_.trans (hx2_.trans hx3_)),?_⟩
 unfold zeb
 rw [dif_pos (by omega)]
 rw [ziu (fun e=>by rw [e] at c2;simp at c2)]
def F71 (a0 a1:Value) (w:World) (R:VW):Prop:=
 oP (Instr.box 46 a0) w fun x2 w=>
 rB .lss 3 T0 U0 a1 (iV 0) w fun x6=>
 BR x6
 (R (iV (-1)) w)
 (rF 46 x2 2 w fun x9=>
 rL 44 x9 w fun x10=>
 rN 44 3 x10 w fun x11=>
 rB .geq 3 T0 T0 a1 x11 w fun x12=>
 BR x12
 (R (iV (-1)) w)
 (rF 46 x2 2 w fun x15=>
 rL 44 x15 w fun x16=>
 rX 44 x16 a1 w fun x18=>
 rL 33 x18 w fun x19=>
 rN 33 3 x19 w fun x20=>
 rB .eql 3 T0 U0 x20 (iV 0) w fun x21=>
 BR x21
 (R (iV (-1)) w)
 ((fun w=>rF 46 x2 2 w fun x23=>
 rL 44 x23 w fun x24=>
 rX 44 x24 a1 w fun x26=>
 rL 33 x26 w fun x27=>
 rF 46 x2 2 w fun x28=>
 rL 44 x28 w fun x29=>
 rX 44 x29 a1 w fun x31=>
 rL 33 x31 w fun x32=>
 rN 33 3 x32 w fun x33=>
 rB .sub 3 T0 U0 x33 (iV 1) w fun x34=>
 rX 33 x27 x34 w fun x35=>
 rL 3 x35 w fun x36=>
 R x36 w) (World.drew1 w))))
def cfg71:Cfg:=⟨extL,[],[],[(3,[0,1,2,3,4,5,6,7,8,9,10,11,12,13,14],0)],[],[],[]⟩
theorem F71_call {a0 a1:Value} {w:World} {R:VW} (h:F71 a0 a1 w R):cL 71 [a0,a1] w R:=co (g:=cfg71) Tryz.func71 (by kernel_rfl) (by kernel_rfl) (by kernel_rfl) h
theorem zmS {w:World} {v0:Value} {W0:World} {s:DState} {t:Int}  (h0:Is W0 v0 s) (e0:Ext W0 w)  :
   CALL Tryz.prog 71 [v0,.int .i64 t] w fun r w'=>Ext w w'∧(r=.int .i64 (zeb s t)):=by
 refine F71_call ?_
 unfold F71
 refine zaz zck rfl h0 e0 fun w1_ hx1_ hA2 hV2=>?_
 refine zai ?_
 refine br (fun c1=>?_) (fun c1=>?_)
 · refine ⟨hx1_,?_⟩
   unfold zeb
   rw [dif_neg (by omega)]
 refine zaa za6 ?_
 refine zab zes (zaN hA2) (Ext.refl w1_) fun v10 h10=>?_
 have hln11:=zah h10
 refine zae u44 h10 ?_
 refine zb5 ?_
 refine br (fun c2=>?_) (fun c2=>?_)
 · refine ⟨hx1_,?_⟩
   unfold zeb
   rw [dif_neg (by omega)]
 refine zaa za6 ?_
 refine zab zes (zaN hA2) (Ext.refl w1_) fun v16 h16=>?_
 refine zav u44 za1 h16 (by omega) (by omega) fun b18 o18 h18=>?_
 refine zab za1 h18 (Ext.refl w1_) fun v19 h19=>?_
 have hln20:=zah h19
 refine zae u33 h19 ?_
 refine zaf ?_
 refine br (fun c3=>?_) (fun c3=>?_)
 · refine ⟨hx1_,?_⟩
   unfold zeb
   rw [dif_pos (by omega)]
   have:s.stacks[t.toNat]'(by omega)=[]:=List.eq_nil_of_length_eq_zero (by omega)
   rw [this];rfl
 have hx2_:=zak w1_
 refine zaa za6 ?_
 refine zab zes (zaN hA2) hx2_ fun v24 h24=>?_
 refine zav u44 za1 h24 (by omega) (by omega) fun b26 o26 h26=>?_
 refine zab za1 h26 hx2_ fun v27 h27=>?_
 refine zaa za6 ?_
 refine zab zes (zaN hA2) hx2_ fun v29 h29=>?_
 refine zav u44 za1 h29 (by omega) (by omega) fun b31 o31 h31=>?_
 refine zab za1 h31 hx2_ fun v32 h32=>?_
 have hln33:=zah h32
 refine zae u33 h32 ?_
 refine za3 (by unfold I64;omega) ?_
 refine zav u33 ty3 h27 (by omega) (by omega) fun b35 o35 h35=>?_
 refine zac ty3 h35 hx2_ fun hI36=>?_
 refine ⟨(hx1_.trans hx2_),?_⟩
 unfold zeb
 rw [dif_pos (by omega)]
 rw [ziu (fun e=>by rw [e] at c3;simp at c3)]
theorem zmT:zbU Tryz.prog 46=some [.slice none 0 0,.slice none 0 0,.slice none 0 0]:=by kernel_rfl
end Go.Proofs.YtcnglfeoglgebaaGreat
namespace Go.Sh
open Rep (rep)
def zlq (P:Program) (t:TypeId) (α:Type) [Rep α] (n:Nat):Prop:=
 ∀ (H:Type) (enc:TypeId×Value→H) (w:World) (spare:Nat→Bool) (held:Bool) (cs:List Value) (y:DataW H×List MemPlace),DataW.trod enc P w 0 spare held n t cs=some y→∃ F x,rep F w cs (x:α)
section
variable {P:Program} {t:TypeId}
theorem zlr {α β:Type} {f:α→Option β}:∀ {l:List α} {r:List β},l.mapM f=some r→l.length=r.length∧∀ (i:Nat) x,l[i]?=some x→∃ y,f x=some y∧r[i]?=some y
 | [],r,h=>by simp at h;subst h;simp
 | a :: l,r,h=>by
   simp only [List.mapM_cons,Option.pure_def,Option.bind_eq_bind,Option.bind_eq_some_iff,Option.some.injEq] at h
   obtain ⟨b,hb,bs,hbs,rfl⟩:=h
   obtain ⟨h1,h2⟩:=zlr hbs
   refine ⟨by simp [h1],fun i x hx=>?_⟩
   cases i with
   | zero=>simp at hx;subst hx;exact ⟨b,hb,by simp⟩
   | succ i=>obtain ⟨y,hy,hr⟩:=h2 i x (by simpa using hx);exact ⟨y,hy,by simpa using hr⟩
theorem zmU {w:World} {a:Addr} {n:Nat} {cs:List Value} (h:w.cells? 0 a n=some cs):cs.length=n∧∀ j v,cs[j]?=some v→w.cell? (a.add j)=some v:=by
 unfold World.cells? at h
 simp only [Nat.zero_le,if_true] at h
 obtain ⟨h1,h2⟩:=zlr h
 simp only [List.length_range] at h1
 refine ⟨h1.symm,fun j v hv=>?_⟩
 have hj:j<cs.length:=(List.getElem?_eq_some_iff.1 hv).1
 obtain ⟨y,hy,hr⟩:=h2 j j (by rw [List.getElem?_range (by omega)])
 rw [hr] at hv
 cases hv
 exact hy
theorem zqi {w:World} {a:Addr} {v:Value} (h:w.cell? a=some v):a.spot=none:=by
 unfold World.cell? at h
 split at h
 · split at h
   · cases h
   rename_i hs;simpa using hs
 cases h
theorem zls {α:Type} [Rep α] {w:World} {b o:Nat}:∀ (n:Nat),(∀ i,i<n→∃ (cs:List Value) (F:List Nat) (x:α),w.rangeAt b (o+i*Rep.size α) cs∧rep F w cs x) →
   ∃ (F:List Nat) (xs:List Value) (l:List α),l.length=n∧Cells F w xs l∧w.rangeAt b o xs
 | 0,_=>⟨[],[],[],rfl,⟨rfl,rfl⟩,fun j v hv=>by simp at hv⟩
 | n+1,h=>by
   obtain ⟨F,xs,l,hl,hc,hr⟩:=zls n fun i hi=>h i (by omega)
   obtain ⟨cs,G,x,hra,hx⟩:=h n (by omega)
   refine ⟨F++G,xs++cs,l++[x],by simp [hl],Cells.append hc (Cells.single hx),?_⟩
   intro j v hv
   have hlen:=Cells.len hc
   rw [hl] at hlen
   rcases Nat.lt_or_ge j xs.length with hj | hj
   · rw [List.getElem?_append_left hj] at hv;exact hr j v hv
   rw [List.getElem?_append_right hj] at hv
   have:=hra (j-xs.length) v hv
   rwa [show o+n*Rep.size α+(j-xs.length)=o+j by omega] at this
theorem zmV {e:TypeId} {α:Type} [Rep α] {n:Nat} (ht:P.underlying t=some (.slice e)) (hc:P.cellsOf e=Rep.size α) (he:zlq P e α n):zlq P t (List α) (n+1):=by
 intro H enc w spare held cs y h
 rcases DataW.trod_slice ht h with ⟨rfl,_⟩ | ⟨a,len,cap,elems,rest,m,hm,rfl,_,_,h1,h2,h3,h4,_⟩
 · exact ⟨[],[],none,0,[],[],rfl,Nat.le_refl _,Nat.zero_le _,⟨rfl,rfl⟩,.inl ⟨rfl,rfl⟩⟩
 obtain rfl:m=n:=by omega
 by_cases h0:len=0
 · subst h0
   exact ⟨[],[],some a,cap,[],[],rfl,Nat.zero_le _,h2,⟨rfl,rfl⟩,.inl ⟨rfl,rfl⟩⟩
 have key:∀ i,i<len→∃ (cs:List Value) (F:List Nat) (x:α),cs.length=Rep.size α∧(∀ j v,cs[j]?=some v→w.cell? ((a.add (i*P.cellsOf e)).add j)=some v)∧rep F w cs x:=by
   intro i hi
   have hy:=h4 i hi
   rw [List.getElem?_eq_getElem (by omega)] at hy
   obtain ⟨cs,hcs,hy⟩:=Option.bind_eq_some_iff.1 hy
   obtain ⟨F,x,hx⟩:=he H enc w spare held cs _ hy
   obtain ⟨hl,hcell⟩:=zmU hcs
   exact ⟨cs,F,x,by rw [hl,hc],hcell,hx⟩
 have hsp:a.spot=none:=by
   obtain ⟨cs,F,x,hl,hcell,_⟩:=key 0 (by omega)
   have hp:=Rep.pos (α:=α)
   have:=hcell 0 (cs[0]'(by omega)) (by rw [List.getElem?_eq_getElem])
   simpa [Addr.add] using zqi this
 obtain ⟨b,o,sp⟩:=a
 simp only at hsp
 subst hsp
 obtain ⟨F,xs,l,hl,hC,hR⟩:=zls (α:=α) (w:=w) (b:=b) (o:=o) len fun i hi=>by
   obtain ⟨cs,F,x,_,hcell,hx⟩:=key i hi
   refine ⟨cs,F,x,fun j v hv=>?_,hx⟩
   have:=hcell j v hv
   rw [hc] at this
   rwa [Addr.add_mid,Addr.add_mid] at this
 have hb:b<w.heap.size:=zfA hR (by rw [Cells.len hC,hl];exact Nat.mul_pos (by omega) Rep.pos)
 subst hl
 exact ⟨b :: F,l,some ⟨b,o,none⟩,cap,F,xs,rfl,h1,h2,hC,.inr ⟨b,o,rfl,rfl,hR,hb⟩⟩
theorem zo9 {α:Type} [Rep α]:zlq P t α 0:=by intro H enc w spare held cs y h;simp [DataW.trod] at h
theorem ziv {e:TypeId} {α:Type} [Rep α] (ht:P.underlying t=some (.slice e)) (hc:P.cellsOf e=Rep.size α) (he:∀ n,zlq P e α n):∀ n,zlq P t (List α) n
 | 0=>zo9
 | n+1=>zmV ht hc (he n)
theorem zmW {e:TypeId} {α:Type} [Rep α] {H:Type} {enc:TypeId×Value→H} {w W:World} {r:Reach} {b0:Nat} {spare:Nat→Bool} {held:Bool} {v:Value} {d:DataW H} {p:List MemPlace} (ht:P.underlying t=some (.slice e)) (hr:∀ n,zlq P t (List α) n) (hv:Value.okWide P W r b0 t v)
   (h:DataW.Trod enc P w 0 spare held t v d p):∃ x:List α,Is w v x:=by
 obtain ⟨a,len,cap,rfl⟩:=WideShapes.okWide_slice ht hv
 obtain ⟨n,hn⟩:=h
 obtain ⟨F,x,hx⟩:=hr n H enc w spare held _ _ hn
 exact ⟨x,F,_,hx,rfl⟩
end
end Go.Sh
namespace Go.Sh
open Rep (rep)
inductive DTerm where
 | mk (kind num:Int) (name:ByteArray) (kids:List DTerm)
namespace DTerm
def kind:DTerm→Int | .mk k _ _ _=>k
def num:DTerm→Int | .mk _ n _ _=>n
def name:DTerm→ByteArray | .mk _ _ s _=>s
def kids:DTerm→List DTerm | .mk _ _ _ l=>l
def tup (t:DTerm):Int×Int×ByteArray×List DTerm:=(t.kind,t.num,t.name,t.kids)
end DTerm
theorem DTerm.eta (t:DTerm):DTerm.mk t.kind t.num t.name t.kids=t:=by cases t;rfl
theorem DTerm.ext_iff {x y:DTerm}:x=y↔(x.kind=y.kind∧x.num=y.num∧x.name=y.name∧x.kids=y.kids):=by
 constructor
 · intro h;rw [h];exact ⟨rfl,rfl,rfl,rfl⟩
 rintro ⟨h1,h2,h3,h4⟩
 rw [←DTerm.eta x,←DTerm.eta y,h1,h2,h3,h4]
theorem DTerm.kid_lt {t k:DTerm} (h:k∈t.kids):SizeOf.sizeOf k<SizeOf.sizeOf t:=by
 cases t with
 | mk a b c l=>
   have:k∈l:=h
   have:=List.sizeOf_lt_of_mem this
   simp only [DTerm.mk.sizeOf_spec];omega
theorem DTerm.ind {p:DTerm→Prop} (h:∀ t,(∀ k∈t.kids,p k)→p t) (t:DTerm):p t:=
  h t fun k hk=>DTerm.ind h k
termination_by SizeOf.sizeOf t
decreasing_by exact DTerm.kid_lt hk
mutual
def DTerm.beq:DTerm→DTerm→Bool
  | .mk a b c l,.mk a' b' c' l'=>decide (a=a')&&decide (b=b')&&decide (c=c')&&DTerm.beqL l l'
def DTerm.beqL:List DTerm→List DTerm→Bool
  | [],[]=>true
  | x :: l,y :: m=>DTerm.beq x y&&DTerm.beqL l m
  | _,_=>false
end
mutual
theorem DTerm.beq_iff:∀ (x y:DTerm),DTerm.beq x y=true↔x=y
  | .mk a b c l,.mk a' b' c' l'=>by
    simp only [DTerm.beq,Bool.and_eq_true,decide_eq_true_eq,DTerm.mk.injEq,DTerm.beqL_iff l l',and_assoc]
theorem DTerm.beqL_iff:∀ (x y:List DTerm),DTerm.beqL x y=true↔x=y
  | [],[]=>by simp [DTerm.beqL]
  | [],y :: m=>by simp [DTerm.beqL]
  | x :: l,[]=>by simp [DTerm.beqL]
  | x :: l,y :: m=>by simp only [DTerm.beqL,Bool.and_eq_true,DTerm.beq_iff x y,DTerm.beqL_iff l m,List.cons.injEq]
end
instance:DecidableEq DTerm:=fun x y=>decidable_of_iff _ (DTerm.beq_iff x y)
mutual
def zmX:DTerm→List Nat→World→List Value→Prop
  | .mk k n s ks,F,w,cs=>∃ a cap Fi xs,cs=[.int .i64 k,.int .i64 n,.string s,.slice a ks.length cap]∧I64 k∧I64 n∧s.size≤maxLen∧ks.length≤cap∧cap≤maxLen∧zex ks Fi w xs ∧
    ((ks=[]∧F=[])∨∃ b o,a=some ⟨b,o,none⟩∧F=b :: Fi∧w.rangeAt b o xs∧b<w.heap.size)
def zex:List DTerm→List Nat→World→List Value→Prop
  | [],F,_,xs=>F=[]∧xs=[]
  | y :: ys,F,w,xs=>∃ F1 F2 c1 c2,F=F1++F2∧xs=c1++c2∧zmX y F1 w c1∧zex ys F2 w c2
end
theorem zsg {t:DTerm} {F:List Nat} {w:World} {cs:List Value} (h:zmX t F w cs):cs.length=4:=by
 cases t;rw [zmX] at h;obtain ⟨a,cap,Fi,xs,rfl,_⟩:=h;rfl
theorem zsh {t:DTerm} {F:List Nat} {w:World} {cs:List Value} (h:zmX t F w cs):∀ v∈cs,v.oneCell'=true:=by
 cases t;rw [zmX] at h;obtain ⟨a,cap,Fi,xs,rfl,_⟩:=h
 intro v hv
 simp only [List.mem_cons,List.not_mem_nil,or_false] at hv
 rcases hv with rfl | rfl | rfl | rfl<;>rfl
mutual
theorem zlt:∀ (t:DTerm) {F:List Nat} {w w':World} {cs:List Value},zmX t F w cs→(∀ b∈F,w'.heap[b]?=w.heap[b]?)→zmX t F w' cs
  | .mk k n s ks,F,w,w',cs,h,hk=>by
    rw [zmX] at h ⊢
    obtain ⟨a,cap,Fi,xs,hcs,i1,i2,i3,h1,h2,hc,h4⟩:=h
    rcases h4 with ⟨rfl,rfl⟩ | ⟨b,o,ha,hF,hr,hb⟩
    · exact ⟨a,cap,Fi,xs,hcs,i1,i2,i3,h1,h2,by rw [zex] at hc ⊢;exact hc,.inl ⟨rfl,rfl⟩⟩
    subst hF
    have hbb:=hk b (by simp)
    refine ⟨a,cap,Fi,xs,hcs,i1,i2,i3,h1,h2,ziw ks hc fun c hc=>hk c (by simp [hc]),.inr ⟨b,o,ha,rfl,zaK hr hbb,?_⟩⟩
    rcases Nat.lt_or_ge b (Array.size (World.heap w')) with h' | h'
    · exact h'
    rw [Array.getElem?_eq_none h'] at hbb
    simp [Array.getElem?_eq_getElem hb] at hbb
theorem ziw:∀ (l:List DTerm) {F:List Nat} {w w':World} {cs:List Value},zex l F w cs→(∀ b∈F,w'.heap[b]?=w.heap[b]?)→zex l F w' cs
  | [],F,w,w',cs,h,_=>by rw [zex] at h ⊢;exact h
  | y :: ys,F,w,w',cs,h,hk=>by
    rw [zex] at h ⊢
    obtain ⟨F1,F2,c1,c2,rfl,rfl,h1,h2⟩:=h
    exact ⟨F1,F2,c1,c2,rfl,rfl,zlt y h1 fun b hb=>hk b (by simp [hb]),ziw ys h2 fun b hb=>hk b (by simp [hb])⟩
end
mutual
theorem zqj:∀ (t:DTerm) {F:List Nat} {w:World} {cs:List Value},zmX t F w cs→∀ b∈F,b<w.heap.size
  | .mk k n s ks,F,w,cs,h,c,hm=>by
    rw [zmX] at h
    obtain ⟨a,cap,Fi,xs,hcs,i1,i2,i3,h1,h2,hc,h4⟩:=h
    rcases h4 with ⟨rfl,rfl⟩ | ⟨b,o,ha,hF,hr,hb⟩
    · cases hm
    subst hF
    rcases List.mem_cons.1 hm with rfl | hm
    · exact hb
    exact zlu ks hc c hm
theorem zlu:∀ (l:List DTerm) {F:List Nat} {w:World} {cs:List Value},zex l F w cs→∀ b∈F,b<w.heap.size
  | [],F,w,cs,h,c,hm=>by rw [zex] at h;rw [h.1] at hm;cases hm
  | y :: ys,F,w,cs,h,c,hm=>by
    rw [zex] at h
    obtain ⟨F1,F2,c1,c2,rfl,rfl,h1,h2⟩:=h
    rcases List.mem_append.1 hm with hm | hm
    · exact zqj y h1 c hm
    exact zlu ys h2 c hm
end
instance:Rep DTerm where
 size:=4
 agg:=true
 rep F w cs x:=zmX x F w cs
 pos:=by decide
 sz h:=by cases h
 len h:=zsg h
 one h:=zsh h
 keep h hk:=zlt _ h hk
 lt h:=zqj _ h
theorem zgz {w:World}:∀ {l:List DTerm} {F:List Nat} {xs:List Value},zex l F w xs↔Cells F w xs l
 | [],F,xs=>by rw [zex];exact Iff.rfl
 | y :: ys,F,xs=>by
   rw [zex]
   constructor
   · rintro ⟨F1,F2,c1,c2,h1,h2,h3,h4⟩;exact ⟨F1,F2,c1,c2,h1,h2,h3,zgz.1 h4⟩
   rintro ⟨F1,F2,c1,c2,h1,h2,h3,h4⟩;exact ⟨F1,F2,c1,c2,h1,h2,h3,zgz.2 h4⟩
theorem zf9 {w:World} {F:List Nat} {cs:List Value} {t:DTerm}:rep F w cs t↔rep F w cs t.tup:=by
 obtain ⟨k,n,s,ks⟩:=t
 show zmX _ F w cs↔_
 rw [zmX]
 constructor
 · rintro ⟨a,cap,Fi,xs,rfl,i1,i2,i3,h1,h2,hc,h4⟩
   refine ⟨[],F,[.int .i64 k],_,rfl,rfl,⟨rfl,rfl,i1⟩,[],F,[.int .i64 n],_,rfl,rfl,⟨rfl,rfl,i2⟩,[],F,[.string s],_,rfl,rfl,⟨rfl,rfl,i3⟩,a,cap,Fi,xs,rfl,h1,h2,zgz.1 hc,h4⟩
 rintro ⟨_,_,_,_,rfl,rfl,⟨rfl,rfl,i1⟩,_,_,_,_,rfl,rfl,⟨rfl,rfl,i2⟩,_,_,_,_,rfl,rfl,⟨rfl,rfl,i3⟩,a,cap,Fi,xs,rfl,h1,h2,hc,h4⟩
 exact ⟨a,cap,Fi,xs,rfl,i1,i2,i3,h1,h2,zgz.2 hc,h4⟩
theorem zn6 {w:World} {b o:Nat} {t:DTerm}:At w b o t↔At w b o t.tup:=
 ⟨fun ⟨F,cs,h,k⟩=>⟨F,cs,zf9.1 h,k⟩,fun ⟨F,cs,h,k⟩=>⟨F,cs,zf9.2 h,k⟩⟩
theorem zqk {w:World} {G:List Nat} {b o:Nat} {t:DTerm}:OAt G w b o t↔OAt G w b o t.tup:=
 ⟨fun ⟨cs,h,k⟩=>⟨cs,zf9.1 h,k⟩,fun ⟨cs,h,k⟩=>⟨cs,zf9.2 h,k⟩⟩
section
variable {w:World} {b o:Nat}
theorem zbf {x:DTerm} (h:At w b o x):At w b (o+0) x.kind:=zcm (α:=Int) (β:=Int×ByteArray×List DTerm) (p:=x.tup) (zn6.1 h)
theorem zbv {x:DTerm} (h:At w b o x):At w b (o+1) x.num:=zcm (α:=Int) (β:=ByteArray×List DTerm) (p:=(x.num,x.name,x.kids)) (za4 (α:=Int) (β:=Int×ByteArray×List DTerm) (p:=x.tup) (zn6.1 h))
theorem zbj {x:DTerm} (h:At w b o x):At w b (o+2) x.name:=zcm (α:=ByteArray) (β:=List DTerm) (p:=(x.name,x.kids)) (za4 (α:=Int) (β:=ByteArray×List DTerm) (p:=(x.num,x.name,x.kids)) (za4 (α:=Int) (β:=Int×ByteArray×List DTerm) (p:=x.tup) (zn6.1 h)))
theorem zaE {x:DTerm} (h:At w b o x):At w b (o+3) x.kids:=za4 (α:=ByteArray) (β:=List DTerm) (p:=(x.name,x.kids)) (za4 (α:=Int) (β:=ByteArray×List DTerm) (p:=(x.num,x.name,x.kids)) (za4 (α:=Int) (β:=Int×ByteArray×List DTerm) (p:=x.tup) (zn6.1 h)))
theorem zql {x:DTerm} {F0:List Nat} {c0:List Value} (h0:rep F0 w c0 x.kind) {F1:List Nat} {c1:List Value} (h1:rep F1 w c1 x.num) {F2:List Nat} {c2:List Value} (h2:rep F2 w c2 x.name) {F3:List Nat} {c3:List Value} (h3:rep F3 w c3 x.kids) :
   rep (F0++(F1++(F2++F3))) w (c0++(c1++(c2++c3))) x:=zf9.2 (zat h0 (zat h1 (zat h2 h3)))
end
theorem Lens.term {w:World} {γ:Type} {H:List Nat→World→γ→Prop} {F:List Nat} {b o:Nat} {G:List Nat} {t:DTerm} {upd:DTerm→γ} (h:Lens H F w b o G t upd) :
   Lens H F w b o G t.tup (fun p=>upd (.mk p.1 p.2.1 p.2.2.1 p.2.2.2)):=
 ⟨zqk.1 h.here,h.sub,fun w' G' y' hc hO hs=>h.back w' G' _ hc (zqk.2 hO) hs⟩
instance:RepZ DTerm:=⟨.mk 0 0 ByteArray.empty [],RepZ.zc (Int×Int×ByteArray×List DTerm),fun w=>zf9.2 (RepZ.zr (α:=Int×Int×ByteArray×List DTerm) w)⟩
section
variable {γ:Type} {H:List Nat→World→γ→Prop} {F:List Nat} {w:World} {b o:Nat} {G:List Nat} {x:DTerm} {upd:DTerm→γ}
end
structure DIns where
 op:Int
 arg:Int
 term:DTerm
 to:Int
theorem DIns.ext_iff {x y:DIns}:x=y↔(x.op=y.op∧x.arg=y.arg∧x.term=y.term∧x.to=y.to):=⟨fun h=>by rw [h];exact ⟨rfl,rfl,rfl,rfl⟩,fun h=>by obtain ⟨h0,h1,h2,h3⟩:=h;cases x;cases y;simp only at h0 h1 h2 h3;simp only [h0,h1,h2,h3]⟩
instance:DecidableEq DIns:=fun x y=>decidable_of_iff (x.op=y.op∧x.arg=y.arg∧x.term=y.term∧x.to=y.to) DIns.ext_iff.symm
instance:Rep DIns:=Rep.via fun x=>(x.op,x.arg,x.term,x.to)
theorem zaC {w:World} {b o:Nat} {x:DIns} (h:At w b o x):At w b (o+0) x.op:=zcm (α:=Int) (β:=Int×DTerm×Int) (p:=(x.op,x.arg,x.term,x.to)) h
theorem zaD {w:World} {b o:Nat} {x:DIns} (h:At w b o x):At w b (o+1) x.arg:=zcm (α:=Int) (β:=DTerm×Int) (p:=(x.arg,x.term,x.to)) (za4 (α:=Int) (β:=Int×DTerm×Int) (p:=(x.op,x.arg,x.term,x.to)) h)
theorem zbz {w:World} {b o:Nat} {x:DIns} (h:At w b o x):At w b (o+2) x.term:=zcm (α:=DTerm) (β:=Int) (p:=(x.term,x.to)) (za4 (α:=Int) (β:=DTerm×Int) (p:=(x.arg,x.term,x.to)) (za4 (α:=Int) (β:=Int×DTerm×Int) (p:=(x.op,x.arg,x.term,x.to)) h))
theorem zbI {w:World} {b o:Nat} {x:DIns} (h:At w b o x):At w b (o+6) x.to:=za4 (α:=DTerm) (β:=Int) (p:=(x.term,x.to)) (za4 (α:=Int) (β:=DTerm×Int) (p:=(x.arg,x.term,x.to)) (za4 (α:=Int) (β:=Int×DTerm×Int) (p:=(x.op,x.arg,x.term,x.to)) h))
instance:RepZ DIns:=⟨⟨(RepZ.zv:Int),(RepZ.zv:Int),(RepZ.zv:DTerm),(RepZ.zv:Int)⟩,RepZ.zc (Int×Int×DTerm×Int),fun w=>RepZ.zr (α:=Int×Int×DTerm×Int) w⟩
theorem zmY {γ:Type} {H:List Nat→World→γ→Prop} {F:List Nat} {w:World} {b o:Nat} {G:List Nat} {x:DIns} {upd:DIns→γ} (h:Lens H F w b o G x upd) :
   ∃ G1,Lens H F w b (o+6) G1 x.to (fun y=>upd ⟨x.op,x.arg,x.term,y⟩):=by
 have h':Lens H F w b o G (x.op,x.arg,x.term,x.to) (fun p:Int×Int×DTerm×Int=>upd ⟨p.1,p.2.1,p.2.2.1,p.2.2.2⟩):=⟨h.here,h.sub,fun w' G' y' hc hO hs=>h.back w' G' _ hc hO hs⟩
 obtain ⟨G0,h'⟩:=h'.snd
 obtain ⟨G1,h'⟩:=h'.snd
 obtain ⟨G2,h'⟩:=h'.snd
 exact ⟨_,h'⟩
structure DCode where
 globals:List ByteArray
 locks:List ByteArray
 procs:List ByteArray
 entry:List Int
 ins:List DIns
theorem DCode.ext_iff {x y:DCode}:x=y↔(x.globals=y.globals∧x.locks=y.locks∧x.procs=y.procs∧x.entry=y.entry∧x.ins=y.ins):=⟨fun h=>by rw [h];exact ⟨rfl,rfl,rfl,rfl,rfl⟩,fun h=>by obtain ⟨h0,h1,h2,h3,h4⟩:=h;cases x;cases y;simp only at h0 h1 h2 h3 h4;simp only [h0,h1,h2,h3,h4]⟩
instance:DecidableEq DCode:=fun x y=>decidable_of_iff (x.globals=y.globals∧x.locks=y.locks∧x.procs=y.procs∧x.entry=y.entry∧x.ins=y.ins) DCode.ext_iff.symm
instance:Rep DCode:=Rep.via fun x=>(x.globals,x.locks,x.procs,x.entry,x.ins)
theorem za9 {w:World} {b o:Nat} {x:DCode} (h:At w b o x):At w b (o+0) x.globals:=zcm (α:=List ByteArray) (β:=(List ByteArray)×(List ByteArray)×(List Int)×(List DIns)) (p:=(x.globals,x.locks,x.procs,x.entry,x.ins)) h
theorem zca {w:World} {b o:Nat} {x:DCode} (h:At w b o x):At w b (o+1) x.locks:=zcm (α:=List ByteArray) (β:=(List ByteArray)×(List Int)×(List DIns)) (p:=(x.locks,x.procs,x.entry,x.ins)) (za4 (α:=List ByteArray) (β:=(List ByteArray)×(List ByteArray)×(List Int)×(List DIns)) (p:=(x.globals,x.locks,x.procs,x.entry,x.ins)) h)
theorem zaW {w:World} {b o:Nat} {x:DCode} (h:At w b o x):At w b (o+2) x.procs:=zcm (α:=List ByteArray) (β:=(List Int)×(List DIns)) (p:=(x.procs,x.entry,x.ins)) (za4 (α:=List ByteArray) (β:=(List ByteArray)×(List Int)×(List DIns)) (p:=(x.locks,x.procs,x.entry,x.ins)) (za4 (α:=List ByteArray) (β:=(List ByteArray)×(List ByteArray)×(List Int)×(List DIns)) (p:=(x.globals,x.locks,x.procs,x.entry,x.ins)) h))
theorem zan {w:World} {b o:Nat} {x:DCode} (h:At w b o x):At w b (o+3) x.entry:=zcm (α:=List Int) (β:=(List DIns)) (p:=(x.entry,x.ins)) (za4 (α:=List ByteArray) (β:=(List Int)×(List DIns)) (p:=(x.procs,x.entry,x.ins)) (za4 (α:=List ByteArray) (β:=(List ByteArray)×(List Int)×(List DIns)) (p:=(x.locks,x.procs,x.entry,x.ins)) (za4 (α:=List ByteArray) (β:=(List ByteArray)×(List ByteArray)×(List Int)×(List DIns)) (p:=(x.globals,x.locks,x.procs,x.entry,x.ins)) h)))
theorem zao {w:World} {b o:Nat} {x:DCode} (h:At w b o x):At w b (o+4) x.ins:=za4 (α:=List Int) (β:=(List DIns)) (p:=(x.entry,x.ins)) (za4 (α:=List ByteArray) (β:=(List Int)×(List DIns)) (p:=(x.procs,x.entry,x.ins)) (za4 (α:=List ByteArray) (β:=(List ByteArray)×(List Int)×(List DIns)) (p:=(x.locks,x.procs,x.entry,x.ins)) (za4 (α:=List ByteArray) (β:=(List ByteArray)×(List ByteArray)×(List Int)×(List DIns)) (p:=(x.globals,x.locks,x.procs,x.entry,x.ins)) h)))
instance:RepZ DCode:=⟨⟨(RepZ.zv:List ByteArray),(RepZ.zv:List ByteArray),(RepZ.zv:List ByteArray),(RepZ.zv:List Int),(RepZ.zv:List DIns)⟩,RepZ.zc ((List ByteArray)×(List ByteArray)×(List ByteArray)×(List Int)×(List DIns)),fun w=>RepZ.zr (α:=(List ByteArray)×(List ByteArray)×(List ByteArray)×(List Int)×(List DIns)) w⟩
theorem zlv {w:World} {F:List Nat} {cs:List Value} {x:DCode} (h:rep F w cs x):∃ F0 c0 F1 c1 F2 c2 F3 c3 F4 c4,F=(F0++(F1++(F2++(F3++F4))))∧cs=(c0++(c1++(c2++(c3++c4))))∧rep F0 w c0 x.globals∧rep F1 w c1 x.locks∧rep F2 w c2 x.procs∧rep F3 w c3 x.entry∧rep F4 w c4 x.ins:=by
 obtain ⟨F0,G0,c0,d0,rfl,rfl,h0,h⟩:=h
 obtain ⟨F1,G1,c1,d1,rfl,rfl,h1,h⟩:=h
 obtain ⟨F2,G2,c2,d2,rfl,rfl,h2,h⟩:=h
 obtain ⟨F3,G3,c3,d3,rfl,rfl,h3,h⟩:=h
 exact ⟨_,_,_,_,_,_,_,_,_,_,rfl,rfl,h0,h1,h2,h3,h⟩
structure DTouch where
 at_:Int
 global:Int
 write:Bool
 held:Int
theorem DTouch.ext_iff {x y:DTouch}:x=y↔(x.at_=y.at_∧x.global=y.global∧x.write=y.write∧x.held=y.held):=⟨fun h=>by rw [h];exact ⟨rfl,rfl,rfl,rfl⟩,fun h=>by obtain ⟨h0,h1,h2,h3⟩:=h;cases x;cases y;simp only at h0 h1 h2 h3;simp only [h0,h1,h2,h3]⟩
instance:DecidableEq DTouch:=fun x y=>decidable_of_iff (x.at_=y.at_∧x.global=y.global∧x.write=y.write∧x.held=y.held) DTouch.ext_iff.symm
instance:Rep DTouch:=Rep.via fun x=>(x.at_,x.global,x.write,x.held)
theorem zc7 {w:World} {b o:Nat} {x:DTouch} (h:At w b o x):At w b (o+0) x.at_:=zcm (α:=Int) (β:=Int×Bool×Int) (p:=(x.at_,x.global,x.write,x.held)) h
theorem zga {w:World} {b o:Nat} {x:DTouch} (h:At w b o x):At w b (o+1) x.global:=zcm (α:=Int) (β:=Bool×Int) (p:=(x.global,x.write,x.held)) (za4 (α:=Int) (β:=Int×Bool×Int) (p:=(x.at_,x.global,x.write,x.held)) h)
theorem zix {w:World} {b o:Nat} {x:DTouch} (h:At w b o x):At w b (o+2) x.write:=zcm (α:=Bool) (β:=Int) (p:=(x.write,x.held)) (za4 (α:=Int) (β:=Bool×Int) (p:=(x.global,x.write,x.held)) (za4 (α:=Int) (β:=Int×Bool×Int) (p:=(x.at_,x.global,x.write,x.held)) h))
theorem zeS {w:World} {b o:Nat} {x:DTouch} (h:At w b o x):At w b (o+3) x.held:=za4 (α:=Bool) (β:=Int) (p:=(x.write,x.held)) (za4 (α:=Int) (β:=Bool×Int) (p:=(x.global,x.write,x.held)) (za4 (α:=Int) (β:=Int×Bool×Int) (p:=(x.at_,x.global,x.write,x.held)) h))
instance:RepZ DTouch:=⟨⟨(RepZ.zv:Int),(RepZ.zv:Int),(RepZ.zv:Bool),(RepZ.zv:Int)⟩,RepZ.zc (Int×Int×Bool×Int),fun w=>RepZ.zr (α:=Int×Int×Bool×Int) w⟩
theorem zqm {w:World} {x:DTouch} (h_at_:I64 x.at_) (h_global:I64 x.global)  (h_held:I64 x.held):Mine [] w (.agg #[.int .i64 x.at_,.int .i64 x.global,.bool x.write,.int .i64 x.held]) x:=⟨⟨[.int .i64 x.at_,.int .i64 x.global,.bool x.write,.int .i64 x.held],⟨[],[],[.int .i64 x.at_],[.int .i64 x.global,.bool x.write,.int .i64 x.held],rfl,rfl,⟨rfl,rfl,h_at_⟩,⟨[],[],[.int .i64 x.global],[.bool x.write,.int .i64 x.held],rfl,rfl,⟨rfl,rfl,h_global⟩,⟨[],[],[.bool x.write],[.int .i64 x.held],rfl,rfl,⟨rfl,rfl⟩,⟨rfl,rfl,h_held⟩⟩⟩⟩,rfl⟩,List.nodup_nil,Wr.nil w⟩
instance:Flat DTouch:=⟨fun h=>Flat.flat (α:=Int×Int×Bool×Int) h⟩
end Go.Sh
namespace Go.Proofs.YtcnglfeoglgebaaGreat
open Go Go.Sh Go.Proofs
open Rep (rep)
def zlf (b:UInt8):Bool:=decide ((97:Int)≤(b.toNat:Int)∧(b.toNat:Int)≤122)
def zpa (b:UInt8):Bool:=decide ((48:Int)≤(b.toNat:Int)∧(b.toNat:Int)≤57)
def zhY (s:ByteArray):Bool:=decide (s.size≤12)&&(bts s).head?.any zlf&&(bts s).all (fun b=>zlf b || zpa b)
def kw:List ByteArray:=[.mk #[97,110,100],.mk #[99,97,108,108],.mk #[101,108,115,101],.mk #[103,108,111,98,97,108,115],.mk #[105,102],.mk #[108,111,99,107],.mk #[108,111,99,107,115],
 .mk #[110,111,116],.mk #[112,114,111,99],.mk #[115,107,105,112],.mk #[115,112,97,119,110],.mk #[117,110,108,111,99,107],.mk #[119,104,105,108,101]]
def zbb (s:ByteArray):Bool:=zhY s&&!decide (s∈kw)
def F240 (a0:Value) (w:World) (R:VW):Prop:=
 rB .geq 5 T0 U0 a0 (Value.int .u8 97) w fun x4=>
 BR x4
 (rB .leq 5 T0 U0 a0 (Value.int .u8 122) w fun x7=>
 R x7 w)
 (R (Value.bool false) w)
def cfg240:Cfg:=⟨extL,[],[],[],[],[],[]⟩
theorem F240_call {a0:Value} {w:World} {R:VW} (h:F240 a0 w R):cL 240 [a0] w R:=co (g:=cfg240) Tryz.func240 (by kernel_rfl) (by kernel_rfl) (by kernel_rfl) h
theorem zjD {w:World} {n:Nat}    :
   CALL Tryz.prog 240 [.int .u8 (n:Int)] w fun r w'=>Ext w w'∧(r=.bool (decide ((97:Int)≤(n:Int)∧(n:Int)≤122))):=by
 refine F240_call ?_
 unfold F240
 refine zb5 ?_
 refine br (fun c1=>?_) (fun c1=>?_)
 · refine zdD ?_
   refine ⟨Ext.refl w,?_⟩
   simp [c1]
 refine ⟨Ext.refl w,?_⟩
 simp [c1]
def F241 (a0:Value) (w:World) (R:VW):Prop:=
 rB .geq 5 T0 U0 a0 (Value.int .u8 48) w fun x4=>
 BR x4
 (rB .leq 5 T0 U0 a0 (Value.int .u8 57) w fun x7=>
 R x7 w)
 (R (Value.bool false) w)
def cfg241:Cfg:=⟨extL,[],[],[],[],[],[]⟩
theorem F241_call {a0:Value} {w:World} {R:VW} (h:F241 a0 w R):cL 241 [a0] w R:=co (g:=cfg241) Tryz.func241 (by kernel_rfl) (by kernel_rfl) (by kernel_rfl) h
theorem zmZ {w:World} {n:Nat}    :
   CALL Tryz.prog 241 [.int .u8 (n:Int)] w fun r w'=>Ext w w'∧(r=.bool (decide ((48:Int)≤(n:Int)∧(n:Int)≤57))):=by
 refine F241_call ?_
 unfold F241
 refine zb5 ?_
 refine br (fun c1=>?_) (fun c1=>?_)
 · refine zdD ?_
   refine ⟨Ext.refl w,?_⟩
   simp [c1]
 refine ⟨Ext.refl w,?_⟩
 simp [c1]
def F301 (a0:Value) (w:World) (R:VW):Prop:=
 rB .geq 5 T0 U0 a0 (Value.int .u8 97) w fun x4=>
 BR x4
 (rB .leq 5 T0 U0 a0 (Value.int .u8 122) w fun x7=>
 R x7 w)
 (R (Value.bool false) w)
def cfg301:Cfg:=⟨extL,[],[],[],[],[],[]⟩
theorem F301_call {a0:Value} {w:World} {R:VW} (h:F301 a0 w R):cL 301 [a0] w R:=co (g:=cfg301) Tryz.func301 (by kernel_rfl) (by kernel_rfl) (by kernel_rfl) h
theorem zhL {w:World} {n:Nat}    :
   CALL Tryz.prog 301 [.int .u8 (n:Int)] w fun r w'=>Ext w w'∧(r=.bool (decide ((97:Int)≤(n:Int)∧(n:Int)≤122))):=by
 refine F301_call ?_
 unfold F301
 refine zb5 ?_
 refine br (fun c1=>?_) (fun c1=>?_)
 · refine zdD ?_
   refine ⟨Ext.refl w,?_⟩
   simp [c1]
 refine ⟨Ext.refl w,?_⟩
 simp [c1]
def F303 (a0:Value) (w:World) (R:VW):Prop:=
 rB .geq 5 T0 U0 a0 (Value.int .u8 48) w fun x4=>
 BR x4
 (rB .leq 5 T0 U0 a0 (Value.int .u8 57) w fun x7=>
 R x7 w)
 (R (Value.bool false) w)
def cfg303:Cfg:=⟨extL,[],[],[],[],[],[]⟩
theorem F303_call {a0:Value} {w:World} {R:VW} (h:F303 a0 w R):cL 303 [a0] w R:=co (g:=cfg303) Tryz.func303 (by kernel_rfl) (by kernel_rfl) (by kernel_rfl) h
theorem zlw {w:World} {n:Nat}    :
   CALL Tryz.prog 303 [.int .u8 (n:Int)] w fun r w'=>Ext w w'∧(r=.bool (decide ((48:Int)≤(n:Int)∧(n:Int)≤57))):=by
 refine F303_call ?_
 unfold F303
 refine zb5 ?_
 refine br (fun c1=>?_) (fun c1=>?_)
 · refine zdD ?_
   refine ⟨Ext.refl w,?_⟩
   simp [c1]
 refine ⟨Ext.refl w,?_⟩
 simp [c1]
theorem zn7 {s:ByteArray} (h:0<s.size):(bts s).head?=some ((bts s)[0]'(by rw [zbF];exact h)):=by
 rw [List.head?_eq_getElem?,List.getElem?_eq_getElem (by rw [zbF];exact h)]
theorem zjE {s:ByteArray} (h:s.size=0):zhY s=false:=by
 have:bts s=[]:=List.eq_nil_of_length_eq_zero (by rw [zbF];exact h)
 simp [zhY,this]
theorem zlx {s:ByteArray} (h:12<s.size):zhY s=false:=by
 simp [zhY,Nat.not_le.2 h]
theorem zly {s:ByteArray} (h:0<s.size) (c:¬((97:Int)≤(((bts s)[0]'(by rw [zbF];exact h)).toNat:Int)∧(((bts s)[0]'(by rw [zbF];exact h)).toNat:Int)≤122)):zhY s=false:=by
 have:zlf ((bts s)[0]'(by rw [zbF];exact h))=false:=by simp only [zlf,c,decide_false]
 simp [zhY,zn7 h,this]
theorem zqn {s:ByteArray} {k:Nat} (h:k<s.size) (c1:¬((97:Int)≤(((bts s)[k]'(by rw [zbF];exact h)).toNat:Int)∧(((bts s)[k]'(by rw [zbF];exact h)).toNat:Int)≤122))
   (c2:¬((48:Int)≤(((bts s)[k]'(by rw [zbF];exact h)).toNat:Int)∧(((bts s)[k]'(by rw [zbF];exact h)).toNat:Int)≤57)):zhY s=false:=by
 have h1:zlf ((bts s)[k]'(by rw [zbF];exact h))=false:=by simp only [zlf,c1,decide_false]
 have h2:zpa ((bts s)[k]'(by rw [zbF];exact h))=false:=by simp only [zpa,c2,decide_false]
 have:(bts s).all (fun b=>zlf b || zpa b)=false:=by
   rw [List.all_eq_false]
   exact ⟨_,List.getElem_mem (by rw [zbF];exact h),by simp [h1,h2]⟩
 simp [zhY,this]
theorem zgA {s:ByteArray} {k:Nat} (h:k<s.size) (hi:∀ b∈(bts s).take k,(zlf b || zpa b)=true) (c:zlf ((bts s)[k]'(by rw [zbF];exact h))=true∨zpa ((bts s)[k]'(by rw [zbF];exact h))=true) :
   ∀ b∈(bts s).take (k+1),(zlf b || zpa b)=true:=by
 rw [List.take_succ_eq_append_getElem (by rw [zbF];exact h)]
 intro b hb
 rcases List.mem_append.1 hb with hb | hb
 · exact hi b hb
 simp only [List.mem_cons,List.not_mem_nil,or_false] at hb
 subst hb
 simpa using c
theorem zn8 {s:ByteArray} {k:Nat} (h0:0<s.size) (h1:s.size≤12) (c:(97:Int)≤(((bts s)[0]'(by rw [zbF];exact h0)).toNat:Int)∧(((bts s)[0]'(by rw [zbF];exact h0)).toNat:Int)≤122) (hk:s.size≤k)
   (hi:∀ b∈(bts s).take k,(zlf b || zpa b)=true):zhY s=true:=by
 rw [List.take_of_length_le (by rw [zbF];exact hk)] at hi
 have e1:zlf ((bts s)[0]'(by rw [zbF];exact h0))=true:=by simp only [zlf,c,and_self,decide_true]
 have e2:(bts s).all (fun b=>zlf b || zpa b)=true:=List.all_eq_true.2 hi
 simp [zhY,zn7 h0,e1,e2,h1]
def F298 (a0:Value) (w:World) (R:VW):Prop:=
 rN 9 3 a0 w fun x5=>
 rB .eql 3 T0 U0 x5 (iV 0) w fun x6=>
 BR x6
 (R (Value.bool false) w)
 (rN 9 3 a0 w fun x9=>
 rB .gtr 3 T0 U0 x9 (iV 12) w fun x10=>
 BR x10
 (R (Value.bool false) w)
 (rD (Instr.index 9 a0 (iV 0)) w fun x14=>
 cL 301 [x14] w fun x15 w=>
 rD (Op.unary .not x15) w fun x16=>
 BR x16
 (R (Value.bool false) w)
 (LOOPI [3] [(iV 0)] w fun u4 w next4=>
 rN 9 3 a0 w fun x20=>
 rC (u4 3) x20 w fun x21=>
 BR x21
 (rD (Instr.index 9 a0 (u4 3)) w fun x26=>
 cL 301 [x26] w fun x27 w=>
 rD (Op.unary .not x27) w fun x28=>
 BR x28
 (rD (Instr.index 9 a0 (u4 3)) w fun x32=>
 cL 303 [x32] w fun x33 w=>
 rD (Op.unary .not x33) w fun x34=>
 BR x34
 (R (Value.bool false) w)
 (rA (u4 3) (iV 1) w fun x23=>
 next4 [x23] w))
 (rA (u4 3) (iV 1) w fun x23=>
 next4 [x23] w))
 (R (Value.bool true) w))))
def cfg298:Cfg:=⟨extL,[],[(4,68719214604,[3])],[],[],[],[]⟩
theorem F298_call {a0:Value} {w:World} {R:VW} (h:F298 a0 w R):cL 298 [a0] w R:=co (g:=cfg298) Tryz.func298 (by kernel_rfl) (by kernel_rfl) (by kernel_rfl) h
theorem zpb {w:World} {s:ByteArray}    :
   CALL Tryz.prog 298 [.string s] w fun r w'=>Ext w w'∧(r=.bool (zhY s)):=by
 refine F298_call ?_
 unfold F298
 refine zhb u9 ?_
 refine zaf ?_
 refine br (fun c1=>?_) (fun c1=>?_)
 · refine ⟨Ext.refl w,?_⟩
   rw [zjE (by omega)]
 refine zhb u9 ?_
 refine zcT ?_
 refine br (fun c2=>?_) (fun c2=>?_)
 · refine ⟨Ext.refl w,?_⟩
   rw [zlx (by omega)]
 refine zeu (i:=0) u9 (by omega) ?_
 refine (zhL ).mono ?_
 rintro _ w1_ ⟨hx1_,rfl⟩
 refine zaS ?_
 refine br (fun c3=>?_) (fun c3=>?_)
 · refine ⟨hx1_,?_⟩
   rw [zly (by omega) c3]
 refine zaB (s.size) (fun k us w'=>us=[.int .i64 (k:Int)]∧Ext w1_ w'∧(∀ b∈(bts s).take k,(zlf b || zpa b)=true)) (0) (by omega) ⟨by simp,Ext.refl w1_,by simp⟩ ?_
 rintro k m4 uu4 w2_ hk4 ⟨hu,hx2_,hinv⟩
 simp only [List.map_cons,List.map_nil,List.cons.injEq,and_true] at hu
 try rw [hu]
 try clear hu
 refine zhb u9 ?_
 refine zai ?_
 refine br (fun c4=>?_) (fun c4=>?_)
 · refine zeu u9 (by omega) ?_
   refine (zhL ).mono ?_
   rintro _ w3_ ⟨hx3_,rfl⟩
   refine zaS ?_
   refine br (fun c5=>?_) (fun c5=>?_)
   · refine zeu u9 (by omega) ?_
     refine (zlw ).mono ?_
     rintro _ w4_ ⟨hx4_,rfl⟩
     refine zaS ?_
     refine br (fun c6=>?_) (fun c6=>?_)
     · refine ⟨(hx1_.trans (hx2_.trans (hx3_.trans hx4_))),?_⟩
       rw [zqn (by omega) c5 c6]
     refine zag (by omega) ?_
     refine ⟨m4-1,by omega,k+1,by omega,by simp,(hx2_.trans (hx3_.trans hx4_)),?_⟩
     exact zgA (by omega) hinv (.inr (by simp only [zpa,Decidable.not_not.1 c6,and_self,decide_true]))
   refine zag (by omega) ?_
   refine ⟨m4-1,by omega,k+1,by omega,by simp,(hx2_.trans hx3_),?_⟩
   exact zgA (by omega) hinv (.inl (by simp only [zlf,Decidable.not_not.1 c5,and_self,decide_true]))
 refine ⟨(hx1_.trans hx2_),?_⟩
 rw [zn8 (by omega) (by omega) (Decidable.not_not.1 c3) (by omega) hinv]
def F245 (a0:Value) (w:World) (R:VW):Prop:=
 rB .eql 9 T0 U0 a0 (Value.string (ByteArray.mk #[97,110,100])) w fun x5=>
 BR x5
 (R (Value.bool false) w)
 (rB .eql 9 T0 U0 a0 (Value.string (ByteArray.mk #[99,97,108,108])) w fun x6=>
 BR x6
 (R (Value.bool false) w)
 (rB .eql 9 T0 U0 a0 (Value.string (ByteArray.mk #[101,108,115,101])) w fun x7=>
 BR x7
 (R (Value.bool false) w)
 (rB .eql 9 T0 U0 a0 (Value.string (ByteArray.mk #[103,108,111,98,97,108,115])) w fun x8=>
 BR x8
 (R (Value.bool false) w)
 (rB .eql 9 T0 U0 a0 (Value.string (ByteArray.mk #[105,102])) w fun x9=>
 BR x9
 (R (Value.bool false) w)
 (rB .eql 9 T0 U0 a0 (Value.string (ByteArray.mk #[108,111,99,107])) w fun x10=>
 BR x10
 (R (Value.bool false) w)
 (rB .eql 9 T0 U0 a0 (Value.string (ByteArray.mk #[108,111,99,107,115])) w fun x11=>
 BR x11
 (R (Value.bool false) w)
 (rB .eql 9 T0 U0 a0 (Value.string (ByteArray.mk #[110,111,116])) w fun x12=>
 BR x12
 (R (Value.bool false) w)
 (rB .eql 9 T0 U0 a0 (Value.string (ByteArray.mk #[112,114,111,99])) w fun x13=>
 BR x13
 (R (Value.bool false) w)
 (rB .eql 9 T0 U0 a0 (Value.string (ByteArray.mk #[115,107,105,112])) w fun x14=>
 BR x14
 (R (Value.bool false) w)
 (rB .eql 9 T0 U0 a0 (Value.string (ByteArray.mk #[115,112,97,119,110])) w fun x15=>
 BR x15
 (R (Value.bool false) w)
 (rB .eql 9 T0 U0 a0 (Value.string (ByteArray.mk #[117,110,108,111,99,107])) w fun x16=>
 BR x16
 (R (Value.bool false) w)
 (rB .eql 9 T0 U0 a0 (Value.string (ByteArray.mk #[119,104,105,108,101])) w fun x17=>
 BR x17
 (R (Value.bool false) w)
 (cL 298 [a0] w fun x19 w=>
 R x19 w)))))))))))))
def cfg245:Cfg:=⟨extL,[],[],[],[],[],[]⟩
theorem F245_call {a0:Value} {w:World} {R:VW} (h:F245 a0 w R):cL 245 [a0] w R:=co (g:=cfg245) Tryz.func245 (by kernel_rfl) (by kernel_rfl) (by kernel_rfl) h
theorem zgB {w:World} {s:ByteArray}    :
   CALL Tryz.prog 245 [.string s] w fun r w'=>Ext w w'∧(r=.bool (zbb s)):=by
 refine F245_call ?_
 unfold F245
 refine zaM ?_
 refine br (fun c1=>?_) (fun c1=>?_)
 · refine ⟨Ext.refl w,?_⟩
   have hm:s∈kw:=by simp [kw, *]
   simp [zbb,hm]
 refine zaM ?_
 refine br (fun c2=>?_) (fun c2=>?_)
 · refine ⟨Ext.refl w,?_⟩
   have hm:s∈kw:=by simp [kw, *]
   simp [zbb,hm]
 refine zaM ?_
 refine br (fun c3=>?_) (fun c3=>?_)
 · refine ⟨Ext.refl w,?_⟩
   have hm:s∈kw:=by simp [kw, *]
   simp [zbb,hm]
 refine zaM ?_
 refine br (fun c4=>?_) (fun c4=>?_)
 · refine ⟨Ext.refl w,?_⟩
   have hm:s∈kw:=by simp [kw, *]
   simp [zbb,hm]
 refine zaM ?_
 refine br (fun c5=>?_) (fun c5=>?_)
 · refine ⟨Ext.refl w,?_⟩
   have hm:s∈kw:=by simp [kw, *]
   simp [zbb,hm]
 refine zaM ?_
 refine br (fun c6=>?_) (fun c6=>?_)
 · refine ⟨Ext.refl w,?_⟩
   have hm:s∈kw:=by simp [kw, *]
   simp [zbb,hm]
 refine zaM ?_
 refine br (fun c7=>?_) (fun c7=>?_)
 · refine ⟨Ext.refl w,?_⟩
   have hm:s∈kw:=by simp [kw, *]
   simp [zbb,hm]
 refine zaM ?_
 refine br (fun c8=>?_) (fun c8=>?_)
 · refine ⟨Ext.refl w,?_⟩
   have hm:s∈kw:=by simp [kw, *]
   simp [zbb,hm]
 refine zaM ?_
 refine br (fun c9=>?_) (fun c9=>?_)
 · refine ⟨Ext.refl w,?_⟩
   have hm:s∈kw:=by simp [kw, *]
   simp [zbb,hm]
 refine zaM ?_
 refine br (fun c10=>?_) (fun c10=>?_)
 · refine ⟨Ext.refl w,?_⟩
   have hm:s∈kw:=by simp [kw, *]
   simp [zbb,hm]
 refine zaM ?_
 refine br (fun c11=>?_) (fun c11=>?_)
 · refine ⟨Ext.refl w,?_⟩
   have hm:s∈kw:=by simp [kw, *]
   simp [zbb,hm]
 refine zaM ?_
 refine br (fun c12=>?_) (fun c12=>?_)
 · refine ⟨Ext.refl w,?_⟩
   have hm:s∈kw:=by simp [kw, *]
   simp [zbb,hm]
 refine zaM ?_
 refine br (fun c13=>?_) (fun c13=>?_)
 · refine ⟨Ext.refl w,?_⟩
   have hm:s∈kw:=by simp [kw, *]
   simp [zbb,hm]
 refine (zpb ).mono ?_
 rintro _ w1_ ⟨hx1_,rfl⟩
 refine ⟨hx1_,?_⟩
 have hm:s∉kw:=by simp [kw, *]
 simp [zbb,hm]
def F176 (a0:Value) (w:World) (R:VW):Prop:=
 rN 9 3 a0 w fun x5=>
 rB .lss 3 T0 U0 x5 (iV 1) w fun x6=>
 BR x6
 (R (Value.bool false) w)
 (rN 9 3 a0 w fun x9=>
 rB .gtr 3 T0 U0 x9 (iV 12) w fun x10=>
 BR x10
 (R (Value.bool false) w)
 (rD (Instr.index 9 a0 (iV 0)) w fun x14=>
 cL 240 [x14] w fun x15 w=>
 rD (Op.unary .not x15) w fun x16=>
 BR x16
 (R (Value.bool false) w)
 (LOOPI [3] [(iV 0)] w fun u4 w next4=>
 rN 9 3 a0 w fun x20=>
 rC (u4 3) x20 w fun x21=>
 BR x21
 (rD (Instr.index 9 a0 (u4 3)) w fun x26=>
 cL 240 [x26] w fun x27 w=>
 rD (Op.unary .not x27) w fun x28=>
 BR x28
 (rD (Instr.index 9 a0 (u4 3)) w fun x32=>
 cL 241 [x32] w fun x33 w=>
 rD (Op.unary .not x33) w fun x34=>
 BR x34
 (R (Value.bool false) w)
 (rA (u4 3) (iV 1) w fun x23=>
 next4 [x23] w))
 (rA (u4 3) (iV 1) w fun x23=>
 next4 [x23] w))
 (rB .eql 9 T0 U0 a0 (Value.string (ByteArray.mk #[97,110,100])) w fun x38=>
 BR x38
 (R (Value.bool false) w)
 (rB .eql 9 T0 U0 a0 (Value.string (ByteArray.mk #[99,97,108,108])) w fun x39=>
 BR x39
 (R (Value.bool false) w)
 (rB .eql 9 T0 U0 a0 (Value.string (ByteArray.mk #[101,108,115,101])) w fun x40=>
 BR x40
 (R (Value.bool false) w)
 (rB .eql 9 T0 U0 a0 (Value.string (ByteArray.mk #[103,108,111,98,97,108,115])) w fun x41=>
 BR x41
 (R (Value.bool false) w)
 (rB .eql 9 T0 U0 a0 (Value.string (ByteArray.mk #[105,102])) w fun x42=>
 BR x42
 (R (Value.bool false) w)
 (rB .eql 9 T0 U0 a0 (Value.string (ByteArray.mk #[108,111,99,107])) w fun x43=>
 BR x43
 (R (Value.bool false) w)
 (rB .eql 9 T0 U0 a0 (Value.string (ByteArray.mk #[108,111,99,107,115])) w fun x44=>
 BR x44
 (R (Value.bool false) w)
 (rB .eql 9 T0 U0 a0 (Value.string (ByteArray.mk #[110,111,116])) w fun x45=>
 BR x45
 (R (Value.bool false) w)
 (rB .eql 9 T0 U0 a0 (Value.string (ByteArray.mk #[112,114,111,99])) w fun x46=>
 BR x46
 (R (Value.bool false) w)
 (rB .eql 9 T0 U0 a0 (Value.string (ByteArray.mk #[115,107,105,112])) w fun x47=>
 BR x47
 (R (Value.bool false) w)
 (rB .eql 9 T0 U0 a0 (Value.string (ByteArray.mk #[115,112,97,119,110])) w fun x48=>
 BR x48
 (R (Value.bool false) w)
 (rB .eql 9 T0 U0 a0 (Value.string (ByteArray.mk #[117,110,108,111,99,107])) w fun x49=>
 BR x49
 (R (Value.bool false) w)
 (rB .eql 9 T0 U0 a0 (Value.string (ByteArray.mk #[119,104,105,108,101])) w fun x50=>
 BR x50
 (R (Value.bool false) w)
 (R (Value.bool true) w)))))))))))))))))
def cfg176:Cfg:=⟨extL,[],[(4,68719214604,[3])],[],[],[],[]⟩
theorem F176_call {a0:Value} {w:World} {R:VW} (h:F176 a0 w R):cL 176 [a0] w R:=co (g:=cfg176) Tryz.func176 (by kernel_rfl) (by kernel_rfl) (by kernel_rfl) h
theorem zbJ {w:World} {s:ByteArray}    :
   CALL Tryz.prog 176 [.string s] w fun r w'=>Ext w w'∧(r=.bool (zbb s)):=by
 refine F176_call ?_
 unfold F176
 refine zhb u9 ?_
 refine zai ?_
 refine br (fun c1=>?_) (fun c1=>?_)
 · refine ⟨Ext.refl w,?_⟩
   simp [zbb,zjE (s:=s) (by omega)]
 refine zhb u9 ?_
 refine zcT ?_
 refine br (fun c2=>?_) (fun c2=>?_)
 · refine ⟨Ext.refl w,?_⟩
   simp [zbb,zlx (s:=s) (by omega)]
 refine zeu (i:=0) u9 (by omega) ?_
 refine (zjD ).mono ?_
 rintro _ w1_ ⟨hx1_,rfl⟩
 refine zaS ?_
 refine br (fun c3=>?_) (fun c3=>?_)
 · refine ⟨hx1_,?_⟩
   simp [zbb,zly (s:=s) (by omega) c3]
 refine zaB (s.size) (fun k us w'=>us=[.int .i64 (k:Int)]∧Ext w1_ w'∧(∀ b∈(bts s).take k,(zlf b || zpa b)=true)) (0) (by omega) ⟨by simp,Ext.refl w1_,by simp⟩ ?_
 rintro k m4 uu4 w2_ hk4 ⟨hu,hx2_,hinv⟩
 simp only [List.map_cons,List.map_nil,List.cons.injEq,and_true] at hu
 try rw [hu]
 try clear hu
 refine zhb u9 ?_
 refine zai ?_
 refine br (fun c4=>?_) (fun c4=>?_)
 · refine zeu u9 (by omega) ?_
   refine (zjD ).mono ?_
   rintro _ w3_ ⟨hx3_,rfl⟩
   refine zaS ?_
   refine br (fun c5=>?_) (fun c5=>?_)
   · refine zeu u9 (by omega) ?_
     refine (zmZ ).mono ?_
     rintro _ w4_ ⟨hx4_,rfl⟩
     refine zaS ?_
     refine br (fun c6=>?_) (fun c6=>?_)
     · refine ⟨(hx1_.trans (hx2_.trans (hx3_.trans hx4_))),?_⟩
       simp [zbb,zqn (s:=s) (by omega) c5 c6]
     refine zag (by omega) ?_
     refine ⟨m4-1,by omega,k+1,by omega,by simp,(hx2_.trans (hx3_.trans hx4_)),?_⟩
     exact zgA (by omega) hinv (.inr (by simp only [zpa,Decidable.not_not.1 c6,and_self,decide_true]))
   refine zag (by omega) ?_
   refine ⟨m4-1,by omega,k+1,by omega,by simp,(hx2_.trans hx3_),?_⟩
   exact zgA (by omega) hinv (.inl (by simp only [zlf,Decidable.not_not.1 c5,and_self,decide_true]))
 refine zaM ?_
 refine br (fun c7=>?_) (fun c7=>?_)
 · refine ⟨(hx1_.trans hx2_),?_⟩
   have hm:s∈kw:=by simp only [kw,List.mem_cons, *,true_or,or_true]
   simp [zbb,hm]
 refine zaM ?_
 refine br (fun c8=>?_) (fun c8=>?_)
 · refine ⟨(hx1_.trans hx2_),?_⟩
   have hm:s∈kw:=by simp only [kw,List.mem_cons, *,true_or,or_true]
   simp [zbb,hm]
 refine zaM ?_
 refine br (fun c9=>?_) (fun c9=>?_)
 · refine ⟨(hx1_.trans hx2_),?_⟩
   have hm:s∈kw:=by simp only [kw,List.mem_cons, *,true_or,or_true]
   simp [zbb,hm]
 refine zaM ?_
 refine br (fun c10=>?_) (fun c10=>?_)
 · refine ⟨(hx1_.trans hx2_),?_⟩
   have hm:s∈kw:=by simp only [kw,List.mem_cons, *,true_or,or_true]
   simp [zbb,hm]
 refine zaM ?_
 refine br (fun c11=>?_) (fun c11=>?_)
 · refine ⟨(hx1_.trans hx2_),?_⟩
   have hm:s∈kw:=by simp only [kw,List.mem_cons, *,true_or,or_true]
   simp [zbb,hm]
 refine zaM ?_
 refine br (fun c12=>?_) (fun c12=>?_)
 · refine ⟨(hx1_.trans hx2_),?_⟩
   have hm:s∈kw:=by simp only [kw,List.mem_cons, *,true_or,or_true]
   simp [zbb,hm]
 refine zaM ?_
 refine br (fun c13=>?_) (fun c13=>?_)
 · refine ⟨(hx1_.trans hx2_),?_⟩
   have hm:s∈kw:=by simp only [kw,List.mem_cons, *,true_or,or_true]
   simp [zbb,hm]
 refine zaM ?_
 refine br (fun c14=>?_) (fun c14=>?_)
 · refine ⟨(hx1_.trans hx2_),?_⟩
   have hm:s∈kw:=by simp only [kw,List.mem_cons, *,true_or,or_true]
   simp [zbb,hm]
 refine zaM ?_
 refine br (fun c15=>?_) (fun c15=>?_)
 · refine ⟨(hx1_.trans hx2_),?_⟩
   have hm:s∈kw:=by simp only [kw,List.mem_cons, *,true_or,or_true]
   simp [zbb,hm]
 refine zaM ?_
 refine br (fun c16=>?_) (fun c16=>?_)
 · refine ⟨(hx1_.trans hx2_),?_⟩
   have hm:s∈kw:=by simp only [kw,List.mem_cons, *,true_or,or_true]
   simp [zbb,hm]
 refine zaM ?_
 refine br (fun c17=>?_) (fun c17=>?_)
 · refine ⟨(hx1_.trans hx2_),?_⟩
   have hm:s∈kw:=by simp only [kw,List.mem_cons, *,true_or,or_true]
   simp [zbb,hm]
 refine zaM ?_
 refine br (fun c18=>?_) (fun c18=>?_)
 · refine ⟨(hx1_.trans hx2_),?_⟩
   have hm:s∈kw:=by simp only [kw,List.mem_cons, *,true_or,or_true]
   simp [zbb,hm]
 refine zaM ?_
 refine br (fun c19=>?_) (fun c19=>?_)
 · refine ⟨(hx1_.trans hx2_),?_⟩
   have hm:s∈kw:=by simp only [kw,List.mem_cons, *,true_or,or_true]
   simp [zbb,hm]
 refine ⟨(hx1_.trans hx2_),?_⟩
 have hm:s∉kw:=by simp only [kw,List.mem_cons,List.not_mem_nil,or_false, *,not_false_eq_true]
 simp [zbb,hm,zn8 (by omega) (by omega) (Decidable.not_not.1 c3) (by omega) hinv]
end Go.Proofs.YtcnglfeoglgebaaGreat
namespace Go.Sh
open Go.RowKit (Below)
open Rep (rep)
theorem zh3 (off:Nat):∀ (l:List Value) (k:Nat) (cs:Array Value),
   ((l.zipIdx k).foldl (fun (cs:Array Value) (p:Value×Nat)=>cs.setIfInBounds (off+p.2) p.1) cs).size=cs.size ∧
   ∀ i,((l.zipIdx k).foldl (fun (cs:Array Value) (p:Value×Nat)=>cs.setIfInBounds (off+p.2) p.1) cs)[i]?=if off+k≤i∧i<off+k+l.length∧i<cs.size then l[i-(off+k)]? else cs[i]?
 | [],k,cs=>by
   refine ⟨rfl,fun i=>?_⟩
   rw [if_neg (by simp;omega)]
   rfl
 | v :: l,k,cs=>by
   obtain ⟨h1,h2⟩:=zh3 off l (k+1) (cs.setIfInBounds (off+k) v)
   simp only [List.zipIdx_cons,List.foldl_cons]
   refine ⟨by rw [h1];simp,fun i=>?_⟩
   rw [h2]
   simp only [Array.size_setIfInBounds,List.length_cons]
   by_cases hi:i=off+k
   · subst hi
     rw [if_neg (by omega)]
     by_cases hs:off+k<cs.size
     · rw [if_pos (by omega)];simp [hs]
     rw [if_neg (by omega),Array.getElem?_eq_none (by rw [Array.size_setIfInBounds];omega),Array.getElem?_eq_none (by omega)]
   by_cases hr:off+(k+1)≤i∧i<off+(k+1)+l.length∧i<cs.size
   · rw [if_pos hr,if_pos (by omega)]
     have:i-(off+k)=(i-(off+(k+1)))+1:=by omega
     rw [this,List.getElem?_cons_succ]
   rw [if_neg hr,if_neg (by omega),Array.getElem?_setIfInBounds_ne (by omega)]
theorem zn9 (v:Value) (cells:Array Value) (s:Nat) (hv:v.cells.size=s) (hc:cells.size=s):Instr.fill (fun i=>some (i*s,s)) cells [(0,v)]=some v.cells:=by
 unfold Instr.fill
 simp only [Nat.zero_mul]
 rw [if_neg (by simp;omega)]
 unfold Instr.fill
 congr 1
 obtain ⟨h1,h2⟩:=zh3 0 v.cells.toList 0 cells
 have e:v.cells.zipIdx.foldl (fun (cs:Array Value) (x:Value×Nat)=>match x with | (c,j)=>cs.setIfInBounds (0+j) c) cells
     = (v.cells.toList.zipIdx 0).foldl (fun (cs:Array Value) (p:Value×Nat)=>cs.setIfInBounds (0+p.2) p.1) cells:=by
   rw [←Array.foldl_toList,Array.toList_zipIdx]
 rw [e]
 apply Array.ext_getElem?
 intro i
 rw [h2]
 by_cases hi:i<s
 · rw [if_pos (by simp;omega)];simp
 rw [if_neg (by simp;omega),Array.getElem?_eq_none (by omega),Array.getElem?_eq_none (by omega)]
section
variable {w w' w'':World} {lo hi a b:Nat}
end
def RowI {α:Type} [Rep α] (lo hi:Nat) (e:TypeId) (w:World) (v:Value) (l:List α):Prop:=(∃ a,v=.slice a 0 0∧l=[])∨∃ F,RowF F e w v l∧F.Nodup∧∀ b∈F,lo≤b∧b<hi
section
variable {P:Program} {w w0 w':World} {α:Type} [Rep α] {lo hi a b e:Nat} {v:Value} {l:List α}
theorem zb6 (a:Option Addr):OwnI (α:=List α) lo hi w (.slice a 0 0) []:=
 ⟨[],⟨⟨_,⟨a,0,[],[],rfl,Nat.le_refl _,Nat.zero_le _,⟨rfl,rfl⟩,.inl ⟨rfl,rfl⟩⟩,rfl⟩,List.nodup_nil,Wr.nil w⟩,by simp⟩
theorem RowI.ext (h:RowI lo hi e w v l) (hx:Ext w w'):RowI lo hi e w' v l:=by
 rcases h with h | ⟨F,h1,h2,h3⟩
 · exact .inl h
 exact .inr ⟨F,h1.ext hx,h2,h3⟩
theorem RowI.chg (h:RowI lo hi e w v l) (hc:ChgI a b w w') (hd:hi≤a∨b≤lo):RowI lo hi e w' v l:=by
 rcases h with h | ⟨F,h1,h2,h3⟩
 · exact .inl h
 exact .inr ⟨F,h1.keep fun c hcm=>hc.block c (h1.lt c hcm) (by have:=h3 c hcm;omega),h2,h3⟩
theorem RowI.own (h:RowI lo hi e w v l):OwnI lo hi w v l:=by
 rcases h with ⟨a,rfl,rfl⟩ | ⟨F,h1,h2,h3⟩
 · exact zb6 a
 exact ⟨F,⟨h1.own,h2,h1.wr⟩,h3⟩
theorem RowI.is (h:RowI lo hi e w v l):Is w v l:=h.own.is
theorem RowI.mono {lo' hi':Nat} (h:RowI lo hi e w v l) (h1:lo'≤lo) (h2:hi≤hi'):RowI lo' hi' e w v l:=by
 rcases h with h | ⟨F,h1,h2,h3⟩
 · exact .inl h
 exact .inr ⟨F,h1,h2,fun b hb=>by have:=h3 b hb;omega⟩
theorem zd1 (lo hi e:Nat) (w:World) (a:Option Addr):RowI (α:=α) lo hi e w (.slice a 0 0) []:=.inl ⟨a,rfl,rfl⟩
theorem zbE (lo hi e:Nat) (w:World):RowI (α:=α) lo hi e w (.slice none 0 0) []:=.inl ⟨none,rfl,rfl⟩
theorem zgC (e:Nat) (w:World):RowF (α:=α) [] e w (.slice none 0 0) []:=⟨[],[],⟨by simp,.inl ⟨rfl,rfl⟩⟩,⟨rfl,rfl⟩,rfl,Wr.nil _⟩
theorem zh4 {m1 m2:Sem Value} {K:Value→World→Prop} (h:m1.run P w=m2.run P w) (k:OP P m2 w K):OP P m1 w K:=by
 obtain ⟨v,w',hr,hk⟩:=k;exact ⟨v,w',h.trans hr,hk⟩
theorem zeT {t ty:TypeId} {by_ n c:Nat} {x:Addr} {b o:Nat} {xs:List Value} (ht:P.underlying t=some (.slice e)) (he:tyI P e=some (Rep.size α,by_,Rep.agg α)) (hzc:(P.info? e).map (fun i=>(i.zero.map (·.cells.size)))=some (some (Rep.size α)))
   (hl:xs.length=n*Rep.size α) (hr:w.rangeAt b o xs) (h0:0<n) (hm:n≤maxLen) (hb:n*by_≤140737488355328) :
   (Builtin.append_ #[t,t] ty #[.slice (some x) 0 0,.slice (some ⟨b,o,none⟩) n c]).run P w=(Builtin.append_ #[t,t] ty #[.slice none 0 0,.slice (some ⟨b,o,none⟩) n c]).run P w:=by
 obtain ⟨i,d,hi,hd,hs,hby,hg⟩:=zbZ he
 simp only [hi,Option.map_some,Option.some.injEq] at hzc
 obtain ⟨z,hz,hzs⟩:=Option.map_eq_some_iff.1 hzc
 rw [zam] at hm
 have h1:=run_append_nil (P:=P) w t ty e i z ht hi hz ⟨b,o,none⟩ n c xs (by rw [hs];exact hl) (fun j u hu=>by rw [Addr.add_mid];exact hr j u hu) h0 (by omega) (by rw [hby];omega)
 have h2:=run_append_grow (P:=P) w t ty e i z ht hi hz x 0 0 [] (by simp) (by simp) ⟨b,o,none⟩ n c xs (by rw [hs];exact hl) (fun j u hu=>by rw [Addr.add_mid];exact hr j u hu) (by omega) (by omega) (growslice_fits (by omega) (by rw [hby];simpa using hb))
 rw [h1,h2]
 simp
theorem zgD {t:TypeId} {by_:Nat} {u:Value} {x:α} {K:Value→World→Prop} (ht:P.underlying t=some (.slice e)) (he:tyI P e=some (Rep.size α,by_,Rep.agg α)) (hz:zbw P e=true) (hsz:Rep.size α≤1000)
   {F:List Nat} (hx:Mine F w u x)
   (k:∀ w',Ext w w'→Mine (w.heap.size :: F) w' (.slice (some ⟨w.heap.size,0,none⟩) 1 1) [x]→K (.slice (some ⟨w.heap.size,0,none⟩) 1 1) w'):OP P (Instr.buildSlice t 1 #[(0,u)]) w K:=by
 obtain ⟨⟨cs,hr,rfl⟩,hn,hw⟩:=hx
 have hcl:=zdV hr
 have hlen:=Rep.len hr
 have hvs:(mkv α cs).cells.size=Rep.size α:=by rw [←Array.length_toList,hcl,hlen]
 obtain ⟨i,d,hi,hd,hs,hby,hg⟩:=zbZ he
 unfold zbw at hz
 rw [hi] at hz
 obtain ⟨z,hz⟩:=Option.isSome_iff_exists.1 hz
 have hpos:=Rep.pos (α:=α)
 refine ⟨_,w.alloc (.cells (mkv α cs).cells e),?_,k _ (zaI w _) ?_⟩
 · have hne:¬Rep.size α=0:=by omega
   have h24:¬2^24<Rep.size α:=by omega
   simp only [Instr.buildSlice,Sem.run_bind,run_underlying ht,Result.andThen_ok,zaw he,Nat.one_mul]
   simp [h24,hne,zeroValue,typeInfo,hi,hz,zn9 _ _ _ hvs,newRow]
 have hx:=zaI w (.cells (mkv α cs).cells e)
 have hB:(w.alloc (.cells (mkv α cs).cells e)).heap[w.heap.size]?=some (.cells (mkv α cs).cells e (0,0)):=heap_alloc_new w _
 have hFlt:=Rep.lt hr
 refine ⟨⟨_,⟨_,1,F,cs,rfl,Nat.le_refl _,by rw [zam];omega,Cells.single (zbO hr hx),.inr ⟨w.heap.size,0,rfl,rfl,?_,?_⟩⟩,rfl⟩,?_,?_⟩
 · intro j y hy
   simp only [World.cell?,hB]
   rw [←hcl] at hy
   simpa using hy
 · exact (Array.getElem?_eq_some_iff.1 hB).1
 · exact List.nodup_cons.2 ⟨fun h=>by have:=hFlt _ h;omega,hn⟩
 intro c hc
 rcases List.mem_cons.1 hc with rfl | hc
 · exact ⟨_,_,hB⟩
 exact hw.ext hx c hc
theorem zey {t:TypeId} {by_:Nat} {u:Value} {x:α} {K:Value→World→Prop} (ht:P.underlying t=some (.slice e)) (he:tyI P e=some (Rep.size α,by_,Rep.agg α)) (hz:zbw P e=true) (hsz:Rep.size α≤1000)
   (hx:OwnI lo hi w u x) (hlo:lo≤w.heap.size)
   (k:∀ v w',Ext w w'→OwnI lo w'.heap.size w' v [x]→K v w'):OP P (Instr.buildSlice t 1 #[(0,u)]) w K:=by
 obtain ⟨F,hm,hF⟩:=hx
 refine zgD ht he hz hsz hm fun w' hxx hm'=>k _ w' hxx ⟨_,hm',fun b hb=>⟨?_,hm'.lt b hb⟩⟩
 rcases List.mem_cons.1 hb with rfl | hb
 · exact hlo
 exact (hF b hb).1
theorem zbW {t:TypeId} {by_:Nat} {K:Value→World→Prop} (ht:P.underlying t=some (.slice e)) (he:tyI P e=some (Rep.size α,by_,Rep.agg α))
   (k:∀ a w',Ext w w'→RowI (α:=α) w'.heap.size w'.heap.size e w' (.slice (some a) 0 0) []→K (.slice (some a) 0 0) w'):OP P (Instr.buildSlice t 0 #[]) w K:=
 zgy (α:=α) ht he fun a w' hx hr=>k _ w' hx (zd1 _ _ _ _ _)
theorem zkm {t ty:TypeId} {by_:Nat} {u:Value} {x:α} {lo2 hi2:Nat} {K C:Value→World→Prop} (ht:P.underlying t=some (.slice e)) (he:tyI P e=some (Rep.size α,by_,Rep.agg α)) (hz:zbw P e=true)
   (hzc:(P.info? e).map (fun i=>(i.zero.map (·.cells.size)))=some (some (Rep.size α))) (hsz:Rep.size α≤1000) (hv:RowI lo hi e w v l) (hlo:lo≤w.heap.size) (hx:OwnI lo2 hi2 w u x) (hl:hi≤lo2) (hl2:lo≤lo2) (hm:l.length+1≤maxLen) (hb:(l.length+1)*by_≤140737488355328)
   (k:∀ v' w',ChgI lo hi w w'→RowI lo w'.heap.size e w' v' (l++[x])→K v' w')
   (hC:∀ s w1,Ext w w1→OP P (Builtin.append_ #[t,t] ty [v,s].toArray) w1 K→C s w1):OP P (Instr.buildSlice t 1 #[(0,u)]) w C:=by
 obtain ⟨G,hmx,hG⟩:=hx
 refine zgD ht he hz hsz hmx fun w1 hx1 hm1=>?_
 obtain ⟨⟨cs,⟨a,cap,Fi,xs,rfl,h1,h2,hc,h4⟩,hveq⟩,hn1,hw1⟩:=hm1
 simp only [mkv,Rep.agg,cond_false,List.headD_cons,Value.slice.injEq,List.length_cons,List.length_nil] at hveq
 obtain ⟨rfl,_,rfl⟩:=hveq
 rcases h4 with ⟨h4,_⟩ | ⟨b,o,hab,hFe,hra,hbl⟩
 · simp at h4
 simp only [List.cons.injEq] at hFe
 obtain ⟨_,rfl⟩:=hFe
 have key:∀ (v:Value) (F:List Nat),RowF F e w v l→F.Nodup→(∀ b∈F,lo≤b∧b<hi)→OP P (Builtin.append_ #[t,t] ty [v,.slice (some ⟨w.heap.size,0,none⟩) 1 1].toArray) w1 K:=by
   intro v F hF hFn hFl
   have hF1:=hF.ext hx1
   have hd:(G++F).Nodup:=by
     rw [List.nodup_append]
     refine ⟨hmx.nodup,hFn,fun p hp q hq e=>?_⟩
     subst e
     have:=hG p hp
     have:=hFl p hq
     omega
   refine zev (m:=[x]) ht he hzc hF1 hFn rfl hc (.inr ⟨b,o,hab,hra⟩) (hw1.sub (by simp +contextual)) hd (by simpa using hm) (by simpa using hb) fun v' w' F' hch hfull hr' hn' hs'=>?_
   have hown:∀ c∈v.ownBlock.toList,lo≤c∧c<hi:=fun c hc=>by
     obtain ⟨xs,Fi,_,_,rfl,_⟩:=hF
     exact hFl c (by simp only [List.mem_append];exact .inl hc)
   refine k v' w' ((Ext.toI hx1).trans (hch.toI hown)) (.inr ⟨F',hr',hn',fun c hc=>⟨?_,hr'.lt c hc⟩⟩)
   rcases hs' c hc with h | h | h
   · exact (hFl c h).1
   · have:=hG c h;omega
   have:=hx1.size;omega
 refine hC _ w1 hx1 ?_
 rcases hv with ⟨a0,rfl,rfl⟩ | ⟨F,hF,hFn,hFl⟩
 · have kn:=key (.slice none 0 0) [] (zgC e w) List.nodup_nil (by simp)
   cases a0 with
   | none=>exact kn
   | some x0=>
     simp only [Option.some.injEq,Addr.mk.injEq] at hab
     obtain ⟨rfl,rfl,_⟩:=hab
     exact zh4 (zeT (α:=α) (n:=1) ht he hzc (by simpa using Cells.len hc) hra (by omega) (by rw [zam];omega) (by simpa using hb)) kn
 exact key v F hF hFn hFl
theorem zcI {t ty:TypeId} {by_:Nat} {u:Value} {x:α} {lo2 hi2:Nat} {K:Value→World→Prop} (ht:P.underlying t=some (.slice e)) (he:tyI P e=some (Rep.size α,by_,Rep.agg α)) (hz:zbw P e=true)
   (hzc:(P.info? e).map (fun i=>(i.zero.map (·.cells.size)))=some (some (Rep.size α))) (hsz:Rep.size α≤1000) (hv:RowI lo hi e w v l) (hlo:lo≤w.heap.size) (hx:OwnI lo2 hi2 w u x) (hl:hi≤lo2) (hl2:lo≤lo2) (hm:l.length+1≤maxLen) (hb:(l.length+1)*by_≤140737488355328)
   (k:∀ v' w',ChgI lo hi w w'→RowI lo w'.heap.size e w' v' (l++[x])→K v' w'):OP P (Instr.buildSlice t 1 #[(0,u)]) w fun s w1=>OP P (Builtin.append_ #[t,t] ty [v,s].toArray) w1 K:=
 zkm ht he hz hzc hsz hv hlo hx hl hl2 hm hb k fun _ _ _ h=>h
theorem zkn {t ty:TypeId} {by_:Nat} {u:Value} {x:α} {lo2 hi2:Nat} {K:Value→World→Prop} (ht:P.underlying t=some (.slice e)) (he:tyI P e=some (Rep.size α,by_,Rep.agg α)) (hz:zbw P e=true)
   (hzc:(P.info? e).map (fun i=>(i.zero.map (·.cells.size)))=some (some (Rep.size α))) (hsz:Rep.size α≤1000) (hv:RowI lo hi e w v l) (hlo:lo≤w.heap.size) (hx:OwnI lo2 hi2 w u x) (hl:hi≤lo2) (hl2:lo≤lo2) (hm:l.length+1≤maxLen) (hb:(l.length+1)*by_≤140737488355328)
   (k:∀ v' w',ChgI lo hi w w'→RowI lo w'.heap.size e w' v' (l++[x])→K v' w'):OP P (Instr.buildSlice t 1 #[(0,u)]) w fun s w1=>Ext w w1∧OP P (Builtin.append_ #[t,t] ty [v,s].toArray) w1 K:=
 zkm ht he hz hzc hsz hv hlo hx hl hl2 hm hb k fun _ _ hx h=>⟨hx,h⟩
theorem zhf [Flat α] {t ty:TypeId} {by_:Nat} {src:Value} {m:List α} {K:Value→World→Prop} (ht:P.underlying t=some (.slice e)) (he:tyI P e=some (Rep.size α,by_,Rep.agg α))
   (hzc:(P.info? e).map (fun i=>(i.zero.map (·.cells.size)))=some (some (Rep.size α))) (hv:RowI lo hi e w v l) (hlo:lo≤w.heap.size) (hs:Is w0 src m) (hx:Ext w0 w) (hm:l.length+m.length≤maxLen) (hb:(l.length+m.length)*by_≤140737488355328)
   (k:∀ v' w',ChgI lo hi w w'→RowI lo w'.heap.size e w' v' (l++m)→K v' w'):OP P (Builtin.append_ #[t,t] ty [v,src].toArray) w K:=by
 obtain ⟨a,cap,Fi,xs,rfl,h1,h2,hc,h4⟩:=zcc (hs.ext hx)
 have hFi:=Cells.flat (xs:=xs) hc
 subst hFi
 have key:∀ (v:Value) (F:List Nat),RowF F e w v l→F.Nodup→(∀ b∈F,lo≤b∧b<hi)→OP P (Builtin.append_ #[t,t] ty [v,.slice a m.length cap].toArray) w K:=by
   intro v F hF hFn hFl
   refine zev (m:=m) ht he hzc hF hFn rfl hc (by rcases h4 with h | ⟨b,o,ha,hr,_⟩;exact .inl h;exact .inr ⟨b,o,ha,hr⟩) (Wr.nil _) (by simpa using hFn) hm hb fun v' w' F' hch hfull hr' hn' hs'=>?_
   have hown:∀ c∈v.ownBlock.toList,lo≤c∧c<hi:=fun c hc=>by
     obtain ⟨xs,Fi,_,_,rfl,_⟩:=hF
     exact hFl c (by simp only [List.mem_append];exact .inl hc)
   refine k v' w' (hch.toI hown) (.inr ⟨F',hr',hn',fun c hc=>⟨?_,hr'.lt c hc⟩⟩)
   rcases hs' c hc with h | h | h
   · exact (hFl c h).1
   · simp at h
   omega
 rcases hv with ⟨a0,rfl,rfl⟩ | ⟨F,hF,hFn,hFl⟩
 · have kn:=key (.slice none 0 0) [] (zgC e w) List.nodup_nil (by simp)
   cases a0 with
   | none=>exact kn
   | some x0=>
     by_cases hm0:m=[]
     · subst hm0
       refine ⟨.slice (some x0) 0 0,w,?_,k _ w (ChgI.refl w) (zd1 _ _ _ _ _)⟩
       have hf:(Builtin.firstCells (Rep.size α) 0 (.slice a 0 cap)).run P w=.ok #[] w:=by
         cases a with
         | none=>rfl
         | some a=>simp [Builtin.firstCells,loadCells,loadCellsFrom]
       simp [Builtin.append_,run_underlying ht,zaw he,Builtin.lenOf,hf,storeCells]
     rcases h4 with h | ⟨b,o,rfl,hr,_⟩
     · exact absurd h hm0
     exact zh4 (zeT (α:=α) ht he hzc (Cells.len hc) hr (List.length_pos_iff.2 hm0) (by simpa using hm) (by simpa using hb)) kn
 exact key v F hF hFn hFl
theorem zm0 {a:Option Addr} {cap:Nat} {l:List α} (h:Is w (.slice a l.length cap) l) (k:Nat) (hk:k≤l.length):Is w (.slice a k cap) (l.take k):=by
 obtain ⟨F,cs,⟨a',cap',Fi,xs,rfl,h1,h2,hc,h4⟩,hv⟩:=h
 simp only [mkv,Rep.agg,cond_false,List.headD_cons,Value.slice.injEq] at hv
 obtain ⟨rfl,_,rfl⟩:=hv
 have e:l=l.take k++l.drop k:=by simp
 have hlen:(l.take k).length=k:=by simp;omega
 rw [e] at hc
 obtain ⟨F1,F2,x1,x2,rfl,rfl,c1,c2⟩:=Cells.split hc
 by_cases hd:l.take k=[]
 · refine ⟨[],_,⟨a,cap,F1,x1,rfl,by rw [hlen];omega,h2,c1,.inl ⟨hd,rfl⟩⟩,?_⟩
   rw [hlen];rfl
 rcases h4 with ⟨rfl,_⟩ | ⟨b,o,rfl,rfl,hr,hb⟩
 · simp at hd
 refine ⟨_,_,⟨some ⟨b,o,none⟩,cap,F1,x1,rfl,by rw [hlen];omega,h2,c1,.inr ⟨b,o,rfl,rfl,(zau hr).1,hb⟩⟩,?_⟩
 rw [hlen];rfl
theorem ziy {t:TypeId} {by_:Nat} {v:Value} {l:List α} {i:Int} {K:Value→Prop} (ht:P.underlying t=some (.slice e)) (he:tyI P e=some (Rep.size α,by_,Rep.agg α)) (h:Is w0 v l) (h0:0≤i) (h1:i.toNat≤l.length)
   (k:∀ v',Is w0 v' (l.take i.toNat)→K v'):RD P (Instr.sliceAt t v none (some (.int .i64 i)) none) w K:=by
 obtain ⟨a,cap,Fi,xs,rfl,hc1,hcm,_,h4⟩:=zcc h
 have hb:∀ w',(Instr.sliceBounds true l.length cap none (some (.int .i64 i)) none).run P w'=.ok (0,i.toNat,cap) w':=fun w'=>by
   have:i≤(cap:Int):=by omega
   simp [Instr.sliceBounds,Instr.sliceBound,asIntOf,h0,this]
 refine zaQ (v:=.slice a i.toNat cap) (fun w' _=>?_) (k _ (zm0 h i.toNat h1))
 have hz:(if cap=0 then a else a.map (fun x=>x.add (0*Rep.size α)))=a:=by
   split
   · rfl
   cases a<;>simp [Addr.add_mid,Addr.add]
 simp only [Instr.sliceAt,Instr.slice,Sem.run_bind,run_underlying ht,Result.andThen_ok,hb,zaw he]
 simp
 exact fun _=>by cases a<;>simp [Addr.add_mid,Addr.add]
theorem zko {t:TypeId} {by_:Nat} {v:Value} {l:List α} {i j:Int} {K:Value→Prop} (ht:P.underlying t=some (.slice e)) (he:tyI P e=some (Rep.size α,by_,Rep.agg α)) (h:Is w0 v l) (h0:0≤i) (h1:i≤j) (h2:j.toNat≤l.length)
   (k:∀ v',Is w0 v' ((l.take j.toNat).drop i.toNat)→K v'):RD P (Instr.sliceAt t v (some (.int .i64 i)) (some (.int .i64 j)) none) w K:=by
 obtain ⟨a,cap,Fi,xs,rfl,hc1,hcm,_,h4⟩:=zcc h
 have hb:∀ w',(Instr.sliceBounds true l.length cap (some (.int .i64 i)) (some (.int .i64 j)) none).run P w'=.ok (i.toNat,j.toNat,cap) w':=fun w'=>by
   have h3:j≤(cap:Int):=by omega
   have h5:0≤j:=by omega
   simp [Instr.sliceBounds,Instr.sliceBound,asIntOf,h0,h1,h3,h5]
   intro h6
   omega
 have hl:(l.take j.toNat).length=j.toNat:=by rw [List.length_take];omega
 have ht1:Is w0 (.slice a (l.take j.toNat).length cap) (l.take j.toNat):=by rw [hl];exact zm0 h j.toNat h2
 have hd:=zmN ht1 i.toNat (by omega) (Rep.size α) rfl
 rw [hl] at hd
 refine zaQ (fun w' _=>?_) (k _ hd)
 simp only [Instr.sliceAt,Instr.slice,Sem.run_bind,run_underlying ht,Result.andThen_ok,hb,zaw he]
 simp
def AtB {α:Type} [Rep α] (W w:World) (b o:Nat) (x:α):Prop:=∃ F cs,rep F W cs x∧w.rangeAt b o cs
theorem AtB.keep {W w':World} {b o:Nat} {x:α} (h:AtB W w b o x) (hb:w'.heap[b]?=w.heap[b]?):AtB W w' b o x:=by
 obtain ⟨F,cs,hr,ha⟩:=h;exact ⟨F,cs,hr,zaK ha hb⟩
theorem AtB.ext {W:World} {b o:Nat} {x:α} (h:AtB W w b o x) (hx:Ext w w'):AtB W w' b o x:=by
 obtain ⟨F,cs,hr,ha⟩:=h;exact ⟨F,cs,hr,za7 ha hx⟩
theorem AtB.at {W:World} {b o:Nat} {x:α} (h:AtB W w b o x) (hx:Ext W w):At w b o x:=by
 obtain ⟨F,cs,hr,ha⟩:=h;exact ⟨F,cs,zbO hr hx,ha⟩
theorem AtB.fst {β:Type} [Rep β] {W:World} {b o:Nat} {p:α×β} (h:AtB W w b o p):AtB W w b o p.1:=by
 obtain ⟨F,cs,⟨F1,F2,c1,c2,rfl,rfl,h1,h2⟩,hr⟩:=h
 exact ⟨F1,c1,h1,(zau hr).1⟩
theorem AtB.snd {β:Type} [Rep β] {W:World} {b o:Nat} {p:α×β} (h:AtB W w b o p):AtB W w b (o+Rep.size α) p.2:=by
 obtain ⟨F,cs,⟨F1,F2,c1,c2,rfl,rfl,h1,h2⟩,hr⟩:=h
 have:=(zau hr).2
 rw [Rep.len h1] at this
 exact ⟨F2,c2,h2,this⟩
theorem zcU {W:World} {t by_ b o:Nat} {x:α} {K:Value→Prop} (ht:tyI P t=some (Rep.size α,by_,Rep.agg α)) (h:AtB W w0 b o x) (hW:Ext W w0) (hx:Ext w0 w) (k:∀ v,Is W v x→K v) :
   RD P (Instr.loadAt t (.pointer (some ⟨b,o,none⟩))) w K:=by
 obtain ⟨F,cs,hr,hc⟩:=h
 exact zaQ (fun w' hx'=>zeR ht (zbO hr (hW.trans (hx.trans hx'))) (za7 hc (hx.trans hx'))) (k _ ⟨F,cs,hr,rfl⟩)
theorem zfe {W w1:World} {g:Nat} {x:α} {t:TypeId} (h:Is W v x) (hV:Var P t w1 g v) (ha:Rep.agg α=true):AtB W w1 g 0 x:=by
 obtain ⟨F,cs,hr,rfl⟩:=h
 obtain ⟨e,cs',_,hB,hv,_⟩:=hV
 have:cs'=cs:=by
   simp only [mkv,ha,cond_true,Value.agg.injEq] at hv
   have:=congrArg Array.toList hv
   simpa using this.symm
 subst this
 exact ⟨F,_,hr,hB.range⟩
theorem zqo [RepZ α] {t:TypeId} {fs:Array Field} {K:Value→Prop} (hu:P.underlying t=some (.struct fs)) (hz:zbU P t=some (RepZ.zc α)) (hf:(fs.toList.all fun f=>(P.info? f.type).isSome)=true) (ha:Rep.agg α=true)
   (k:∀ v,Is w v (RepZ.zv:α)→K v):RD P (Instr.build t #[]) w K:=by
 unfold zbU at hz
 cases hi:P.info? t with
 | none=>simp [hi] at hz
 | some i=>
   simp only [hi] at hz
   obtain ⟨z,hz',hzc⟩:=Option.map_eq_some_iff.1 hz
   have hm:∀ w',∃ ps,(fs.mapM fun f=>do pure (f.offset,←sizeOf f.type):Sem (Array (Nat×Nat))).run P w'=.ok ps w':=by
     intro w'
     have:∀ l:List Field,(l.all fun f=>(P.info? f.type).isSome)=true→∃ ps,(l.mapM fun f=>do pure (f.offset,←sizeOf f.type):Sem (List (Nat×Nat))).run P w'=.ok ps w':=by
       intro l
       induction l with
       | nil=>intro _;exact ⟨[],by simp⟩
       | cons f l ih=>
         intro h
         simp only [List.all_cons,Bool.and_eq_true] at h
         obtain ⟨j,hj⟩:=Option.isSome_iff_exists.1 h.1
         obtain ⟨ps,hps⟩:=ih h.2
         have hsz:(sizeOf f.type).run P w'=.ok j.size w':=by simp [sizeOf,typeInfo,hj]
         exact ⟨(f.offset,j.size) :: ps,by simp only [List.mapM_cons,Sem.run_bind,hsz,Result.andThen_ok,Sem.run_pure,hps]⟩
     obtain ⟨ps,hps⟩:=this fs.toList hf
     exact ⟨ps.toArray,by rw [Array.mapM_eq_mapM_toList];simp only [map_eq_pure_bind,Sem.run_bind,hps,Result.andThen_ok,Sem.run_pure]⟩
   refine zaQ (v:=mkv α (RepZ.zc α)) (fun w' _=>?_) (k _ ⟨[],_,RepZ.zr w,rfl⟩)
   obtain ⟨ps,hps⟩:=hm w'
   have e:z.cells=(RepZ.zc α).toArray:=by rw [←hzc]
   have hzv:(zeroValue t).run P w'=.ok z w':=by simp [zeroValue,typeInfo,hi,hz']
   simp only [Instr.build,Sem.run_bind,hzv,Result.andThen_ok,run_underlying hu,hps]
   simp [Instr.fill,mkv,ha,e]
end
end Go.Sh
namespace Go.Proofs.YtcnglfeoglgebaaGreat
open Go Go.Sh Go.Proofs
open Rep (rep)
def zaL:Nat→DTerm→Bool
 | n,.mk k num s ks=>
   if k=1 then decide (0≤num∧num≤1000000000)&&decide (s=ByteArray.mk #[])&&decide ((ks.length:Int)=0)
   else if k=2 then decide (num=0)&&zbb s&&decide ((ks.length:Int)=0)
   else decide (3≤k∧k≤9)&&decide (num=0)&&decide (s=ByteArray.mk #[])&&decide ((ks.length:Int)=if k=8 then 1 else 2) &&
     (match n with | 0=>false | m+1=>ks.all (zaL m))
theorem zdI {n:Nat} {t:DTerm} (h:t.kind=1):zaL n t=(decide (0≤t.num∧t.num≤1000000000)&&decide (t.name=ByteArray.mk #[])&&decide ((t.kids.length:Int)=0)):=by
 obtain ⟨k,num,s,ks⟩:=t
 have:k=1:=h
 unfold zaL;rw [if_pos this];rfl
theorem zeU {n:Nat} {t:DTerm} (h:t.kind=2):zaL n t=(decide (t.num=0)&&zbb t.name&&decide ((t.kids.length:Int)=0)):=by
 obtain ⟨k,num,s,ks⟩:=t
 have:k=2:=h
 unfold zaL;rw [if_neg (by omega),if_pos this];rfl
theorem zba {n:Nat} {t:DTerm} (h1:¬t.kind=1) (h2:¬t.kind=2):zaL n t =
   (decide (3≤t.kind∧t.kind≤9)&&decide (t.num=0)&&decide (t.name=ByteArray.mk #[])&&decide ((t.kids.length:Int)=if t.kind=8 then 1 else 2)&&(match n with | 0=>false | m+1=>t.kids.all (zaL m))):=by
 obtain ⟨k,num,s,ks⟩:=t
 have h1:¬k=1:=h1
 have h2:¬k=2:=h2
 unfold zaL;rw [if_neg h1,if_neg h2];rfl
theorem zh5 {α:Type} {p:α→Bool} {l:List α} {k:Nat} (hk:k<l.length) (h:(l.take k).all p=true) (hp:p l[k]=true):(l.take (k+1)).all p=true:=by
 rw [List.take_succ_eq_append_getElem hk,List.all_append,h];simp [hp]
theorem zgE {α:Type} {p:α→Bool} {l:List α} {k:Nat} (hk:k<l.length) (hp:p l[k]=false):l.all p=false:=by
 rw [List.all_eq_false];exact ⟨_,List.getElem_mem hk,by simp [hp]⟩
theorem zh6 {α:Type} {p:α→Bool} {l:List α} {k:Nat} (hk:l.length≤k) (h:(l.take k).all p=true):l.all p=true:=by
 rwa [List.take_of_length_le hk] at h
def zvQ (f:Nat) (n:Nat):Prop:=∀ {w W:World} {v:Value} {t:DTerm} {d:Int},Is W v t→Ext W w→d=(n:Int) →
 CALL Tryz.prog f [v,.int .i64 d] w fun r w'=>Ext w w'∧r=.bool (zaL n t)
def F244 (a0 a1:Value) (w:World) (R:VW):Prop:=
 oP (Instr.box 53 a0) w fun x2 w=>
 JOIN [] (fun J18=>
 rF 53 x2 0 w fun x7=>
 rL 3 x7 w fun x8=>
 rB .eql 3 T0 U0 x8 (iV 1) w fun x10=>
 BR x10
 (rF 53 x2 1 w fun x11=>
 rL 3 x11 w fun x12=>
 rB .geq 3 T0 U0 x12 (iV 0) w fun x13=>
 BR x13
 (rF 53 x2 1 w fun x15=>
 rL 3 x15 w fun x16=>
 rB .leq 3 T0 U0 x16 (iV 1000000000) w fun x17=>
 BR x17
 (rF 53 x2 2 w fun x20=>
 rL 9 x20 w fun x21=>
 rB .eql 9 T0 U0 x21 (Value.string (ByteArray.mk #[])) w fun x22=>
 BR x22
 (rF 53 x2 3 w fun x25=>
 rL 51 x25 w fun x26=>
 rN 51 3 x26 w fun x27=>
 rB .eql 3 T0 U0 x27 (iV 0) w fun x28=>
 R x28 w)
 (R (Value.bool false) w))
 (R (Value.bool false) w))
 (R (Value.bool false) w))
 (rB .eql 3 T0 U0 x8 (iV 2) w fun x31=>
 BR x31
 (rF 53 x2 1 w fun x32=>
 rL 3 x32 w fun x33=>
 rB .eql 3 T0 U0 x33 (iV 0) w fun x34=>
 BR x34
 (rF 53 x2 2 w fun x36=>
 rL 9 x36 w fun x37=>
 cL 176 [x37] w fun x38 w=>
 BR x38
 (rF 53 x2 3 w fun x41=>
 rL 51 x41 w fun x42=>
 rN 51 3 x42 w fun x43=>
 rB .eql 3 T0 U0 x43 (iV 0) w fun x44=>
 R x44 w)
 (R (Value.bool false) w))
 (R (Value.bool false) w))
 (rB .eql 3 T0 U0 x8 (iV 3) w fun x47=>
 BR x47
 (rF 53 x2 3 w fun x53=>
 rL 51 x53 w fun x54=>
 rN 51 3 x54 w fun x55=>
 rB .neq 3 T0 U0 x55 (iV 2) w fun x56=>
 BR x56
 (R (Value.bool false) w)
 (J18 [] w))
 (rB .eql 3 T0 U0 x8 (iV 4) w fun x48=>
 BR x48
 (rF 53 x2 3 w fun x53=>
 rL 51 x53 w fun x54=>
 rN 51 3 x54 w fun x55=>
 rB .neq 3 T0 U0 x55 (iV 2) w fun x56=>
 BR x56
 (R (Value.bool false) w)
 (J18 [] w))
 (rB .eql 3 T0 U0 x8 (iV 5) w fun x49=>
 BR x49
 (rF 53 x2 3 w fun x53=>
 rL 51 x53 w fun x54=>
 rN 51 3 x54 w fun x55=>
 rB .neq 3 T0 U0 x55 (iV 2) w fun x56=>
 BR x56
 (R (Value.bool false) w)
 (J18 [] w))
 (rB .eql 3 T0 U0 x8 (iV 6) w fun x50=>
 BR x50
 (rF 53 x2 3 w fun x53=>
 rL 51 x53 w fun x54=>
 rN 51 3 x54 w fun x55=>
 rB .neq 3 T0 U0 x55 (iV 2) w fun x56=>
 BR x56
 (R (Value.bool false) w)
 (J18 [] w))
 (rB .eql 3 T0 U0 x8 (iV 7) w fun x51=>
 BR x51
 (rF 53 x2 3 w fun x53=>
 rL 51 x53 w fun x54=>
 rN 51 3 x54 w fun x55=>
 rB .neq 3 T0 U0 x55 (iV 2) w fun x56=>
 BR x56
 (R (Value.bool false) w)
 (J18 [] w))
 (rB .eql 3 T0 U0 x8 (iV 9) w fun x52=>
 BR x52
 (rF 53 x2 3 w fun x53=>
 rL 51 x53 w fun x54=>
 rN 51 3 x54 w fun x55=>
 rB .neq 3 T0 U0 x55 (iV 2) w fun x56=>
 BR x56
 (R (Value.bool false) w)
 (J18 [] w))
 (rB .eql 3 T0 U0 x8 (iV 8) w fun x58=>
 BR x58
 (rF 53 x2 3 w fun x59=>
 rL 51 x59 w fun x60=>
 rN 51 3 x60 w fun x61=>
 rB .neq 3 T0 U0 x61 (iV 1) w fun x62=>
 BR x62
 (R (Value.bool false) w)
 (J18 [] w))
 (R (Value.bool false) w)))))))))) (fun u18 w=>
 rF 53 x2 1 w fun x63=>
 rL 3 x63 w fun x64=>
 rB .neq 3 T0 U0 x64 (iV 0) w fun x65=>
 BR x65
 (R (Value.bool false) w)
 (rF 53 x2 2 w fun x67=>
 rL 9 x67 w fun x68=>
 rB .neq 9 T0 U0 x68 (Value.string (ByteArray.mk #[])) w fun x69=>
 BR x69
 (R (Value.bool false) w)
 (rB .eql 3 T0 U0 a1 (iV 0) w fun x73=>
 BR x73
 (R (Value.bool false) w)
 (rF 53 x2 3 w fun x75=>
 rL 51 x75 w fun x76=>
 rN 51 3 x76 w fun x77=>
 LOOPI [78] [(iV 0)] w fun u21 w next21=>
 rC (u21 78) x77 w fun x79=>
 BR x79
 (rX 51 x76 (u21 78) w fun x80=>
 rL 53 x80 w fun x81=>
 oP (Instr.alloc 53 true (.tuple #[])) w fun x6 w=>
 oS 53 x6 x81 w fun w=>
 rL 53 x6 w fun x82=>
 rB .sub 3 T0 U0 a1 (iV 1) w fun x84=>
 cL 244 [x82,x84] w fun x85 w=>
 rD (Op.unary .not x85) w fun x86=>
 BR x86
 (R (Value.bool false) w)
 (rA (u21 78) (iV 1) w fun x87=>
 next21 [x87] w))
 (R (Value.bool true) w)))))
def cfg244:Cfg:=⟨extL,[(18,9223372036854775696,[])],[(21,309182778366441411431104592,[78])],[],[],[],[]⟩
theorem F244_call {a0 a1:Value} {w:World} {R:VW} (h:F244 a0 a1 w R):cL 244 [a0,a1] w R:=co (g:=cfg244) Tryz.func244 (by kernel_rfl) (by kernel_rfl) (by kernel_rfl) h
theorem zkp {w:World} {v0:Value} {W0:World} {t:DTerm} {d:Int} {n:Nat} (h0:Is W0 v0 t) (e0:Ext W0 w) (hd:d=(n:Int)) (ih:∀ m,m+1=n→zvQ 244 m) (hn:n≤6) :
   CALL Tryz.prog 244 [v0,.int .i64 d] w fun r w'=>Ext w w'∧(r=.bool (zaL n t)):=by
 refine F244_call ?_
 unfold F244
 refine zaz zcd rfl h0 e0 fun w1_ hx1_ hA2 hV2=>?_
 refine JOIN.mk (fun us w'=>us=[]∧Ext w1_ w'∧(3≤t.kind∧t.kind≤9∧(t.kids.length:Int)=(if t.kind=8 then 1 else 2))) ?_ ?_
 · refine zaa zdE ?_
   refine zac ty3 (zbf hA2) (Ext.refl w1_) fun hI8=>?_
   refine zaf ?_
   refine br (fun c1=>?_) (fun c1=>?_)
   · refine zaa zew ?_
     refine zac ty3 (zbv hA2) (Ext.refl w1_) fun hI12=>?_
     refine zb5 ?_
     refine br (fun c2=>?_) (fun c2=>?_)
     · refine zaa zew ?_
       refine zac ty3 (zbv hA2) (Ext.refl w1_) fun hI16=>?_
       refine zdD ?_
       refine br (fun c3=>?_) (fun c3=>?_)
       · refine zaa zdX ?_
         refine zas ty9 (zbj hA2) (Ext.refl w1_) fun hS21=>?_
         refine zaM ?_
         refine br (fun c4=>?_) (fun c4=>?_)
         · refine zaa zbV ?_
           refine zab zhd (zaE hA2) (Ext.refl w1_) fun v26 h26=>?_
           have hln27:=zah h26
           refine zae u51 h26 ?_
           refine zaf ?_
           refine ⟨hx1_,?_⟩
           rw [zdI c1];simp only [c2,c3,c4,and_self,decide_true,Bool.true_and]
         refine ⟨hx1_,?_⟩
         rw [zdI c1];simp only [c4,decide_false,Bool.and_false,Bool.false_and]
       refine ⟨hx1_,?_⟩
       rw [zdI c1];simp only [c3,and_false,decide_false,Bool.false_and]
     refine ⟨hx1_,?_⟩
     rw [zdI c1];simp only [c2,false_and,decide_false,Bool.false_and]
   refine zaf ?_
   refine br (fun c5=>?_) (fun c5=>?_)
   · refine zaa zew ?_
     refine zac ty3 (zbv hA2) (Ext.refl w1_) fun hI33=>?_
     refine zaf ?_
     refine br (fun c6=>?_) (fun c6=>?_)
     · refine zaa zdX ?_
       refine zas ty9 (zbj hA2) (Ext.refl w1_) fun hS37=>?_
       refine (zbJ ).mono ?_
       rintro _ w3_ ⟨hx3_,rfl⟩
       refine zb4 (fun c7=>?_) (fun c7=>?_)
       · refine zaa zbV ?_
         refine zab zhd (zaE hA2) hx3_ fun v42 h42=>?_
         have hln43:=zah h42
         refine zae u51 h42 ?_
         refine zaf ?_
         refine ⟨(hx1_.trans hx3_),?_⟩
         rw [zeU c5];simp only [c6,c7,decide_true,Bool.true_and]
       refine ⟨(hx1_.trans hx3_),?_⟩
       rw [zeU c5];simp only [c6,c7,decide_true,Bool.true_and,Bool.false_and]
     refine ⟨hx1_,?_⟩
     rw [zeU c5];simp only [c6,decide_false,Bool.false_and]
   refine zaf ?_
   refine br (fun c8=>?_) (fun c8=>?_)
   · refine zaa zbV ?_
     refine zab zhd (zaE hA2) (Ext.refl w1_) fun v54 h54=>?_
     have hln55:=zah h54
     refine zae u51 h54 ?_
     refine zaO ?_
     refine br (fun c9=>?_) (fun c9=>?_)
     · refine ⟨hx1_,?_⟩
       rw [zba c1 c5];simp [show ¬t.kind=8 by omega,show ¬(t.kids.length:Int)=2 from c9]
     refine ⟨by simp,Ext.refl w1_,?_⟩
     split<;>omega
   refine zaf ?_
   refine br (fun c10=>?_) (fun c10=>?_)
   · refine zaa zbV ?_
     refine zab zhd (zaE hA2) (Ext.refl w1_) fun v54 h54=>?_
     have hln55:=zah h54
     refine zae u51 h54 ?_
     refine zaO ?_
     refine br (fun c11=>?_) (fun c11=>?_)
     · refine ⟨hx1_,?_⟩
       rw [zba c1 c5];simp [show ¬t.kind=8 by omega,show ¬(t.kids.length:Int)=2 from c11]
     refine ⟨by simp,Ext.refl w1_,?_⟩
     split<;>omega
   refine zaf ?_
   refine br (fun c12=>?_) (fun c12=>?_)
   · refine zaa zbV ?_
     refine zab zhd (zaE hA2) (Ext.refl w1_) fun v54 h54=>?_
     have hln55:=zah h54
     refine zae u51 h54 ?_
     refine zaO ?_
     refine br (fun c13=>?_) (fun c13=>?_)
     · refine ⟨hx1_,?_⟩
       rw [zba c1 c5];simp [show ¬t.kind=8 by omega,show ¬(t.kids.length:Int)=2 from c13]
     refine ⟨by simp,Ext.refl w1_,?_⟩
     split<;>omega
   refine zaf ?_
   refine br (fun c14=>?_) (fun c14=>?_)
   · refine zaa zbV ?_
     refine zab zhd (zaE hA2) (Ext.refl w1_) fun v54 h54=>?_
     have hln55:=zah h54
     refine zae u51 h54 ?_
     refine zaO ?_
     refine br (fun c15=>?_) (fun c15=>?_)
     · refine ⟨hx1_,?_⟩
       rw [zba c1 c5];simp [show ¬t.kind=8 by omega,show ¬(t.kids.length:Int)=2 from c15]
     refine ⟨by simp,Ext.refl w1_,?_⟩
     split<;>omega
   refine zaf ?_
   refine br (fun c16=>?_) (fun c16=>?_)
   · refine zaa zbV ?_
     refine zab zhd (zaE hA2) (Ext.refl w1_) fun v54 h54=>?_
     have hln55:=zah h54
     refine zae u51 h54 ?_
     refine zaO ?_
     refine br (fun c17=>?_) (fun c17=>?_)
     · refine ⟨hx1_,?_⟩
       rw [zba c1 c5];simp [show ¬t.kind=8 by omega,show ¬(t.kids.length:Int)=2 from c17]
     refine ⟨by simp,Ext.refl w1_,?_⟩
     split<;>omega
   refine zaf ?_
   refine br (fun c18=>?_) (fun c18=>?_)
   · refine zaa zbV ?_
     refine zab zhd (zaE hA2) (Ext.refl w1_) fun v54 h54=>?_
     have hln55:=zah h54
     refine zae u51 h54 ?_
     refine zaO ?_
     refine br (fun c19=>?_) (fun c19=>?_)
     · refine ⟨hx1_,?_⟩
       rw [zba c1 c5];simp [show ¬t.kind=8 by omega,show ¬(t.kids.length:Int)=2 from c19]
     refine ⟨by simp,Ext.refl w1_,?_⟩
     split<;>omega
   refine zaf ?_
   refine br (fun c20=>?_) (fun c20=>?_)
   · refine zaa zbV ?_
     refine zab zhd (zaE hA2) (Ext.refl w1_) fun v60 h60=>?_
     have hln61:=zah h60
     refine zae u51 h60 ?_
     refine zaO ?_
     refine br (fun c21=>?_) (fun c21=>?_)
     · refine ⟨hx1_,?_⟩
       rw [zba c1 c5];simp [c20,show ¬(t.kids.length:Int)=1 from c21]
     refine ⟨by simp,Ext.refl w1_,?_⟩
     split<;>omega
   refine ⟨hx1_,?_⟩
   rw [zba c1 c5];simp [show ¬(3≤t.kind∧t.kind≤9) by omega]
 rintro uj18 w2_ ⟨hu,hx3_,hk1,hk2,hk3⟩
 simp only [List.map_cons,List.map_nil,List.cons.injEq,and_true] at hu
 clear hu
 refine zaa zew ?_
 refine zac ty3 (zbv hA2) hx3_ fun hI64=>?_
 refine zaO ?_
 refine br (fun c22=>?_) (fun c22=>?_)
 · refine ⟨(hx1_.trans hx3_),?_⟩
   rw [zba (by omega) (by omega)];simp [c22]
 refine zaa zdX ?_
 refine zas ty9 (zbj hA2) hx3_ fun hS68=>?_
 refine zkg ?_
 refine br (fun c23=>?_) (fun c23=>?_)
 · refine ⟨(hx1_.trans hx3_),?_⟩
   rw [zba (by omega) (by omega)];simp [c23]
 refine zaf ?_
 refine br (fun c24=>?_) (fun c24=>?_)
 · refine ⟨(hx1_.trans hx3_),?_⟩
   rw [zba (by omega) (by omega)];simp [show n=0 by omega]
 refine zaa zbV ?_
 refine zab zhd (zaE hA2) hx3_ fun v76 h76=>?_
 have hln77:=zah h76
 refine zae u51 h76 ?_
 refine zaB (t.kids.length) (fun k us w'=>us=[.int .i64 (k:Int)]∧Ext w2_ w'∧((t.kids.take k).all (zaL (n-1))=true)) (0) (by omega) ⟨by simp,Ext.refl w2_,by simp⟩ ?_
 rintro k m21 uu21 w4_ hk21 ⟨hu,hx4_,hinv⟩
 simp only [List.map_cons,List.map_nil,List.cons.injEq,and_true] at hu
 try rw [hu]
 try clear hu
 refine zai ?_
 refine br (fun c25=>?_) (fun c25=>?_)
 · refine zad u51 zcd h76 (by omega) fun b80 o80 h80=>?_
   refine zab zcd h80 (hx3_.trans hx4_) fun v81 h81=>?_
   refine zcA zuU rfl zcd rfl h81 (hx3_.trans hx4_) fun w5_ hx5_ hA6 hV6=>?_
   refine zbd hV6 (Ext.refl w5_) ?_
   refine za3 (by unfold I64;omega) ?_
   refine (ih (n-1) (by omega) h81 (hx3_.trans (hx4_.trans hx5_)) (by omega)).mono ?_
   rintro _ w6_ ⟨hx6_,rfl⟩
   refine zaU ?_
   refine zb4 (fun c26=>?_) (fun c26=>?_)
   · refine ⟨(hx1_.trans (hx3_.trans (hx4_.trans (hx5_.trans hx6_)))),?_⟩
     rw [zba (by omega) (by omega)]
     obtain ⟨m,rfl⟩:∃ m,n=m+1:=⟨n-1,by omega⟩
     rw [Bool.not_eq_true',Nat.add_sub_cancel] at c26
     simp only [zgE (by omega) c26,Bool.and_false]
   have hln:=zah h76
   refine zag (by omega) ?_
   refine ⟨m21-1,by omega,k+1,by omega,by simp,(hx4_.trans (hx5_.trans hx6_)),?_⟩
   exact zh5 (by omega) hinv (by simpa using c26)
 refine ⟨(hx1_.trans (hx3_.trans hx4_)),?_⟩
 rw [zba (by omega) (by omega)]
 obtain ⟨m,rfl⟩:∃ m,n=m+1:=⟨n-1,by omega⟩
 rw [Nat.add_sub_cancel] at hinv
 simp only [show 3≤t.kind∧t.kind≤9 from ⟨hk1,hk2⟩,Decidable.not_not.1 c22,Decidable.not_not.1 c23,hk3,zh6 (by omega) hinv,and_self,decide_true,Bool.and_self]
theorem ziz:∀ (n:Nat),n≤6→zvQ 244 n
 | n,hn=>by intro h e hd;exact zkp h e hd (fun m hm=>ziz m (by omega)) hn
def F189 (a0:Value) (w:World) (R:VW):Prop:=
 oP (Instr.box 53 a0) w fun x1 w=>
 rL 53 x1 w fun x3=>
 cL 244 [x3,(iV 6)] w fun x4 w=>
 R x4 w
def cfg189:Cfg:=⟨extL,[],[],[],[],[],[]⟩
theorem F189_call {a0:Value} {w:World} {R:VW} (h:F189 a0 w R):cL 189 [a0] w R:=co (g:=cfg189) Tryz.func189 (by kernel_rfl) (by kernel_rfl) (by kernel_rfl) h
theorem zcv {w:World} {v0:Value} {W0:World} {t:DTerm}  (h0:Is W0 v0 t) (e0:Ext W0 w)  :
   CALL Tryz.prog 189 [v0] w fun r w'=>Ext w w'∧(r=.bool (zaL 6 t)):=by
 refine F189_call ?_
 unfold F189
 refine zaz zcd rfl h0 e0 fun w1_ hx1_ hA1 hV1=>?_
 refine zbd hV1 (Ext.refl w1_) ?_
 refine ((ziz 6 (by omega)) h0 (e0.trans hx1_) rfl).mono ?_
 rintro _ w2_ ⟨hx2_,rfl⟩
 refine ⟨(hx1_.trans hx2_),?_⟩
 rfl
def F246 (a0 a1:Value) (w:World) (R:VW):Prop:=
 oP (Instr.box 53 a0) w fun x2 w=>
 rF 53 x2 0 w fun x7=>
 rL 3 x7 w fun x8=>
 rB .eql 3 T0 U0 x8 (iV 1) w fun x10=>
 BR x10
 (rF 53 x2 1 w fun x11=>
 rL 3 x11 w fun x12=>
 cL 197 [x12,(iV 0),(iV 1000000000)] w fun x13 w=>
 BR x13
 (rF 53 x2 2 w fun x15=>
 rL 9 x15 w fun x16=>
 rB .eql 9 T0 U0 x16 (Value.string (ByteArray.mk #[])) w fun x17=>
 BR x17
 (rF 53 x2 3 w fun x20=>
 rL 51 x20 w fun x21=>
 rN 51 3 x21 w fun x22=>
 rB .eql 3 T0 U0 x22 (iV 0) w fun x23=>
 R x23 w)
 (R (Value.bool false) w))
 (R (Value.bool false) w))
 (rB .eql 3 T0 U0 x8 (iV 2) w fun x26=>
 BR x26
 (rF 53 x2 1 w fun x27=>
 rL 3 x27 w fun x28=>
 rB .eql 3 T0 U0 x28 (iV 0) w fun x29=>
 BR x29
 (rF 53 x2 2 w fun x31=>
 rL 9 x31 w fun x32=>
 cL 245 [x32] w fun x33 w=>
 BR x33
 (rF 53 x2 3 w fun x36=>
 rL 51 x36 w fun x37=>
 rN 51 3 x37 w fun x38=>
 rB .eql 3 T0 U0 x38 (iV 0) w fun x39=>
 R x39 w)
 (R (Value.bool false) w))
 (R (Value.bool false) w))
 (JOIN [5] (fun J9=>
 rF 53 x2 0 w fun x41=>
 rL 3 x41 w fun x42=>
 rB .eql 3 T0 U0 x42 (iV 8) w fun x43=>
 BR x43
 (J9 [(iV 1)] w)
 (J9 [(iV 2)] w)) (fun u9 w=>
 rF 53 x2 0 w fun x44=>
 rL 3 x44 w fun x45=>
 cL 197 [x45,(iV 3),(iV 9)] w fun x46 w=>
 rD (Op.unary .not x46) w fun x47=>
 BR x47
 (R (Value.bool false) w)
 (rF 53 x2 1 w fun x49=>
 rL 3 x49 w fun x50=>
 rB .neq 3 T0 U0 x50 (iV 0) w fun x51=>
 BR x51
 (R (Value.bool false) w)
 (rF 53 x2 2 w fun x54=>
 rL 9 x54 w fun x55=>
 rB .neq 9 T0 U0 x55 (Value.string (ByteArray.mk #[])) w fun x56=>
 BR x56
 (R (Value.bool false) w)
 (rF 53 x2 3 w fun x59=>
 rL 51 x59 w fun x60=>
 rN 51 3 x60 w fun x61=>
 rB .neq 3 T0 T0 x61 (u9 5) w fun x63=>
 BR x63
 (R (Value.bool false) w)
 (rB .eql 3 T0 U0 a1 (iV 0) w fun x67=>
 BR x67
 (R (Value.bool false) w)
 (LOOPI [6] [(iV 0)] w fun u12 w next12=>
 rF 53 x2 3 w fun x70=>
 rL 51 x70 w fun x71=>
 rN 51 3 x71 w fun x72=>
 rC (u12 6) x72 w fun x73=>
 BR x73
 (rF 53 x2 3 w fun x76=>
 rL 51 x76 w fun x77=>
 rX 51 x77 (u12 6) w fun x79=>
 rL 53 x79 w fun x80=>
 rB .sub 3 T0 U0 a1 (iV 1) w fun x82=>
 cL 246 [x80,x82] w fun x83 w=>
 rD (Op.unary .not x83) w fun x84=>
 BR x84
 (R (Value.bool false) w)
 (rA (u12 6) (iV 1) w fun x75=>
 next12 [x75] w))
 (R (Value.bool true) w)))))))))
def cfg246:Cfg:=⟨extL,[(9,15393162788896,[5])],[(12,38685035931857774884946000,[6])],[],[],[],[]⟩
theorem F246_call {a0 a1:Value} {w:World} {R:VW} (h:F246 a0 a1 w R):cL 246 [a0,a1] w R:=co (g:=cfg246) Tryz.func246 (by kernel_rfl) (by kernel_rfl) (by kernel_rfl) h
theorem zkq {w:World} {v0:Value} {W0:World} {t:DTerm} {d:Int} {n:Nat} (h0:Is W0 v0 t) (e0:Ext W0 w) (hd:d=(n:Int)) (ih:∀ m,m+1=n→zvQ 246 m) (hn:n≤6) :
   CALL Tryz.prog 246 [v0,.int .i64 d] w fun r w'=>Ext w w'∧(r=.bool (zaL n t)):=by
 refine F246_call ?_
 unfold F246
 refine zaz zcd rfl h0 e0 fun w1_ hx1_ hA2 hV2=>?_
 refine zaa zdE ?_
 refine zac ty3 (zbf hA2) (Ext.refl w1_) fun hI8=>?_
 refine zaf ?_
 refine br (fun c1=>?_) (fun c1=>?_)
 · refine zaa zew ?_
   refine zac ty3 (zbv hA2) (Ext.refl w1_) fun hI12=>?_
   refine (zfC ).mono ?_
   rintro _ w2_ ⟨hx2_,rfl⟩
   refine br (fun c2=>?_) (fun c2=>?_)
   · refine zaa zdX ?_
     refine zas ty9 (zbj hA2) hx2_ fun hS16=>?_
     refine zaM ?_
     refine br (fun c3=>?_) (fun c3=>?_)
     · refine zaa zbV ?_
       refine zab zhd (zaE hA2) hx2_ fun v21 h21=>?_
       have hln22:=zah h21
       refine zae u51 h21 ?_
       refine zaf ?_
       refine ⟨(hx1_.trans hx2_),?_⟩
       rw [zdI c1];simp only [c2,c3,and_self,decide_true,Bool.true_and]
     refine ⟨(hx1_.trans hx2_),?_⟩
     rw [zdI c1];simp only [c3,decide_false,Bool.and_false,Bool.false_and]
   refine ⟨(hx1_.trans hx2_),?_⟩
   rw [zdI c1];simp only [c2,decide_false,Bool.false_and]
 refine zaf ?_
 refine br (fun c4=>?_) (fun c4=>?_)
 · refine zaa zew ?_
   refine zac ty3 (zbv hA2) (Ext.refl w1_) fun hI28=>?_
   refine zaf ?_
   refine br (fun c5=>?_) (fun c5=>?_)
   · refine zaa zdX ?_
     refine zas ty9 (zbj hA2) (Ext.refl w1_) fun hS32=>?_
     refine (zgB ).mono ?_
     rintro _ w3_ ⟨hx3_,rfl⟩
     refine zb4 (fun c6=>?_) (fun c6=>?_)
     · refine zaa zbV ?_
       refine zab zhd (zaE hA2) hx3_ fun v37 h37=>?_
       have hln38:=zah h37
       refine zae u51 h37 ?_
       refine zaf ?_
       refine ⟨(hx1_.trans hx3_),?_⟩
       rw [zeU c4];simp only [c5,c6,decide_true,Bool.true_and]
     refine ⟨(hx1_.trans hx3_),?_⟩
     rw [zeU c4];simp only [c5,c6,decide_true,Bool.true_and,Bool.false_and]
   refine ⟨hx1_,?_⟩
   rw [zeU c4];simp only [c5,decide_false,Bool.false_and]
 refine JOIN.mk (fun us w'=>us=[.int .i64 (if t.kind=8 then 1 else 2)]∧Ext w1_ w'∧(True)) ?_ ?_
 · refine zaa zdE ?_
   refine zac ty3 (zbf hA2) (Ext.refl w1_) fun hI42=>?_
   refine zaf ?_
   refine br (fun c7=>?_) (fun c7=>?_)
   · refine ⟨by rw [if_pos c7],Ext.refl w1_,?_⟩
     trivial
   refine ⟨by rw [if_neg c7],Ext.refl w1_,?_⟩
   trivial
 rintro uj9 w4_ ⟨hu,hx4_,hinv⟩
 simp only [List.map_cons,List.map_nil,List.cons.injEq,and_true] at hu
 try rw [hu]
 try clear hu
 refine zaa zdE ?_
 refine zac ty3 (zbf hA2) hx4_ fun hI45=>?_
 refine (zfC ).mono ?_
 rintro _ w5_ ⟨hx5_,rfl⟩
 refine zaS ?_
 refine br (fun c8=>?_) (fun c8=>?_)
 · refine ⟨(hx1_.trans (hx4_.trans hx5_)),?_⟩
   rw [zba c1 c4];simp only [c8,decide_false,Bool.false_and]
 refine zaa zew ?_
 refine zac ty3 (zbv hA2) (hx4_.trans hx5_) fun hI50=>?_
 refine zaO ?_
 refine br (fun c9=>?_) (fun c9=>?_)
 · refine ⟨(hx1_.trans (hx4_.trans hx5_)),?_⟩
   rw [zba c1 c4];simp only [show ¬t.num=0 from c9,decide_false,Bool.false_and,Bool.and_false]
 refine zaa zdX ?_
 refine zas ty9 (zbj hA2) (hx4_.trans hx5_) fun hS55=>?_
 refine zkg ?_
 refine br (fun c10=>?_) (fun c10=>?_)
 · refine ⟨(hx1_.trans (hx4_.trans hx5_)),?_⟩
   rw [zba c1 c4];simp only [show ¬t.name=_ from c10,decide_false,Bool.false_and,Bool.and_false]
 refine zaa zbV ?_
 refine zab zhd (zaE hA2) (hx4_.trans hx5_) fun v60 h60=>?_
 have hln61:=zah h60
 refine zae u51 h60 ?_
 refine zaO ?_
 refine br (fun c11=>?_) (fun c11=>?_)
 · refine ⟨(hx1_.trans (hx4_.trans hx5_)),?_⟩
   rw [zba c1 c4];simp only [show ¬(t.kids.length:Int)=_ from c11,decide_false,Bool.false_and,Bool.and_false]
 refine zaf ?_
 refine br (fun c12=>?_) (fun c12=>?_)
 · refine ⟨(hx1_.trans (hx4_.trans hx5_)),?_⟩
   rw [zba c1 c4];simp [show n=0 by omega]
 refine zaB (t.kids.length) (fun k us w'=>us=[.int .i64 (k:Int)]∧Ext w5_ w'∧((t.kids.take k).all (zaL (n-1))=true)) (0) (by omega) ⟨by simp,Ext.refl w5_,by simp⟩ ?_
 rintro k m12 uu12 w6_ hk12 ⟨hu,hx6_,hinv⟩
 simp only [List.map_cons,List.map_nil,List.cons.injEq,and_true] at hu
 try rw [hu]
 try clear hu
 refine zaa zbV ?_
 refine zab zhd (zaE hA2) (hx4_.trans (hx5_.trans hx6_)) fun v71 h71=>?_
 have hln72:=zah h71
 refine zae u51 h71 ?_
 refine zai ?_
 refine br (fun c13=>?_) (fun c13=>?_)
 · refine zaa zbV ?_
   refine zab zhd (zaE hA2) (hx4_.trans (hx5_.trans hx6_)) fun v77 h77=>?_
   refine zad u51 zcd h77 (by omega) fun b79 o79 h79=>?_
   refine zab zcd h79 (hx4_.trans (hx5_.trans hx6_)) fun v80 h80=>?_
   refine za3 (by unfold I64;omega) ?_
   refine (ih (n-1) (by omega) h80 (hx4_.trans (hx5_.trans hx6_)) (by omega)).mono ?_
   rintro _ w7_ ⟨hx7_,rfl⟩
   refine zaU ?_
   refine zb4 (fun c14=>?_) (fun c14=>?_)
   · refine ⟨(hx1_.trans (hx4_.trans (hx5_.trans (hx6_.trans hx7_)))),?_⟩
     rw [zba c1 c4]
     obtain ⟨m,rfl⟩:∃ m,n=m+1:=⟨n-1,by omega⟩
     rw [Bool.not_eq_true',Nat.add_sub_cancel] at c14
     simp only [zgE (by omega) c14,Bool.and_false]
   have hln:=zah h71
   refine zag (by omega) ?_
   refine ⟨m12-1,by omega,k+1,by omega,by simp,(hx6_.trans hx7_),?_⟩
   exact zh5 (by omega) hinv (by simpa using c14)
 refine ⟨(hx1_.trans (hx4_.trans (hx5_.trans hx6_))),?_⟩
 rw [zba c1 c4]
 obtain ⟨m,rfl⟩:∃ m,n=m+1:=⟨n-1,by omega⟩
 rw [Nat.add_sub_cancel] at hinv
 simp only [Decidable.not_not.1 c8,Decidable.not_not.1 c9,Decidable.not_not.1 c10,Decidable.not_not.1 c11,zh6 (by omega) hinv,and_self,decide_true,Bool.and_self]
theorem ziA:∀ (n:Nat),n≤6→zvQ 246 n
 | n,hn=>by intro h e hd;exact zkq h e hd (fun m hm=>ziA m (by omega)) hn
def F198 (a0:Value) (w:World) (R:VW):Prop:=
 oP (Instr.box 53 a0) w fun x1 w=>
 rL 53 x1 w fun x3=>
 cL 246 [x3,(iV 6)] w fun x4 w=>
 R x4 w
def cfg198:Cfg:=⟨extL,[],[],[],[],[],[]⟩
theorem F198_call {a0:Value} {w:World} {R:VW} (h:F198 a0 w R):cL 198 [a0] w R:=co (g:=cfg198) Tryz.func198 (by kernel_rfl) (by kernel_rfl) (by kernel_rfl) h
theorem zdJ {w:World} {v0:Value} {W0:World} {t:DTerm}  (h0:Is W0 v0 t) (e0:Ext W0 w)  :
   CALL Tryz.prog 198 [v0] w fun r w'=>Ext w w'∧(r=.bool (zaL 6 t)):=by
 refine F198_call ?_
 unfold F198
 refine zaz zcd rfl h0 e0 fun w1_ hx1_ hA1 hV1=>?_
 refine zbd hV1 (Ext.refl w1_) ?_
 refine ((ziA 6 (by omega)) h0 (e0.trans hx1_) rfl).mono ?_
 rintro _ w2_ ⟨hx2_,rfl⟩
 refine ⟨(hx1_.trans hx2_),?_⟩
 rfl
def term0:DTerm:=.mk 0 0 (ByteArray.mk #[]) []
def F190 (a0:Value) (w:World) (R:VW):Prop:=
 oP (Instr.box 53 a0) w fun x1 w=>
 rF 53 x1 0 w fun x3=>
 rL 3 x3 w fun x4=>
 rB .eql 3 T0 U0 x4 (iV 0) w fun x5=>
 BR x5
 (rF 53 x1 1 w fun x7=>
 rL 3 x7 w fun x8=>
 rB .eql 3 T0 U0 x8 (iV 0) w fun x9=>
 BR x9
 (rF 53 x1 2 w fun x12=>
 rL 9 x12 w fun x13=>
 rB .eql 9 T0 U0 x13 (Value.string (ByteArray.mk #[])) w fun x14=>
 BR x14
 (rF 53 x1 3 w fun x17=>
 rL 51 x17 w fun x18=>
 rN 51 3 x18 w fun x19=>
 rB .eql 3 T0 U0 x19 (iV 0) w fun x20=>
 R x20 w)
 (R (Value.bool false) w))
 (R (Value.bool false) w))
 (R (Value.bool false) w)
def cfg190:Cfg:=⟨extL,[],[],[],[],[],[]⟩
theorem F190_call {a0:Value} {w:World} {R:VW} (h:F190 a0 w R):cL 190 [a0] w R:=co (g:=cfg190) Tryz.func190 (by kernel_rfl) (by kernel_rfl) (by kernel_rfl) h
theorem zcw {w:World} {v0:Value} {W0:World} {t:DTerm}  (h0:Is W0 v0 t) (e0:Ext W0 w)  :
   CALL Tryz.prog 190 [v0] w fun r w'=>Ext w w'∧(r=.bool (decide (t=term0))):=by
 refine F190_call ?_
 unfold F190
 refine zaz zcd rfl h0 e0 fun w1_ hx1_ hA1 hV1=>?_
 refine zaa zdE ?_
 refine zac ty3 (zbf hA1) (Ext.refl w1_) fun hI4=>?_
 refine zaf ?_
 refine br (fun c1=>?_) (fun c1=>?_)
 · refine zaa zew ?_
   refine zac ty3 (zbv hA1) (Ext.refl w1_) fun hI8=>?_
   refine zaf ?_
   refine br (fun c2=>?_) (fun c2=>?_)
   · refine zaa zdX ?_
     refine zas ty9 (zbj hA1) (Ext.refl w1_) fun hS13=>?_
     refine zaM ?_
     refine br (fun c3=>?_) (fun c3=>?_)
     · refine zaa zbV ?_
       refine zab zhd (zaE hA1) (Ext.refl w1_) fun v18 h18=>?_
       have hln19:=zah h18
       refine zae u51 h18 ?_
       refine zaf ?_
       refine ⟨hx1_,?_⟩
       congr 1
       rw [decide_eq_decide,DTerm.ext_iff]
       exact ⟨fun h=>⟨c1,c2,c3,List.eq_nil_of_length_eq_zero (by omega)⟩,fun h=>by rw [h.2.2.2];rfl⟩
     refine ⟨hx1_,?_⟩
     have:t≠term0:=fun e=>c3 (by rw [e];rfl)
     simp [this]
   refine ⟨hx1_,?_⟩
   have:t≠term0:=fun e=>c2 (by rw [e];rfl)
   simp [this]
 refine ⟨hx1_,?_⟩
 have:t≠term0:=fun e=>c1 (by rw [e];rfl)
 simp [this]
def F200 (a0 a1:Value) (w:World) (R:VW):Prop:=
 oP (Instr.box 53 a0) w fun x2 w=>
 oP (Instr.box 53 a1) w fun x3 w=>
 rF 53 x2 0 w fun x6=>
 rL 3 x6 w fun x7=>
 rF 53 x3 0 w fun x8=>
 rL 3 x8 w fun x9=>
 rB .neq 3 T0 T0 x7 x9 w fun x10=>
 BR x10
 (R (Value.bool false) w)
 (rF 53 x2 1 w fun x12=>
 rL 3 x12 w fun x13=>
 rF 53 x3 1 w fun x14=>
 rL 3 x14 w fun x15=>
 rB .neq 3 T0 T0 x13 x15 w fun x16=>
 BR x16
 (R (Value.bool false) w)
 (rF 53 x2 2 w fun x19=>
 rL 9 x19 w fun x20=>
 rF 53 x3 2 w fun x21=>
 rL 9 x21 w fun x22=>
 rB .neq 9 T0 T0 x20 x22 w fun x23=>
 BR x23
 (R (Value.bool false) w)
 (rF 53 x2 3 w fun x26=>
 rL 51 x26 w fun x27=>
 rN 51 3 x27 w fun x28=>
 rF 53 x3 3 w fun x29=>
 rL 51 x29 w fun x30=>
 rN 51 3 x30 w fun x31=>
 rB .neq 3 T0 T0 x28 x31 w fun x32=>
 BR x32
 (R (Value.bool false) w)
 (LOOPI [5] [(iV 0)] w fun u4 w next4=>
 rF 53 x2 3 w fun x35=>
 rL 51 x35 w fun x36=>
 rN 51 3 x36 w fun x37=>
 rC (u4 5) x37 w fun x38=>
 BR x38
 ((fun w=>rF 53 x2 3 w fun x41=>
 rL 51 x41 w fun x42=>
 rX 51 x42 (u4 5) w fun x44=>
 rL 53 x44 w fun x45=>
 rF 53 x3 3 w fun x46=>
 rL 51 x46 w fun x47=>
 rX 51 x47 (u4 5) w fun x49=>
 rL 53 x49 w fun x50=>
 cL 200 [x45,x50] w fun x51 w=>
 rD (Op.unary .not x51) w fun x52=>
 BR x52
 (R (Value.bool false) w)
 (rA (u4 5) (iV 1) w fun x40=>
 next4 [x40] w)) (World.drew1 w))
 (R (Value.bool true) w)))))
def cfg200:Cfg:=⟨extL,[],[(4,9007182074871856,[5])],[(6,[0,1,2,3,4,5,6,7,8,9,10,11],0)],[],[],[]⟩
theorem F200_call {a0 a1:Value} {w:World} {R:VW} (h:F200 a0 a1 w R):cL 200 [a0,a1] w R:=co (g:=cfg200) Tryz.func200 (by kernel_rfl) (by kernel_rfl) (by kernel_rfl) h
theorem zlz {w:World} {v0:Value} {W0:World} {t:DTerm} {v1:Value} {W1:World} {t2:DTerm}  (h0:Is W0 v0 t) (e0:Ext W0 w) (h1:Is W1 v1 t2) (e1:Ext W1 w) (ht:t2=term0) :
   CALL Tryz.prog 200 [v0,v1] w fun r w'=>Ext w w'∧(r=.bool (decide (t=term0))):=by
 refine F200_call ?_
 unfold F200
 subst ht
 refine zaz zcd rfl h0 e0 fun w1_ hx1_ hA2 hV2=>?_
 refine zaz zcd rfl h1 (e1.trans hx1_) fun w2_ hx2_ hA3 hV3=>?_
 refine zaa zdE ?_
 refine zac ty3 (zbf hA2) hx2_ fun hI7=>?_
 refine zaa zdE ?_
 refine zac ty3 (zbf hA3) (Ext.refl w2_) fun hI9=>?_
 refine zaO ?_
 refine br (fun c1=>?_) (fun c1=>?_)
 · refine ⟨(hx1_.trans hx2_),?_⟩
   have:t≠term0:=fun e=>c1 (by rw [e])
   simp [this]
 refine zaa zew ?_
 refine zac ty3 (zbv hA2) hx2_ fun hI13=>?_
 refine zaa zew ?_
 refine zac ty3 (zbv hA3) (Ext.refl w2_) fun hI15=>?_
 refine zaO ?_
 refine br (fun c2=>?_) (fun c2=>?_)
 · refine ⟨(hx1_.trans hx2_),?_⟩
   have:t≠term0:=fun e=>c2 (by rw [e])
   simp [this]
 refine zaa zdX ?_
 refine zas ty9 (zbj hA2) hx2_ fun hS20=>?_
 refine zaa zdX ?_
 refine zas ty9 (zbj hA3) (Ext.refl w2_) fun hS22=>?_
 refine zkg ?_
 refine br (fun c3=>?_) (fun c3=>?_)
 · refine ⟨(hx1_.trans hx2_),?_⟩
   have:t≠term0:=fun e=>c3 (by rw [e])
   simp [this]
 refine zaa zbV ?_
 refine zab zhd (zaE hA2) hx2_ fun v27 h27=>?_
 have hln28:=zah h27
 refine zae u51 h27 ?_
 refine zaa zbV ?_
 refine zab zhd (zaE hA3) (Ext.refl w2_) fun v30 h30=>?_
 have hln31:=zah h30
 refine zae u51 h30 ?_
 refine zaO ?_
 refine br (fun c4=>?_) (fun c4=>?_)
 · refine ⟨(hx1_.trans hx2_),?_⟩
   have:t≠term0:=fun e=>c4 (by rw [e])
   simp [this]
 refine zaB (0) (fun k us w'=>us=[.int .i64 (k:Int)]∧Ext w2_ w'∧(True)) (0) (by omega) ⟨by simp,Ext.refl w2_,trivial⟩ ?_
 rintro k m4 uu4 w3_ hk4 ⟨hu,hx3_,hinv⟩
 simp only [List.map_cons,List.map_nil,List.cons.injEq,and_true] at hu
 try rw [hu]
 try clear hu
 refine zaa zbV ?_
 refine zab zhd (zaE hA2) (hx2_.trans hx3_) fun v36 h36=>?_
 have hln37:=zah h36
 refine zae u51 h36 ?_
 refine zai ?_
 refine br (fun c5=>?_) (fun c5=>?_)
 · have hx4_:=zak w3_
   exact absurd c5 (by have:(term0.kids.length:Int)=0:=rfl;omega)
 refine ⟨(hx1_.trans (hx2_.trans hx3_)),?_⟩
 have:t=term0:=DTerm.ext_iff.2 ⟨Decidable.not_not.1 c1,Decidable.not_not.1 c2,Decidable.not_not.1 c3,List.eq_nil_of_length_eq_zero (by have:(term0.kids.length:Int)=0:=rfl;omega)⟩
 simp [this]
def plc (s:ByteArray):List ByteArray→Int
 | []=>-1
 | x :: l=>if x=s then 0 else if plc s l<0 then -1 else plc s l+1
theorem zkr {s:ByteArray} {l:List ByteArray} (h:s∉l):plc s l=-1:=by
 induction l with
 | nil=>rfl
 | cons x l ih=>
   simp only [List.mem_cons,not_or] at h
   rw [plc,if_neg (fun e=>h.1 e.symm),ih h.2];rfl
theorem zlA {s:ByteArray}:∀ {l:List ByteArray} {k:Nat} (hk:k<l.length),s∉l.take k→l[k]=s→plc s l=k
 | x :: l,0,_,_,h=>by simp only [List.getElem_cons_zero] at h;rw [plc,if_pos h];rfl
 | x :: l,k+1,hk,hn,h=>by
   simp only [List.take_succ_cons,List.mem_cons,not_or] at hn
   have ih:=zlA (by simpa using hk) hn.2 (by simpa using h)
   rw [plc,if_neg (fun e=>hn.1 e.symm),ih,if_neg (by omega)]
   omega
theorem zoa {s:ByteArray} {l:List ByteArray}:-1≤plc s l∧plc s l<l.length:=by
 induction l with
 | nil=>simp [plc]
 | cons x l ih=>
   rw [plc]
   split
   · simp only [List.length_cons];omega
   split<;>simp only [List.length_cons]<;>omega
theorem zeV {s:ByteArray} {l:List ByteArray}:0≤plc s l↔s∈l:=by
 induction l with
 | nil=>simp [plc]
 | cons x l ih=>
   rw [plc]
   split
   · rename_i h;simp [h]
   rename_i h
   rw [List.mem_cons,←ih]
   have:¬s=x:=fun e=>h e.symm
   simp only [this,false_or]
   split<;>omega
theorem zcD {l:List ByteArray} {k:Nat} {y:ByteArray} (hk:k<l.length) (h:y∉l.take k) (c:¬l[k]=y):y∉l.take (k+1):=by
 rw [List.take_succ_eq_append_getElem hk]
 simp only [List.mem_append,List.mem_cons,List.not_mem_nil,or_false,not_or]
 exact ⟨h,fun e=>c e.symm⟩
def F193 (a0 a1:Value) (w:World) (R:VW):Prop:=
 LOOPI [5] [(iV 0)] w fun u2 w next2=>
 rN 24 3 a0 w fun x8=>
 rC (u2 5) x8 w fun x9=>
 BR x9
 (rX 24 a0 (u2 5) w fun x14=>
 rL 9 x14 w fun x15=>
 rB .eql 9 T0 T0 x15 a1 w fun x17=>
 BR x17
 (R (u2 5) w)
 (rA (u2 5) (iV 1) w fun x11=>
 next2 [x11] w))
 (R (iV (-1)) w)
def cfg193:Cfg:=⟨extL,[],[(2,524272,[5])],[],[],[],[]⟩
theorem F193_call {a0 a1:Value} {w:World} {R:VW} (h:F193 a0 a1 w R):cL 193 [a0,a1] w R:=co (g:=cfg193) Tryz.func193 (by kernel_rfl) (by kernel_rfl) (by kernel_rfl) h
theorem zdj {w:World} {v0:Value} {W0:World} {l:(List ByteArray)} {s:ByteArray}  (h0:Is W0 v0 l) (e0:Ext W0 w)  :
   CALL Tryz.prog 193 [v0,.string s] w fun r w'=>Ext w w'∧(r=.int .i64 (plc s l)):=by
 refine F193_call ?_
 unfold F193
 refine zaB (l.length) (fun k us w'=>us=[.int .i64 (k:Int)]∧Ext w w'∧(s∉l.take k)) (0) (by omega) ⟨by simp,Ext.refl w,by simp⟩ ?_
 rintro k m2 uu2 w1_ hk2 ⟨hu,hx1_,hinv⟩
 simp only [List.map_cons,List.map_nil,List.cons.injEq,and_true] at hu
 try rw [hu]
 try clear hu
 have hln8:=zah h0
 refine zae u24 h0 ?_
 refine zai ?_
 refine br (fun c1=>?_) (fun c1=>?_)
 · refine zad u24 ty9 h0 (by omega) fun b14 o14 h14=>?_
   refine zas ty9 h14 (e0.trans hx1_) fun hS15=>?_
   refine zaM ?_
   refine br (fun c2=>?_) (fun c2=>?_)
   · refine ⟨hx1_,?_⟩
     rw [zlA (by omega) hinv c2]
   refine zag (by omega) ?_
   refine ⟨m2-1,by omega,k+1,by omega,by simp,hx1_,?_⟩
   exact zcD (by omega) hinv c2
 refine ⟨hx1_,?_⟩
 rw [List.take_of_length_le (by omega)] at hinv
 rw [zkr hinv]
def F121 (a0 a1:Value) (w:World) (R:VW):Prop:=
 rN 24 3 a0 w fun x7=>
 LOOPI [8] [(iV 0)] w fun u2 w next2=>
 rC (u2 8) x7 w fun x9=>
 BR x9
 (rX 24 a0 (u2 8) w fun x14=>
 rL 9 x14 w fun x15=>
 rB .eql 9 T0 T0 a1 x15 w fun x16=>
 BR x16
 (R (u2 8) w)
 (rA (u2 8) (iV 1) w fun x18=>
 next2 [x18] w))
 (R (iV (-1)) w)
def cfg121:Cfg:=⟨extL,[],[(2,524080,[8])],[],[],[],[]⟩
theorem F121_call {a0 a1:Value} {w:World} {R:VW} (h:F121 a0 a1 w R):cL 121 [a0,a1] w R:=co (g:=cfg121) Tryz.func121 (by kernel_rfl) (by kernel_rfl) (by kernel_rfl) h
theorem zd2 {w:World} {v0:Value} {W0:World} {l:(List ByteArray)} {s:ByteArray}  (h0:Is W0 v0 l) (e0:Ext W0 w)  :
   CALL Tryz.prog 121 [v0,.string s] w fun r w'=>Ext w w'∧(r=.int .i64 (plc s l)):=by
 refine F121_call ?_
 unfold F121
 have hln7:=zah h0
 refine zae u24 h0 ?_
 refine zaB (l.length) (fun k us w'=>us=[.int .i64 (k:Int)]∧Ext w w'∧(s∉l.take k)) (0) (by omega) ⟨by simp,Ext.refl w,by simp⟩ ?_
 rintro k m2 uu2 w1_ hk2 ⟨hu,hx1_,hinv⟩
 simp only [List.map_cons,List.map_nil,List.cons.injEq,and_true] at hu
 try rw [hu]
 try clear hu
 refine zai ?_
 refine br (fun c1=>?_) (fun c1=>?_)
 · refine zad u24 ty9 h0 (by omega) fun b14 o14 h14=>?_
   refine zas ty9 h14 (e0.trans hx1_) fun hS15=>?_
   refine zaM ?_
   refine br (fun c2=>?_) (fun c2=>?_)
   · refine ⟨hx1_,?_⟩
     rw [zlA (by omega) hinv c2.symm]
   refine zag (by omega) ?_
   refine ⟨m2-1,by omega,k+1,by omega,by simp,hx1_,?_⟩
   exact zcD (by omega) hinv (fun e=>c2 e.symm)
 refine ⟨hx1_,?_⟩
 rw [List.take_of_length_le (by omega)] at hinv
 rw [zkr hinv]
def F99 (a0 a1:Value) (w:World) (R:VW):Prop:=
 cL 121 [a0,a1] w fun x7 w=>
 rB .geq 3 T0 U0 x7 (iV 0) w fun x8=>
 R x8 w
def cfg99:Cfg:=⟨extL,[],[],[],[],[],[]⟩
theorem F99_call {a0 a1:Value} {w:World} {R:VW} (h:F99 a0 a1 w R):cL 99 [a0,a1] w R:=co (g:=cfg99) Tryz.func99 (by kernel_rfl) (by kernel_rfl) (by kernel_rfl) h
theorem zbt {w:World} {v0:Value} {W0:World} {l:(List ByteArray)} {s:ByteArray}  (h0:Is W0 v0 l) (e0:Ext W0 w)  :
   CALL Tryz.prog 99 [v0,.string s] w fun r w'=>Ext w w'∧(r=.bool (decide (s∈l))):=by
 refine F99_call ?_
 unfold F99
 refine (zd2 h0 e0).mono ?_
 rintro _ w1_ ⟨hx1_,rfl⟩
 refine zb5 ?_
 refine ⟨hx1_,?_⟩
 simp [zeV]
def F237 (a0 a1:Value) (w:World) (R:VW):Prop:=
 LOOPI [5] [(iV 0)] w fun u2 w next2=>
 rN 24 3 a0 w fun x8=>
 rC (u2 5) x8 w fun x9=>
 BR x9
 (rX 24 a0 (u2 5) w fun x14=>
 rL 9 x14 w fun x15=>
 rB .eql 9 T0 T0 x15 a1 w fun x17=>
 BR x17
 (R (Value.bool true) w)
 (rA (u2 5) (iV 1) w fun x11=>
 next2 [x11] w))
 (R (Value.bool false) w)
def cfg237:Cfg:=⟨extL,[],[(2,262128,[5])],[],[],[],[]⟩
theorem F237_call {a0 a1:Value} {w:World} {R:VW} (h:F237 a0 a1 w R):cL 237 [a0,a1] w R:=co (g:=cfg237) Tryz.func237 (by kernel_rfl) (by kernel_rfl) (by kernel_rfl) h
theorem zqp {w:World} {v0:Value} {W0:World} {l:(List ByteArray)} {s:ByteArray}  (h0:Is W0 v0 l) (e0:Ext W0 w)  :
   CALL Tryz.prog 237 [v0,.string s] w fun r w'=>Ext w w'∧(r=.bool (decide (s∈l))):=by
 refine F237_call ?_
 unfold F237
 refine zaB (l.length) (fun k us w'=>us=[.int .i64 (k:Int)]∧Ext w w'∧(s∉l.take k)) (0) (by omega) ⟨by simp,Ext.refl w,by simp⟩ ?_
 rintro k m2 uu2 w1_ hk2 ⟨hu,hx1_,hinv⟩
 simp only [List.map_cons,List.map_nil,List.cons.injEq,and_true] at hu
 try rw [hu]
 try clear hu
 have hln8:=zah h0
 refine zae u24 h0 ?_
 refine zai ?_
 refine br (fun c1=>?_) (fun c1=>?_)
 · refine zad u24 ty9 h0 (by omega) fun b14 o14 h14=>?_
   refine zas ty9 h14 (e0.trans hx1_) fun hS15=>?_
   refine zaM ?_
   refine br (fun c2=>?_) (fun c2=>?_)
   · refine ⟨hx1_,?_⟩
     have:s∈l:=c2▸List.getElem_mem _
     simp [this]
   refine zag (by omega) ?_
   refine ⟨m2-1,by omega,k+1,by omega,by simp,hx1_,?_⟩
   exact zcD (by omega) hinv c2
 refine ⟨hx1_,?_⟩
 rw [List.take_of_length_le (by omega)] at hinv
 simp [hinv]
def F175 (a0 a1:Value) (w:World) (R:VW):Prop:=
 rN 24 3 a0 w fun x8=>
 rB .gtr 3 T0 T0 x8 a1 w fun x10=>
 BR x10
 (R (Value.bool false) w)
 (rN 24 3 a0 w fun x12=>
 LOOPI [13] [(iV 0)] w fun u4 w next4=>
 rC (u4 13) x12 w fun x14=>
 BR x14
 (rX 24 a0 (u4 13) w fun x15=>
 rL 9 x15 w fun x16=>
 cL 176 [x16] w fun x18 w=>
 rD (Op.unary .not x18) w fun x19=>
 BR x19
 (R (Value.bool false) w)
 (rA (u4 13) (iV 1) w fun x20=>
 next4 [x20] w))
 (R (Value.bool true) w))
def cfg175:Cfg:=⟨extL,[],[(4,2089040,[13])],[],[],[],[]⟩
theorem F175_call {a0 a1:Value} {w:World} {R:VW} (h:F175 a0 a1 w R):cL 175 [a0,a1] w R:=co (g:=cfg175) Tryz.func175 (by kernel_rfl) (by kernel_rfl) (by kernel_rfl) h
theorem zd3 {w:World} {v0:Value} {W0:World} {l:(List ByteArray)} {m:Int}  (h0:Is W0 v0 l) (e0:Ext W0 w)  :
   CALL Tryz.prog 175 [v0,.int .i64 m] w fun r w'=>Ext w w'∧(r=.bool (decide ((l.length:Int)≤m)&&l.all zbb)):=by
 refine F175_call ?_
 unfold F175
 have hln8:=zah h0
 refine zae u24 h0 ?_
 refine zcT ?_
 refine br (fun c1=>?_) (fun c1=>?_)
 · refine ⟨Ext.refl w,?_⟩
   simp [show ¬(l.length:Int)≤m by omega]
 have hln12:=zah h0
 refine zae u24 h0 ?_
 refine zaB (l.length) (fun k us w'=>us=[.int .i64 (k:Int)]∧Ext w w'∧((l.take k).all zbb=true)) (0) (by omega) ⟨by simp,Ext.refl w,by simp⟩ ?_
 rintro k m4 uu4 w1_ hk4 ⟨hu,hx1_,hinv⟩
 simp only [List.map_cons,List.map_nil,List.cons.injEq,and_true] at hu
 try rw [hu]
 try clear hu
 refine zai ?_
 refine br (fun c2=>?_) (fun c2=>?_)
 · refine zad u24 ty9 h0 (by omega) fun b15 o15 h15=>?_
   refine zas ty9 h15 (e0.trans hx1_) fun hS16=>?_
   refine (zbJ ).mono ?_
   rintro _ w2_ ⟨hx2_,rfl⟩
   refine zaU ?_
   refine zb4 (fun c3=>?_) (fun c3=>?_)
   · refine ⟨(hx1_.trans hx2_),?_⟩
     simp only [zgE (p:=zbb) (l:=l) (k:=k) (by omega) (by simpa using c3),Bool.and_false]
   have hln:=zah h0
   refine zag (by omega) ?_
   refine ⟨m4-1,by omega,k+1,by omega,by simp,(hx1_.trans hx2_),?_⟩
   exact zh5 (by omega) hinv (by simpa using c3)
 refine ⟨hx1_,?_⟩
 simp [zh6 (p:=zbb) (l:=l) (by omega) hinv,show (l.length:Int)≤m by omega]
def F194 (a0 a1:Value) (w:World) (R:VW):Prop:=
 rN 24 3 a0 w fun x7=>
 rB .gtr 3 T0 T0 x7 a1 w fun x9=>
 BR x9
 (R (Value.bool false) w)
 (LOOPI [5] [(iV 0)] w fun u4 w next4=>
 rN 24 3 a0 w fun x12=>
 rC (u4 5) x12 w fun x13=>
 BR x13
 (rX 24 a0 (u4 5) w fun x18=>
 rL 9 x18 w fun x19=>
 cL 245 [x19] w fun x20 w=>
 rD (Op.unary .not x20) w fun x21=>
 BR x21
 (R (Value.bool false) w)
 (rA (u4 5) (iV 1) w fun x15=>
 next4 [x15] w))
 (R (Value.bool true) w))
def cfg194:Cfg:=⟨extL,[],[(4,4193328,[5])],[],[],[],[]⟩
theorem F194_call {a0 a1:Value} {w:World} {R:VW} (h:F194 a0 a1 w R):cL 194 [a0,a1] w R:=co (g:=cfg194) Tryz.func194 (by kernel_rfl) (by kernel_rfl) (by kernel_rfl) h
theorem zgb {w:World} {v0:Value} {W0:World} {l:(List ByteArray)} {m:Int}  (h0:Is W0 v0 l) (e0:Ext W0 w)  :
   CALL Tryz.prog 194 [v0,.int .i64 m] w fun r w'=>Ext w w'∧(r=.bool (decide ((l.length:Int)≤m)&&l.all zbb)):=by
 refine F194_call ?_
 unfold F194
 have hln7:=zah h0
 refine zae u24 h0 ?_
 refine zcT ?_
 refine br (fun c1=>?_) (fun c1=>?_)
 · refine ⟨Ext.refl w,?_⟩
   simp [show ¬(l.length:Int)≤m by omega]
 refine zaB (l.length) (fun k us w'=>us=[.int .i64 (k:Int)]∧Ext w w'∧((l.take k).all zbb=true)) (0) (by omega) ⟨by simp,Ext.refl w,by simp⟩ ?_
 rintro k m4 uu4 w1_ hk4 ⟨hu,hx1_,hinv⟩
 simp only [List.map_cons,List.map_nil,List.cons.injEq,and_true] at hu
 try rw [hu]
 try clear hu
 have hln12:=zah h0
 refine zae u24 h0 ?_
 refine zai ?_
 refine br (fun c2=>?_) (fun c2=>?_)
 · refine zad u24 ty9 h0 (by omega) fun b18 o18 h18=>?_
   refine zas ty9 h18 (e0.trans hx1_) fun hS19=>?_
   refine (zgB ).mono ?_
   rintro _ w2_ ⟨hx2_,rfl⟩
   refine zaU ?_
   refine zb4 (fun c3=>?_) (fun c3=>?_)
   · refine ⟨(hx1_.trans hx2_),?_⟩
     simp only [zgE (p:=zbb) (l:=l) (k:=k) (by omega) (by simpa using c3),Bool.and_false]
   refine zag (by omega) ?_
   refine ⟨m4-1,by omega,k+1,by omega,by simp,(hx1_.trans hx2_),?_⟩
   exact zh5 (by omega) hinv (by simpa using c3)
 refine ⟨hx1_,?_⟩
 simp [zh6 (p:=zbb) (l:=l) (by omega) hinv,show (l.length:Int)≤m by omega]
instance decNodup:∀ (l:List ByteArray),Decidable l.Nodup
 | []=>isTrue List.nodup_nil
 | x :: l=>match decMemBA x l,decNodup l with
   | isFalse h,isTrue h'=>isTrue (List.nodup_cons.2 ⟨h,h'⟩)
   | isTrue h,_=>isFalse fun e=>(List.nodup_cons.1 e).1 h
   | _,isFalse h=>isFalse fun e=>h (List.nodup_cons.1 e).2
theorem zvb {l:List ByteArray} {k:Nat} (hk:k<l.length) (h:l[k]∈l.drop (k+1)):¬l.Nodup:=fun hn=>by
 have e:l=l.take k++(l[k] :: l.drop (k+1)):=by simp
 rw [e,List.nodup_append] at hn
 exact (List.nodup_cons.1 hn.2.1).1 h
theorem zt2 {l:List ByteArray} {k:Nat} (hk:k<l.length) (h:l[k]∈l.take k):¬l.Nodup:=fun hn=>by
 have e:l=l.take k++(l[k] :: l.drop (k+1)):=by simp
 rw [e,List.nodup_append] at hn
 exact hn.2.2 _ h _ List.mem_cons_self rfl
theorem ziB {l:List ByteArray} {k:Nat} (hk:k<l.length) (h:(l.take k).Nodup) (c:l[k]∉l.take k):(l.take (k+1)).Nodup:=by
 rw [List.take_succ_eq_append_getElem hk,List.nodup_append]
 refine ⟨h,by simp,fun a ha b hb e=>?_⟩
 simp only [List.mem_cons,List.not_mem_nil,or_false] at hb
 subst e;subst hb
 exact c ha
theorem zf4:∀ {l:List ByteArray},(∀ (k:Nat) (hk:k<l.length),l[k]∉l.drop (k+1))→l.Nodup
 | [],_=>List.nodup_nil
 | x :: l,h=>List.nodup_cons.2 ⟨h 0 (by simp),zf4 fun k hk=>h (k+1) (by simpa using hk)⟩
def F97 (a0:Value) (w:World) (R:VW):Prop:=
 rN 24 3 a0 w fun x6=>
 LOOPI [7] [(iV 0)] w fun u2 w next2=>
 rC (u2 7) x6 w fun x8=>
 BR x8
 (rX 24 a0 (u2 7) w fun x10=>
 rL 9 x10 w fun x11=>
 rA (u2 7) (iV 1) w fun x14=>
 rD (Instr.sliceAt 24 a0 (some x14) none none) w fun x15=>
 cL 99 [x15,x11] w fun x17 w=>
 BR x17
 (R (Value.bool true) w)
 (rA (u2 7) (iV 1) w fun x18=>
 next2 [x18] w))
 (R (Value.bool false) w)
def cfg97:Cfg:=⟨extL,[],[(2,524188,[7])],[],[],[],[]⟩
theorem F97_call {a0:Value} {w:World} {R:VW} (h:F97 a0 w R):cL 97 [a0] w R:=co (g:=cfg97) Tryz.func97 (by kernel_rfl) (by kernel_rfl) (by kernel_rfl) h
theorem zc8 {w:World} {v0:Value} {W0:World} {l:(List ByteArray)}  (h0:Is W0 v0 l) (e0:Ext W0 w)  :
   CALL Tryz.prog 97 [v0] w fun r w'=>Ext w w'∧(r=.bool (decide (¬l.Nodup))):=by
 refine F97_call ?_
 unfold F97
 have hln6:=zah h0
 refine zae u24 h0 ?_
 refine zaB (l.length) (fun k us w'=>us=[.int .i64 (k:Int)]∧Ext w w'∧(∀ (j:Nat) (hj:j<l.length),j<k→l[j]∉l.drop (j+1))) (0) (by omega) ⟨by simp,Ext.refl w,fun j hj h=>by omega⟩ ?_
 rintro k m2 uu2 w1_ hk2 ⟨hu,hx1_,hinv⟩
 simp only [List.map_cons,List.map_nil,List.cons.injEq,and_true] at hu
 try rw [hu]
 try clear hu
 have hln:=zah h0
 refine zai ?_
 refine br (fun c1=>?_) (fun c1=>?_)
 · refine zad u24 ty9 h0 (by omega) fun b10 o10 h10=>?_
   refine zas ty9 h10 (e0.trans hx1_) fun hS11=>?_
   refine zag (by omega) ?_
   refine zgx u24 ty9 h0 (by omega) (by omega) fun v15 h15=>?_
   refine (zbt h15 (e0.trans hx1_)).mono ?_
   rintro _ w2_ ⟨hx2_,rfl⟩
   refine br (fun c2=>?_) (fun c2=>?_)
   · refine ⟨(hx1_.trans hx2_),?_⟩
     simp [zvb (by omega) c2]
   refine zag (by omega) ?_
   refine ⟨m2-1,by omega,k+1,by omega,by simp,(hx1_.trans hx2_),?_⟩
   intro j hj hjk
   by_cases h:j=k
   · subst h;exact c2
   exact hinv j hj (by omega)
 refine ⟨hx1_,?_⟩
 simp [zf4 fun j hj=>hinv j hj (by omega)]
def F195 (a0:Value) (w:World) (R:VW):Prop:=
 LOOPI [3] [(iV 0)] w fun u2 w next2=>
 rN 24 3 a0 w fun x6=>
 rC (u2 3) x6 w fun x7=>
 BR x7
 ((fun w=>rD (Instr.sliceAt 24 a0 none (some (u2 3)) none) w fun x12=>
 rX 24 a0 (u2 3) w fun x15=>
 rL 9 x15 w fun x16=>
 cL 237 [x12,x16] w fun x17 w=>
 BR x17
 (R (Value.bool true) w)
 (rA (u2 3) (iV 1) w fun x9=>
 next2 [x9] w)) (World.drew1 w))
 (R (Value.bool false) w)
def cfg195:Cfg:=⟨extL,[],[(2,262140,[3])],[(4,[0,1,2,3,4,5,6,7],0)],[],[],[]⟩
theorem F195_call {a0:Value} {w:World} {R:VW} (h:F195 a0 w R):cL 195 [a0] w R:=co (g:=cfg195) Tryz.func195 (by kernel_rfl) (by kernel_rfl) (by kernel_rfl) h
theorem zgc {w:World} {v0:Value} {W0:World} {l:(List ByteArray)}  (h0:Is W0 v0 l) (e0:Ext W0 w)  :
   CALL Tryz.prog 195 [v0] w fun r w'=>Ext w w'∧(r=.bool (decide (¬l.Nodup))):=by
 refine F195_call ?_
 unfold F195
 refine zaB (l.length) (fun k us w'=>us=[.int .i64 (k:Int)]∧Ext w w'∧((l.take k).Nodup)) (0) (by omega) ⟨by simp,Ext.refl w,by simp⟩ ?_
 rintro k m2 uu2 w1_ hk2 ⟨hu,hx1_,hinv⟩
 simp only [List.map_cons,List.map_nil,List.cons.injEq,and_true] at hu
 try rw [hu]
 try clear hu
 have hln:=zah h0
 have hln6:=zah h0
 refine zae u24 h0 ?_
 refine zai ?_
 refine br (fun c1=>?_) (fun c1=>?_)
 · have hx2_:=zak w1_
   refine ziy u24 ty9 h0 (by omega) (by omega) fun v12 h12=>?_
   refine zad u24 ty9 h0 (by omega) fun b15 o15 h15=>?_
   refine zas ty9 h15 (e0.trans (hx1_.trans hx2_)) fun hS16=>?_
   refine (zqp h12 (e0.trans (hx1_.trans hx2_))).mono ?_
   rintro _ w3_ ⟨hx3_,rfl⟩
   refine br (fun c2=>?_) (fun c2=>?_)
   · refine ⟨(hx1_.trans (hx2_.trans hx3_)),?_⟩
     simp [zt2 (by omega) c2]
   refine zag (by omega) ?_
   refine ⟨m2-1,by omega,k+1,by omega,by simp,(hx1_.trans (hx2_.trans hx3_)),?_⟩
   exact ziB (by omega) hinv c2
 refine ⟨hx1_,?_⟩
 rw [List.take_of_length_le (by omega)] at hinv
 simp [hinv]
def F179 (a0 a1:Value) (w:World) (R:VW):Prop:=
 cL 99 [a0,a1] w fun x7 w=>
 BR x7
 (R a0 w)
 (oP (Instr.buildSlice 24 1 #[(0,a1)]) w fun x11 w=>
 oP (Builtin.append_ #[24,24] 24 [a0,x11].toArray) w fun x12 w=>
 R x12 w)
def cfg179:Cfg:=⟨extL,[],[],[],[],[],[]⟩
theorem F179_call {a0 a1:Value} {w:World} {R:VW} (h:F179 a0 a1 w R):cL 179 [a0,a1] w R:=co (g:=cfg179) Tryz.func179 (by kernel_rfl) (by kernel_rfl) (by kernel_rfl) h
def F243 (a0 a1:Value) (w:World) (R:VW):Prop:=
 oP (Instr.box 53 a1) w fun x3 w=>
 rF 53 x3 0 w fun x7=>
 rL 3 x7 w fun x8=>
 rB .eql 3 T0 U0 x8 (iV 2) w fun x9=>
 BR x9
 (rF 53 x3 2 w fun x11=>
 rL 9 x11 w fun x12=>
 cL 179 [a0,x12] w fun x13 w=>
 R x13 w)
 (rF 53 x3 3 w fun x14=>
 rL 51 x14 w fun x15=>
 rN 51 3 x15 w fun x16=>
 LOOPI [0,17] [a0,(iV 0)] w fun u4 w next4=>
 rC (u4 17) x16 w fun x18=>
 BR x18
 (rX 51 x15 (u4 17) w fun x19=>
 rL 53 x19 w fun x20=>
 oP (Instr.alloc 53 true (.tuple #[])) w fun x6 w=>
 oS 53 x6 x20 w fun w=>
 rL 53 x6 w fun x22=>
 cL 243 [(u4 0),x22] w fun x23 w=>
 rA (u4 17) (iV 1) w fun x24=>
 next4 [x23,x24] w)
 (R (u4 0) w))
def cfg243:Cfg:=⟨extL,[],[(4,33423425,[0,17])],[],[],[],[]⟩
theorem F243_call {a0 a1:Value} {w:World} {R:VW} (h:F243 a0 a1 w R):cL 243 [a0,a1] w R:=co (g:=cfg243) Tryz.func243 (by kernel_rfl) (by kernel_rfl) (by kernel_rfl) h
def F247 (a0 a1:Value) (w:World) (R:VW):Prop:=
 oP (Instr.box 53 a0) w fun x2 w=>
 rF 53 x2 0 w fun x7=>
 rL 3 x7 w fun x8=>
 rB .eql 3 T0 U0 x8 (iV 2) w fun x9=>
 BR x9
 (LOOPI [5] [(iV 0)] w fun u3 w next3=>
 rN 24 3 a1 w fun x12=>
 rC (u3 5) x12 w fun x13=>
 BR x13
 ((fun w=>rX 24 a1 (u3 5) w fun x18=>
 rL 9 x18 w fun x19=>
 rF 53 x2 2 w fun x20=>
 rL 9 x20 w fun x21=>
 rB .eql 9 T0 T0 x19 x21 w fun x22=>
 BR x22
 (R a1 w)
 (rA (u3 5) (iV 1) w fun x15=>
 next3 [x15] w)) (World.drew1 w))
 (rF 53 x2 2 w fun x25=>
 rL 9 x25 w fun x26=>
 oP (Instr.buildSlice 24 1 #[(0,x26)]) w fun x27 w=>
 oP (Builtin.append_ #[24,24] 24 [a1,x27].toArray) w fun x28 w=>
 R x28 w))
 (LOOPI [1,6] [a1,(iV 0)] w fun u9 w next9=>
 rF 53 x2 3 w fun x30=>
 rL 51 x30 w fun x31=>
 rN 51 3 x31 w fun x32=>
 rC (u9 6) x32 w fun x33=>
 BR x33
 (rF 53 x2 3 w fun x36=>
 rL 51 x36 w fun x37=>
 rX 51 x37 (u9 6) w fun x39=>
 rL 53 x39 w fun x40=>
 cL 247 [x40,(u9 1)] w fun x42 w=>
 rA (u9 6) (iV 1) w fun x35=>
 next9 [x42,x35] w)
 (R (u9 1) w))
def cfg247:Cfg:=⟨extL,[],[(3,16776240,[5]),(9,8795556151362,[1,6])],[(5,[0,1,2,3,4,5,6],0)],[],[],[]⟩
theorem F247_call {a0 a1:Value} {w:World} {R:VW} (h:F247 a0 a1 w R):cL 247 [a0,a1] w R:=co (g:=cfg247) Tryz.func247 (by kernel_rfl) (by kernel_rfl) (by kernel_rfl) h
def F182 (a0:Value) (w:World) (R:VW):Prop:=
 oP (Instr.box 53 a0) w fun x1 w=>
 rL 53 x1 w fun x3=>
 cL 189 [x3] w fun x4 w=>
 rD (Op.unary .not x4) w fun x5=>
 BR x5
 (R (Value.slice none 0 0) w)
 (rL 53 x1 w fun x6=>
 cL 243 [(Value.slice none 0 0),x6] w fun x7 w=>
 R x7 w)
def cfg182:Cfg:=⟨extL,[],[],[],[],[],[]⟩
theorem F182_call {a0:Value} {w:World} {R:VW} (h:F182 a0 w R):cL 182 [a0] w R:=co (g:=cfg182) Tryz.func182 (by kernel_rfl) (by kernel_rfl) (by kernel_rfl) h
def F199 (a0:Value) (w:World) (R:VW):Prop:=
 oP (Instr.box 53 a0) w fun x1 w=>
 rL 53 x1 w fun x3=>
 cL 198 [x3] w fun x4 w=>
 rD (Op.unary .not x4) w fun x5=>
 BR x5
 (oP (Instr.buildSlice 24 0 #[]) w fun x6 w=>
 R x6 w)
 (rL 53 x1 w fun x7=>
 oP (Instr.buildSlice 24 0 #[]) w fun x8 w=>
 cL 247 [x7,x8] w fun x9 w=>
 R x9 w)
def cfg199:Cfg:=⟨extL,[],[],[],[],[],[]⟩
theorem F199_call {a0:Value} {w:World} {R:VW} (h:F199 a0 w R):cL 199 [a0] w R:=co (g:=cfg199) Tryz.func199 (by kernel_rfl) (by kernel_rfl) (by kernel_rfl) h
def zpW (l:List ByteArray) (s:ByteArray):List ByteArray:=if s∈l then l else l++[s]
theorem zsi (l:List ByteArray) (s:ByteArray):(zpW l s).length≤l.length+1:=by unfold zpW;split<;>simp
def readsT:Nat→DTerm→List ByteArray→List ByteArray
 | n,t,l=>if t.kind=2 then zpW l t.name else match n with | 0=>l | m+1=>t.kids.foldl (fun l k=>readsT m k l) l
theorem zda (n:Nat) (t:DTerm) (l:List ByteArray):readsT n t l=if t.kind=2 then zpW l t.name else match n with | 0=>l | m+1=>t.kids.foldl (fun l k=>readsT m k l) l:=readsT.eq_def n t l
theorem zjF {α β:Type} (f:β→α→β) (b:β) {l:List α} {k:Nat} (hk:k<l.length):(l.take (k+1)).foldl f b=f ((l.take k).foldl f b) l[k]:=by
 rw [List.take_succ_eq_append_getElem hk,List.foldl_append];rfl
theorem ziC {n:Nat} {t:DTerm} (h:zaL n t=true) (h2:¬t.kind=2):t.kids=[]∨∃ m,n=m+1∧t.kids.length≤2∧∀ k∈t.kids,zaL m k=true:=by
 by_cases h1:t.kind=1
 · rw [zdI h1] at h
   simp only [Bool.and_eq_true,decide_eq_true_eq] at h
   exact .inl (List.eq_nil_of_length_eq_zero (by omega))
 rw [zba h1 h2] at h
 simp only [Bool.and_eq_true,decide_eq_true_eq] at h
 obtain ⟨⟨_,h3⟩,h4⟩:=h
 cases n with
 | zero=>simp at h4
 | succ m=>
   refine .inr ⟨m,rfl,?_,fun k hk=>List.all_eq_true.1 h4 k hk⟩
   split at h3<;>omega
theorem zjG:∀ (n:Nat) (t:DTerm) (l:List ByteArray),zaL n t=true→(readsT n t l).length≤l.length+2^n
 | n,t,l,h=>by
   rw [zda]
   have hp:1≤2^n:=Nat.one_le_two_pow
   split
   · have:=zsi l t.name;omega
   rename_i h2
   rcases ziC h h2 with hk | ⟨m,rfl,hk,hall⟩
   · cases n with
     | zero=>simp
     | succ m=>simp [hk]
   show (t.kids.foldl (fun l k=>readsT m k l) l).length≤_
   have key:∀ (ks:List DTerm) (l:List ByteArray),(∀ k∈ks,zaL m k=true)→(ks.foldl (fun l k=>readsT m k l) l).length≤l.length+ks.length*2^m:=by
     intro ks
     induction ks with
     | nil=>intro l _;simp
     | cons k ks ih=>
       intro l hks
       rw [List.foldl_cons,List.length_cons,Nat.add_mul,Nat.one_mul]
       have h1:=ih (readsT m k l) fun x hx=>hks x (by simp [hx])
       have h2:=zjG m k l (hks k (by simp))
       omega
   have h1:=key t.kids l hall
   have h2:t.kids.length*2^m≤2*2^m:=Nat.mul_le_mul_right _ hk
   rw [Nat.pow_succ];omega
theorem zob {w:World} {v:Value} {l:List ByteArray} {F:List Nat} {s:ByteArray} {ty:TypeId} {K:Value→World→Prop} (hr:RowF F 9 w v l) (hn:F.Nodup) (hs:s.size≤maxLen) (hl:l.length≤1000000)
   (k:∀ v' w',Chg F w w'→(∃ F',RowF F' 9 w' v' (l++[s])∧F'.Nodup∧∀ b∈F',b∈F∨w.heap.size≤b)→K v' w') :
   OP Tryz.prog (Instr.buildSlice 24 1 #[(0,.string s)]) w fun x w1=>OP Tryz.prog (Builtin.append_ #[24,24] ty [v,x].toArray) w1 K:=by
 refine zgD (α:=ByteArray) (x:=s) (F:=[]) u24 ty9 z9 (by decide) ⟨⟨_,⟨rfl,rfl,hs⟩,rfl⟩,List.nodup_nil,Wr.nil _⟩ fun w1 hx1 hm1=>?_
 obtain ⟨a,cap,Fi,xs,he,h1,h2,hc,h4⟩:=zcc hm1.is
 have hFi:=Cells.flat (xs:=xs) hc
 subst hFi
 refine zev (α:=ByteArray) (m:=[s]) u24 ty9 zc9 (hr.ext hx1) hn he hc (.inr ?_) (Wr.nil _) (by simpa using hn) (by simp only [List.length_cons,List.length_nil,zam];omega) (by simp only [List.length_cons,List.length_nil];omega) fun v' w' F' hch hfull hr' hn' hs'=>?_
 · rcases h4 with h4 | ⟨b,o,ha,hra,_⟩
   · simp at h4
   exact ⟨b,o,ha,hra⟩
 have hown:∀ c∈v.ownBlock.toList,c∈F:=fun c hc=>by
   obtain ⟨xs,Fi,_,_,rfl,_⟩:=hr
   simp only [List.mem_append];exact .inl hc
 refine k v' w' ((Ext.chg F hx1).trans (hch.mono hown)) ⟨F',hr',hn',fun b hb=>?_⟩
 rcases hs' b hb with h | h | h
 · exact .inl h
 · simp at h
 exact .inr (Nat.le_trans hx1.size h)
theorem zpc {w:World} {v:Value} {l:List ByteArray} {F:List Nat} {s:ByteArray} (hr:RowF F 9 w v l) (hn:F.Nodup) (hs:s.size≤maxLen) (hl:l.length≤1000000) :
   CALL Tryz.prog 179 [v,.string s] w fun r w'=>Chg F w w'∧∃ F',RowF F' 9 w' r (zpW l s)∧F'.Nodup∧∀ b∈F',b∈F∨w.heap.size≤b:=by
 refine F179_call ?_
 unfold F179
 refine (zbt hr.own.is (Ext.refl w)).mono ?_
 rintro _ w1 ⟨hx1,rfl⟩
 refine br (fun c1=>?_) (fun c1=>?_)
 · exact ⟨Ext.chg F hx1,F,by unfold zpW;rw [if_pos c1];exact hr.ext hx1,hn,fun b hb=>.inl hb⟩
 refine zob (hr.ext hx1) hn hs hl fun v' w' hc ⟨F',h1,h2,h3⟩=>⟨(Ext.chg F hx1).trans hc,F',by unfold zpW;rw [if_neg c1];exact h1,h2,fun b hb=>?_⟩
 rcases h3 b hb with h | h
 · exact .inl h
 exact .inr (Nat.le_trans hx1.size h)
def zks (F:List Nat) (w:World) (l:List ByteArray) (r:Value) (w':World):Prop:=Chg F w w'∧∃ F',RowF F' 9 w' r l∧F'.Nodup∧∀ b∈F',b∈F∨w.heap.size≤b
def zv0 (n:Nat):Prop:=∀ {w W:World} {v u:Value} {t:DTerm} {l:List ByteArray} {F:List Nat},Is W v t→Ext W w→RowF F 9 w u l→F.Nodup→(∀ b∈F,W.heap.size≤b)→zaL n t=true→l.length+2^n≤1000 →
 CALL Tryz.prog 243 [u,v] w (zks F w (readsT n t l))
def zv1 (n:Nat):Prop:=∀ {w W:World} {v u:Value} {t:DTerm} {l:List ByteArray} {F:List Nat},Is W v t→Ext W w→RowF F 9 w u l→F.Nodup→(∀ b∈F,W.heap.size≤b)→zaL n t=true→l.length+2^n≤1000 →
 CALL Tryz.prog 247 [v,u] w (zks F w (readsT n t l))
theorem zh7 {n:Nat} {t:DTerm} {l:List ByteArray} (h:t.kind=2):readsT n t l=zpW l t.name:=by rw [zda,if_pos h]
theorem ziD {n:Nat} {t:DTerm} {l:List ByteArray} (h:zaL n t=true) (h2:¬t.kind=2) (hl:l.length+2^n≤1000) :
   ∃ m,(t.kids=[]∨n=m+1)∧readsT n t l=t.kids.foldl (fun l k=>readsT m k l) l∧(∀ k∈t.kids,zaL m k=true)∧∀ k,k<t.kids.length→((t.kids.take k).foldl (fun l k=>readsT m k l) l).length+2^m≤1000:=by
 rcases ziC h h2 with hk | ⟨m,rfl,hk,hall⟩
 · refine ⟨0,.inl hk,?_,by simp [hk],by simp [hk]⟩
   rw [zda,if_neg h2,hk]
   cases n<;>rfl
 refine ⟨m,.inr rfl,by rw [zda,if_neg h2],hall,fun k hkl=>?_⟩
 rw [Nat.pow_succ] at hl
 have key:∀ (ks:List DTerm) (l:List ByteArray),(∀ k∈ks,zaL m k=true)→(ks.foldl (fun l k=>readsT m k l) l).length≤l.length+ks.length*2^m:=by
   intro ks
   induction ks with
   | nil=>intro l _;simp
   | cons k ks ih=>
     intro l hks
     rw [List.foldl_cons,List.length_cons,Nat.add_mul,Nat.one_mul]
     have h1:=ih (readsT m k l) fun x hx=>hks x (by simp [hx])
     have h2:=zjG m k l (hks k (by simp))
     omega
 have h1:=key (t.kids.take k) l fun x hx=>hall x (List.mem_of_mem_take hx)
 have h3:(t.kids.take k).length≤1:=by simp;omega
 have h4:(t.kids.take k).length*2^m≤1*2^m:=Nat.mul_le_mul_right _ h3
 omega
theorem zoc {W w:World} {b o:Nat} {t:DTerm} (h:AtB W w b o t):AtB W w b (o+3) t.kids:=by
 have h':AtB W w b o t.tup:=by obtain ⟨F,cs,hr,ha⟩:=h;exact ⟨F,cs,zf9.1 hr,ha⟩
 exact h'.snd.snd.snd
theorem zkt {n:Nat} (ih:∀ m,m+1=n→zv0 m):zv0 n:=by
 intro w W v u t l F h e hr hn hF ht hl
 refine F243_call ?_
 unfold F243
 refine zaz zcd rfl h e fun w1 hx1 hA hV=>?_
 refine zaa zdE ?_
 refine zac ty3 (zbf hA) (Ext.refl w1) fun _=>?_
 refine zaf ?_
 refine br (fun c1=>?_) (fun c1=>?_)
 · refine zaa zdX ?_
   refine zas ty9 (zbj hA) (Ext.refl w1) fun hS=>?_
   have hp:1≤2^n:=Nat.one_le_two_pow
   refine (zpc (hr.ext hx1) hn hS (by omega)).mono ?_
   rintro r w2 ⟨hc,F',h1,h2,h3⟩
   refine ⟨(Ext.chg F hx1).trans hc,F',by rw [zh7 c1];exact h1,h2,fun b hb=>?_⟩
   rcases h3 b hb with h | h
   · exact .inl h
   exact .inr (Nat.le_trans hx1.size h)
 obtain ⟨m,hm,he,hks,hlen⟩:=ziD ht c1 hl
 refine zaa zbV ?_
 refine zcU zhd (zoc (zfe h hV rfl)) (e.trans hx1) (Ext.refl w1) fun v15 h15=>?_
 refine zae u51 h15 ?_
 have hll:=zah h15
 refine zaB t.kids.length (fun k us w'=>∃ q,us=[q,.int .i64 (k:Int)]∧zks F w ((t.kids.take k).foldl (fun l k=>readsT m k l) l) q w') 0 (Nat.zero_le _) ⟨u,rfl,Ext.chg F hx1,F,by simpa using hr.ext hx1,hn,fun b hb=>.inl hb⟩ ?_
 rintro k mm uu w2 hkm ⟨q,hu,hc2,F2,hr2,hn2,hs2⟩
 obtain ⟨hu0,hu1⟩:=ze4 hu
 try rw [hu0]
 try rw [hu1]
 have hF2:∀ b∈F2,W.heap.size≤b:=fun b hb=>by
   rcases hs2 b hb with h | h
   · exact hF b h
   exact Nat.le_trans e.size h
 have hxW:Ext W w2:=e.chg_trans hc2 hF
 refine zai ?_
 refine br (fun c2=>?_) (fun c2=>?_)
 · have hk:k<t.kids.length:=by omega
   obtain ⟨m',rfl⟩:∃ m',n=m'+1:=by
     rcases hm with h | h
     · rw [h] at hk;simp at hk
     exact ⟨m,h⟩
   have hmm:m'=m:=by
     rcases hm with h | h
     · rw [h] at hk;simp at hk
     omega
   subst hmm
   refine zad u51 zcd h15 hk fun b o hA2=>?_
   refine zab zcd hA2 hxW fun v20 h20=>?_
   refine zcA zuU rfl zcd rfl h20 hxW fun w3 hx3 hA3 hV3=>?_
   refine zbd hV3 (Ext.refl w3) ?_
   refine (ih m' rfl h20 (hxW.trans hx3) (hr2.ext hx3) hn2 hF2 (hks _ (List.getElem_mem hk)) (hlen k hk)).mono ?_
   rintro r w4 ⟨hc4,F4,hr4,hn4,hs4⟩
   refine zag (by omega) ?_
   refine ⟨mm-1,by omega,k+1,by omega,r,rfl,?_⟩
   refine ⟨?_,F4,by rw [zjF _ _ hk];exact hr4,hn4,fun b hb=>?_⟩
   · -- the blocks of F alone have turned
     refine ⟨hc4.os.trans (hx3.os.trans hc2.os),hc4.tape.trans (hx3.tape.trans hc2.tape),hc4.output.trans (hx3.output.trans hc2.output),Nat.le_trans hc2.size (Nat.le_trans hx3.size hc4.size),fun b hb hbF=>?_⟩
     have hb2:b<w2.heap.size:=Nat.lt_of_lt_of_le hb hc2.size
     have hbF2:b∉F2:=fun hm=>by
       rcases hs2 b hm with h | h
       · exact hbF h
       omega
     rw [hc4.block b (Nat.lt_of_lt_of_le hb2 hx3.size) hbF2,hx3.heap hb2,hc2.block b hb hbF]
   rcases hs4 b hb with h | h
   · exact hs2 b h
   have:=hx3.size;have:=hc2.size;exact .inr (by omega)
 rw [List.take_of_length_le (by omega),←he] at hr2
 exact ⟨hc2,F2,hr2,hn2,hs2⟩
theorem ziE:∀ n,zv0 n
  | n=>zkt fun m hm=>ziE m
termination_by n=>n
decreasing_by omega
theorem zku {n:Nat} (ih:∀ m,m+1=n→zv1 m):zv1 n:=by
 intro w W v u t l F h e hr hn hF ht hl
 refine F247_call ?_
 unfold F247
 have hlen:=zah hr.own.is
 have hp:1≤2^n:=Nat.one_le_two_pow
 refine zaz zcd rfl h e fun w1 hx1 hA hV=>?_
 have hg1:w.heap.size<w1.heap.size:=hV.lt
 have hgF:w.heap.size∉F:=fun hm=>by have:=hr.lt _ hm;omega
 refine zaa zdE ?_
 refine zac ty3 (zbf hA) (Ext.refl w1) fun _=>?_
 refine zaf ?_
 refine br (fun c1=>?_) (fun c1=>?_)
 · have hr1:=hr.ext hx1
   refine zaB l.length (fun k us w'=>us=[.int .i64 (k:Int)]∧Ext w1 w'∧t.name∉l.take k) 0 (Nat.zero_le _) ⟨rfl,Ext.refl w1,by simp⟩ ?_
   rintro k mm uu w2 hkm ⟨hu,hx2,hinv⟩
   simp only [List.map_cons,List.map_nil,List.cons.injEq,and_true] at hu
   rw [hu]
   refine zae u24 hr1.own.is ?_
   refine zai ?_
   refine br (fun c2=>?_) (fun c2=>?_)
   · have hk:k<l.length:=by omega
     have hx3:=hx2.trans (zak w2)
     refine zad u24 ty9 hr1.own.is hk fun b o hA2=>?_
     refine zas ty9 hA2 hx3 fun _=>?_
     refine zaa zdX ?_
     refine zas ty9 (zbj hA) hx3 fun _=>?_
     refine zaM ?_
     refine br (fun c3=>?_) (fun c3=>?_)
     · have hm:t.name∈l:=c3▸List.getElem_mem hk
       refine ⟨Ext.chg F (hx1.trans hx3),F,?_,hn,fun b hb=>.inl hb⟩
       rw [zh7 c1,zpW,if_pos hm]
       exact hr1.ext hx3
     refine zag (by omega) ?_
     exact ⟨mm-1,by omega,k+1,by omega,rfl,hx3,zcD hk hinv c3⟩
   rw [List.take_of_length_le (by omega)] at hinv
   have hx3:=hx2.trans (zak w2)
   first
     | refine zaa zdX ?_
     | skip
   refine zas ty9 (zbj hA) hx2 fun hS=>?_
   refine zob (hr1.ext hx2) hn hS (by omega) fun v' w' hc ⟨F',h1,h2,h3⟩=>?_
   refine ⟨(Ext.chg F (hx1.trans hx2)).trans hc,F',by rw [zh7 c1,zpW,if_neg hinv];exact h1,h2,fun b hb=>?_⟩
   rcases h3 b hb with h | h
   · exact .inl h
   exact .inr (Nat.le_trans (hx1.trans hx2).size h)
 obtain ⟨m,hm,he,hks,hlen⟩:=ziD ht c1 hl
 refine zaB t.kids.length (fun k us w'=>∃ q,us=[q,.int .i64 (k:Int)]∧zks F w1 ((t.kids.take k).foldl (fun l k=>readsT m k l) l) q w') 0 (Nat.zero_le _) ⟨u,rfl,Chg.refl F w1,F,by simpa using hr.ext hx1,hn,fun b hb=>.inl hb⟩ ?_
 rintro k mm uu w2 hkm ⟨q,hu,hc2,F2,hr2,hn2,hs2⟩
 obtain ⟨hu0,hu1⟩:=ze4 hu
 try rw [hu0]
 try rw [hu1]
 have hF2:∀ b∈F2,W.heap.size≤b:=fun b hb=>by
   rcases hs2 b hb with h | h
   · exact hF b h
   have:=e.size;have:=hx1.size;omega
 have hxW:Ext W w2:=(e.trans hx1).chg_trans hc2 hF
 have hB2:AtB W w2 w.heap.size 0 t:=(zfe h hV rfl).keep (hc2.block _ hg1 hgF)
 have hA2:=hB2.at hxW
 refine zaa zbV ?_
 refine zab zhd (zaE hA2) (Ext.refl w2) fun v31 h31=>?_
 refine zae u51 h31 ?_
 have hll:=zah h31
 refine zai ?_
 refine br (fun c2=>?_) (fun c2=>?_)
 · have hk:k<t.kids.length:=by omega
   obtain ⟨m',rfl⟩:∃ m',n=m'+1:=by
     rcases hm with h | h
     · rw [h] at hk;simp at hk
     exact ⟨m,h⟩
   have hmm:m'=m:=by
     rcases hm with h | h
     · rw [h] at hk;simp at hk
     omega
   subst hmm
   refine zaa zbV ?_
   refine zcU zhd (zoc hB2) hxW (Ext.refl w2) fun v37 h37=>?_
   refine zad u51 zcd h37 hk fun b o hA3=>?_
   refine zab zcd hA3 hxW fun v40 h40=>?_
   refine (ih m' rfl h40 hxW hr2 hn2 hF2 (hks _ (List.getElem_mem hk)) (hlen k hk)).mono ?_
   rintro r w4 ⟨hc4,F4,hr4,hn4,hs4⟩
   refine zag (by omega) ?_
   refine ⟨mm-1,by omega,k+1,by omega,r,rfl,?_⟩
   refine ⟨?_,F4,by rw [zjF _ _ hk];exact hr4,hn4,fun b hb=>?_⟩
   · refine ⟨hc4.os.trans hc2.os,hc4.tape.trans hc2.tape,hc4.output.trans hc2.output,Nat.le_trans hc2.size hc4.size,fun b hb hbF=>?_⟩
     have hb2:b<w2.heap.size:=Nat.lt_of_lt_of_le hb hc2.size
     have hbF2:b∉F2:=fun hm=>by
       rcases hs2 b hm with h | h
       · exact hbF h
       omega
     rw [hc4.block b hb2 hbF2,hc2.block b hb hbF]
   rcases hs4 b hb with h | h
   · exact hs2 b h
   have:=hc2.size;exact .inr (by omega)
 rw [List.take_of_length_le (by omega),←he] at hr2
 refine ⟨(Ext.chg F hx1).trans hc2,F2,hr2,hn2,fun b hb=>?_⟩
 rcases hs2 b hb with h | h
 · exact .inl h
 exact .inr (Nat.le_trans hx1.size h)
theorem ziF:∀ n,zv1 n
  | n=>zku fun m hm=>ziF m
termination_by n=>n
decreasing_by omega
def zbl (t:DTerm):List ByteArray:=if zaL 6 t=true then readsT 6 t [] else []
theorem zsj {α:Type} [Rep α] (e:TypeId) (w:World):RowF (α:=α) [] e w (.slice none 0 0) []:=⟨[],[],⟨by simp,.inl ⟨rfl,rfl⟩⟩,⟨rfl,rfl⟩,rfl,Wr.nil _⟩
theorem zdk {w W:World} {v:Value} {t:DTerm} (h:Is W v t) (e:Ext W w):CALL Tryz.prog 182 [v] w fun r w'=>Ext w w'∧Is w' r (zbl t):=by
 refine F182_call ?_
 unfold F182
 refine zaz zcd rfl h e fun w1 hx1 hA hV=>?_
 refine zbd hV (Ext.refl w1) ?_
 refine (zcv h (e.trans hx1)).mono ?_
 rintro _ w2 ⟨hx2,rfl⟩
 refine zaU ?_
 refine zb4 (fun c=>?_) (fun c=>?_)
 · refine ⟨hx1.trans hx2,?_⟩
   unfold zbl
   rw [if_neg (by simpa using c)]
   exact ztg rfl
 have c:zaL 6 t=true:=by simpa using c
 refine zbd hV hx2 ?_
 refine (ziE 6 h ((e.trans hx1).trans hx2) (zsj _ _) List.nodup_nil (by simp) c (by decide)).mono ?_
 rintro r w3 ⟨hc,F',hr,hn,hs⟩
 refine ⟨(hx1.trans hx2).trans (Chg.ext hc),?_⟩
 unfold zbl
 rw [if_pos c]
 exact hr.own.is
theorem zf5 {w W:World} {v:Value} {t:DTerm} (h:Is W v t) (e:Ext W w):CALL Tryz.prog 199 [v] w fun r w'=>Ext w w'∧Is w' r (zbl t):=by
 refine F199_call ?_
 unfold F199
 refine zaz zcd rfl h e fun w1 hx1 hA hV=>?_
 refine zbd hV (Ext.refl w1) ?_
 refine (zdJ h (e.trans hx1)).mono ?_
 rintro _ w2 ⟨hx2,rfl⟩
 refine zaU ?_
 refine zb4 (fun c=>?_) (fun c=>?_)
 · refine zgy (α:=ByteArray) u24 ty9 fun a w3 hx3 hr3=>?_
   refine ⟨(hx1.trans hx2).trans hx3,?_⟩
   unfold zbl
   rw [if_neg (by simpa using c)]
   exact hr3.is
 have c:zaL 6 t=true:=by simpa using c
 refine zbd hV hx2 ?_
 refine zgy (α:=ByteArray) u24 ty9 fun a w3 hx3 hr3=>?_
 obtain ⟨F,hr,hn,hl⟩:=hr3
 have hx13:=(hx1.trans hx2)
 refine (ziF 6 h ((e.trans hx13).trans hx3) hr hn (fun b hb=>Nat.le_trans (e.trans hx13).size (hl b hb)) c (by decide)).mono ?_
 rintro r w4 ⟨hc,F',hr',hn',hs'⟩
 refine ⟨(hx13.trans hx3).chg_trans hc (fun b hb=>Nat.le_trans hx13.size (hl b hb)),?_⟩
 unfold zbl
 rw [if_pos c]
 exact hr'.own.is
def zqq (l:List ByteArray):Nat:=l.length+sm ByteArray.size l
mutual
def wT:DTerm→Nat
  | .mk _ _ s ks=>s.size+wTs ks
def wTs:List DTerm→Nat
  | []=>0
  | t :: r=>1+wT t+wTs r
end
theorem zqr (l:List DTerm):wTs l=l.length+sm wT l:=by
 induction l with
 | nil=>simp [wTs,sm]
 | cons t l ih=>rw [wTs,ih];simp [sm];omega
theorem zt3 (t:DTerm):wT t=t.name.size+wTs t.kids:=by cases t;rw [wT];rfl
def zv2 (l:List DIns):Nat:=l.length+sm (fun i=>wT i.term) l
def zlB (c:DCode):Nat:=zqq c.globals+zqq c.locks+zqq c.procs+c.entry.length+zv2 c.ins
end Go.Proofs.YtcnglfeoglgebaaGreat
