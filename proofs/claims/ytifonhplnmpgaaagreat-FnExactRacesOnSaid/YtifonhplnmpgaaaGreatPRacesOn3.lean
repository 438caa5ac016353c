/-
  Parts of the proof, put together by program.
-/
import Derived.Test.YtifonhplnmpgaaaGreatPRacesOn2
set_option linter.unusedVariables false
set_option linter.unusedSimpArgs false
set_option linter.unusedSectionVars false
namespace Go.Proofs.YtifonhplnmpgaaaGreat
open Go Go.Sh Go.Proofs
open Rep (rep)
def F39 (a0:Value) (w:World) (R:VW):Prop:=
 rN 22 3 a0 w fun x6=>
 oP (Instr.makeSlice 22 x6 x6) w fun x7 w=>
 LOOPI [4] [(iV 0)] w fun u3 w next3=>
 rN 22 3 a0 w fun x10=>
 rC (u3 4) x10 w fun x11=>
 BR x11
 (rX 22 a0 (u3 4) w fun x18=>
 rL 9 x18 w fun x19=>
 rX 22 x7 (u3 4) w fun x20=>
 oS 9 x20 x19 w fun w=>
 rA (u3 4) (iV 1) w fun x13=>
 next3 [x13] w)
 (R x7 w)
def cfg39:Cfg:=⟨extL,[],[(3,2096912,[4])],[],[],[],[]⟩
theorem F39_call {a0:Value} {w:World} {R:VW} (h:F39 a0 w R):cL 39 [a0] w R:=co (g:=cfg39) Tryz.func39 (by kernel_rfl) (by kernel_rfl) (by kernel_rfl) h
def F180 (a0:Value) (w:World) (R:VW):Prop:=
 rN 91 3 a0 w fun x6=>
 oP (Instr.makeSlice 107 x6 x6) w fun x7 w=>
 LOOPI [4] [(iV 0)] w fun u3 w next3=>
 rN 91 3 a0 w fun x10=>
 rC (u3 4) x10 w fun x11=>
 BR x11
 (rX 91 a0 (u3 4) w fun x18=>
 rL 93 x18 w fun x19=>
 cL 131 [x19] w fun x20 w=>
 rX 107 x7 (u3 4) w fun x21=>
 oS 109 x21 x20 w fun w=>
 rA (u3 4) (iV 1) w fun x13=>
 next3 [x13] w)
 (R x7 w)
def cfg180:Cfg:=⟨extL,[],[(3,4194064,[4])],[],[],[],[]⟩
theorem F180_call {a0:Value} {w:World} {R:VW} (h:F180 a0 w R):cL 180 [a0] w R:=co (g:=cfg180) Tryz.func180 (by kernel_rfl) (by kernel_rfl) (by kernel_rfl) h
def F41 (a0:Value) (w:World) (R:VW):Prop:=
 rN 24 3 a0 w fun x6=>
 oP (Instr.makeSlice 30 x6 x6) w fun x7 w=>
 LOOPI [4] [(iV 0)] w fun u3 w next3=>
 rN 24 3 a0 w fun x10=>
 rC (u3 4) x10 w fun x11=>
 BR x11
 (rX 24 a0 (u3 4) w fun x18=>
 rL 95 x18 w fun x19=>
 cL 76 [x19] w fun x20 w=>
 rX 30 x7 (u3 4) w fun x21=>
 oS 111 x21 x20 w fun w=>
 rA (u3 4) (iV 1) w fun x13=>
 next3 [x13] w)
 (R x7 w)
def cfg41:Cfg:=⟨extL,[],[(3,4194064,[4])],[],[],[],[]⟩
theorem F41_call {a0:Value} {w:World} {R:VW} (h:F41 a0 w R):cL 41 [a0] w R:=co (g:=cfg41) Tryz.func41 (by kernel_rfl) (by kernel_rfl) (by kernel_rfl) h
def zp1 (l:List ByteArray):Nat:=l.length+sm ByteArray.size l
mutual
def wT:DTerm→Nat
  | .mk _ _ s ks=>s.size+wTs ks
def wTs:List DTerm→Nat
  | []=>0
  | t :: r=>1+wT t+wTs r
end
theorem znc (l:List DTerm):wTs l=l.length+sm wT l:=by
 induction l with
 | nil=>simp [wTs,sm]
 | cons t l ih=>rw [wTs,ih];simp [sm];omega
theorem zoJ (t:DTerm):wT t=t.name.size+wTs t.kids:=by cases t;rw [wT];rfl
def zpu (l:List DIns):Nat:=l.length+sm (fun i=>wT i.term) l
def ziE (c:DCode):Nat:=zp1 c.globals+zp1 c.locks+zp1 c.procs+c.entry.length+zpu c.ins
def F32 (a0 a1:Value) (w:World) (R:VW):Prop:=
 rN 22 3 a0 w fun x8=>
 rB .sub 3 T0 T0 a1 x8 w fun x9=>
 rB .lss 3 T0 U0 x9 (iV 0) w fun x11=>
 BR x11
 (R (iV (-1)) w)
 (LOOPI [1,5] [x9,(iV 0)] w fun u5 w next5=>
 rN 22 3 a0 w fun x14=>
 rC (u5 5) x14 w fun x15=>
 BR x15
 (rX 22 a0 (u5 5) w fun x21=>
 rL 9 x21 w fun x22=>
 rN 9 3 x22 w fun x23=>
 rB .sub 3 T0 T0 (u5 1) x23 w fun x24=>
 rB .lss 3 T0 U0 x24 (iV 0) w fun x26=>
 BR x26
 (R (iV (-1)) w)
 (rA (u5 5) (iV 1) w fun x17=>
 next5 [x24,x17] w))
 (R (u5 1) w))
def cfg32:Cfg:=⟨extL,[],[(5,134213682,[1,5])],[],[],[],[]⟩
theorem F32_call {a0 a1:Value} {w:World} {R:VW} (h:F32 a0 a1 w R):cL 32 [a0,a1] w R:=co (g:=cfg32) Tryz.func32 (by kernel_rfl) (by kernel_rfl) (by kernel_rfl) h
theorem zeF {w:World} {v0:Value} {W0:World} {l:(List ByteArray)} {left:Int}  (h0:Is W0 v0 l) (e0:Ext W0 w) (hl0:-1≤left) (hl1:left≤1048576) :
   CALL Tryz.prog 32 [v0,.int .i64 left] w fun r w'=>Ext w w'∧(∃ n:Int,r=.int .i64 n∧-1≤n∧n≤left∧(0≤n→n+zp1 l≤left)):=by
 refine F32_call ?_
 unfold F32
 have hl:=zal h0
 have hln8:=zal h0
 refine zaf u22 h0 ?_
 refine zbC (by unfold I64;omega) ?_
 refine zah ?_
 refine br (fun c1=>?_) (fun c1=>?_)
 · refine ⟨Ext.refl w,?_⟩
   exact ⟨-1,rfl,by omega,by omega,by omega⟩
 refine zas (l.length) (fun k us w'=>∃ q:Int,us=[.int .i64 q,.int .i64 (k:Int)]∧Ext w w'∧(0≤q∧q+l.length+sm ByteArray.size (l.take k)=left)) (0) (by omega) ⟨left-l.length,by simp,Ext.refl w,by omega,by simp [sm]⟩ ?_
 rintro k m5 uu5 w1_ hk5 ⟨q,hu,hx1_,hq0,hq1⟩
 obtain ⟨hu0,hu1⟩:=zb9 hu
 try rw [hu0]
 try rw [hu1]
 try clear hu0 hu1
 have hln14:=zal h0
 refine zaf u22 h0 ?_
 refine zah ?_
 refine br (fun c2=>?_) (fun c2=>?_)
 · refine zad u22 ty9 h0 (by omega) fun b21 o21 h21=>?_
   refine zaE ty9 h21 (e0.trans hx1_) fun hS22=>?_
   refine zex u9 ?_
   rw [zao] at hS22
   refine zbC (by unfold I64;omega) ?_
   refine zah ?_
   refine br (fun c3=>?_) (fun c3=>?_)
   · refine ⟨hx1_,?_⟩
     exact ⟨-1,rfl,by omega,by omega,by omega⟩
   refine zag (by omega) ?_
   refine ⟨m5-1,by omega,k+1,by omega,_,rfl,hx1_,?_⟩
   refine ⟨by omega,?_⟩
   rw [zg4 _ (by omega)]
   omega
 refine ⟨hx1_,?_⟩
 rw [List.take_of_length_le (by omega)] at hq1
 exact ⟨q,rfl,by omega,by omega,fun _=>by unfold zp1;omega⟩
def zpv (t:DTerm):Prop:=∀ {w W:World} {v:Value} {left:Int},Is W v t→Ext W w→-1≤left→left≤1048576 →
 CALL Tryz.prog 120 [v,.int .i64 left] w fun r w'=>Ext w w'∧∃ n:Int,r=.int .i64 n∧-1≤n∧n≤left∧(0≤n→n+wT t≤left)
def zp2 (t:List DTerm):Prop:=∀ {w W:World} {v:Value} {left:Int},Is W v t→Ext W w→-1≤left→left≤1048576 →
 CALL Tryz.prog 172 [v,.int .i64 left] w fun r w'=>Ext w w'∧∃ n:Int,r=.int .i64 n∧-1≤n∧n≤left∧(0≤n→n+wTs t≤left)
def F172 (a0 a1:Value) (w:World) (R:VW):Prop:=
 rN 91 3 a0 w fun x8=>
 rB .sub 3 T0 T0 a1 x8 w fun x9=>
 rB .lss 3 T0 U0 x9 (iV 0) w fun x11=>
 BR x11
 (R (iV (-1)) w)
 (LOOPI [1,5] [x9,(iV 0)] w fun u5 w next5=>
 rN 91 3 a0 w fun x14=>
 rC (u5 5) x14 w fun x15=>
 BR x15
 (rX 91 a0 (u5 5) w fun x20=>
 rL 93 x20 w fun x21=>
 cL 120 [x21,(u5 1)] w fun x23 w=>
 rB .lss 3 T0 U0 x23 (iV 0) w fun x25=>
 BR x25
 (R (iV (-1)) w)
 (rA (u5 5) (iV 1) w fun x17=>
 next5 [x23,x17] w))
 (R (u5 1) w))
def cfg172:Cfg:=⟨extL,[],[(5,67104818,[1,5])],[],[],[],[]⟩
theorem F172_call {a0 a1:Value} {w:World} {R:VW} (h:F172 a0 a1 w R):cL 172 [a0,a1] w R:=co (g:=cfg172) Tryz.func172 (by kernel_rfl) (by kernel_rfl) (by kernel_rfl) h
theorem zjI {w:World} {v0:Value} {W0:World} {l:(List DTerm)} {left:Int}  (h0:Is W0 v0 l) (e0:Ext W0 w) (ih:∀ t∈l,zpv t) (hl0:-1≤left) (hl1:left≤1048576) :
   CALL Tryz.prog 172 [v0,.int .i64 left] w fun r w'=>Ext w w'∧(∃ n:Int,r=.int .i64 n∧-1≤n∧n≤left∧(0≤n→n+wTs l≤left)):=by
 refine F172_call ?_
 unfold F172
 have hl:=zal h0
 have hln8:=zal h0
 refine zaf u91 h0 ?_
 refine zbC (by unfold I64;omega) ?_
 refine zah ?_
 refine br (fun c1=>?_) (fun c1=>?_)
 · refine ⟨Ext.refl w,?_⟩
   exact ⟨-1,rfl,by omega,by omega,by omega⟩
 refine zas (l.length) (fun k us w'=>∃ q:Int,us=[.int .i64 q,.int .i64 (k:Int)]∧Ext w w'∧(0≤q∧q+l.length+sm wT (l.take k)≤left)) (0) (by omega) ⟨left-l.length,by simp,Ext.refl w,by omega,by simp [sm]⟩ ?_
 rintro k m5 uu5 w1_ hk5 ⟨q,hu,hx1_,hq0,hq1⟩
 obtain ⟨hu0,hu1⟩:=zb9 hu
 try rw [hu0]
 try rw [hu1]
 try clear hu0 hu1
 have hln14:=zal h0
 refine zaf u91 h0 ?_
 refine zah ?_
 refine br (fun c2=>?_) (fun c2=>?_)
 · refine zad u91 zpp h0 (by omega) fun b20 o20 h20=>?_
   refine zab zpp h20 (e0.trans hx1_) fun v21 h21=>?_
   refine (ih _ (List.getElem_mem _) h21 (e0.trans hx1_) (by omega) (by omega)).mono ?_
   rintro _ w2_ ⟨hx2_,n23,rfl,hn23⟩
   refine zah ?_
   refine br (fun c3=>?_) (fun c3=>?_)
   · refine ⟨(hx1_.trans hx2_),?_⟩
     exact ⟨-1,rfl,by omega,by omega,by omega⟩
   refine zag (by omega) ?_
   refine ⟨m5-1,by omega,k+1,by omega,_,rfl,(hx1_.trans hx2_),?_⟩
   refine ⟨by omega,?_⟩
   rw [zg4 _ (by omega)]
   have:=hn23.2.2 (by omega)
   omega
 refine ⟨hx1_,?_⟩
 rw [List.take_of_length_le (by omega)] at hq1
 exact ⟨q,rfl,by omega,by omega,fun _=>by rw [znc];omega⟩
def F120 (a0 a1:Value) (w:World) (R:VW):Prop:=
 oP (Instr.box 93 a0) w fun x2 w=>
 rF 93 x2 2 w fun x6=>
 rL 9 x6 w fun x7=>
 rN 9 3 x7 w fun x8=>
 rB .sub 3 T0 T0 a1 x8 w fun x9=>
 rB .lss 3 T0 U0 x9 (iV 0) w fun x11=>
 BR x11
 (R (iV (-1)) w)
 (rF 93 x2 3 w fun x12=>
 rL 91 x12 w fun x13=>
 cL 172 [x13,x9] w fun x15 w=>
 rB .lss 3 T0 U0 x15 (iV 0) w fun x17=>
 BR x17
 (R (iV (-1)) w)
 (R x15 w))
def cfg120:Cfg:=⟨extL,[],[],[],[],[],[]⟩
theorem F120_call {a0 a1:Value} {w:World} {R:VW} (h:F120 a0 a1 w R):cL 120 [a0,a1] w R:=co (g:=cfg120) Tryz.func120 (by kernel_rfl) (by kernel_rfl) (by kernel_rfl) h
theorem zks {w:World} {v0:Value} {W0:World} {t:DTerm} {left:Int}  (h0:Is W0 v0 t) (e0:Ext W0 w) (ih:zp2 t.kids) (hl0:-1≤left) (hl1:left≤1048576) :
   CALL Tryz.prog 120 [v0,.int .i64 left] w fun r w'=>Ext w w'∧(∃ n:Int,r=.int .i64 n∧-1≤n∧n≤left∧(0≤n→n+wT t≤left)):=by
 refine F120_call ?_
 unfold F120
 refine zaB zpp rfl h0 e0 fun w1_ hx1_ hA2 hV2=>?_
 refine zaa zpq ?_
 refine zaE ty9 (za5 hA2) (Ext.refl w1_) fun hS7=>?_
 refine zex u9 ?_
 rw [zao] at hS7
 refine zbC (by unfold I64;omega) ?_
 refine zah ?_
 refine br (fun c1=>?_) (fun c1=>?_)
 · refine ⟨hx1_,?_⟩
   exact ⟨-1,rfl,by omega,by omega,by omega⟩
 refine zaa zpr ?_
 refine zab zry (zaF hA2) (Ext.refl w1_) fun v13 h13=>?_
 refine (ih h13 (Ext.refl w1_) (by omega) (by omega)).mono ?_
 rintro _ w2_ ⟨hx2_,n15,rfl,hn15⟩
 refine zah ?_
 refine br (fun c2=>?_) (fun c2=>?_)
 · refine ⟨(hx1_.trans hx2_),?_⟩
   exact ⟨-1,rfl,by omega,by omega,by omega⟩
 refine ⟨(hx1_.trans hx2_),?_⟩
 refine ⟨n15,rfl,by omega,by omega,fun h=>?_⟩
 have:=hn15.2.2 (by omega)
 rw [zoJ];omega
theorem znd (t:DTerm):zpv t:=DTerm.ind (fun t ih {w W v left} h e h0 h1=>zks h e (fun {w W v left} h e h0 h1=>zjI h e ih h0 h1) h0 h1) t
def F69 (a0 a1:Value) (w:World) (R:VW):Prop:=
 oP (Instr.box 95 a0) w fun x2 w=>
 rF 95 x2 2 w fun x5=>
 rL 93 x5 w fun x6=>
 cL 120 [x6,a1] w fun x8 w=>
 rB .lss 3 T0 U0 x8 (iV 0) w fun x10=>
 BR x10
 (R (iV (-1)) w)
 (R x8 w)
def cfg69:Cfg:=⟨extL,[],[],[],[],[],[]⟩
theorem F69_call {a0 a1:Value} {w:World} {R:VW} (h:F69 a0 a1 w R):cL 69 [a0,a1] w R:=co (g:=cfg69) Tryz.func69 (by kernel_rfl) (by kernel_rfl) (by kernel_rfl) h
theorem zoK {w:World} {v0:Value} {W0:World} {i:DIns} {left:Int}  (h0:Is W0 v0 i) (e0:Ext W0 w) (hl0:-1≤left) (hl1:left≤1048576) :
   CALL Tryz.prog 69 [v0,.int .i64 left] w fun r w'=>Ext w w'∧(∃ n:Int,r=.int .i64 n∧-1≤n∧n≤left∧(0≤n→n+wT i.term≤left)):=by
 refine F69_call ?_
 unfold F69
 refine zaB zqB rfl h0 e0 fun w1_ hx1_ hA2 hV2=>?_
 refine zaa zps ?_
 refine zab zpp (zbi hA2) (Ext.refl w1_) fun v6 h6=>?_
 refine ((znd _) h6 (Ext.refl w1_) (by omega) (by omega)).mono ?_
 rintro _ w2_ ⟨hx2_,n8,rfl,hn8⟩
 refine zah ?_
 refine br (fun c1=>?_) (fun c1=>?_)
 · refine ⟨(hx1_.trans hx2_),?_⟩
   exact ⟨-1,rfl,by omega,by omega,by omega⟩
 refine ⟨(hx1_.trans hx2_),?_⟩
 exact ⟨n8,rfl,by omega,by omega,hn8.2.2⟩
def F34 (a0 a1:Value) (w:World) (R:VW):Prop:=
 rN 24 3 a0 w fun x8=>
 rB .sub 3 T0 T0 a1 x8 w fun x9=>
 rB .lss 3 T0 U0 x9 (iV 0) w fun x11=>
 BR x11
 (R (iV (-1)) w)
 (LOOPI [1,5] [x9,(iV 0)] w fun u5 w next5=>
 rN 24 3 a0 w fun x14=>
 rC (u5 5) x14 w fun x15=>
 BR x15
 (rX 24 a0 (u5 5) w fun x20=>
 rL 95 x20 w fun x21=>
 cL 69 [x21,(u5 1)] w fun x23 w=>
 rB .lss 3 T0 U0 x23 (iV 0) w fun x25=>
 BR x25
 (R (iV (-1)) w)
 (rA (u5 5) (iV 1) w fun x17=>
 next5 [x23,x17] w))
 (R (u5 1) w))
def cfg34:Cfg:=⟨extL,[],[(5,67104818,[1,5])],[],[],[],[]⟩
theorem F34_call {a0 a1:Value} {w:World} {R:VW} (h:F34 a0 a1 w R):cL 34 [a0,a1] w R:=co (g:=cfg34) Tryz.func34 (by kernel_rfl) (by kernel_rfl) (by kernel_rfl) h
theorem zne {w:World} {v0:Value} {W0:World} {l:(List DIns)} {left:Int}  (h0:Is W0 v0 l) (e0:Ext W0 w) (hl0:-1≤left) (hl1:left≤1048576) :
   CALL Tryz.prog 34 [v0,.int .i64 left] w fun r w'=>Ext w w'∧(∃ n:Int,r=.int .i64 n∧-1≤n∧n≤left∧(0≤n→n+zpu l≤left)):=by
 refine F34_call ?_
 unfold F34
 have hl:=zal h0
 have hln8:=zal h0
 refine zaf u24 h0 ?_
 refine zbC (by unfold I64;omega) ?_
 refine zah ?_
 refine br (fun c1=>?_) (fun c1=>?_)
 · refine ⟨Ext.refl w,?_⟩
   exact ⟨-1,rfl,by omega,by omega,by omega⟩
 refine zas (l.length) (fun k us w'=>∃ q:Int,us=[.int .i64 q,.int .i64 (k:Int)]∧Ext w w'∧(0≤q∧q+l.length+sm (fun i=>wT i.term) (l.take k)≤left)) (0) (by omega) ⟨left-l.length,by simp,Ext.refl w,by omega,by simp [sm]⟩ ?_
 rintro k m5 uu5 w1_ hk5 ⟨q,hu,hx1_,hq0,hq1⟩
 obtain ⟨hu0,hu1⟩:=zb9 hu
 try rw [hu0]
 try rw [hu1]
 try clear hu0 hu1
 have hln14:=zal h0
 refine zaf u24 h0 ?_
 refine zah ?_
 refine br (fun c2=>?_) (fun c2=>?_)
 · refine zad u24 zqB h0 (by omega) fun b20 o20 h20=>?_
   refine zab zqB h20 (e0.trans hx1_) fun v21 h21=>?_
   refine (zoK h21 (e0.trans hx1_) (by omega) (by omega)).mono ?_
   rintro _ w2_ ⟨hx2_,n23,rfl,hn23⟩
   refine zah ?_
   refine br (fun c3=>?_) (fun c3=>?_)
   · refine ⟨(hx1_.trans hx2_),?_⟩
     exact ⟨-1,rfl,by omega,by omega,by omega⟩
   refine zag (by omega) ?_
   refine ⟨m5-1,by omega,k+1,by omega,_,rfl,(hx1_.trans hx2_),?_⟩
   refine ⟨by omega,?_⟩
   rw [zg4 _ (by omega)]
   have:=hn23.2.2 (by omega)
   omega
 refine ⟨hx1_,?_⟩
 rw [List.take_of_length_le (by omega)] at hq1
 exact ⟨q,rfl,by omega,by omega,fun _=>by unfold zpu;omega⟩
def F7 (a0 a1:Value) (w:World) (R:VW):Prop:=
 oP (Instr.box 26 a0) w fun x2 w=>
 rF 26 x2 0 w fun x5=>
 rL 22 x5 w fun x6=>
 cL 32 [x6,a1] w fun x8 w=>
 rB .lss 3 T0 U0 x8 (iV 0) w fun x10=>
 BR x10
 (R (iV (-1)) w)
 (rF 26 x2 1 w fun x11=>
 rL 22 x11 w fun x12=>
 cL 32 [x12,x8] w fun x14 w=>
 rB .lss 3 T0 U0 x14 (iV 0) w fun x16=>
 BR x16
 (R (iV (-1)) w)
 (rF 26 x2 2 w fun x17=>
 rL 22 x17 w fun x18=>
 cL 32 [x18,x14] w fun x20 w=>
 rB .lss 3 T0 U0 x20 (iV 0) w fun x22=>
 BR x22
 (R (iV (-1)) w)
 (rF 26 x2 3 w fun x23=>
 rL 23 x23 w fun x24=>
 cL 33 [x24,x20] w fun x26 w=>
 rB .lss 3 T0 U0 x26 (iV 0) w fun x28=>
 BR x28
 (R (iV (-1)) w)
 (rF 26 x2 4 w fun x29=>
 rL 24 x29 w fun x30=>
 cL 34 [x30,x26] w fun x32 w=>
 rB .lss 3 T0 U0 x32 (iV 0) w fun x34=>
 BR x34
 (R (iV (-1)) w)
 (R x32 w)))))
def cfg7:Cfg:=⟨extL,[],[],[],[],[],[]⟩
theorem F7_call {a0 a1:Value} {w:World} {R:VW} (h:F7 a0 a1 w R):cL 7 [a0,a1] w R:=co (g:=cfg7) Tryz.func7 (by kernel_rfl) (by kernel_rfl) (by kernel_rfl) h
theorem znf {w:World} {v0:Value} {W0:World} {c:DCode} {left:Int}  (h0:Is W0 v0 c) (e0:Ext W0 w) (hl0:-1≤left) (hl1:left≤1048576) :
   CALL Tryz.prog 7 [v0,.int .i64 left] w fun r w'=>Ext w w'∧(∃ n:Int,r=.int .i64 n∧-1≤n∧n≤left∧(0≤n→n+ziE c≤left)):=by
 refine F7_call ?_
 unfold F7
 refine zaB zrn rfl h0 e0 fun w1_ hx1_ hA2 hV2=>?_
 refine zaa zpk ?_
 refine zab zbN (za2 hA2) (Ext.refl w1_) fun v6 h6=>?_
 refine (zeF h6 (Ext.refl w1_) (by omega) (by omega)).mono ?_
 rintro _ w2_ ⟨hx2_,n8,rfl,hn8⟩
 refine zah ?_
 refine br (fun c1=>?_) (fun c1=>?_)
 · refine ⟨(hx1_.trans hx2_),?_⟩
   exact ⟨-1,rfl,by omega,by omega,by omega⟩
 refine zaa zpl ?_
 refine zab zbN (zby hA2) hx2_ fun v12 h12=>?_
 refine (zeF h12 hx2_ (by omega) (by omega)).mono ?_
 rintro _ w3_ ⟨hx3_,n14,rfl,hn14⟩
 refine zah ?_
 refine br (fun c2=>?_) (fun c2=>?_)
 · refine ⟨(hx1_.trans (hx2_.trans hx3_)),?_⟩
   exact ⟨-1,rfl,by omega,by omega,by omega⟩
 refine zaa zpm ?_
 refine zab zbN (zap hA2) (hx2_.trans hx3_) fun v18 h18=>?_
 refine (zeF h18 (hx2_.trans hx3_) (by omega) (by omega)).mono ?_
 rintro _ w4_ ⟨hx4_,n20,rfl,hn20⟩
 refine zah ?_
 refine br (fun c3=>?_) (fun c3=>?_)
 · refine ⟨(hx1_.trans (hx2_.trans (hx3_.trans hx4_))),?_⟩
   exact ⟨-1,rfl,by omega,by omega,by omega⟩
 refine zaa zpn ?_
 refine zab zb6 (zam hA2) (hx2_.trans (hx3_.trans hx4_)) fun v24 h24=>?_
 refine (zm0 h24 (hx2_.trans (hx3_.trans hx4_)) (by omega) (by omega)).mono ?_
 rintro _ w5_ ⟨hx5_,n26,rfl,hn26⟩
 refine zah ?_
 refine br (fun c4=>?_) (fun c4=>?_)
 · refine ⟨(hx1_.trans (hx2_.trans (hx3_.trans (hx4_.trans hx5_)))),?_⟩
   exact ⟨-1,rfl,by omega,by omega,by omega⟩
 refine zaa zpo ?_
 refine zab zrw (zai hA2) (hx2_.trans (hx3_.trans (hx4_.trans hx5_))) fun v30 h30=>?_
 refine (zne h30 (hx2_.trans (hx3_.trans (hx4_.trans hx5_))) (by omega) (by omega)).mono ?_
 rintro _ w6_ ⟨hx6_,n32,rfl,hn32⟩
 refine zah ?_
 refine br (fun c5=>?_) (fun c5=>?_)
 · refine ⟨(hx1_.trans (hx2_.trans (hx3_.trans (hx4_.trans (hx5_.trans hx6_))))),?_⟩
   exact ⟨-1,rfl,by omega,by omega,by omega⟩
 refine ⟨(hx1_.trans (hx2_.trans (hx3_.trans (hx4_.trans (hx5_.trans hx6_))))),?_⟩
 refine ⟨n32,rfl,by omega,by omega,fun _=>?_⟩
 have h1:=hn8.2.2 (by omega)
 have h2:=hn14.2.2 (by omega)
 have h3:=hn20.2.2 (by omega)
 have h4:=hn26.2.2 (by omega)
 have h5:=hn32.2.2 (by omega)
 unfold ziE
 omega
def F47 (a0 a1:Value) (w:World) (R:VW):Prop:=
 rN 22 3 a0 w fun x7=>
 rN 22 3 a1 w fun x9=>
 rB .neq 3 T0 T0 x7 x9 w fun x10=>
 BR x10
 (R (Value.bool false) w)
 (LOOPI [5] [(iV 0)] w fun u4 w next4=>
 rN 22 3 a0 w fun x13=>
 rC (u4 5) x13 w fun x14=>
 BR x14
 ((fun w=>rX 22 a0 (u4 5) w fun x19=>
 rL 9 x19 w fun x20=>
 rX 22 a1 (u4 5) w fun x23=>
 rL 9 x23 w fun x24=>
 rB .neq 9 T0 T0 x20 x24 w fun x25=>
 BR x25
 (R (Value.bool false) w)
 (rA (u4 5) (iV 1) w fun x16=>
 next4 [x16] w)) (World.drew1 w))
 (R (Value.bool true) w))
def cfg47:Cfg:=⟨extL,[],[(4,67106864,[5])],[(6,[0,1,2,3,4,5,6,7,8],0)],[],[],[]⟩
theorem F47_call {a0 a1:Value} {w:World} {R:VW} (h:F47 a0 a1 w R):cL 47 [a0,a1] w R:=co (g:=cfg47) Tryz.func47 (by kernel_rfl) (by kernel_rfl) (by kernel_rfl) h
theorem zeG {w:World} {v0:Value} {W0:World} {l1:(List ByteArray)} {v1:Value} {W1:World} {l2:(List ByteArray)}  (h0:Is W0 v0 l1) (e0:Ext W0 w) (h1:Is W1 v1 l2) (e1:Ext W1 w)  :
   CALL Tryz.prog 47 [v0,v1] w fun r w'=>Ext w w'∧(r=.bool (decide (l1=l2))):=by
 refine F47_call ?_
 unfold F47
 have hl1:=zal h0
 have hln7:=zal h0
 refine zaf u22 h0 ?_
 have hln9:=zal h1
 refine zaf u22 h1 ?_
 refine zaz ?_
 refine br (fun c1=>?_) (fun c1=>?_)
 · refine ⟨Ext.refl w,?_⟩
   have:l1≠l2:=fun e=>c1 (by rw [e])
   simp [this]
 refine zas (l1.length) (fun k us w'=>us=[.int .i64 (k:Int)]∧Ext w w'∧(l1.take k=l2.take k)) (0) (by omega) ⟨by simp,Ext.refl w,by simp⟩ ?_
 rintro k m4 uu4 w1_ hk4 ⟨hu,hx1_,hinv⟩
 simp only [List.map_cons,List.map_nil,List.cons.injEq,and_true] at hu
 try rw [hu]
 try clear hu
 have hln13:=zal h0
 refine zaf u22 h0 ?_
 refine zah ?_
 refine br (fun c2=>?_) (fun c2=>?_)
 · have hx2_:=zan w1_
   refine zad u22 ty9 h0 (by omega) fun b19 o19 h19=>?_
   refine zaE ty9 h19 (e0.trans (hx1_.trans hx2_)) fun hS20=>?_
   refine zad u22 ty9 h1 (by omega) fun b23 o23 h23=>?_
   refine zaE ty9 h23 (e1.trans (hx1_.trans hx2_)) fun hS24=>?_
   refine zgY ?_
   refine br (fun c3=>?_) (fun c3=>?_)
   · refine ⟨(hx1_.trans hx2_),?_⟩
     have:l1≠l2:=fun e=>c3 (by subst e;rfl)
     simp [this]
   refine zag (by omega) ?_
   refine ⟨m4-1,by omega,k+1,by omega,by simp,(hx1_.trans hx2_),?_⟩
   rw [List.take_succ_eq_append_getElem (by omega),List.take_succ_eq_append_getElem (by omega),hinv,Decidable.not_not.1 c3]
 refine ⟨hx1_,?_⟩
 rw [List.take_of_length_le (by omega),List.take_of_length_le (by omega)] at hinv
 simp [hinv]
def zpw (t:DTerm):Prop:=∀ {w W W':World} {v v':Value} {t':DTerm},Is W v t→Ext W w→Is W' v' t'→Ext W' w →
 CALL Tryz.prog 148 [v,v'] w fun r w'=>Ext w w'∧r=.bool (decide (t=t'))
def zp3 (t:List DTerm):Prop:=∀ {w W W':World} {v v':Value} {t':List DTerm},Is W v t→Ext W w→Is W' v' t'→Ext W' w →
 CALL Tryz.prog 206 [v,v'] w fun r w'=>Ext w w'∧r=.bool (decide (t=t'))
def F206 (a0 a1:Value) (w:World) (R:VW):Prop:=
 rN 107 3 a0 w fun x7=>
 rN 107 3 a1 w fun x9=>
 rB .neq 3 T0 T0 x7 x9 w fun x10=>
 BR x10
 (R (Value.bool false) w)
 (LOOPI [5] [(iV 0)] w fun u4 w next4=>
 rN 107 3 a0 w fun x13=>
 rC (u4 5) x13 w fun x14=>
 BR x14
 ((fun w=>rX 107 a0 (u4 5) w fun x19=>
 rL 109 x19 w fun x20=>
 rX 107 a1 (u4 5) w fun x23=>
 rL 109 x23 w fun x24=>
 cL 148 [x20,x24] w fun x25 w=>
 rD (Op.unary .not x25) w fun x26=>
 BR x26
 (R (Value.bool false) w)
 (rA (u4 5) (iV 1) w fun x16=>
 next4 [x16] w)) (World.drew1 w))
 (R (Value.bool true) w))
def cfg206:Cfg:=⟨extL,[],[(4,134215728,[5])],[(6,[0,1,2,3,4,5,6,7,8,9],0)],[],[],[]⟩
theorem F206_call {a0 a1:Value} {w:World} {R:VW} (h:F206 a0 a1 w R):cL 206 [a0,a1] w R:=co (g:=cfg206) Tryz.func206 (by kernel_rfl) (by kernel_rfl) (by kernel_rfl) h
theorem zjJ {w:World} {v0:Value} {W0:World} {l1:(List DTerm)} {v1:Value} {W1:World} {l2:(List DTerm)}  (h0:Is W0 v0 l1) (e0:Ext W0 w) (h1:Is W1 v1 l2) (e1:Ext W1 w) (ih:∀ t∈l1,zpw t) :
   CALL Tryz.prog 206 [v0,v1] w fun r w'=>Ext w w'∧(r=.bool (decide (l1=l2))):=by
 refine F206_call ?_
 unfold F206
 have hl1:=zal h0
 have hln7:=zal h0
 refine zaf zer h0 ?_
 have hln9:=zal h1
 refine zaf zer h1 ?_
 refine zaz ?_
 refine br (fun c1=>?_) (fun c1=>?_)
 · refine ⟨Ext.refl w,?_⟩
   have:l1≠l2:=fun e=>c1 (by rw [e])
   simp [this]
 refine zas (l1.length) (fun k us w'=>us=[.int .i64 (k:Int)]∧Ext w w'∧(l1.take k=l2.take k)) (0) (by omega) ⟨by simp,Ext.refl w,by simp⟩ ?_
 rintro k m4 uu4 w1_ hk4 ⟨hu,hx1_,hinv⟩
 simp only [List.map_cons,List.map_nil,List.cons.injEq,and_true] at hu
 try rw [hu]
 try clear hu
 have hln13:=zal h0
 refine zaf zer h0 ?_
 refine zah ?_
 refine br (fun c2=>?_) (fun c2=>?_)
 · have hx2_:=zan w1_
   refine zad zer zbf h0 (by omega) fun b19 o19 h19=>?_
   refine zab zbf h19 (e0.trans (hx1_.trans hx2_)) fun v20 h20=>?_
   refine zad zer zbf h1 (by omega) fun b23 o23 h23=>?_
   refine zab zbf h23 (e1.trans (hx1_.trans hx2_)) fun v24 h24=>?_
   refine (ih _ (List.getElem_mem _) h20 (e0.trans (hx1_.trans hx2_)) h24 (e1.trans (hx1_.trans hx2_))).mono ?_
   rintro _ w3_ ⟨hx3_,rfl⟩
   refine zaA ?_
   refine br (fun c3=>?_) (fun c3=>?_)
   · refine ⟨(hx1_.trans (hx2_.trans hx3_)),?_⟩
     have:l1≠l2:=fun e=>c3 (by subst e;rfl)
     simp [this]
   refine zag (by omega) ?_
   refine ⟨m4-1,by omega,k+1,by omega,by simp,(hx1_.trans (hx2_.trans hx3_)),?_⟩
   rw [List.take_succ_eq_append_getElem (by omega),List.take_succ_eq_append_getElem (by omega),hinv,Decidable.not_not.1 c3]
 refine ⟨hx1_,?_⟩
 rw [List.take_of_length_le (by omega),List.take_of_length_le (by omega)] at hinv
 simp [hinv]
def F148 (a0 a1:Value) (w:World) (R:VW):Prop:=
 oP (Instr.box 109 a0) w fun x2 w=>
 oP (Instr.box 109 a1) w fun x3 w=>
 rF 109 x2 0 w fun x5=>
 rL 3 x5 w fun x6=>
 rF 109 x3 0 w fun x7=>
 rL 3 x7 w fun x8=>
 rB .neq 3 T0 T0 x6 x8 w fun x9=>
 BR x9
 (R (Value.bool false) w)
 (rF 109 x2 1 w fun x10=>
 rL 3 x10 w fun x11=>
 rF 109 x3 1 w fun x12=>
 rL 3 x12 w fun x13=>
 rB .neq 3 T0 T0 x11 x13 w fun x14=>
 BR x14
 (R (Value.bool false) w)
 (rF 109 x2 2 w fun x15=>
 rL 9 x15 w fun x16=>
 rF 109 x3 2 w fun x17=>
 rL 9 x17 w fun x18=>
 rB .neq 9 T0 T0 x16 x18 w fun x19=>
 BR x19
 (R (Value.bool false) w)
 (rF 109 x2 3 w fun x20=>
 rL 107 x20 w fun x21=>
 rF 109 x3 3 w fun x22=>
 rL 107 x22 w fun x23=>
 cL 206 [x21,x23] w fun x24 w=>
 rD (Op.unary .not x24) w fun x25=>
 BR x25
 (R (Value.bool false) w)
 (R (Value.bool true) w))))
def cfg148:Cfg:=⟨extL,[],[],[],[],[],[]⟩
theorem F148_call {a0 a1:Value} {w:World} {R:VW} (h:F148 a0 a1 w R):cL 148 [a0,a1] w R:=co (g:=cfg148) Tryz.func148 (by kernel_rfl) (by kernel_rfl) (by kernel_rfl) h
theorem zkt {w:World} {v0:Value} {W0:World} {t1:DTerm} {v1:Value} {W1:World} {t2:DTerm}  (h0:Is W0 v0 t1) (e0:Ext W0 w) (h1:Is W1 v1 t2) (e1:Ext W1 w) (ih:zp3 t1.kids) :
   CALL Tryz.prog 148 [v0,v1] w fun r w'=>Ext w w'∧(r=.bool (decide (t1=t2))):=by
 refine F148_call ?_
 unfold F148
 refine zaB zbf rfl h0 e0 fun w1_ hx1_ hA2 hV2=>?_
 refine zaB zbf rfl h1 (e1.trans hx1_) fun w2_ hx2_ hA3 hV3=>?_
 refine zaa zcn ?_
 refine zac ty3 (zbx hA2) hx2_ fun hI6=>?_
 refine zaa zcn ?_
 refine zac ty3 (zbx hA3) (Ext.refl w2_) fun hI8=>?_
 refine zaz ?_
 refine br (fun c1=>?_) (fun c1=>?_)
 · refine ⟨(hx1_.trans hx2_),?_⟩
   have:t1≠t2:=fun e=>c1 (by rw [e])
   simp [this]
 refine zaa zca ?_
 refine zac ty3 (zbn hA2) hx2_ fun hI11=>?_
 refine zaa zca ?_
 refine zac ty3 (zbn hA3) (Ext.refl w2_) fun hI13=>?_
 refine zaz ?_
 refine br (fun c2=>?_) (fun c2=>?_)
 · refine ⟨(hx1_.trans hx2_),?_⟩
   have:t1≠t2:=fun e=>c2 (by rw [e])
   simp [this]
 refine zaa zbW ?_
 refine zaE ty9 (za5 hA2) hx2_ fun hS16=>?_
 refine zaa zbW ?_
 refine zaE ty9 (za5 hA3) (Ext.refl w2_) fun hS18=>?_
 refine zgY ?_
 refine br (fun c3=>?_) (fun c3=>?_)
 · refine ⟨(hx1_.trans hx2_),?_⟩
   have:t1≠t2:=fun e=>c3 (by rw [e])
   simp [this]
 refine zaa za9 ?_
 refine zab zcr (zaF hA2) hx2_ fun v21 h21=>?_
 refine zaa za9 ?_
 refine zab zcr (zaF hA3) (Ext.refl w2_) fun v23 h23=>?_
 refine (ih h21 hx2_ h23 (Ext.refl w2_)).mono ?_
 rintro _ w3_ ⟨hx3_,rfl⟩
 refine zaA ?_
 refine br (fun c4=>?_) (fun c4=>?_)
 · refine ⟨(hx1_.trans (hx2_.trans hx3_)),?_⟩
   have:t1≠t2:=fun e=>c4 (by rw [e])
   simp [this]
 refine ⟨(hx1_.trans (hx2_.trans hx3_)),?_⟩
 have:t1=t2:=DTerm.ext_iff.2 ⟨Decidable.not_not.1 c1,Decidable.not_not.1 c2,Decidable.not_not.1 c3,Decidable.not_not.1 c4⟩
 simp [this]
theorem zng (t:DTerm):zpw t:=DTerm.ind (fun t ih {_ _ _ _ _ _} h e h' e'=>zkt h e h' e' (fun {_ _ _ _ _ _} h e h' e'=>zjJ h e h' e' ih)) t
def F91 (a0 a1:Value) (w:World) (R:VW):Prop:=
 oP (Instr.box 111 a0) w fun x2 w=>
 oP (Instr.box 111 a1) w fun x3 w=>
 rF 111 x2 0 w fun x5=>
 rL 3 x5 w fun x6=>
 rF 111 x3 0 w fun x7=>
 rL 3 x7 w fun x8=>
 rB .neq 3 T0 T0 x6 x8 w fun x9=>
 BR x9
 (R (Value.bool false) w)
 (rF 111 x2 1 w fun x10=>
 rL 3 x10 w fun x11=>
 rF 111 x3 1 w fun x12=>
 rL 3 x12 w fun x13=>
 rB .neq 3 T0 T0 x11 x13 w fun x14=>
 BR x14
 (R (Value.bool false) w)
 (rF 111 x2 2 w fun x15=>
 rL 109 x15 w fun x16=>
 rF 111 x3 2 w fun x17=>
 rL 109 x17 w fun x18=>
 cL 148 [x16,x18] w fun x19 w=>
 rD (Op.unary .not x19) w fun x20=>
 BR x20
 (R (Value.bool false) w)
 (rF 111 x2 3 w fun x21=>
 rL 3 x21 w fun x22=>
 rF 111 x3 3 w fun x23=>
 rL 3 x23 w fun x24=>
 rB .neq 3 T0 T0 x22 x24 w fun x25=>
 BR x25
 (R (Value.bool false) w)
 (R (Value.bool true) w))))
def cfg91:Cfg:=⟨extL,[],[],[],[],[],[]⟩
theorem F91_call {a0 a1:Value} {w:World} {R:VW} (h:F91 a0 a1 w R):cL 91 [a0,a1] w R:=co (g:=cfg91) Tryz.func91 (by kernel_rfl) (by kernel_rfl) (by kernel_rfl) h
theorem zoL {w:World} {v0:Value} {W0:World} {t1:DIns} {v1:Value} {W1:World} {t2:DIns}  (h0:Is W0 v0 t1) (e0:Ext W0 w) (h1:Is W1 v1 t2) (e1:Ext W1 w)  :
   CALL Tryz.prog 91 [v0,v1] w fun r w'=>Ext w w'∧(r=.bool (decide (t1=t2))):=by
 refine F91_call ?_
 unfold F91
 refine zaB zaS rfl h0 e0 fun w1_ hx1_ hA2 hV2=>?_
 refine zaB zaS rfl h1 (e1.trans hx1_) fun w2_ hx2_ hA3 hV3=>?_
 refine zaa zaH ?_
 refine zac ty3 (zat hA2) hx2_ fun hI6=>?_
 refine zaa zaH ?_
 refine zac ty3 (zat hA3) (Ext.refl w2_) fun hI8=>?_
 refine zaz ?_
 refine br (fun c1=>?_) (fun c1=>?_)
 · refine ⟨(hx1_.trans hx2_),?_⟩
   have:t1≠t2:=fun e=>c1 (by rw [e])
   simp [this]
 refine zaa zaP ?_
 refine zac ty3 (zaw hA2) hx2_ fun hI11=>?_
 refine zaa zaP ?_
 refine zac ty3 (zaw hA3) (Ext.refl w2_) fun hI13=>?_
 refine zaz ?_
 refine br (fun c2=>?_) (fun c2=>?_)
 · refine ⟨(hx1_.trans hx2_),?_⟩
   have:t1≠t2:=fun e=>c2 (by rw [e])
   simp [this]
 refine zaa zbK ?_
 refine zab zbf (zbi hA2) hx2_ fun v16 h16=>?_
 refine zaa zbK ?_
 refine zab zbf (zbi hA3) (Ext.refl w2_) fun v18 h18=>?_
 refine ((zng _) h16 hx2_ h18 (Ext.refl w2_)).mono ?_
 rintro _ w3_ ⟨hx3_,rfl⟩
 refine zaA ?_
 refine br (fun c3=>?_) (fun c3=>?_)
 · refine ⟨(hx1_.trans (hx2_.trans hx3_)),?_⟩
   have:t1≠t2:=fun e=>c3 (by rw [e])
   simp [this]
 refine zaa zbX ?_
 refine zac ty3 (zbj hA2) (hx2_.trans hx3_) fun hI22=>?_
 refine zaa zbX ?_
 refine zac ty3 (zbj hA3) hx3_ fun hI24=>?_
 refine zaz ?_
 refine br (fun c4=>?_) (fun c4=>?_)
 · refine ⟨(hx1_.trans (hx2_.trans hx3_)),?_⟩
   have:t1≠t2:=fun e=>c4 (by rw [e])
   simp [this]
 refine ⟨(hx1_.trans (hx2_.trans hx3_)),?_⟩
 have:t1=t2:=DIns.ext_iff.2 ⟨Decidable.not_not.1 c1,Decidable.not_not.1 c2,Decidable.not_not.1 c3,Decidable.not_not.1 c4⟩
 simp [this]
def F48 (a0 a1:Value) (w:World) (R:VW):Prop:=
 rN 30 3 a0 w fun x7=>
 rN 30 3 a1 w fun x9=>
 rB .neq 3 T0 T0 x7 x9 w fun x10=>
 BR x10
 (R (Value.bool false) w)
 (LOOPI [5] [(iV 0)] w fun u4 w next4=>
 rN 30 3 a0 w fun x13=>
 rC (u4 5) x13 w fun x14=>
 BR x14
 ((fun w=>rX 30 a0 (u4 5) w fun x19=>
 rL 111 x19 w fun x20=>
 rX 30 a1 (u4 5) w fun x23=>
 rL 111 x23 w fun x24=>
 cL 91 [x20,x24] w fun x25 w=>
 rD (Op.unary .not x25) w fun x26=>
 BR x26
 (R (Value.bool false) w)
 (rA (u4 5) (iV 1) w fun x16=>
 next4 [x16] w)) (World.drew1 w))
 (R (Value.bool true) w))
def cfg48:Cfg:=⟨extL,[],[(4,134215728,[5])],[(6,[0,1,2,3,4,5,6,7,8,9],0)],[],[],[]⟩
theorem F48_call {a0 a1:Value} {w:World} {R:VW} (h:F48 a0 a1 w R):cL 48 [a0,a1] w R:=co (g:=cfg48) Tryz.func48 (by kernel_rfl) (by kernel_rfl) (by kernel_rfl) h
theorem znh {w:World} {v0:Value} {W0:World} {l1:(List DIns)} {v1:Value} {W1:World} {l2:(List DIns)}  (h0:Is W0 v0 l1) (e0:Ext W0 w) (h1:Is W1 v1 l2) (e1:Ext W1 w)  :
   CALL Tryz.prog 48 [v0,v1] w fun r w'=>Ext w w'∧(r=.bool (decide (l1=l2))):=by
 refine F48_call ?_
 unfold F48
 have hl1:=zal h0
 have hln7:=zal h0
 refine zaf u30 h0 ?_
 have hln9:=zal h1
 refine zaf u30 h1 ?_
 refine zaz ?_
 refine br (fun c1=>?_) (fun c1=>?_)
 · refine ⟨Ext.refl w,?_⟩
   have:l1≠l2:=fun e=>c1 (by rw [e])
   simp [this]
 refine zas (l1.length) (fun k us w'=>us=[.int .i64 (k:Int)]∧Ext w w'∧(l1.take k=l2.take k)) (0) (by omega) ⟨by simp,Ext.refl w,by simp⟩ ?_
 rintro k m4 uu4 w1_ hk4 ⟨hu,hx1_,hinv⟩
 simp only [List.map_cons,List.map_nil,List.cons.injEq,and_true] at hu
 try rw [hu]
 try clear hu
 have hln13:=zal h0
 refine zaf u30 h0 ?_
 refine zah ?_
 refine br (fun c2=>?_) (fun c2=>?_)
 · have hx2_:=zan w1_
   refine zad u30 zaS h0 (by omega) fun b19 o19 h19=>?_
   refine zab zaS h19 (e0.trans (hx1_.trans hx2_)) fun v20 h20=>?_
   refine zad u30 zaS h1 (by omega) fun b23 o23 h23=>?_
   refine zab zaS h23 (e1.trans (hx1_.trans hx2_)) fun v24 h24=>?_
   refine (zoL h20 (e0.trans (hx1_.trans hx2_)) h24 (e1.trans (hx1_.trans hx2_))).mono ?_
   rintro _ w3_ ⟨hx3_,rfl⟩
   refine zaA ?_
   refine br (fun c3=>?_) (fun c3=>?_)
   · refine ⟨(hx1_.trans (hx2_.trans hx3_)),?_⟩
     have:l1≠l2:=fun e=>c3 (by subst e;rfl)
     simp [this]
   refine zag (by omega) ?_
   refine ⟨m4-1,by omega,k+1,by omega,by simp,(hx1_.trans (hx2_.trans hx3_)),?_⟩
   rw [List.take_succ_eq_append_getElem (by omega),List.take_succ_eq_append_getElem (by omega),hinv,Decidable.not_not.1 c3]
 refine ⟨hx1_,?_⟩
 rw [List.take_of_length_le (by omega),List.take_of_length_le (by omega)] at hinv
 simp [hinv]
def F12 (a0 a1:Value) (w:World) (R:VW):Prop:=
 oP (Instr.box 32 a0) w fun x2 w=>
 oP (Instr.box 32 a1) w fun x3 w=>
 rF 32 x2 0 w fun x5=>
 rL 22 x5 w fun x6=>
 rF 32 x3 0 w fun x7=>
 rL 22 x7 w fun x8=>
 cL 47 [x6,x8] w fun x9 w=>
 rD (Op.unary .not x9) w fun x10=>
 BR x10
 (R (Value.bool false) w)
 (rF 32 x2 1 w fun x11=>
 rL 22 x11 w fun x12=>
 rF 32 x3 1 w fun x13=>
 rL 22 x13 w fun x14=>
 cL 47 [x12,x14] w fun x15 w=>
 rD (Op.unary .not x15) w fun x16=>
 BR x16
 (R (Value.bool false) w)
 (rF 32 x2 2 w fun x17=>
 rL 22 x17 w fun x18=>
 rF 32 x3 2 w fun x19=>
 rL 22 x19 w fun x20=>
 cL 47 [x18,x20] w fun x21 w=>
 rD (Op.unary .not x21) w fun x22=>
 BR x22
 (R (Value.bool false) w)
 (rF 32 x2 3 w fun x23=>
 rL 23 x23 w fun x24=>
 rF 32 x3 3 w fun x25=>
 rL 23 x25 w fun x26=>
 cL 11 [x24,x26] w fun x27 w=>
 rD (Op.unary .not x27) w fun x28=>
 BR x28
 (R (Value.bool false) w)
 (rF 32 x2 4 w fun x29=>
 rL 30 x29 w fun x30=>
 rF 32 x3 4 w fun x31=>
 rL 30 x31 w fun x32=>
 cL 48 [x30,x32] w fun x33 w=>
 rD (Op.unary .not x33) w fun x34=>
 BR x34
 (R (Value.bool false) w)
 (R (Value.bool true) w)))))
def cfg12:Cfg:=⟨extL,[],[],[],[],[],[]⟩
theorem F12_call {a0 a1:Value} {w:World} {R:VW} (h:F12 a0 a1 w R):cL 12 [a0,a1] w R:=co (g:=cfg12) Tryz.func12 (by kernel_rfl) (by kernel_rfl) (by kernel_rfl) h
theorem zni {w:World} {v0:Value} {W0:World} {t1:DCode} {v1:Value} {W1:World} {t2:DCode}  (h0:Is W0 v0 t1) (e0:Ext W0 w) (h1:Is W1 v1 t2) (e1:Ext W1 w)  :
   CALL Tryz.prog 12 [v0,v1] w fun r w'=>Ext w w'∧(r=.bool (decide (t1=t2))):=by
 refine F12_call ?_
 unfold F12
 refine zaB zbu rfl h0 e0 fun w1_ hx1_ hA2 hV2=>?_
 refine zaB zbu rfl h1 (e1.trans hx1_) fun w2_ hx2_ hA3 hV3=>?_
 refine zaa zcG ?_
 refine zab zbN (za2 hA2) hx2_ fun v6 h6=>?_
 refine zaa zcG ?_
 refine zab zbN (za2 hA3) (Ext.refl w2_) fun v8 h8=>?_
 refine (zeG h6 hx2_ h8 (Ext.refl w2_)).mono ?_
 rintro _ w3_ ⟨hx3_,rfl⟩
 refine zaA ?_
 refine br (fun c1=>?_) (fun c1=>?_)
 · refine ⟨(hx1_.trans (hx2_.trans hx3_)),?_⟩
   have:t1≠t2:=fun e=>c1 (by rw [e])
   simp [this]
 refine zaa zem ?_
 refine zab zbN (zby hA2) (hx2_.trans hx3_) fun v12 h12=>?_
 refine zaa zem ?_
 refine zab zbN (zby hA3) hx3_ fun v14 h14=>?_
 refine (zeG h12 (hx2_.trans hx3_) h14 hx3_).mono ?_
 rintro _ w4_ ⟨hx4_,rfl⟩
 refine zaA ?_
 refine br (fun c2=>?_) (fun c2=>?_)
 · refine ⟨(hx1_.trans (hx2_.trans (hx3_.trans hx4_))),?_⟩
   have:t1≠t2:=fun e=>c2 (by rw [e])
   simp [this]
 refine zaa za1 ?_
 refine zab zbN (zap hA2) (hx2_.trans (hx3_.trans hx4_)) fun v18 h18=>?_
 refine zaa za1 ?_
 refine zab zbN (zap hA3) (hx3_.trans hx4_) fun v20 h20=>?_
 refine (zeG h18 (hx2_.trans (hx3_.trans hx4_)) h20 (hx3_.trans hx4_)).mono ?_
 rintro _ w5_ ⟨hx5_,rfl⟩
 refine zaA ?_
 refine br (fun c3=>?_) (fun c3=>?_)
 · refine ⟨(hx1_.trans (hx2_.trans (hx3_.trans (hx4_.trans hx5_)))),?_⟩
   have:t1≠t2:=fun e=>c3 (by rw [e])
   simp [this]
 refine zaa zaT ?_
 refine zab zb6 (zam hA2) (hx2_.trans (hx3_.trans (hx4_.trans hx5_))) fun v24 h24=>?_
 refine zaa zaT ?_
 refine zab zb6 (zam hA3) (hx3_.trans (hx4_.trans hx5_)) fun v26 h26=>?_
 refine (zma h24 (hx2_.trans (hx3_.trans (hx4_.trans hx5_))) h26 (hx3_.trans (hx4_.trans hx5_))).mono ?_
 rintro _ w6_ ⟨hx6_,rfl⟩
 refine zaA ?_
 refine br (fun c4=>?_) (fun c4=>?_)
 · refine ⟨(hx1_.trans (hx2_.trans (hx3_.trans (hx4_.trans (hx5_.trans hx6_))))),?_⟩
   have:t1≠t2:=fun e=>c4 (by rw [e])
   simp [this]
 refine zaa zaD ?_
 refine zab zco (zai hA2) (hx2_.trans (hx3_.trans (hx4_.trans (hx5_.trans hx6_)))) fun v30 h30=>?_
 refine zaa zaD ?_
 refine zab zco (zai hA3) (hx3_.trans (hx4_.trans (hx5_.trans hx6_))) fun v32 h32=>?_
 refine (znh h30 (hx2_.trans (hx3_.trans (hx4_.trans (hx5_.trans hx6_)))) h32 (hx3_.trans (hx4_.trans (hx5_.trans hx6_)))).mono ?_
 rintro _ w7_ ⟨hx7_,rfl⟩
 refine zaA ?_
 refine br (fun c5=>?_) (fun c5=>?_)
 · refine ⟨(hx1_.trans (hx2_.trans (hx3_.trans (hx4_.trans (hx5_.trans (hx6_.trans hx7_)))))),?_⟩
   have:t1≠t2:=fun e=>c5 (by rw [e])
   simp [this]
 refine ⟨(hx1_.trans (hx2_.trans (hx3_.trans (hx4_.trans (hx5_.trans (hx6_.trans hx7_)))))),?_⟩
 have:t1=t2:=DCode.ext_iff.2 ⟨Decidable.not_not.1 c1,Decidable.not_not.1 c2,Decidable.not_not.1 c3,Decidable.not_not.1 c4,Decidable.not_not.1 c5⟩
 simp [this]
theorem zeH {w:World} {v:Value} {l:List ByteArray} (h:Is w v l) (hn:l.length≤1048576) :
   CALL Tryz.prog 39 [v] w fun r w'=>Ext w w'∧Own w.heap.size w' r l:=by
 refine F39_call ?_
 unfold F39
 refine zaf u22 h ?_
 refine ziq (α:=ByteArray) u22 ty9 z9 (by omega) (by omega) fun w1 hx1 hf=>?_
 refine zas l.length (fun k us w'=>us=[.int .i64 (k:Int)]∧Ext w w'∧Fill w.heap.size 9 l.length [] w' (l.take k)) 0 (Nat.zero_le _) ⟨rfl,hx1,by simpa using hf⟩ ?_
 rintro k m u w2 hkm ⟨hu,hx2,hf2⟩
 simp only [List.map_cons,List.map_nil,List.cons.injEq,and_true] at hu
 rw [hu]
 refine zaf u22 h ?_
 refine zah ?_
 refine br (fun hlt=>?_) (fun hge=>?_)
 · have hk:k<l.length:=by omega
   refine zad u22 ty9 h hk fun b o hA=>?_
   refine zaE ty9 hA hx2 fun hI=>?_
   refine zdd u22 ty9 hk ?_
   refine zgD (α:=ByteArray) ty9 hf2 (by simp [Rep.size];omega) (by simp;omega) (⟨⟨_,⟨rfl,rfl,hI⟩,rfl⟩,List.nodup_nil,Wr.nil _⟩:Mine [] w2 _ l[k]) (by simp) fun w3 hc3 hf3=>?_
   refine zag (by have:=zal h;omega) ?_
   refine ⟨m-1,by omega,k+1,by omega,rfl,hx2.chg_trans hc3 (by simp),?_⟩
   rw [List.take_succ_eq_append_getElem hk]
   simpa using hf3
 have hk:k=l.length:=by omega
 subst hk
 rw [List.take_length] at hf2
 exact ⟨hx2,_,hf2.own rfl (by rw [zao];omega),by simp⟩
def zpx (t:DTerm):Prop:=∀ {w:World} {v:Value},Is w v t→wT t≤1048576 →
 CALL Tryz.prog 131 [v] w fun r w'=>Ext w w'∧Own w.heap.size w' r t
def zp4 (l:List DTerm):Prop:=∀ {w:World} {v:Value},Is w v l→wTs l≤1048576 →
 CALL Tryz.prog 180 [v] w fun r w'=>Ext w w'∧Own w.heap.size w' r l
theorem zh1 {α:Type} [Rep α] {g e n lo:Nat} {Fi F1:List Nat} {w w':World} {l:List α} {v:Value} {x:α} (hf:Fill g e n Fi w l) (hm:Mine F1 w' v x) (hl:∀ b∈F1,w.heap.size≤b):(F1++(g :: Fi)).Nodup:=by
 rw [List.nodup_append]
 refine ⟨hm.nodup,by obtain ⟨_,_,_,_,_,hn,_⟩:=hf;exact hn,fun a ha c hc e=>?_⟩
 subst e
 have:=hl a ha
 have:=hf.lt a hc
 omega
theorem zjK {w:World} {v:Value} {l:List DTerm} (ih:∀ t∈l,zpx t) (h:Is w v l) (hn:wTs l≤1048576) :
   CALL Tryz.prog 180 [v] w fun r w'=>Ext w w'∧Own w.heap.size w' r l:=by
 rw [znc] at hn
 refine F180_call ?_
 unfold F180
 refine zaf u91 h ?_
 refine ziq (α:=DTerm) zer zbf zrK (by omega) (by omega) fun w1 hx1 hf=>?_
 refine zas l.length (fun k us w'=>us=[.int .i64 (k:Int)]∧Ext w w'∧∃ Fi,Fill w.heap.size 109 l.length Fi w' (l.take k)∧∀ b∈Fi,w.heap.size≤b) 0 (Nat.zero_le _) ⟨rfl,hx1,[],by simpa using hf,by simp⟩ ?_
 rintro k m u w2 hkm ⟨hu,hx2,Fi,hf2,hFl⟩
 simp only [List.map_cons,List.map_nil,List.cons.injEq,and_true] at hu
 rw [hu]
 refine zaf u91 h ?_
 refine zah ?_
 refine br (fun hlt=>?_) (fun hge=>?_)
 · have hk:k<l.length:=by omega
   refine zad u91 zpp h hk fun b o hA=>?_
   refine zab zpp hA hx2 fun v19 h19=>?_
   refine (ih _ (List.getElem_mem hk) (h19.ext hx2) (by have:=zpt wT (List.getElem_mem hk);omega)).mono ?_
   rintro r20 w3 ⟨hx3,F20,hm20,hl20⟩
   refine zdd zer zbf hk ?_
   refine zgD (α:=DTerm) zbf (hf2.ext hx3) (by simp [Rep.size];omega) (by simp;omega) hm20 (zh1 (lo:=0) hf2 hm20 hl20) fun w4 hc4 hf4=>?_
   refine zag (by have:=zal h;omega) ?_
   refine ⟨m-1,by omega,k+1,by omega,rfl,(hx2.trans hx3).chg_trans hc4 (by simp),Fi++F20,?_,?_⟩
   · rw [List.take_succ_eq_append_getElem hk]
     exact hf4
   intro b hb
   rcases List.mem_append.1 hb with hb | hb
   · exact hFl b hb
   exact Nat.le_trans hx2.size (hl20 b hb)
 have hk:k=l.length:=by omega
 subst hk
 rw [List.take_length] at hf2
 exact ⟨hx2,_,hf2.own rfl (by rw [zao];omega),by simpa using hFl⟩
def F131 (a0:Value) (w:World) (R:VW):Prop:=
 oP (Instr.box 93 a0) w fun x1 w=>
 oP (Instr.alloc 109 true (.tuple #[])) w fun x2 w=>
 oP (Instr.alloc 109 true (.tuple #[])) w fun x3 w=>
 rF 93 x1 0 w fun x4=>
 rL 3 x4 w fun x5=>
 rF 109 x3 0 w fun x6=>
 oS 3 x6 x5 w fun w=>
 rF 93 x1 1 w fun x7=>
 rL 3 x7 w fun x8=>
 rF 109 x3 1 w fun x9=>
 oS 3 x9 x8 w fun w=>
 rF 93 x1 2 w fun x10=>
 rL 9 x10 w fun x11=>
 rF 109 x3 2 w fun x12=>
 oS 9 x12 x11 w fun w=>
 rF 93 x1 3 w fun x13=>
 rL 91 x13 w fun x14=>
 cL 180 [x14] w fun x15 w=>
 rF 109 x3 3 w fun x16=>
 oS 107 x16 x15 w fun w=>
 rL 109 x3 w fun x17=>
 oS 109 x2 x17 w fun w=>
 rD (zeu 109 x2) w fun r2=>R r2 w
def cfg131:Cfg:=⟨extL,[],[],[],[],[],[]⟩
theorem F131_call {a0:Value} {w:World} {R:VW} (h:F131 a0 w R):cL 131 [a0] w R:=co (g:=cfg131) Tryz.func131 (by kernel_rfl) (by kernel_rfl) (by kernel_rfl) h
theorem zku {w:World} {v0:Value} {W0:World} {t:DTerm}  (h0:Is W0 v0 t) (e0:Ext W0 w) (ih:zp4 t.kids) (hn:wT t≤1048576) :
   CALL Tryz.prog 131 [v0] w fun r w'=>Ext w w'∧(Own w.heap.size w' r t):=by
 refine F131_call ?_
 unfold F131
 have hn':wTs t.kids≤1048576:=by rw [zoJ] at hn;omega
 have hs_e0:=e0.size
 refine zaB zpp rfl h0 e0 fun w1_ hx1_ hA1 hV1=>?_
 have hs_hx1_:=hx1_.size
 refine zfg (α:=DTerm) zmU fun w2_ hx2_ hv2=>?_
 have hg2:=hv2.lt
 have hs_hx2_:=hx2_.size
 refine zfg (α:=DTerm) zmU fun w3_ hx3_ hv3=>?_
 have hg3:=hv3.lt
 have hs_hx3_:=hx3_.size
 refine zaa zqM ?_
 refine zac ty3 (zbx hA1) (hx2_.trans hx3_) fun hI5=>?_
 refine zaa zcn ?_
 obtain ⟨Fv4,hO4,hF4⟩:=(hv3.ext (Ext.refl w3_))
 obtain ⟨Gv4,hL4⟩:=zeA (Lens.var hO4)
 refine zb0 ty3 hL4 hF4 (ownI_int (lo:=w3_.heap.size) (hi:=w3_.heap.size) (by first | assumption | (unfold I64 at *;omega))) (by omega) (by omega) fun w4_ hc4_ hv4_=>?_
 have hv3_s4:=hv4_ (w3_.heap.size) (by omega) (by omega) (w3_.heap.size) (by omega) (by omega)
 clear hv4_ hL4 hO4 hF4
 have hs_hc4_:=hc4_.size
 have hv2_c4:=(hv2.ext hx3_).chg hc4_ (by omega) (by omega)
 refine zaa zqN ?_
 refine zac ty3 (zbn hA1) (Ext.chgI (hx2_.trans hx3_) hc4_ (by omega)) fun hI8=>?_
 refine zaa zca ?_
 obtain ⟨Fv5,hO5,hF5⟩:=(hv3_s4.ext (Ext.refl w4_))
 obtain ⟨Gv5,hL5⟩:=zeB (Lens.var hO5)
 refine zb0 ty3 hL5 hF5 (ownI_int (lo:=w4_.heap.size) (hi:=w4_.heap.size) (by first | assumption | (unfold I64 at *;omega))) (by omega) (by omega) fun w5_ hc5_ hv5_=>?_
 have hv3_s5:=hv5_ (w3_.heap.size) (by omega) (by omega) (w4_.heap.size) (by omega) (by omega)
 clear hv5_ hL5 hO5 hF5
 have hs_hc5_:=hc5_.size
 have hv2_c5:=(hv2_c4.ext (Ext.refl w4_)).chg hc5_ (by omega) (by omega)
 refine zaa zpq ?_
 refine zaE ty9 (za5 hA1) (Ext.chgI (Ext.chgI (hx2_.trans hx3_) hc4_ (by omega)) hc5_ (by omega)) fun hS11=>?_
 refine zaa zbW ?_
 obtain ⟨Fv6,hO6,hF6⟩:=(hv3_s5.ext (Ext.refl w5_))
 obtain ⟨Gv6,hL6⟩:=zeC (Lens.var hO6)
 refine zb0 ty9 hL6 hF6 (zoC (lo:=w5_.heap.size) (hi:=w5_.heap.size) (by first | assumption | (rw [zao];omega) | (simp [zao];omega))) (by omega) (by omega) fun w6_ hc6_ hv6_=>?_
 have hv3_s6:=hv6_ (w3_.heap.size) (by omega) (by omega) (w5_.heap.size) (by omega) (by omega)
 clear hv6_ hL6 hO6 hF6
 have hs_hc6_:=hc6_.size
 have hv2_c6:=(hv2_c5.ext (Ext.refl w5_)).chg hc6_ (by omega) (by omega)
 refine zaa zpr ?_
 refine zab zry (zaF hA1) (Ext.chgI (Ext.chgI (Ext.chgI (hx2_.trans hx3_) hc4_ (by omega)) hc5_ (by omega)) hc6_ (by omega)) fun v14 h14=>?_
 refine (ih (h14.ext (Ext.chgI (Ext.chgI (Ext.chgI (hx2_.trans hx3_) hc4_ (by omega)) hc5_ (by omega)) hc6_ (by omega))) (by omega)).mono ?_
 rintro r15 w7_ ⟨hx7_,o15⟩
 have o15:=o15.toI
 have hs_hx7_:=hx7_.size
 refine zaa za9 ?_
 obtain ⟨Fv8,hO8,hF8⟩:=(hv3_s6.ext hx7_)
 obtain ⟨Gv8,hL8⟩:=zeD (Lens.var hO8)
 refine zb0 zcr hL8 hF8 (o15.ext (Ext.refl w7_)) (by omega) (by omega) fun w8_ hc8_ hv8_=>?_
 have hv3_s8:=hv8_ (w3_.heap.size) (by omega) (by omega) (w7_.heap.size) (by omega) (by omega)
 clear hv8_ hL8 hO8 hF8
 have hs_hc8_:=hc8_.size
 have hv2_c8:=(hv2_c6.ext hx7_).chg hc8_ (by omega) (by omega)
 have o15_c8:=(o15.ext (Ext.refl w7_)).chg hc8_ (by omega)
 refine zkp zbf hv3_s8 (Ext.refl w8_) fun v17 o17=>?_
 refine zgF zbf (hv2_c8.ext (Ext.refl w8_)) (o17.ext (Ext.refl w8_)) (by omega) fun w9_ hc9_ hv2_s9=>?_
 have hs_hc9_:=hc9_.size
 have hv3_s8_c9:=(hv3_s8.ext (Ext.refl w8_)).chg hc9_ (by omega) (by omega)
 have o15_c9:=(o15_c8.ext (Ext.refl w8_)).chg hc9_ (by omega)
 have o17_c9:=(o17.ext (Ext.refl w8_)).chg hc9_ (by omega)
 refine zgE zbf hv2_s9 (Ext.refl w9_) fun r2 hr2=>?_
 replace hr2:=hr2.ext (Ext.refl w9_)
 refine ⟨(Ext.chgI (Ext.chgI ((Ext.chgI (Ext.chgI (Ext.chgI ((hx1_.trans hx2_).trans hx3_) hc4_ (by omega)) hc5_ (by omega)) hc6_ (by omega)).trans hx7_) hc8_ (by omega)) hc9_ (by omega)),?_⟩
 have:=(hr2.mono (lo':=w.heap.size) (by omega) (Nat.le_refl _)).own
 cases t
 exact this
theorem znj (t:DTerm):zpx t:=DTerm.ind (fun t ih {w v} h hn=>zku h (Ext.refl w) (fun {_ _} h hn=>zjK ih h hn) hn) t
def F76 (a0:Value) (w:World) (R:VW):Prop:=
 oP (Instr.box 95 a0) w fun x1 w=>
 oP (Instr.alloc 111 true (.tuple #[])) w fun x2 w=>
 oP (Instr.alloc 111 true (.tuple #[])) w fun x3 w=>
 rF 95 x1 0 w fun x4=>
 rL 3 x4 w fun x5=>
 rF 111 x3 0 w fun x6=>
 oS 3 x6 x5 w fun w=>
 rF 95 x1 1 w fun x7=>
 rL 3 x7 w fun x8=>
 rF 111 x3 1 w fun x9=>
 oS 3 x9 x8 w fun w=>
 rF 95 x1 2 w fun x10=>
 rL 93 x10 w fun x11=>
 cL 131 [x11] w fun x12 w=>
 rF 111 x3 2 w fun x13=>
 oS 109 x13 x12 w fun w=>
 rF 95 x1 3 w fun x14=>
 rL 3 x14 w fun x15=>
 rF 111 x3 3 w fun x16=>
 oS 3 x16 x15 w fun w=>
 rL 111 x3 w fun x17=>
 oS 111 x2 x17 w fun w=>
 rD (zeu 111 x2) w fun r2=>R r2 w
def cfg76:Cfg:=⟨extL,[],[],[],[],[],[]⟩
theorem F76_call {a0:Value} {w:World} {R:VW} (h:F76 a0 w R):cL 76 [a0] w R:=co (g:=cfg76) Tryz.func76 (by kernel_rfl) (by kernel_rfl) (by kernel_rfl) h
theorem zoM {w:World} {v0:Value} {W0:World} {t:DIns}  (h0:Is W0 v0 t) (e0:Ext W0 w) (hn:wT t.term≤1048576) :
   CALL Tryz.prog 76 [v0] w fun r w'=>Ext w w'∧(Own w.heap.size w' r t):=by
 refine F76_call ?_
 unfold F76
 have hs_e0:=e0.size
 refine zaB zqB rfl h0 e0 fun w1_ hx1_ hA1 hV1=>?_
 have hs_hx1_:=hx1_.size
 refine zfg (α:=DIns) zfE fun w2_ hx2_ hv2=>?_
 have hg2:=hv2.lt
 have hs_hx2_:=hx2_.size
 refine zfg (α:=DIns) zfE fun w3_ hx3_ hv3=>?_
 have hg3:=hv3.lt
 have hs_hx3_:=hx3_.size
 refine zaa zqO ?_
 refine zac ty3 (zat hA1) (hx2_.trans hx3_) fun hI5=>?_
 refine zaa zaH ?_
 obtain ⟨Fv4,hO4,hF4⟩:=(hv3.ext (Ext.refl w3_))
 obtain ⟨Gv4,hL4⟩:=zg8 (Lens.var hO4)
 refine zb0 ty3 hL4 hF4 (ownI_int (lo:=w3_.heap.size) (hi:=w3_.heap.size) (by first | assumption | (unfold I64 at *;omega))) (by omega) (by omega) fun w4_ hc4_ hv4_=>?_
 have hv3_s4:=hv4_ (w3_.heap.size) (by omega) (by omega) (w3_.heap.size) (by omega) (by omega)
 clear hv4_ hL4 hO4 hF4
 have hs_hc4_:=hc4_.size
 have hv2_c4:=(hv2.ext hx3_).chg hc4_ (by omega) (by omega)
 refine zaa zqP ?_
 refine zac ty3 (zaw hA1) (Ext.chgI (hx2_.trans hx3_) hc4_ (by omega)) fun hI8=>?_
 refine zaa zaP ?_
 obtain ⟨Fv5,hO5,hF5⟩:=(hv3_s4.ext (Ext.refl w4_))
 obtain ⟨Gv5,hL5⟩:=zg9 (Lens.var hO5)
 refine zb0 ty3 hL5 hF5 (ownI_int (lo:=w4_.heap.size) (hi:=w4_.heap.size) (by first | assumption | (unfold I64 at *;omega))) (by omega) (by omega) fun w5_ hc5_ hv5_=>?_
 have hv3_s5:=hv5_ (w3_.heap.size) (by omega) (by omega) (w4_.heap.size) (by omega) (by omega)
 clear hv5_ hL5 hO5 hF5
 have hs_hc5_:=hc5_.size
 have hv2_c5:=(hv2_c4.ext (Ext.refl w4_)).chg hc5_ (by omega) (by omega)
 refine zaa zps ?_
 refine zab zpp (zbi hA1) (Ext.chgI (Ext.chgI (hx2_.trans hx3_) hc4_ (by omega)) hc5_ (by omega)) fun v11 h11=>?_
 refine ((znj _) (h11.ext (Ext.chgI (Ext.chgI (hx2_.trans hx3_) hc4_ (by omega)) hc5_ (by omega))) (by assumption)).mono ?_
 rintro r12 w6_ ⟨hx6_,o12⟩
 have o12:=o12.toI
 have hs_hx6_:=hx6_.size
 refine zaa zbK ?_
 obtain ⟨Fv7,hO7,hF7⟩:=(hv3_s5.ext hx6_)
 obtain ⟨Gv7,hL7⟩:=zdh (Lens.var hO7)
 refine zb0 zbf hL7 hF7 (o12.ext (Ext.refl w6_)) (by omega) (by omega) fun w7_ hc7_ hv7_=>?_
 have hv3_s7:=hv7_ (w3_.heap.size) (by omega) (by omega) (w6_.heap.size) (by omega) (by omega)
 clear hv7_ hL7 hO7 hF7
 have hs_hc7_:=hc7_.size
 have hv2_c7:=(hv2_c5.ext hx6_).chg hc7_ (by omega) (by omega)
 have o12_c7:=(o12.ext (Ext.refl w6_)).chg hc7_ (by omega)
 refine zaa zqQ ?_
 refine zac ty3 (zbj hA1) (Ext.chgI ((Ext.chgI (Ext.chgI (hx2_.trans hx3_) hc4_ (by omega)) hc5_ (by omega)).trans hx6_) hc7_ (by omega)) fun hI15=>?_
 refine zaa zbX ?_
 obtain ⟨Fv8,hO8,hF8⟩:=(hv3_s7.ext (Ext.refl w7_))
 obtain ⟨Gv8,hL8⟩:=zha (Lens.var hO8)
 refine zb0 ty3 hL8 hF8 (ownI_int (lo:=w7_.heap.size) (hi:=w7_.heap.size) (by first | assumption | (unfold I64 at *;omega))) (by omega) (by omega) fun w8_ hc8_ hv8_=>?_
 have hv3_s8:=hv8_ (w3_.heap.size) (by omega) (by omega) (w7_.heap.size) (by omega) (by omega)
 clear hv8_ hL8 hO8 hF8
 have hs_hc8_:=hc8_.size
 have hv2_c8:=(hv2_c7.ext (Ext.refl w7_)).chg hc8_ (by omega) (by omega)
 have o12_c8:=(o12_c7.ext (Ext.refl w7_)).chg hc8_ (by omega)
 refine zkp zaS hv3_s8 (Ext.refl w8_) fun v17 o17=>?_
 refine zgF zaS (hv2_c8.ext (Ext.refl w8_)) (o17.ext (Ext.refl w8_)) (by omega) fun w9_ hc9_ hv2_s9=>?_
 have hs_hc9_:=hc9_.size
 have hv3_s8_c9:=(hv3_s8.ext (Ext.refl w8_)).chg hc9_ (by omega) (by omega)
 have o12_c9:=(o12_c8.ext (Ext.refl w8_)).chg hc9_ (by omega)
 have o17_c9:=(o17.ext (Ext.refl w8_)).chg hc9_ (by omega)
 refine zgE zaS hv2_s9 (Ext.refl w9_) fun r2 hr2=>?_
 replace hr2:=hr2.ext (Ext.refl w9_)
 refine ⟨(Ext.chgI (Ext.chgI (Ext.chgI ((Ext.chgI (Ext.chgI ((hx1_.trans hx2_).trans hx3_) hc4_ (by omega)) hc5_ (by omega)).trans hx6_) hc7_ (by omega)) hc8_ (by omega)) hc9_ (by omega)),?_⟩
 exact (hr2.mono (lo':=w.heap.size) (by omega) (Nat.le_refl _)).own
theorem znk {w:World} {v:Value} {l:List DIns} (h:Is w v l) (hn:zpu l≤1048576) :
   CALL Tryz.prog 41 [v] w fun r w'=>Ext w w'∧Own w.heap.size w' r l:=by
 unfold zpu at hn
 refine F41_call ?_
 unfold F41
 refine zaf u24 h ?_
 refine ziq (α:=DIns) u30 zaS zrL (by omega) (by omega) fun w1 hx1 hf=>?_
 refine zas l.length (fun k us w'=>us=[.int .i64 (k:Int)]∧Ext w w'∧∃ Fi,Fill w.heap.size 111 l.length Fi w' (l.take k)∧∀ b∈Fi,w.heap.size≤b) 0 (Nat.zero_le _) ⟨rfl,hx1,[],by simpa using hf,by simp⟩ ?_
 rintro k m u w2 hkm ⟨hu,hx2,Fi,hf2,hFl⟩
 simp only [List.map_cons,List.map_nil,List.cons.injEq,and_true] at hu
 rw [hu]
 refine zaf u24 h ?_
 refine zah ?_
 refine br (fun hlt=>?_) (fun hge=>?_)
 · have hk:k<l.length:=by omega
   refine zad u24 zqB h hk fun b o hA=>?_
   refine zab zqB hA hx2 fun v19 h19=>?_
   refine (zoM h19 hx2 (by have:=zpt (fun i:DIns=>wT i.term) (List.getElem_mem hk);omega)).mono ?_
   rintro r20 w3 ⟨hx3,F20,hm20,hl20⟩
   refine zdd u30 zaS hk ?_
   refine zgD (α:=DIns) zaS (hf2.ext hx3) (by simp [Rep.size];omega) (by simp;omega) hm20 (zh1 (lo:=0) hf2 hm20 hl20) fun w4 hc4 hf4=>?_
   refine zag (by have:=zal h;omega) ?_
   refine ⟨m-1,by omega,k+1,by omega,rfl,(hx2.trans hx3).chg_trans hc4 (by simp),Fi++F20,?_,?_⟩
   · rw [List.take_succ_eq_append_getElem hk]
     exact hf4
   intro b hb
   rcases List.mem_append.1 hb with hb | hb
   · exact hFl b hb
   exact Nat.le_trans hx2.size (hl20 b hb)
 have hk:k=l.length:=by omega
 subst hk
 rw [List.take_length] at hf2
 exact ⟨hx2,_,hf2.own rfl (by rw [zao];omega),by simpa using hFl⟩
def F9 (a0:Value) (w:World) (R:VW):Prop:=
 oP (Instr.box 26 a0) w fun x1 w=>
 oP (Instr.alloc 32 true (.tuple #[])) w fun x2 w=>
 oP (Instr.alloc 32 true (.tuple #[])) w fun x3 w=>
 rF 26 x1 0 w fun x4=>
 rL 22 x4 w fun x5=>
 cL 39 [x5] w fun x6 w=>
 rF 32 x3 0 w fun x7=>
 oS 22 x7 x6 w fun w=>
 rF 26 x1 1 w fun x8=>
 rL 22 x8 w fun x9=>
 cL 39 [x9] w fun x10 w=>
 rF 32 x3 1 w fun x11=>
 oS 22 x11 x10 w fun w=>
 rF 26 x1 2 w fun x12=>
 rL 22 x12 w fun x13=>
 cL 39 [x13] w fun x14 w=>
 rF 32 x3 2 w fun x15=>
 oS 22 x15 x14 w fun w=>
 rF 26 x1 3 w fun x16=>
 rL 23 x16 w fun x17=>
 cL 40 [x17] w fun x18 w=>
 rF 32 x3 3 w fun x19=>
 oS 23 x19 x18 w fun w=>
 rF 26 x1 4 w fun x20=>
 rL 24 x20 w fun x21=>
 cL 41 [x21] w fun x22 w=>
 rF 32 x3 4 w fun x23=>
 oS 30 x23 x22 w fun w=>
 rL 32 x3 w fun x24=>
 oS 32 x2 x24 w fun w=>
 rD (zeu 32 x2) w fun r2=>R r2 w
def cfg9:Cfg:=⟨extL,[],[],[],[],[],[]⟩
theorem F9_call {a0:Value} {w:World} {R:VW} (h:F9 a0 w R):cL 9 [a0] w R:=co (g:=cfg9) Tryz.func9 (by kernel_rfl) (by kernel_rfl) (by kernel_rfl) h
theorem zkv {w:World} {v0:Value} {W0:World} {t:DCode}  (h0:Is W0 v0 t) (e0:Ext W0 w) (hn:ziE t≤1048576) :
   CALL Tryz.prog 9 [v0] w fun r w'=>Ext w w'∧(Own w.heap.size w' r t):=by
 refine F9_call ?_
 unfold F9
 unfold ziE zp1 at hn
 have hs_e0:=e0.size
 refine zaB zrn rfl h0 e0 fun w1_ hx1_ hA1 hV1=>?_
 have hs_hx1_:=hx1_.size
 refine zfg (α:=DCode) zro fun w2_ hx2_ hv2=>?_
 have hg2:=hv2.lt
 have hs_hx2_:=hx2_.size
 refine zfg (α:=DCode) zro fun w3_ hx3_ hv3=>?_
 have hg3:=hv3.lt
 have hs_hx3_:=hx3_.size
 refine zaa zpk ?_
 refine zab zbN (za2 hA1) (hx2_.trans hx3_) fun v5 h5=>?_
 refine (zeH (h5.ext (hx2_.trans hx3_)) (by omega)).mono ?_
 rintro r6 w4_ ⟨hx4_,o6⟩
 have o6:=o6.toI
 have hs_hx4_:=hx4_.size
 refine zaa zcG ?_
 obtain ⟨Fv5,hO5,hF5⟩:=(hv3.ext hx4_)
 obtain ⟨Gv5,hL5⟩:=zjw (Lens.var hO5)
 refine zb0 zbN hL5 hF5 (o6.ext (Ext.refl w4_)) (by omega) (by omega) fun w5_ hc5_ hv5_=>?_
 have hv3_s5:=hv5_ (w3_.heap.size) (by omega) (by omega) (w4_.heap.size) (by omega) (by omega)
 clear hv5_ hL5 hO5 hF5
 have hs_hc5_:=hc5_.size
 have hv2_c5:=(hv2.ext (hx3_.trans hx4_)).chg hc5_ (by omega) (by omega)
 have o6_c5:=(o6.ext (Ext.refl w4_)).chg hc5_ (by omega)
 refine zaa zpl ?_
 refine zab zbN (zby hA1) (Ext.chgI ((hx2_.trans hx3_).trans hx4_) hc5_ (by omega)) fun v9 h9=>?_
 refine (zeH (h9.ext (Ext.chgI ((hx2_.trans hx3_).trans hx4_) hc5_ (by omega))) (by omega)).mono ?_
 rintro r10 w6_ ⟨hx6_,o10⟩
 have o10:=o10.toI
 have hs_hx6_:=hx6_.size
 refine zaa zem ?_
 obtain ⟨Fv7,hO7,hF7⟩:=(hv3_s5.ext hx6_)
 obtain ⟨Gv7,hL7⟩:=zjx (Lens.var hO7)
 refine zb0 zbN hL7 hF7 (o10.ext (Ext.refl w6_)) (by omega) (by omega) fun w7_ hc7_ hv7_=>?_
 have hv3_s7:=hv7_ (w3_.heap.size) (by omega) (by omega) (w6_.heap.size) (by omega) (by omega)
 clear hv7_ hL7 hO7 hF7
 have hs_hc7_:=hc7_.size
 have hv2_c7:=(hv2_c5.ext hx6_).chg hc7_ (by omega) (by omega)
 have o6_c7:=(o6_c5.ext hx6_).chg hc7_ (by omega)
 have o10_c7:=(o10.ext (Ext.refl w6_)).chg hc7_ (by omega)
 refine zaa zpm ?_
 refine zab zbN (zap hA1) (Ext.chgI ((Ext.chgI ((hx2_.trans hx3_).trans hx4_) hc5_ (by omega)).trans hx6_) hc7_ (by omega)) fun v13 h13=>?_
 refine (zeH (h13.ext (Ext.chgI ((Ext.chgI ((hx2_.trans hx3_).trans hx4_) hc5_ (by omega)).trans hx6_) hc7_ (by omega))) (by omega)).mono ?_
 rintro r14 w8_ ⟨hx8_,o14⟩
 have o14:=o14.toI
 have hs_hx8_:=hx8_.size
 refine zaa za1 ?_
 obtain ⟨Fv9,hO9,hF9⟩:=(hv3_s7.ext hx8_)
 obtain ⟨Gv9,hL9⟩:=zjy (Lens.var hO9)
 refine zb0 zbN hL9 hF9 (o14.ext (Ext.refl w8_)) (by omega) (by omega) fun w9_ hc9_ hv9_=>?_
 have hv3_s9:=hv9_ (w3_.heap.size) (by omega) (by omega) (w8_.heap.size) (by omega) (by omega)
 clear hv9_ hL9 hO9 hF9
 have hs_hc9_:=hc9_.size
 have hv2_c9:=(hv2_c7.ext hx8_).chg hc9_ (by omega) (by omega)
 have o6_c9:=(o6_c7.ext hx8_).chg hc9_ (by omega)
 have o10_c9:=(o10_c7.ext hx8_).chg hc9_ (by omega)
 have o14_c9:=(o14.ext (Ext.refl w8_)).chg hc9_ (by omega)
 refine zaa zpn ?_
 refine zab zb6 (zam hA1) (Ext.chgI ((Ext.chgI ((Ext.chgI ((hx2_.trans hx3_).trans hx4_) hc5_ (by omega)).trans hx6_) hc7_ (by omega)).trans hx8_) hc9_ (by omega)) fun v17 h17=>?_
 refine (zmS (h17.ext (Ext.chgI ((Ext.chgI ((Ext.chgI ((hx2_.trans hx3_).trans hx4_) hc5_ (by omega)).trans hx6_) hc7_ (by omega)).trans hx8_) hc9_ (by omega))) (by omega)).mono ?_
 rintro r18 w10_ ⟨hx10_,o18⟩
 have o18:=o18.toI
 have hs_hx10_:=hx10_.size
 refine zaa zaT ?_
 obtain ⟨Fv11,hO11,hF11⟩:=(hv3_s9.ext hx10_)
 obtain ⟨Gv11,hL11⟩:=zjz (Lens.var hO11)
 refine zb0 zb6 hL11 hF11 (o18.ext (Ext.refl w10_)) (by omega) (by omega) fun w11_ hc11_ hv11_=>?_
 have hv3_s11:=hv11_ (w3_.heap.size) (by omega) (by omega) (w10_.heap.size) (by omega) (by omega)
 clear hv11_ hL11 hO11 hF11
 have hs_hc11_:=hc11_.size
 have hv2_c11:=(hv2_c9.ext hx10_).chg hc11_ (by omega) (by omega)
 have o6_c11:=(o6_c9.ext hx10_).chg hc11_ (by omega)
 have o10_c11:=(o10_c9.ext hx10_).chg hc11_ (by omega)
 have o14_c11:=(o14_c9.ext hx10_).chg hc11_ (by omega)
 have o18_c11:=(o18.ext (Ext.refl w10_)).chg hc11_ (by omega)
 refine zaa zpo ?_
 refine zab zrw (zai hA1) (Ext.chgI ((Ext.chgI ((Ext.chgI ((Ext.chgI ((hx2_.trans hx3_).trans hx4_) hc5_ (by omega)).trans hx6_) hc7_ (by omega)).trans hx8_) hc9_ (by omega)).trans hx10_) hc11_ (by omega)) fun v21 h21=>?_
 refine (znk (h21.ext (Ext.chgI ((Ext.chgI ((Ext.chgI ((Ext.chgI ((hx2_.trans hx3_).trans hx4_) hc5_ (by omega)).trans hx6_) hc7_ (by omega)).trans hx8_) hc9_ (by omega)).trans hx10_) hc11_ (by omega))) (by omega)).mono ?_
 rintro r22 w12_ ⟨hx12_,o22⟩
 have o22:=o22.toI
 have hs_hx12_:=hx12_.size
 refine zaa zaD ?_
 obtain ⟨Fv13,hO13,hF13⟩:=(hv3_s11.ext hx12_)
 obtain ⟨Gv13,hL13⟩:=zjA (Lens.var hO13)
 refine zb0 zco hL13 hF13 (o22.ext (Ext.refl w12_)) (by omega) (by omega) fun w13_ hc13_ hv13_=>?_
 have hv3_s13:=hv13_ (w3_.heap.size) (by omega) (by omega) (w12_.heap.size) (by omega) (by omega)
 clear hv13_ hL13 hO13 hF13
 have hs_hc13_:=hc13_.size
 have hv2_c13:=(hv2_c11.ext hx12_).chg hc13_ (by omega) (by omega)
 have o6_c13:=(o6_c11.ext hx12_).chg hc13_ (by omega)
 have o10_c13:=(o10_c11.ext hx12_).chg hc13_ (by omega)
 have o14_c13:=(o14_c11.ext hx12_).chg hc13_ (by omega)
 have o18_c13:=(o18_c11.ext hx12_).chg hc13_ (by omega)
 have o22_c13:=(o22.ext (Ext.refl w12_)).chg hc13_ (by omega)
 refine zkp zbu hv3_s13 (Ext.refl w13_) fun v24 o24=>?_
 refine zgF zbu (hv2_c13.ext (Ext.refl w13_)) (o24.ext (Ext.refl w13_)) (by omega) fun w14_ hc14_ hv2_s14=>?_
 have hs_hc14_:=hc14_.size
 have hv3_s13_c14:=(hv3_s13.ext (Ext.refl w13_)).chg hc14_ (by omega) (by omega)
 have o6_c14:=(o6_c13.ext (Ext.refl w13_)).chg hc14_ (by omega)
 have o10_c14:=(o10_c13.ext (Ext.refl w13_)).chg hc14_ (by omega)
 have o14_c14:=(o14_c13.ext (Ext.refl w13_)).chg hc14_ (by omega)
 have o18_c14:=(o18_c13.ext (Ext.refl w13_)).chg hc14_ (by omega)
 have o22_c14:=(o22_c13.ext (Ext.refl w13_)).chg hc14_ (by omega)
 have o24_c14:=(o24.ext (Ext.refl w13_)).chg hc14_ (by omega)
 refine zgE zbu hv2_s14 (Ext.refl w14_) fun r2 hr2=>?_
 replace hr2:=hr2.ext (Ext.refl w14_)
 refine ⟨(Ext.chgI (Ext.chgI ((Ext.chgI ((Ext.chgI ((Ext.chgI ((Ext.chgI (((hx1_.trans hx2_).trans hx3_).trans hx4_) hc5_ (by omega)).trans hx6_) hc7_ (by omega)).trans hx8_) hc9_ (by omega)).trans hx10_) hc11_ (by omega)).trans hx12_) hc13_ (by omega)) hc14_ (by omega)),?_⟩
 exact (hr2.mono (lo':=w.heap.size) (by omega) (Nat.le_refl _)).own
theorem zfL {w:World} {v:Value} {t:DCode} (h:Is w v t) (hn:ziE t≤1048576):CALL Tryz.prog 9 [v] w fun r w'=>Ext w w'∧Own w.heap.size w' r t:=zkv h (Ext.refl w) hn
def zrM:DIns:=⟨0,0,term0,0⟩
def en (c:DCode) (i:Nat):Int:=c.entry.getD i 0
def zaj (c:DCode) (j:Nat):DIns:=c.ins.getD j zrM
theorem za8 {c:DCode} {i:Nat} (h:i<c.entry.length):c.entry[i]=en c i:=by unfold en;rw [List.getD_eq_getElem?_getD,List.getElem?_eq_getElem h];rfl
theorem zaG {c:DCode} {i:Nat} (h:i<c.ins.length):c.ins[i]=zaj c i:=by unfold zaj;rw [List.getD_eq_getElem?_getD,List.getElem?_eq_getElem h];rfl
def prc (c:DCode) (a:Int):Nat→Int
 | 0=>-1
 | n+1=>if en c n≤a then n else prc c a n
def zar (c:DCode) (a:Int):Int:=prc c a c.entry.length
theorem zgI {c:DCode} {a:Int} {m:Nat}:∀ {n:Nat},m≤n→(∀ j,m≤j→j<n→a<en c j)→prc c a n=prc c a m
 | 0,h,_=>by rw [Nat.le_zero.1 h]
 | n+1,h,hj=>by
   by_cases e:m=n+1
   · rw [e]
   rw [prc,if_neg (by have:=hj n (by omega) (by omega);omega)]
   exact zgI (by omega) fun j h1 h2=>hj j h1 (by omega)
theorem zpy {c:DCode} {a:Int}:∀ (n:Nat),-1≤prc c a n∧prc c a n<n
 | 0=>by simp [prc]
 | n+1=>by
   have:=zpy (c:=c) (a:=a) n
   rw [prc]
   split<;>omega
theorem zfM {c:DCode} {a:Int}:-1≤zar c a∧zar c a<c.entry.length:=zpy _
def zd9 (c:DCode) (p:Int):Int:=if p+1<c.entry.length then en c (p+1).toNat-1 else (c.ins.length:Int)-1
def zcX (c:DCode) (i:Nat):Int:=if i+1<c.entry.length then en c (i+1) else c.ins.length
theorem zdr (c:DCode) (i:Nat):zd9 c i=zcX c i-1:=by
 unfold zd9 zcX
 have e:((i:Int)+1).toNat=i+1:=by omega
 by_cases h:i+1<c.entry.length
 · rw [if_pos (by omega),if_pos h,e]
 rw [if_neg (by omega),if_neg h]
def F97 (a0 a1:Value) (w:World) (R:VW):Prop:=
 oP (Instr.box 32 a0) w fun x2 w=>
 rF 32 x2 3 w fun x6=>
 rL 23 x6 w fun x7=>
 rN 23 3 x7 w fun x8=>
 rB .sub 3 T0 U0 x8 (iV 1) w fun x9=>
 LOOPI [5] [x9] w fun u2 w next2=>
 rB .geq 3 T0 U0 (u2 5) (iV 0) w fun x11=>
 BR x11
 (rF 32 x2 3 w fun x14=>
 rL 23 x14 w fun x15=>
 rX 23 x15 (u2 5) w fun x17=>
 rL 3 x17 w fun x18=>
 rB .leq 3 T0 T0 x18 a1 w fun x20=>
 BR x20
 (R (u2 5) w)
 (rB .sub 3 T0 U0 (u2 5) (iV 1) w fun x13=>
 next2 [x13] w))
 (R (iV (-1)) w)
def cfg97:Cfg:=⟨extL,[],[(2,4193328,[5])],[],[],[],[]⟩
theorem F97_call {a0 a1:Value} {w:World} {R:VW} (h:F97 a0 a1 w R):cL 97 [a0,a1] w R:=co (g:=cfg97) Tryz.func97 (by kernel_rfl) (by kernel_rfl) (by kernel_rfl) h
theorem zdO {w:World} {v0:Value} {W0:World} {c:DCode} {a:Int}  (h0:Is W0 v0 c) (e0:Ext W0 w)  :
   CALL Tryz.prog 97 [v0,.int .i64 a] w fun r w'=>Ext w w'∧(r=.int .i64 (zar c a)):=by
 refine F97_call ?_
 unfold F97
 refine zaB zbu rfl h0 e0 fun w1_ hx1_ hA2 hV2=>?_
 refine zaa zaT ?_
 refine zab zb6 (zam hA2) (Ext.refl w1_) fun v7 h7=>?_
 have hln8:=zal h7
 refine zaf u23 h7 ?_
 refine zbC (by unfold I64;omega) ?_
 refine zas (c.entry.length) (fun k us w'=>us=[.int .i64 ((c.entry.length:Int)-1-(k:Int))]∧Ext w1_ w'∧(∀ j,c.entry.length-k≤j→j<c.entry.length→a<en c j)) (0) (by omega) ⟨by simp,Ext.refl w1_,fun j h1 h2=>by omega⟩ ?_
 rintro k m2 uu2 w2_ hk2 ⟨hu,hx2_,hinv⟩
 simp only [List.map_cons,List.map_nil,List.cons.injEq,and_true] at hu
 try rw [hu]
 try clear hu
 have hln:=zal h7
 refine zci ?_
 refine br (fun c1=>?_) (fun c1=>?_)
 · refine zaa zaT ?_
   refine zab zb6 (zam hA2) hx2_ fun v15 h15=>?_
   refine zcl u23 ty3 h15 (by omega) (by omega) fun b17 o17 h17=>?_
   have hn17:((c.entry.length:Int)-1-(k:Int)).toNat=c.entry.length-k-1:=by omega
   simp only [hn17] at h17
   refine zac ty3 h17 hx2_ fun hI18=>?_
   refine zcU ?_
   refine br (fun c2=>?_) (fun c2=>?_)
   · refine ⟨(hx1_.trans hx2_),?_⟩
     rw [za8] at c2
     unfold zar
     rw [zgI (m:=c.entry.length-k) (by omega) hinv,show c.entry.length-k=(c.entry.length-k-1)+1 by omega,prc,if_pos c2]
     congr 1
     omega
   refine zbC (by unfold I64;omega) ?_
   refine ⟨m2-1,by omega,k+1,by omega,by simp;omega,hx2_,?_⟩
   intro j h1 h2
   by_cases hj:j=c.entry.length-k-1
   · subst hj
     rw [za8] at c2
     omega
   exact hinv j (by omega) h2
 refine ⟨(hx1_.trans hx2_),?_⟩
 unfold zar
 rw [zgI (m:=c.entry.length-k) (by omega) hinv,show c.entry.length-k=0 by omega]
 rfl
def F124 (a0 a1:Value) (w:World) (R:VW):Prop:=
 oP (Instr.box 32 a0) w fun x2 w=>
 rA a1 (iV 1) w fun x6=>
 rF 32 x2 3 w fun x7=>
 rL 23 x7 w fun x8=>
 rN 23 3 x8 w fun x9=>
 rC x6 x9 w fun x10=>
 BR x10
 (rF 32 x2 3 w fun x11=>
 rL 23 x11 w fun x12=>
 rA a1 (iV 1) w fun x14=>
 rX 23 x12 x14 w fun x15=>
 rL 3 x15 w fun x16=>
 rB .sub 3 T0 U0 x16 (iV 1) w fun x17=>
 R x17 w)
 (rF 32 x2 4 w fun x18=>
 rL 30 x18 w fun x19=>
 rN 30 3 x19 w fun x20=>
 rB .sub 3 T0 U0 x20 (iV 1) w fun x21=>
 R x21 w)
def cfg124:Cfg:=⟨extL,[],[],[],[],[],[]⟩
theorem F124_call {a0 a1:Value} {w:World} {R:VW} (h:F124 a0 a1 w R):cL 124 [a0,a1] w R:=co (g:=cfg124) Tryz.func124 (by kernel_rfl) (by kernel_rfl) (by kernel_rfl) h
theorem zdi {w:World} {v0:Value} {W0:World} {c:DCode} {p:Int}  (h0:Is W0 v0 c) (e0:Ext W0 w) (hp0:-1≤p) (hp1:p<1000000000000) (hE:∀ i,i<c.entry.length→0≤en c i) :
   CALL Tryz.prog 124 [v0,.int .i64 p] w fun r w'=>Ext w w'∧(r=.int .i64 (zd9 c p)):=by
 refine F124_call ?_
 unfold F124
 refine zaB zbu rfl h0 e0 fun w1_ hx1_ hA2 hV2=>?_
 refine zb7 (by unfold I64;omega) ?_
 refine zaa zaT ?_
 refine zab zb6 (zam hA2) (Ext.refl w1_) fun v8 h8=>?_
 have hln9:=zal h8
 refine zaf u23 h8 ?_
 refine zah ?_
 refine br (fun c1=>?_) (fun c1=>?_)
 · refine zaa zaT ?_
   refine zab zb6 (zam hA2) (Ext.refl w1_) fun v12 h12=>?_
   refine zb7 (by unfold I64;omega) ?_
   refine zcl u23 ty3 h12 (by omega) (by omega) fun b15 o15 h15=>?_
   refine zac ty3 h15 (Ext.refl w1_) fun hI16=>?_
   have hE1:=hE (p+1).toNat (by omega)
   rw [←za8 (by omega)] at hE1
   refine zbC (by unfold I64 at *;omega) ?_
   refine ⟨hx1_,?_⟩
   unfold zd9
   rw [if_pos c1,za8]
 refine zaa zaD ?_
 refine zab zco (zai hA2) (Ext.refl w1_) fun v19 h19=>?_
 have hln20:=zal h19
 refine zaf u30 h19 ?_
 refine zbC (by unfold I64;have:=zal h19;omega) ?_
 refine ⟨hx1_,?_⟩
 unfold zd9
 rw [if_neg c1]
def zhM:ByteArray:=ByteArray.mk #[109,97,105,110]
def NamesR (c:DCode):Prop:=(decide ((c.globals.length:Int)≤6)&&c.globals.all zbr)=true∧(decide ((c.locks.length:Int)≤6)&&c.locks.all zbr)=true∧(decide ((c.procs.length:Int)≤8)&&c.procs.all zbr)=true ∧
 c.globals.Nodup∧c.locks.Nodup∧c.procs.Nodup∧zhM∈c.procs
instance (c:DCode):Decidable (NamesR c):=by unfold NamesR;infer_instance
def EntS (c:DCode):Prop:=c.entry.length=c.procs.length∧c.ins.length≤1500∧(∀ i,i<c.entry.length→(i=0→en c 0=0)∧(0<i→en c (i-1)<en c i)∧en c i<c.ins.length) ∧
 ∀ j,j<c.ins.length→((zaj c j).op=9↔zd9 c (zar c j)=j)
instance (c:DCode):Decidable (EntS c):=by unfold EntS;infer_instance
theorem zfN {P:Nat→Prop} {k:Nat} (h:∀ i,i<k→P i) (hk:P k):∀ i,i<k+1→P i:=fun i hi=>by
 by_cases e:i=k
 · rw [e];exact hk
 exact h i (by omega)
theorem zf9 {c:DCode} {n:Nat} {m:Int} (h:∀ i,i<n→(i=0→en c 0=0)∧(0<i→en c (i-1)<en c i)∧en c i<m):∀ i,i<n→0≤en c i
 | 0,hi=>by rw [(h 0 hi).1 rfl];omega
 | i+1,hi=>by
   have h1:=zf9 h i (by omega)
   have h2:=(h (i+1) hi).2.1 (by omega)
   simp only [Nat.add_sub_cancel] at h2
   omega
def F70 (a0:Value) (w:World) (R:VW):Prop:=
 oP (Instr.box 32 a0) w fun x1 w=>
 rF 32 x1 0 w fun x5=>
 rL 22 x5 w fun x6=>
 cL 121 [x6,(iV 6)] w fun x7 w=>
 rD (Op.unary .not x7) w fun x8=>
 BR x8
 (R (Value.bool false) w)
 (rF 32 x1 1 w fun x10=>
 rL 22 x10 w fun x11=>
 cL 121 [x11,(iV 6)] w fun x12 w=>
 rD (Op.unary .not x12) w fun x13=>
 BR x13
 (R (Value.bool false) w)
 (rF 32 x1 2 w fun x16=>
 rL 22 x16 w fun x17=>
 cL 121 [x17,(iV 8)] w fun x18 w=>
 rD (Op.unary .not x18) w fun x19=>
 BR x19
 (R (Value.bool false) w)
 (rF 32 x1 0 w fun x22=>
 rL 22 x22 w fun x23=>
 cL 122 [x23] w fun x24 w=>
 BR x24
 (R (Value.bool false) w)
 (rF 32 x1 1 w fun x27=>
 rL 22 x27 w fun x28=>
 cL 122 [x28] w fun x29 w=>
 BR x29
 (R (Value.bool false) w)
 (rF 32 x1 2 w fun x32=>
 rL 22 x32 w fun x33=>
 cL 122 [x33] w fun x34 w=>
 BR x34
 (R (Value.bool false) w)
 (rF 32 x1 3 w fun x37=>
 rL 23 x37 w fun x38=>
 rN 23 3 x38 w fun x39=>
 rF 32 x1 2 w fun x40=>
 rL 22 x40 w fun x41=>
 rN 22 3 x41 w fun x42=>
 rB .neq 3 T0 T0 x39 x42 w fun x43=>
 BR x43
 (R (Value.bool false) w)
 (rF 32 x1 4 w fun x46=>
 rL 30 x46 w fun x47=>
 rN 30 3 x47 w fun x48=>
 rB .gtr 3 T0 U0 x48 (iV 1500) w fun x49=>
 BR x49
 (R (Value.bool false) w)
 (rF 32 x1 2 w fun x52=>
 rL 22 x52 w fun x53=>
 cL 123 [x53,(Value.string (ByteArray.mk #[109,97,105,110]))] w fun x54 w=>
 rB .lss 3 T0 U0 x54 (iV 0) w fun x55=>
 BR x55
 (R (Value.bool false) w)
 (LOOPI [3] [(iV 0)] w fun u4 w next4=>
 rF 32 x1 3 w fun x58=>
 rL 23 x58 w fun x59=>
 rN 23 3 x59 w fun x60=>
 rC (u4 3) x60 w fun x61=>
 BR x61
 ((fun w=>rB .eql 3 T0 U0 (u4 3) (iV 0) w fun x65=>
 BR x65
 (rF 32 x1 3 w fun x67=>
 rL 23 x67 w fun x68=>
 rX 23 x68 (iV 0) w fun x69=>
 rL 3 x69 w fun x70=>
 rB .neq 3 T0 U0 x70 (iV 0) w fun x71=>
 BR x71
 (R (Value.bool false) w)
 (rB .gtr 3 T0 U0 (u4 3) (iV 0) w fun x75=>
 GBR x75
 (rF 32 x1 3 w fun x77=>
 rL 23 x77 w fun x78=>
 rX 23 x78 (u4 3) w fun x80=>
 rL 3 x80 w fun x81=>
 rF 32 x1 3 w fun x82=>
 rL 23 x82 w fun x83=>
 rB .sub 3 T0 U0 (u4 3) (iV 1) w fun x85=>
 rX 23 x83 x85 w fun x86=>
 rL 3 x86 w fun x87=>
 rB .leq 3 T0 T0 x81 x87 w fun x88=>
 BR x88
 (R (Value.bool false) w)
 (rF 32 x1 3 w fun x92=>
 rL 23 x92 w fun x93=>
 rX 23 x93 (u4 3) w fun x95=>
 rL 3 x95 w fun x96=>
 rF 32 x1 4 w fun x97=>
 rL 30 x97 w fun x98=>
 rN 30 3 x98 w fun x99=>
 rB .geq 3 T0 T0 x96 x99 w fun x100=>
 BR x100
 (R (Value.bool false) w)
 (rA (u4 3) (iV 1) w fun x63=>
 next4 [x63] w)))
 (rF 32 x1 3 w fun x92=>
 rL 23 x92 w fun x93=>
 rX 23 x93 (u4 3) w fun x95=>
 rL 3 x95 w fun x96=>
 rF 32 x1 4 w fun x97=>
 rL 30 x97 w fun x98=>
 rN 30 3 x98 w fun x99=>
 rB .geq 3 T0 T0 x96 x99 w fun x100=>
 BR x100
 (R (Value.bool false) w)
 (rA (u4 3) (iV 1) w fun x63=>
 next4 [x63] w))
 (BR undef
 (BR undef
 (R (Value.bool false) w)
 (rF 32 x1 3 w fun x92=>
 rL 23 x92 w fun x93=>
 rX 23 x93 (u4 3) w fun x95=>
 rL 3 x95 w fun x96=>
 rF 32 x1 4 w fun x97=>
 rL 30 x97 w fun x98=>
 rN 30 3 x98 w fun x99=>
 rB .geq 3 T0 T0 x96 x99 w fun x100=>
 BR x100
 (R (Value.bool false) w)
 (rA (u4 3) (iV 1) w fun x63=>
 next4 [x63] w)))
 (rF 32 x1 3 w fun x92=>
 rL 23 x92 w fun x93=>
 rX 23 x93 (u4 3) w fun x95=>
 rL 3 x95 w fun x96=>
 rF 32 x1 4 w fun x97=>
 rL 30 x97 w fun x98=>
 rN 30 3 x98 w fun x99=>
 rB .geq 3 T0 T0 x96 x99 w fun x100=>
 BR x100
 (R (Value.bool false) w)
 (rA (u4 3) (iV 1) w fun x63=>
 next4 [x63] w)))))
 (rB .gtr 3 T0 U0 (u4 3) (iV 0) w fun x75=>
 GBR x75
 (rF 32 x1 3 w fun x77=>
 rL 23 x77 w fun x78=>
 rX 23 x78 (u4 3) w fun x80=>
 rL 3 x80 w fun x81=>
 rF 32 x1 3 w fun x82=>
 rL 23 x82 w fun x83=>
 rB .sub 3 T0 U0 (u4 3) (iV 1) w fun x85=>
 rX 23 x83 x85 w fun x86=>
 rL 3 x86 w fun x87=>
 rB .leq 3 T0 T0 x81 x87 w fun x88=>
 BR x88
 (R (Value.bool false) w)
 (rF 32 x1 3 w fun x92=>
 rL 23 x92 w fun x93=>
 rX 23 x93 (u4 3) w fun x95=>
 rL 3 x95 w fun x96=>
 rF 32 x1 4 w fun x97=>
 rL 30 x97 w fun x98=>
 rN 30 3 x98 w fun x99=>
 rB .geq 3 T0 T0 x96 x99 w fun x100=>
 BR x100
 (R (Value.bool false) w)
 (rA (u4 3) (iV 1) w fun x63=>
 next4 [x63] w)))
 (rF 32 x1 3 w fun x92=>
 rL 23 x92 w fun x93=>
 rX 23 x93 (u4 3) w fun x95=>
 rL 3 x95 w fun x96=>
 rF 32 x1 4 w fun x97=>
 rL 30 x97 w fun x98=>
 rN 30 3 x98 w fun x99=>
 rB .geq 3 T0 T0 x96 x99 w fun x100=>
 BR x100
 (R (Value.bool false) w)
 (rA (u4 3) (iV 1) w fun x63=>
 next4 [x63] w))
 (BR undef
 (BR undef
 (R (Value.bool false) w)
 (rF 32 x1 3 w fun x92=>
 rL 23 x92 w fun x93=>
 rX 23 x93 (u4 3) w fun x95=>
 rL 3 x95 w fun x96=>
 rF 32 x1 4 w fun x97=>
 rL 30 x97 w fun x98=>
 rN 30 3 x98 w fun x99=>
 rB .geq 3 T0 T0 x96 x99 w fun x100=>
 BR x100
 (R (Value.bool false) w)
 (rA (u4 3) (iV 1) w fun x63=>
 next4 [x63] w)))
 (rF 32 x1 3 w fun x92=>
 rL 23 x92 w fun x93=>
 rX 23 x93 (u4 3) w fun x95=>
 rL 3 x95 w fun x96=>
 rF 32 x1 4 w fun x97=>
 rL 30 x97 w fun x98=>
 rN 30 3 x98 w fun x99=>
 rB .geq 3 T0 T0 x96 x99 w fun x100=>
 BR x100
 (R (Value.bool false) w)
 (rA (u4 3) (iV 1) w fun x63=>
 next4 [x63] w))))) (World.drew1 w))
 (LOOPI [4] [(iV 0)] w fun u9 w next9=>
 rF 32 x1 4 w fun x103=>
 rL 30 x103 w fun x104=>
 rN 30 3 x104 w fun x105=>
 rC (u9 4) x105 w fun x106=>
 BR x106
 ((fun w=>rF 32 x1 4 w fun x109=>
 rL 30 x109 w fun x110=>
 rX 30 x110 (u9 4) w fun x112=>
 rF 111 x112 0 w fun x113=>
 rL 3 x113 w fun x114=>
 rB .eql 3 T0 U0 x114 (iV 9) w fun x115=>
 rL 32 x1 w fun x116=>
 rL 32 x1 w fun x117=>
 (fun w_=>cL 97 [x117,(u9 4)] w_ fun x119 w=>
 Ext w_ w ∧
 (fun w_=>cL 124 [x116,x119] w_ fun x120 w=>
 Ext w_ w ∧
 rB .eql 3 T0 T0 x120 (u9 4) w fun x122=>
 rB .neq 4 T0 T0 x115 x122 w fun x123=>
 BR x123
 (R (Value.bool false) w)
 (rA (u9 4) (iV 1) w fun x108=>
 next9 [x108] w)) w) w) (World.drew1 w))
 (R (Value.bool true) w)))))))))))
def cfg70:Cfg:=⟨extL,[],[(4,5070602400912773490798736965644,[3]),(9,21267642861956253053543306977672691732,[4])],[(6,[0,1,2,3,4,5,6,7,8,9,10,11,12,13,14,15,16,17,18,19,20,21,22,23,24,25,26,27,28,29,30,31,32,33,34,35,36,37],0),(11,[0,1,2,3,4,5,6,7,8,9,12,10,11,13,14],3072)],[],[],[]⟩
theorem F70_call {a0:Value} {w:World} {R:VW} (h:F70 a0 w R):cL 70 [a0] w R:=co (g:=cfg70) Tryz.func70 (by kernel_rfl) (by kernel_rfl) (by kernel_rfl) h
theorem zkw {w:World} {v0:Value} {W0:World} {c:DCode}  (h0:Is W0 v0 c) (e0:Ext W0 w)  :
   CALL Tryz.prog 70 [v0] w fun r w'=>Ext w w'∧(r=.bool (decide (NamesR c∧EntS c))):=by
 refine F70_call ?_
 unfold F70
 refine zaB zbu rfl h0 e0 fun w1_ hx1_ hA1 hV1=>?_
 refine zaa zcG ?_
 refine zab zbN (za2 hA1) (Ext.refl w1_) fun v6 h6=>?_
 refine (zfk h6 (Ext.refl w1_)).mono ?_
 rintro _ w2_ ⟨hx2_,rfl⟩
 refine za0 ?_
 refine zbI (fun c1=>?_) (fun c1=>?_)
 · refine ⟨(hx1_.trans hx2_),?_⟩
   have:¬(NamesR c∧EntS c):=fun h=>by rw [h.1.1] at c1;cases c1
   simp only [this,decide_false]
 refine zaa zem ?_
 refine zab zbN (zby hA1) hx2_ fun v11 h11=>?_
 refine (zfk h11 hx2_).mono ?_
 rintro _ w3_ ⟨hx3_,rfl⟩
 refine za0 ?_
 refine zbI (fun c2=>?_) (fun c2=>?_)
 · refine ⟨(hx1_.trans (hx2_.trans hx3_)),?_⟩
   have:¬(NamesR c∧EntS c):=fun h=>by rw [h.1.2.1] at c2;cases c2
   simp only [this,decide_false]
 refine zaa za1 ?_
 refine zab zbN (zap hA1) (hx2_.trans hx3_) fun v17 h17=>?_
 refine (zfk h17 (hx2_.trans hx3_)).mono ?_
 rintro _ w4_ ⟨hx4_,rfl⟩
 refine za0 ?_
 refine zbI (fun c3=>?_) (fun c3=>?_)
 · refine ⟨(hx1_.trans (hx2_.trans (hx3_.trans hx4_))),?_⟩
   have:¬(NamesR c∧EntS c):=fun h=>by rw [h.1.2.2.1] at c3;cases c3
   simp only [this,decide_false]
 refine zaa zcG ?_
 refine zab zbN (za2 hA1) (hx2_.trans (hx3_.trans hx4_)) fun v23 h23=>?_
 refine (zfm h23 (hx2_.trans (hx3_.trans hx4_))).mono ?_
 rintro _ w5_ ⟨hx5_,rfl⟩
 refine br (fun c4=>?_) (fun c4=>?_)
 · refine ⟨(hx1_.trans (hx2_.trans (hx3_.trans (hx4_.trans hx5_)))),?_⟩
   have:¬(NamesR c∧EntS c):=fun h=>c4 h.1.2.2.2.1
   simp only [this,decide_false]
 refine zaa zem ?_
 refine zab zbN (zby hA1) (hx2_.trans (hx3_.trans (hx4_.trans hx5_))) fun v28 h28=>?_
 refine (zfm h28 (hx2_.trans (hx3_.trans (hx4_.trans hx5_)))).mono ?_
 rintro _ w6_ ⟨hx6_,rfl⟩
 refine br (fun c5=>?_) (fun c5=>?_)
 · refine ⟨(hx1_.trans (hx2_.trans (hx3_.trans (hx4_.trans (hx5_.trans hx6_))))),?_⟩
   have:¬(NamesR c∧EntS c):=fun h=>c5 h.1.2.2.2.2.1
   simp only [this,decide_false]
 refine zaa za1 ?_
 refine zab zbN (zap hA1) (hx2_.trans (hx3_.trans (hx4_.trans (hx5_.trans hx6_)))) fun v33 h33=>?_
 refine (zfm h33 (hx2_.trans (hx3_.trans (hx4_.trans (hx5_.trans hx6_))))).mono ?_
 rintro _ w7_ ⟨hx7_,rfl⟩
 refine br (fun c6=>?_) (fun c6=>?_)
 · refine ⟨(hx1_.trans (hx2_.trans (hx3_.trans (hx4_.trans (hx5_.trans (hx6_.trans hx7_)))))),?_⟩
   have:¬(NamesR c∧EntS c):=fun h=>c6 h.1.2.2.2.2.2.1
   simp only [this,decide_false]
 refine zaa zaT ?_
 refine zab zb6 (zam hA1) (hx2_.trans (hx3_.trans (hx4_.trans (hx5_.trans (hx6_.trans hx7_))))) fun v38 h38=>?_
 have hln39:=zal h38
 refine zaf u23 h38 ?_
 refine zaa za1 ?_
 refine zab zbN (zap hA1) (hx2_.trans (hx3_.trans (hx4_.trans (hx5_.trans (hx6_.trans hx7_))))) fun v41 h41=>?_
 have hln42:=zal h41
 refine zaf u22 h41 ?_
 refine zaz ?_
 refine br (fun c7=>?_) (fun c7=>?_)
 · refine ⟨(hx1_.trans (hx2_.trans (hx3_.trans (hx4_.trans (hx5_.trans (hx6_.trans hx7_)))))),?_⟩
   have:¬(NamesR c∧EntS c):=fun h=>c7 (by rw [h.2.1])
   simp only [this,decide_false]
 refine zaa zaD ?_
 refine zab zco (zai hA1) (hx2_.trans (hx3_.trans (hx4_.trans (hx5_.trans (hx6_.trans hx7_))))) fun v47 h47=>?_
 have hln48:=zal h47
 refine zaf u30 h47 ?_
 refine zdI ?_
 refine br (fun c8=>?_) (fun c8=>?_)
 · refine ⟨(hx1_.trans (hx2_.trans (hx3_.trans (hx4_.trans (hx5_.trans (hx6_.trans hx7_)))))),?_⟩
   have:¬(NamesR c∧EntS c):=fun h=>by have:=h.2.2.1;omega
   simp only [this,decide_false]
 refine zaa za1 ?_
 refine zab zbN (zap hA1) (hx2_.trans (hx3_.trans (hx4_.trans (hx5_.trans (hx6_.trans hx7_))))) fun v53 h53=>?_
 refine (zcA h53 (hx2_.trans (hx3_.trans (hx4_.trans (hx5_.trans (hx6_.trans hx7_)))))).mono ?_
 rintro _ w8_ ⟨hx8_,rfl⟩
 refine zah ?_
 refine br (fun c9=>?_) (fun c9=>?_)
 · refine ⟨(hx1_.trans (hx2_.trans (hx3_.trans (hx4_.trans (hx5_.trans (hx6_.trans (hx7_.trans hx8_))))))),?_⟩
   have:¬(NamesR c∧EntS c):=fun h=>by have:=zeE.2 h.1.2.2.2.2.2.2;unfold zhM at this;omega
   simp only [this,decide_false]
 refine zas (c.entry.length) (fun k us w'=>us=[.int .i64 (k:Int)]∧Ext w8_ w'∧(∀ i,i<k→(i=0→en c 0=0)∧(0<i→en c (i-1)<en c i)∧en c i<c.ins.length)) (0) (by omega) ⟨by simp,Ext.refl w8_,fun i h=>by omega⟩ ?_
 rintro k m4 uu4 w9_ hk4 ⟨hu,hx9_,hent⟩
 simp only [List.map_cons,List.map_nil,List.cons.injEq,and_true] at hu
 try rw [hu]
 try clear hu
 refine zaa zaT ?_
 refine zab zb6 (zam hA1) (hx2_.trans (hx3_.trans (hx4_.trans (hx5_.trans (hx6_.trans (hx7_.trans (hx8_.trans hx9_))))))) fun v59 h59=>?_
 have hln60:=zal h59
 refine zaf u23 h59 ?_
 refine zah ?_
 refine br (fun c10=>?_) (fun c10=>?_)
 · have hx10_:=zan w9_
   refine zaq ?_
   refine br (fun c11=>?_) (fun c11=>?_)
   · refine zaa zaT ?_
     refine zab zb6 (zam hA1) (hx2_.trans (hx3_.trans (hx4_.trans (hx5_.trans (hx6_.trans (hx7_.trans (hx8_.trans (hx9_.trans hx10_)))))))) fun v68 h68=>?_
     refine zcl u23 ty3 h68 (by omega) (by omega) fun b69 o69 h69=>?_
     refine zac ty3 h69 (hx2_.trans (hx3_.trans (hx4_.trans (hx5_.trans (hx6_.trans (hx7_.trans (hx8_.trans (hx9_.trans hx10_)))))))) fun hI70=>?_
     refine zaz ?_
     refine br (fun c12=>?_) (fun c12=>?_)
     · refine ⟨(hx1_.trans (hx2_.trans (hx3_.trans (hx4_.trans (hx5_.trans (hx6_.trans (hx7_.trans (hx8_.trans (hx9_.trans hx10_))))))))),?_⟩
       rw [za8] at c12
       have:¬(NamesR c∧EntS c):=fun h=>c12 ((h.2.2.2.1 0 (by omega)).1 rfl)
       simp only [this,decide_false]
     refine zdI ?_
     refine gbr (fun c13=>?_) (fun c13=>?_)
     · refine zaa zaT ?_
       refine zab zb6 (zam hA1) (hx2_.trans (hx3_.trans (hx4_.trans (hx5_.trans (hx6_.trans (hx7_.trans (hx8_.trans (hx9_.trans hx10_)))))))) fun v78 h78=>?_
       refine zad u23 ty3 h78 (by omega) fun b80 o80 h80=>?_
       refine zac ty3 h80 (hx2_.trans (hx3_.trans (hx4_.trans (hx5_.trans (hx6_.trans (hx7_.trans (hx8_.trans (hx9_.trans hx10_)))))))) fun hI81=>?_
       refine zaa zaT ?_
       refine zab zb6 (zam hA1) (hx2_.trans (hx3_.trans (hx4_.trans (hx5_.trans (hx6_.trans (hx7_.trans (hx8_.trans (hx9_.trans hx10_)))))))) fun v83 h83=>?_
       refine zbC (by unfold I64;omega) ?_
       refine zcl u23 ty3 h83 (by omega) (by omega) fun b86 o86 h86=>?_
       refine zac ty3 h86 (hx2_.trans (hx3_.trans (hx4_.trans (hx5_.trans (hx6_.trans (hx7_.trans (hx8_.trans (hx9_.trans hx10_)))))))) fun hI87=>?_
       have hn86:((k:Int)-1).toNat=k-1:=by omega
       refine zcU ?_
       refine br (fun c14=>?_) (fun c14=>?_)
       · refine ⟨(hx1_.trans (hx2_.trans (hx3_.trans (hx4_.trans (hx5_.trans (hx6_.trans (hx7_.trans (hx8_.trans (hx9_.trans hx10_))))))))),?_⟩
         exact absurd c11 (by omega)
       refine zaa zaT ?_
       refine zab zb6 (zam hA1) (hx2_.trans (hx3_.trans (hx4_.trans (hx5_.trans (hx6_.trans (hx7_.trans (hx8_.trans (hx9_.trans hx10_)))))))) fun v93 h93=>?_
       refine zad u23 ty3 h93 (by omega) fun b95 o95 h95=>?_
       refine zac ty3 h95 (hx2_.trans (hx3_.trans (hx4_.trans (hx5_.trans (hx6_.trans (hx7_.trans (hx8_.trans (hx9_.trans hx10_)))))))) fun hI96=>?_
       refine zaa zaD ?_
       refine zab zco (zai hA1) (hx2_.trans (hx3_.trans (hx4_.trans (hx5_.trans (hx6_.trans (hx7_.trans (hx8_.trans (hx9_.trans hx10_)))))))) fun v98 h98=>?_
       have hln99:=zal h98
       refine zaf u30 h98 ?_
       refine zci ?_
       refine br (fun c15=>?_) (fun c15=>?_)
       · refine ⟨(hx1_.trans (hx2_.trans (hx3_.trans (hx4_.trans (hx5_.trans (hx6_.trans (hx7_.trans (hx8_.trans (hx9_.trans hx10_))))))))),?_⟩
         exact absurd c11 (by omega)
       refine zag (by omega) ?_
       refine ⟨m4-1,by omega,k+1,by omega,by simp,(hx9_.trans hx10_),?_⟩
       exact absurd c11 (by omega)
     refine zaa zaT ?_
     refine zab zb6 (zam hA1) (hx2_.trans (hx3_.trans (hx4_.trans (hx5_.trans (hx6_.trans (hx7_.trans (hx8_.trans (hx9_.trans hx10_)))))))) fun v93 h93=>?_
     refine zad u23 ty3 h93 (by omega) fun b95 o95 h95=>?_
     refine zac ty3 h95 (hx2_.trans (hx3_.trans (hx4_.trans (hx5_.trans (hx6_.trans (hx7_.trans (hx8_.trans (hx9_.trans hx10_)))))))) fun hI96=>?_
     refine zaa zaD ?_
     refine zab zco (zai hA1) (hx2_.trans (hx3_.trans (hx4_.trans (hx5_.trans (hx6_.trans (hx7_.trans (hx8_.trans (hx9_.trans hx10_)))))))) fun v98 h98=>?_
     have hln99:=zal h98
     refine zaf u30 h98 ?_
     refine zci ?_
     refine br (fun c16=>?_) (fun c16=>?_)
     · refine ⟨(hx1_.trans (hx2_.trans (hx3_.trans (hx4_.trans (hx5_.trans (hx6_.trans (hx7_.trans (hx8_.trans (hx9_.trans hx10_))))))))),?_⟩
       rw [za8] at c16
       have:¬(NamesR c∧EntS c):=fun h=>by have:=(h.2.2.2.1 k (by omega)).2.2;omega
       simp only [this,decide_false]
     refine zag (by omega) ?_
     refine ⟨m4-1,by omega,k+1,by omega,by simp,(hx9_.trans hx10_),?_⟩
     rw [za8] at c16 c12
     have hk0:k=0:=by omega
     subst hk0
     exact zfN hent ⟨fun _=>Decidable.not_not.1 c12,fun h=>by omega,by omega⟩
   refine zdI ?_
   refine gbr (fun c17=>?_) (fun c17=>?_)
   · refine zaa zaT ?_
     refine zab zb6 (zam hA1) (hx2_.trans (hx3_.trans (hx4_.trans (hx5_.trans (hx6_.trans (hx7_.trans (hx8_.trans (hx9_.trans hx10_)))))))) fun v78 h78=>?_
     refine zad u23 ty3 h78 (by omega) fun b80 o80 h80=>?_
     refine zac ty3 h80 (hx2_.trans (hx3_.trans (hx4_.trans (hx5_.trans (hx6_.trans (hx7_.trans (hx8_.trans (hx9_.trans hx10_)))))))) fun hI81=>?_
     refine zaa zaT ?_
     refine zab zb6 (zam hA1) (hx2_.trans (hx3_.trans (hx4_.trans (hx5_.trans (hx6_.trans (hx7_.trans (hx8_.trans (hx9_.trans hx10_)))))))) fun v83 h83=>?_
     refine zbC (by unfold I64;omega) ?_
     refine zcl u23 ty3 h83 (by omega) (by omega) fun b86 o86 h86=>?_
     refine zac ty3 h86 (hx2_.trans (hx3_.trans (hx4_.trans (hx5_.trans (hx6_.trans (hx7_.trans (hx8_.trans (hx9_.trans hx10_)))))))) fun hI87=>?_
     have hn86:((k:Int)-1).toNat=k-1:=by omega
     refine zcU ?_
     refine br (fun c18=>?_) (fun c18=>?_)
     · refine ⟨(hx1_.trans (hx2_.trans (hx3_.trans (hx4_.trans (hx5_.trans (hx6_.trans (hx7_.trans (hx8_.trans (hx9_.trans hx10_))))))))),?_⟩
       rw [za8,za8] at c18
       simp only [hn86] at c18
       have:¬(NamesR c∧EntS c):=fun h=>by have:=(h.2.2.2.1 k (by omega)).2.1 (by omega);omega
       simp only [this,decide_false]
     refine zaa zaT ?_
     refine zab zb6 (zam hA1) (hx2_.trans (hx3_.trans (hx4_.trans (hx5_.trans (hx6_.trans (hx7_.trans (hx8_.trans (hx9_.trans hx10_)))))))) fun v93 h93=>?_
     refine zad u23 ty3 h93 (by omega) fun b95 o95 h95=>?_
     refine zac ty3 h95 (hx2_.trans (hx3_.trans (hx4_.trans (hx5_.trans (hx6_.trans (hx7_.trans (hx8_.trans (hx9_.trans hx10_)))))))) fun hI96=>?_
     refine zaa zaD ?_
     refine zab zco (zai hA1) (hx2_.trans (hx3_.trans (hx4_.trans (hx5_.trans (hx6_.trans (hx7_.trans (hx8_.trans (hx9_.trans hx10_)))))))) fun v98 h98=>?_
     have hln99:=zal h98
     refine zaf u30 h98 ?_
     refine zci ?_
     refine br (fun c19=>?_) (fun c19=>?_)
     · refine ⟨(hx1_.trans (hx2_.trans (hx3_.trans (hx4_.trans (hx5_.trans (hx6_.trans (hx7_.trans (hx8_.trans (hx9_.trans hx10_))))))))),?_⟩
       rw [za8] at c19
       have:¬(NamesR c∧EntS c):=fun h=>by have:=(h.2.2.2.1 k (by omega)).2.2;omega
       simp only [this,decide_false]
     refine zag (by omega) ?_
     refine ⟨m4-1,by omega,k+1,by omega,by simp,(hx9_.trans hx10_),?_⟩
     rw [za8] at c19
     rw [za8,za8] at c18
     simp only [hn86] at c18
     exact zfN hent ⟨fun h=>by omega,fun _=>by omega,by omega⟩
   refine zaa zaT ?_
   refine zab zb6 (zam hA1) (hx2_.trans (hx3_.trans (hx4_.trans (hx5_.trans (hx6_.trans (hx7_.trans (hx8_.trans (hx9_.trans hx10_)))))))) fun v93 h93=>?_
   refine zad u23 ty3 h93 (by omega) fun b95 o95 h95=>?_
   refine zac ty3 h95 (hx2_.trans (hx3_.trans (hx4_.trans (hx5_.trans (hx6_.trans (hx7_.trans (hx8_.trans (hx9_.trans hx10_)))))))) fun hI96=>?_
   refine zaa zaD ?_
   refine zab zco (zai hA1) (hx2_.trans (hx3_.trans (hx4_.trans (hx5_.trans (hx6_.trans (hx7_.trans (hx8_.trans (hx9_.trans hx10_)))))))) fun v98 h98=>?_
   have hln99:=zal h98
   refine zaf u30 h98 ?_
   refine zci ?_
   refine br (fun c20=>?_) (fun c20=>?_)
   · refine ⟨(hx1_.trans (hx2_.trans (hx3_.trans (hx4_.trans (hx5_.trans (hx6_.trans (hx7_.trans (hx8_.trans (hx9_.trans hx10_))))))))),?_⟩
     exact absurd c11 (by omega)
   refine zag (by omega) ?_
   refine ⟨m4-1,by omega,k+1,by omega,by simp,(hx9_.trans hx10_),?_⟩
   exact absurd c11 (by omega)
 refine zas (c.ins.length) (fun k us w'=>us=[.int .i64 (k:Int)]∧Ext w9_ w'∧(∀ j,j<k→((zaj c j).op=9↔zd9 c (zar c j)=j))) (0) (by omega) ⟨by simp,Ext.refl w9_,fun i h=>by omega⟩ ?_
 rintro k m9 uu9 w11_ hk9 ⟨hu,hx11_,hinv⟩
 simp only [List.map_cons,List.map_nil,List.cons.injEq,and_true] at hu
 try rw [hu]
 try clear hu
 refine zaa zaD ?_
 refine zab zco (zai hA1) (hx2_.trans (hx3_.trans (hx4_.trans (hx5_.trans (hx6_.trans (hx7_.trans (hx8_.trans (hx9_.trans hx11_)))))))) fun v104 h104=>?_
 have hln105:=zal h104
 refine zaf u30 h104 ?_
 refine zah ?_
 refine br (fun c21=>?_) (fun c21=>?_)
 · have hx12_:=zan w11_
   refine zaa zaD ?_
   refine zab zco (zai hA1) (hx2_.trans (hx3_.trans (hx4_.trans (hx5_.trans (hx6_.trans (hx7_.trans (hx8_.trans (hx9_.trans (hx11_.trans hx12_))))))))) fun v110 h110=>?_
   refine zad u30 zaS h110 (by omega) fun b112 o112 h112=>?_
   refine zaa zaH ?_
   refine zac ty3 (zat h112) (hx2_.trans (hx3_.trans (hx4_.trans (hx5_.trans (hx6_.trans (hx7_.trans (hx8_.trans (hx9_.trans (hx11_.trans hx12_))))))))) fun hI114=>?_
   refine zaq ?_
   refine zbD hV1 (hx2_.trans (hx3_.trans (hx4_.trans (hx5_.trans (hx6_.trans (hx7_.trans (hx8_.trans (hx9_.trans (hx11_.trans hx12_))))))))) ?_
   refine zbD hV1 (hx2_.trans (hx3_.trans (hx4_.trans (hx5_.trans (hx6_.trans (hx7_.trans (hx8_.trans (hx9_.trans (hx11_.trans hx12_))))))))) ?_
   have h8:c.entry.length≤8:=by
     simp only [Bool.not_eq_false',Bool.and_eq_true,decide_eq_true_eq] at c3
     have:=c3.1
     omega
   refine (zdO h0 (e0.trans (hx1_.trans (hx2_.trans (hx3_.trans (hx4_.trans (hx5_.trans (hx6_.trans (hx7_.trans (hx8_.trans (hx9_.trans (hx11_.trans hx12_)))))))))))).mono ?_
   rintro _ w13_ ⟨hx13_,rfl⟩
   refine ⟨hx13_,?_⟩
   refine (zdi h0 (e0.trans (hx1_.trans (hx2_.trans (hx3_.trans (hx4_.trans (hx5_.trans (hx6_.trans (hx7_.trans (hx8_.trans (hx9_.trans (hx11_.trans (hx12_.trans hx13_)))))))))))) (by have:=zfM (c:=c) (a:=k);omega) (by have:=zfM (c:=c) (a:=k);omega) (zf9 fun i hi=>hent i (by omega))).mono ?_
   rintro _ w14_ ⟨hx14_,rfl⟩
   refine ⟨hx14_,?_⟩
   refine zaq ?_
   refine zpZ u4 ?_
   refine br (fun c22=>?_) (fun c22=>?_)
   · refine ⟨(hx1_.trans (hx2_.trans (hx3_.trans (hx4_.trans (hx5_.trans (hx6_.trans (hx7_.trans (hx8_.trans (hx9_.trans (hx11_.trans (hx12_.trans (hx13_.trans hx14_)))))))))))),?_⟩
     rw [zaG] at c22
     have:¬(NamesR c∧EntS c):=fun h=>c22 (decide_eq_decide.2 (h.2.2.2.2 k (by omega)))
     simp only [this,decide_false]
   refine zag (by omega) ?_
   refine ⟨m9-1,by omega,k+1,by omega,by simp,(hx11_.trans (hx12_.trans (hx13_.trans hx14_))),?_⟩
   rw [zaG] at c22
   exact zfN hinv (decide_eq_decide.1 (Decidable.not_not.1 c22))
 refine ⟨(hx1_.trans (hx2_.trans (hx3_.trans (hx4_.trans (hx5_.trans (hx6_.trans (hx7_.trans (hx8_.trans (hx9_.trans hx11_))))))))),?_⟩
 have:NamesR c∧EntS c:=by
   refine ⟨⟨by simpa using c1,by simpa using c2,by simpa using c3,Decidable.not_not.1 c4,Decidable.not_not.1 c5,Decidable.not_not.1 c6,zeE.1 (by unfold zhM;omega)⟩,by omega,by omega,fun i hi=>hent i (by omega),fun j hj=>hinv j (by omega)⟩
 simp only [this,and_self,decide_true]
def zbR (c:DCode) (op:Int):Int:=if op=1 then c.globals.length else if op=4∨op=5 then c.procs.length else if op=6∨op=7 then c.locks.length else 1
def zfn (c:DCode) (a:DIns) (b e:Int):Prop:=(1≤a.op∧a.op≤9)∧(0≤a.arg∧a.arg<zbR c a.op) ∧
 (if a.op=1∨a.op=2 then zbv 6 a.term=true∧(∀ s∈zbH a.term,s∈c.globals) else a.term=term0)∧(if a.op=2∨a.op=3 then b≤a.to∧a.to<e else a.to=0)
instance (c:DCode) (a:DIns) (b e:Int):Decidable (zfn c a b e):=by unfold zfn;infer_instance
def F71 (a0 a1:Value) (w:World) (R:VW):Prop:=
 oP (Instr.box 32 a0) w fun x2 w=>
 rF 32 x2 4 w fun x10=>
 rL 30 x10 w fun x11=>
 rX 30 x11 a1 w fun x13=>
 rL 111 x13 w fun x14=>
 oP (Instr.alloc 111 true (.tuple #[])) w fun x5 w=>
 oS 111 x5 x14 w fun w=>
 JOIN [6] (fun J12=>
 rF 111 x5 0 w fun x15=>
 rL 3 x15 w fun x16=>
 rB .eql 3 T0 U0 x16 (iV 1) w fun x18=>
 BR x18
 (rF 32 x2 0 w fun x19=>
 rL 22 x19 w fun x20=>
 rN 22 3 x20 w fun x21=>
 rB .sub 3 T0 U0 x21 (iV 1) w fun x22=>
 J12 [x22] w)
 (rB .eql 3 T0 U0 x16 (iV 6) w fun x24=>
 BR x24
 (rF 32 x2 1 w fun x26=>
 rL 22 x26 w fun x27=>
 rN 22 3 x27 w fun x28=>
 rB .sub 3 T0 U0 x28 (iV 1) w fun x29=>
 J12 [x29] w)
 (rB .eql 3 T0 U0 x16 (iV 7) w fun x25=>
 BR x25
 (rF 32 x2 1 w fun x26=>
 rL 22 x26 w fun x27=>
 rN 22 3 x27 w fun x28=>
 rB .sub 3 T0 U0 x28 (iV 1) w fun x29=>
 J12 [x29] w)
 (rB .eql 3 T0 U0 x16 (iV 4) w fun x31=>
 BR x31
 (rF 32 x2 2 w fun x33=>
 rL 22 x33 w fun x34=>
 rN 22 3 x34 w fun x35=>
 rB .sub 3 T0 U0 x35 (iV 1) w fun x36=>
 J12 [x36] w)
 (rB .eql 3 T0 U0 x16 (iV 5) w fun x32=>
 BR x32
 (rF 32 x2 2 w fun x33=>
 rL 22 x33 w fun x34=>
 rN 22 3 x34 w fun x35=>
 rB .sub 3 T0 U0 x35 (iV 1) w fun x36=>
 J12 [x36] w)
 (J12 [(iV 0)] w)))))) (fun u12 w=>
 rF 111 x5 0 w fun x37=>
 rL 3 x37 w fun x38=>
 cL 125 [x38,(iV 1),(iV 9)] w fun x39 w=>
 rD (Op.unary .not x39) w fun x40=>
 BR x40
 (R (Value.bool false) w)
 (rF 111 x5 1 w fun x42=>
 rL 3 x42 w fun x43=>
 cL 125 [x43,(iV 0),(u12 6)] w fun x45 w=>
 rD (Op.unary .not x45) w fun x46=>
 BR x46
 (R (Value.bool false) w)
 (JOIN [] (fun J25=>
 rF 111 x5 0 w fun x48=>
 rL 3 x48 w fun x49=>
 rB .eql 3 T0 U0 x49 (iV 1) w fun x50=>
 BR x50
 (rF 111 x5 2 w fun x56=>
 rL 109 x56 w fun x57=>
 cL 126 [x57] w fun x58 w=>
 rD (Op.unary .not x58) w fun x59=>
 BR x59
 (R (Value.bool false) w)
 (rF 111 x5 2 w fun x60=>
 rL 109 x60 w fun x61=>
 cL 127 [x61] w fun x62 w=>
 LOOPI [8] [(iV 0)] w fun u19 w next19=>
 rN 22 3 x62 w fun x65=>
 rC (u19 8) x65 w fun x66=>
 BR x66
 ((fun w=>rF 32 x2 0 w fun x69=>
 rL 22 x69 w fun x70=>
 rX 22 x62 (u19 8) w fun x73=>
 rL 9 x73 w fun x74=>
 cL 123 [x70,x74] w fun x75 w=>
 rB .lss 3 T0 U0 x75 (iV 0) w fun x76=>
 BR x76
 (R (Value.bool false) w)
 (rA (u19 8) (iV 1) w fun x68=>
 next19 [x68] w)) (World.drew1 w))
 (J25 [] w)))
 (rF 111 x5 0 w fun x52=>
 rL 3 x52 w fun x53=>
 rB .eql 3 T0 U0 x53 (iV 2) w fun x54=>
 BR x54
 (rF 111 x5 2 w fun x56=>
 rL 109 x56 w fun x57=>
 cL 126 [x57] w fun x58 w=>
 rD (Op.unary .not x58) w fun x59=>
 BR x59
 (R (Value.bool false) w)
 (rF 111 x5 2 w fun x60=>
 rL 109 x60 w fun x61=>
 cL 127 [x61] w fun x62 w=>
 LOOPI [8] [(iV 0)] w fun u19 w next19=>
 rN 22 3 x62 w fun x65=>
 rC (u19 8) x65 w fun x66=>
 BR x66
 ((fun w=>rF 32 x2 0 w fun x69=>
 rL 22 x69 w fun x70=>
 rX 22 x62 (u19 8) w fun x73=>
 rL 9 x73 w fun x74=>
 cL 123 [x70,x74] w fun x75 w=>
 rB .lss 3 T0 U0 x75 (iV 0) w fun x76=>
 BR x76
 (R (Value.bool false) w)
 (rA (u19 8) (iV 1) w fun x68=>
 next19 [x68] w)) (World.drew1 w))
 (J25 [] w)))
 (rF 111 x5 2 w fun x77=>
 rL 109 x77 w fun x78=>
 rD (Instr.build 109 #[]) w fun x79=>
 cL 128 [x78,x79] w fun x80 w=>
 rD (Op.unary .not x80) w fun x81=>
 BR x81
 (R (Value.bool false) w)
 (J25 [] w)))) (fun u25 w=>
 JOIN [] (fun J27=>
 rF 111 x5 0 w fun x82=>
 rL 3 x82 w fun x83=>
 rB .neq 3 T0 U0 x83 (iV 2) w fun x84=>
 BR x84
 (rF 111 x5 0 w fun x86=>
 rL 3 x86 w fun x87=>
 rB .neq 3 T0 U0 x87 (iV 3) w fun x88=>
 BR x88
 (rF 111 x5 3 w fun x90=>
 rL 3 x90 w fun x91=>
 rB .eql 3 T0 U0 x91 (iV 0) w fun x92=>
 R x92 w)
 (J27 [] w))
 (J27 [] w)) (fun u27 w=>
 rL 32 x2 w fun x93=>
 cL 97 [x93,a1] w fun x95 w=>
 (fun w=>rF 111 x5 3 w fun x96=>
 rL 3 x96 w fun x97=>
 rF 32 x2 3 w fun x98=>
 rL 23 x98 w fun x99=>
 rX 23 x99 x95 w fun x101=>
 rL 3 x101 w fun x102=>
 rL 32 x2 w fun x103=>
 (fun w_=>cL 124 [x103,x95] w_ fun x105 w=>
 Ext w_ w ∧
 cL 125 [x97,x102,x105] w fun x106 w=>
 R x106 w) w) (World.drew1 w))))))
def cfg71:Cfg:=⟨extL,[(12,137438920768,[6]),(25,4835703278177041722114448,[]),(27,9898684611004583682494169104,[])],[(19,151106504079791792062736,[8])],[(21,[0,1,2,3,4,5,6,7],0),(28,[0,1,2,3,4,5,6,7,8,9,10,11],512)],[],[],[]⟩
theorem F71_call {a0 a1:Value} {w:World} {R:VW} (h:F71 a0 a1 w R):cL 71 [a0,a1] w R:=co (g:=cfg71) Tryz.func71 (by kernel_rfl) (by kernel_rfl) (by kernel_rfl) h
theorem znl {w:World} {v0:Value} {W0:World} {c:DCode} {j:Nat}  (h0:Is W0 v0 c) (e0:Ext W0 w) (hj:j<c.ins.length) (hE:∀ i,i<c.entry.length→0≤en c i) (h8:c.entry.length≤8) (hp:0≤zar c j) :
   CALL Tryz.prog 71 [v0,.int .i64 (j:Int)] w fun r w'=>Ext w w'∧(r=.bool (decide (zfn c (zaj c j) (en c (zar c j).toNat) (zd9 c (zar c j)+1)))):=by
 refine F71_call ?_
 unfold F71
 have hpl:=zfM (c:=c) (a:=j)
 refine zaB zbu rfl h0 e0 fun w1_ hx1_ hA2 hV2=>?_
 refine zaa zaD ?_
 refine zab zco (zai hA2) (Ext.refl w1_) fun v11 h11=>?_
 refine zad u30 zaS h11 (by omega) fun b13 o13 h13=>?_
 refine zab zaS h13 (Ext.refl w1_) fun v14 h14=>?_
 rw [zaG] at h14
 obtain ⟨a,ha⟩:∃ a,a=zaj c j:=⟨_,rfl⟩
 rw [←ha] at h14 ⊢
 refine zce zfE rfl zaS rfl h14 (Ext.refl w1_) fun w2_ hx2_ hA5 hV5=>?_
 refine JOIN.mk (fun us w'=>us=[.int .i64 (zbR c a.op-1)]∧Ext w2_ w'∧(True)) ?_ ?_
 · refine zaa zaH ?_
   refine zac ty3 (zat hA5) (Ext.refl w2_) fun hI16=>?_
   refine zaq ?_
   refine br (fun c1=>?_) (fun c1=>?_)
   · refine zaa zcG ?_
     refine zab zbN (za2 hA2) hx2_ fun v20 h20=>?_
     have hln21:=zal h20
     refine zaf u22 h20 ?_
     refine zbC (by unfold I64;have:=zal h20;omega) ?_
     refine ⟨by unfold zbR;rw [if_pos c1],Ext.refl w2_,?_⟩
     trivial
   refine zaq ?_
   refine br (fun c2=>?_) (fun c2=>?_)
   · refine zaa zem ?_
     refine zab zbN (zby hA2) hx2_ fun v27 h27=>?_
     have hln28:=zal h27
     refine zaf u22 h27 ?_
     refine zbC (by unfold I64;have:=zal h27;omega) ?_
     refine ⟨by unfold zbR;rw [if_neg (by omega),if_neg (by omega),if_pos (by omega)],Ext.refl w2_,?_⟩
     trivial
   refine zaq ?_
   refine br (fun c3=>?_) (fun c3=>?_)
   · refine zaa zem ?_
     refine zab zbN (zby hA2) hx2_ fun v27 h27=>?_
     have hln28:=zal h27
     refine zaf u22 h27 ?_
     refine zbC (by unfold I64;have:=zal h27;omega) ?_
     refine ⟨by unfold zbR;rw [if_neg (by omega),if_neg (by omega),if_pos (by omega)],Ext.refl w2_,?_⟩
     trivial
   refine zaq ?_
   refine br (fun c4=>?_) (fun c4=>?_)
   · refine zaa za1 ?_
     refine zab zbN (zap hA2) hx2_ fun v34 h34=>?_
     have hln35:=zal h34
     refine zaf u22 h34 ?_
     refine zbC (by unfold I64;have:=zal h34;omega) ?_
     refine ⟨by unfold zbR;rw [if_neg (by omega),if_pos (by omega)],Ext.refl w2_,?_⟩
     trivial
   refine zaq ?_
   refine br (fun c5=>?_) (fun c5=>?_)
   · refine zaa za1 ?_
     refine zab zbN (zap hA2) hx2_ fun v34 h34=>?_
     have hln35:=zal h34
     refine zaf u22 h34 ?_
     refine zbC (by unfold I64;have:=zal h34;omega) ?_
     refine ⟨by unfold zbR;rw [if_neg (by omega),if_pos (by omega)],Ext.refl w2_,?_⟩
     trivial
   refine ⟨by unfold zbR;rw [if_neg (by omega),if_neg (by omega),if_neg (by omega)];rfl,Ext.refl w2_,?_⟩
   trivial
 rintro uj12 w3_ ⟨hu,hx3_,hinv⟩
 simp only [List.map_cons,List.map_nil,List.cons.injEq,and_true] at hu
 try rw [hu]
 try clear hu
 refine zaa zaH ?_
 refine zac ty3 (zat hA5) hx3_ fun hI38=>?_
 refine (zeT ).mono ?_
 rintro _ w4_ ⟨hx4_,rfl⟩
 refine zaA ?_
 refine br (fun c6=>?_) (fun c6=>?_)
 · refine ⟨(hx1_.trans (hx2_.trans (hx3_.trans hx4_))),?_⟩
   have:¬zfn c a (en c (zar c j).toNat) (zd9 c (zar c j)+1):=fun h=>c6 h.1
   simp only [this,decide_false]
 refine zaa zaP ?_
 refine zac ty3 (zaw hA5) (hx3_.trans hx4_) fun hI43=>?_
 refine (zeT ).mono ?_
 rintro _ w5_ ⟨hx5_,rfl⟩
 refine zaA ?_
 refine br (fun c7=>?_) (fun c7=>?_)
 · refine ⟨(hx1_.trans (hx2_.trans (hx3_.trans (hx4_.trans hx5_)))),?_⟩
   have:¬zfn c a (en c (zar c j).toNat) (zd9 c (zar c j)+1):=fun h=>c7 (by have:=h.2.1;omega)
   simp only [this,decide_false]
 refine JOIN.mk (fun us w'=>us=[]∧Ext w5_ w'∧(if a.op=1∨a.op=2 then zbv 6 a.term=true∧(∀ s∈zbH a.term,s∈c.globals) else a.term=term0)) ?_ ?_
 · refine zaa zaH ?_
   refine zac ty3 (zat hA5) (hx3_.trans (hx4_.trans hx5_)) fun hI49=>?_
   refine zaq ?_
   refine br (fun c8=>?_) (fun c8=>?_)
   · refine zaa zbK ?_
     refine zab zbf (zbi hA5) (hx3_.trans (hx4_.trans hx5_)) fun v57 h57=>?_
     refine (zd8 h57 (hx3_.trans (hx4_.trans hx5_))).mono ?_
     rintro _ w7_ ⟨hx7_,rfl⟩
     refine za0 ?_
     refine zbI (fun c9=>?_) (fun c9=>?_)
     · refine ⟨(hx1_.trans (hx2_.trans (hx3_.trans (hx4_.trans (hx5_.trans hx7_))))),?_⟩
       have:¬zfn c a (en c (zar c j).toNat) (zd9 c (zar c j)+1):=fun h=>by have:=h.2.2.1;rw [if_pos (.inl c8)] at this;rw [this.1] at c9;cases c9
       simp only [this,decide_false]
     refine zaa zbK ?_
     refine zab zbf (zbi hA5) (hx3_.trans (hx4_.trans (hx5_.trans hx7_))) fun v61 h61=>?_
     refine (zdD h61 (hx3_.trans (hx4_.trans (hx5_.trans hx7_)))).mono ?_
     rintro r62 w8_ ⟨hx8_,h62⟩
     refine zas ((zbH a.term).length) (fun k us w'=>us=[.int .i64 (k:Int)]∧Ext w8_ w'∧(∀ s∈(zbH a.term).take k,s∈c.globals)) (0) (by omega) ⟨by simp,Ext.refl w8_,by simp⟩ ?_
     rintro k m19 uu19 w9_ hk19 ⟨hu,hx9_,hinv⟩
     simp only [List.map_cons,List.map_nil,List.cons.injEq,and_true] at hu
     try rw [hu]
     try clear hu
     have hln65:=zal h62
     refine zaf u22 h62 ?_
     refine zah ?_
     refine br (fun c10=>?_) (fun c10=>?_)
     · have hx10_:=zan w9_
       refine zaa zcG ?_
       refine zab zbN (za2 hA2) (hx2_.trans (hx3_.trans (hx4_.trans (hx5_.trans (hx7_.trans (hx8_.trans (hx9_.trans hx10_))))))) fun v70 h70=>?_
       refine zad u22 ty9 h62 (by omega) fun b73 o73 h73=>?_
       refine zaE ty9 h73 (hx9_.trans hx10_) fun hS74=>?_
       refine (zcA h70 (hx2_.trans (hx3_.trans (hx4_.trans (hx5_.trans (hx7_.trans (hx8_.trans (hx9_.trans hx10_)))))))).mono ?_
       rintro _ w11_ ⟨hx11_,rfl⟩
       refine zah ?_
       refine br (fun c11=>?_) (fun c11=>?_)
       · refine ⟨(hx1_.trans (hx2_.trans (hx3_.trans (hx4_.trans (hx5_.trans (hx7_.trans (hx8_.trans (hx9_.trans (hx10_.trans hx11_))))))))),?_⟩
         have:¬zfn c a (en c (zar c j).toNat) (zd9 c (zar c j)+1):=fun h=>by
           have:=h.2.2.1;rw [if_pos (.inl c8)] at this
           have:=zeE.2 (this.2 _ (List.getElem_mem (n:=k) (by omega)));omega
         simp only [this,decide_false]
       refine zag (by omega) ?_
       refine ⟨m19-1,by omega,k+1,by omega,by simp,(hx9_.trans (hx10_.trans hx11_)),?_⟩
       intro s hs
       rw [List.take_succ_eq_append_getElem (by omega)] at hs
       rcases List.mem_append.1 hs with hs | hs
       · exact hinv s hs
       simp only [List.mem_cons,List.not_mem_nil,or_false] at hs
       subst hs
       exact zeE.1 (by omega)
     refine ⟨by simp,(hx7_.trans (hx8_.trans hx9_)),?_⟩
     rw [if_pos (.inl c8)]
     rw [List.take_of_length_le (by omega)] at hinv
     exact ⟨by simpa using c9,hinv⟩
   refine zaa zaH ?_
   refine zac ty3 (zat hA5) (hx3_.trans (hx4_.trans hx5_)) fun hI53=>?_
   refine zaq ?_
   refine br (fun c12=>?_) (fun c12=>?_)
   · refine zaa zbK ?_
     refine zab zbf (zbi hA5) (hx3_.trans (hx4_.trans hx5_)) fun v57 h57=>?_
     refine (zd8 h57 (hx3_.trans (hx4_.trans hx5_))).mono ?_
     rintro _ w12_ ⟨hx12_,rfl⟩
     refine za0 ?_
     refine zbI (fun c13=>?_) (fun c13=>?_)
     · refine ⟨(hx1_.trans (hx2_.trans (hx3_.trans (hx4_.trans (hx5_.trans hx12_))))),?_⟩
       have:¬zfn c a (en c (zar c j).toNat) (zd9 c (zar c j)+1):=fun h=>by have:=h.2.2.1;rw [if_pos (.inr c12)] at this;rw [this.1] at c13;cases c13
       simp only [this,decide_false]
     refine zaa zbK ?_
     refine zab zbf (zbi hA5) (hx3_.trans (hx4_.trans (hx5_.trans hx12_))) fun v61 h61=>?_
     refine (zdD h61 (hx3_.trans (hx4_.trans (hx5_.trans hx12_)))).mono ?_
     rintro r62 w13_ ⟨hx13_,h62⟩
     refine zas ((zbH a.term).length) (fun k us w'=>us=[.int .i64 (k:Int)]∧Ext w13_ w'∧(∀ s∈(zbH a.term).take k,s∈c.globals)) (0) (by omega) ⟨by simp,Ext.refl w13_,by simp⟩ ?_
     rintro k m19 uu19 w14_ hk19 ⟨hu,hx14_,hinv⟩
     simp only [List.map_cons,List.map_nil,List.cons.injEq,and_true] at hu
     try rw [hu]
     try clear hu
     have hln65:=zal h62
     refine zaf u22 h62 ?_
     refine zah ?_
     refine br (fun c14=>?_) (fun c14=>?_)
     · have hx15_:=zan w14_
       refine zaa zcG ?_
       refine zab zbN (za2 hA2) (hx2_.trans (hx3_.trans (hx4_.trans (hx5_.trans (hx12_.trans (hx13_.trans (hx14_.trans hx15_))))))) fun v70 h70=>?_
       refine zad u22 ty9 h62 (by omega) fun b73 o73 h73=>?_
       refine zaE ty9 h73 (hx14_.trans hx15_) fun hS74=>?_
       refine (zcA h70 (hx2_.trans (hx3_.trans (hx4_.trans (hx5_.trans (hx12_.trans (hx13_.trans (hx14_.trans hx15_)))))))).mono ?_
       rintro _ w16_ ⟨hx16_,rfl⟩
       refine zah ?_
       refine br (fun c15=>?_) (fun c15=>?_)
       · refine ⟨(hx1_.trans (hx2_.trans (hx3_.trans (hx4_.trans (hx5_.trans (hx12_.trans (hx13_.trans (hx14_.trans (hx15_.trans hx16_))))))))),?_⟩
         have:¬zfn c a (en c (zar c j).toNat) (zd9 c (zar c j)+1):=fun h=>by
           have:=h.2.2.1;rw [if_pos (.inr c12)] at this
           have:=zeE.2 (this.2 _ (List.getElem_mem (n:=k) (by omega)));omega
         simp only [this,decide_false]
       refine zag (by omega) ?_
       refine ⟨m19-1,by omega,k+1,by omega,by simp,(hx14_.trans (hx15_.trans hx16_)),?_⟩
       intro s hs
       rw [List.take_succ_eq_append_getElem (by omega)] at hs
       rcases List.mem_append.1 hs with hs | hs
       · exact hinv s hs
       simp only [List.mem_cons,List.not_mem_nil,or_false] at hs
       subst hs
       exact zeE.1 (by omega)
     refine ⟨by simp,(hx12_.trans (hx13_.trans hx14_)),?_⟩
     rw [if_pos (.inr c12)]
     rw [List.take_of_length_le (by omega)] at hinv
     exact ⟨by simpa using c13,hinv⟩
   refine zaa zbK ?_
   refine zab zbf (zbi hA5) (hx3_.trans (hx4_.trans hx5_)) fun v78 h78=>?_
   refine zna (α:=DTerm) zrq zmU (by kernel_rfl) rfl fun v79 h79=>?_
   refine (zjG h78 (hx3_.trans (hx4_.trans hx5_)) h79 (Ext.refl w5_) rfl).mono ?_
   rintro _ w17_ ⟨hx17_,rfl⟩
   refine zaA ?_
   refine br (fun c16=>?_) (fun c16=>?_)
   · refine ⟨(hx1_.trans (hx2_.trans (hx3_.trans (hx4_.trans (hx5_.trans hx17_))))),?_⟩
     have:¬zfn c a (en c (zar c j).toNat) (zd9 c (zar c j)+1):=fun h=>by have:=h.2.2.1;rw [if_neg (by omega)] at this;exact c16 this
     simp only [this,decide_false]
   refine ⟨by simp,hx17_,?_⟩
   rw [if_neg (by omega)]
   exact Decidable.not_not.1 c16
 rintro uj25 w6_ ⟨hu,hx17_,hT⟩
 simp only [List.map_cons,List.map_nil,List.cons.injEq,and_true] at hu
 clear hu
 refine JOIN.mk (fun us w'=>us=[]∧Ext w6_ w'∧(a.op=2∨a.op=3)) ?_ ?_
 · refine zaa zaH ?_
   refine zac ty3 (zat hA5) (hx3_.trans (hx4_.trans (hx5_.trans hx17_))) fun hI83=>?_
   refine zaz ?_
   refine br (fun c17=>?_) (fun c17=>?_)
   · refine zaa zaH ?_
     refine zac ty3 (zat hA5) (hx3_.trans (hx4_.trans (hx5_.trans hx17_))) fun hI87=>?_
     refine zaz ?_
     refine br (fun c18=>?_) (fun c18=>?_)
     · refine zaa zbX ?_
       refine zac ty3 (zbj hA5) (hx3_.trans (hx4_.trans (hx5_.trans hx17_))) fun hI91=>?_
       refine zaq ?_
       refine ⟨(hx1_.trans (hx2_.trans (hx3_.trans (hx4_.trans (hx5_.trans hx17_))))),?_⟩
       congr 1
       rw [decide_eq_decide]
       constructor
       · exact fun h=>⟨Decidable.not_not.1 c6,by omega,hT,by rw [if_neg (by omega)];exact h⟩
       intro h;have:=h.2.2.2;rw [if_neg (by omega)] at this;exact this
     refine ⟨by simp,Ext.refl w6_,?_⟩
     omega
   refine ⟨by simp,Ext.refl w6_,?_⟩
   omega
 rintro uj27 w18_ ⟨hu,hx18_,hop⟩
 simp only [List.map_cons,List.map_nil,List.cons.injEq,and_true] at hu
 clear hu
 refine zbD hV2 (hx2_.trans (hx3_.trans (hx4_.trans (hx5_.trans (hx17_.trans hx18_))))) ?_
 refine (zdO h0 (e0.trans (hx1_.trans (hx2_.trans (hx3_.trans (hx4_.trans (hx5_.trans (hx17_.trans hx18_)))))))).mono ?_
 rintro _ w19_ ⟨hx19_,rfl⟩
 have hx20_:=zan w19_
 refine zaa zbX ?_
 refine zac ty3 (zbj hA5) (hx3_.trans (hx4_.trans (hx5_.trans (hx17_.trans (hx18_.trans (hx19_.trans hx20_)))))) fun hI97=>?_
 refine zaa zaT ?_
 refine zab zb6 (zam hA2) (hx2_.trans (hx3_.trans (hx4_.trans (hx5_.trans (hx17_.trans (hx18_.trans (hx19_.trans hx20_))))))) fun v99 h99=>?_
 refine zcl u23 ty3 h99 (by omega) (by omega) fun b101 o101 h101=>?_
 refine zac ty3 h101 (hx2_.trans (hx3_.trans (hx4_.trans (hx5_.trans (hx17_.trans (hx18_.trans (hx19_.trans hx20_))))))) fun hI102=>?_
 refine zbD hV2 (hx2_.trans (hx3_.trans (hx4_.trans (hx5_.trans (hx17_.trans (hx18_.trans (hx19_.trans hx20_))))))) ?_
 refine (zdi h0 (e0.trans (hx1_.trans (hx2_.trans (hx3_.trans (hx4_.trans (hx5_.trans (hx17_.trans (hx18_.trans (hx19_.trans hx20_))))))))) (by omega) (by omega) (by assumption)).mono ?_
 rintro _ w21_ ⟨hx21_,rfl⟩
 refine ⟨hx21_,?_⟩
 refine (zeT ).mono ?_
 rintro _ w22_ ⟨hx22_,rfl⟩
 refine ⟨(hx1_.trans (hx2_.trans (hx3_.trans (hx4_.trans (hx5_.trans (hx17_.trans (hx18_.trans (hx19_.trans (hx20_.trans (hx21_.trans hx22_)))))))))),?_⟩
 congr 1
 rw [decide_eq_decide,za8]
 constructor
 · exact fun h=>⟨Decidable.not_not.1 c6,by omega,hT,by rw [if_pos hop];omega⟩
 intro h;have:=h.2.2.2;rw [if_pos hop] at this;omega
def CodeR (c:DCode):Prop:=NamesR c∧EntS c∧∀ j,j<c.ins.length→zfn c (zaj c j) (en c (zar c j).toNat) (zd9 c (zar c j)+1)
instance (c:DCode):Decidable (CodeR c):=by unfold CodeR;infer_instance
theorem EntS.nonneg {c:DCode} (h:EntS c):∀ i,i<c.entry.length→0≤en c i:=zf9 h.2.2.1
theorem NamesR.procs8 {c:DCode} (h:NamesR c):c.procs.length≤8∧0<c.procs.length:=by
 have h1:=h.2.2.1
 simp only [Bool.and_eq_true,decide_eq_true_eq] at h1
 have h2:=List.length_pos_of_mem h.2.2.2.2.2.2
 omega
theorem zga {c:DCode} {a:Int} (h0:en c 0≤a):∀ {n:Nat},0<n→0≤prc c a n
 | 1,_=>by rw [prc,if_pos h0];omega
 | n+2,_=>by
   rw [prc]
   split
   · omega
   exact zga h0 (by omega)
theorem ziF {c:DCode} (hn:NamesR c) (h:EntS c) {a:Int} (ha:0≤a):0≤zar c a:=by
 have h1:=hn.procs8
 have h2:=h.1
 exact zga (by have:=(h.2.2.1 0 (by omega)).1 rfl;omega) (by omega)
def F35 (a0:Value) (w:World) (R:VW):Prop:=
 oP (Instr.box 32 a0) w fun x1 w=>
 rL 32 x1 w fun x4=>
 cL 70 [x4] w fun x5 w=>
 rD (Op.unary .not x5) w fun x6=>
 BR x6
 (R (Value.bool false) w)
 (LOOPI [3] [(iV 0)] w fun u4 w next4=>
 rF 32 x1 4 w fun x8=>
 rL 30 x8 w fun x9=>
 rN 30 3 x9 w fun x10=>
 rC (u4 3) x10 w fun x11=>
 BR x11
 (rL 32 x1 w fun x14=>
 cL 71 [x14,(u4 3)] w fun x16 w=>
 rD (Op.unary .not x16) w fun x17=>
 BR x17
 (R (Value.bool false) w)
 (rA (u4 3) (iV 1) w fun x13=>
 next4 [x13] w))
 (R (Value.bool true) w))
def cfg35:Cfg:=⟨extL,[],[(4,262028,[3])],[],[],[],[]⟩
theorem F35_call {a0:Value} {w:World} {R:VW} (h:F35 a0 w R):cL 35 [a0] w R:=co (g:=cfg35) Tryz.func35 (by kernel_rfl) (by kernel_rfl) (by kernel_rfl) h
theorem ziG {w:World} {v0:Value} {W0:World} {c:DCode}  (h0:Is W0 v0 c) (e0:Ext W0 w)  :
   CALL Tryz.prog 35 [v0] w fun r w'=>Ext w w'∧(r=.bool (decide (CodeR c))):=by
 refine F35_call ?_
 unfold F35
 refine zaB zbu rfl h0 e0 fun w1_ hx1_ hA1 hV1=>?_
 refine zbD hV1 (Ext.refl w1_) ?_
 refine (zkw h0 (e0.trans hx1_)).mono ?_
 rintro _ w2_ ⟨hx2_,rfl⟩
 skip
 refine zaA ?_
 refine br (fun c1=>?_) (fun c1=>?_)
 · refine ⟨(hx1_.trans hx2_),?_⟩
   have:¬CodeR c:=fun h=>c1 ⟨h.1,h.2.1⟩
   simp only [this,decide_false]
 refine zas (c.ins.length) (fun k us w'=>us=[.int .i64 (k:Int)]∧Ext w2_ w'∧(∀ j,j<k→zfn c (zaj c j) (en c (zar c j).toNat) (zd9 c (zar c j)+1))) (0) (by omega) ⟨by simp,Ext.refl w2_,fun i h=>by omega⟩ ?_
 rintro k m4 uu4 w3_ hk4 ⟨hu,hx3_,hinv⟩
 simp only [List.map_cons,List.map_nil,List.cons.injEq,and_true] at hu
 try rw [hu]
 try clear hu
 replace c1:=Decidable.not_not.1 c1
 refine zaa zaD ?_
 refine zab zco (zai hA1) (hx2_.trans hx3_) fun v9 h9=>?_
 have hln10:=zal h9
 refine zaf u30 h9 ?_
 refine zah ?_
 refine br (fun c2=>?_) (fun c2=>?_)
 · refine zbD hV1 (hx2_.trans hx3_) ?_
   refine (znl h0 (e0.trans (hx1_.trans (hx2_.trans hx3_))) (by omega) c1.2.nonneg (by have:=c1.1.procs8;have:=c1.2.1;omega) (ziF c1.1 c1.2 (by omega))).mono ?_
   rintro _ w4_ ⟨hx4_,rfl⟩
   refine zaA ?_
   refine br (fun c3=>?_) (fun c3=>?_)
   · refine ⟨(hx1_.trans (hx2_.trans (hx3_.trans hx4_))),?_⟩
     have:¬CodeR c:=fun h=>c3 (h.2.2 k (by omega))
     simp only [this,decide_false]
   refine zag (by omega) ?_
   refine ⟨m4-1,by omega,k+1,by omega,by simp,(hx3_.trans hx4_),?_⟩
   exact zfN hinv (Decidable.not_not.1 c3)
 refine ⟨(hx1_.trans (hx2_.trans hx3_)),?_⟩
 have:CodeR c:=⟨c1.1,c1.2,fun j hj=>hinv j (by omega)⟩
 simp only [this,decide_true]
def F132 (a0:Value) (w:World) (R:VW):Prop:=
 oP (Instr.box 32 a0) w fun x1 w=>
 rF 32 x1 0 w fun x3=>
 rL 22 x3 w fun x4=>
 cL 181 [x4,(iV 6)] w fun x5 w=>
 rD (Op.unary .not x5) w fun x6=>
 BR x6
 (R (Value.bool false) w)
 (rF 32 x1 1 w fun x8=>
 rL 22 x8 w fun x9=>
 cL 181 [x9,(iV 6)] w fun x10 w=>
 rD (Op.unary .not x10) w fun x11=>
 BR x11
 (R (Value.bool false) w)
 (rF 32 x1 2 w fun x14=>
 rL 22 x14 w fun x15=>
 cL 181 [x15,(iV 8)] w fun x16 w=>
 rD (Op.unary .not x16) w fun x17=>
 BR x17
 (R (Value.bool false) w)
 (rF 32 x1 0 w fun x19=>
 rL 22 x19 w fun x20=>
 cL 182 [x20] w fun x21 w=>
 BR x21
 (R (Value.bool false) w)
 (rF 32 x1 1 w fun x23=>
 rL 22 x23 w fun x24=>
 cL 182 [x24] w fun x25 w=>
 BR x25
 (R (Value.bool false) w)
 (rF 32 x1 2 w fun x28=>
 rL 22 x28 w fun x29=>
 cL 182 [x29] w fun x30 w=>
 BR x30
 (R (Value.bool false) w)
 (rF 32 x1 2 w fun x32=>
 rL 22 x32 w fun x33=>
 cL 169 [x33,(Value.string (ByteArray.mk #[109,97,105,110]))] w fun x34 w=>
 R x34 w))))))
def cfg132:Cfg:=⟨extL,[],[],[],[],[],[]⟩
theorem F132_call {a0:Value} {w:World} {R:VW} (h:F132 a0 w R):cL 132 [a0] w R:=co (g:=cfg132) Tryz.func132 (by kernel_rfl) (by kernel_rfl) (by kernel_rfl) h
theorem ziH {w:World} {v0:Value} {W0:World} {c:DCode}  (h0:Is W0 v0 c) (e0:Ext W0 w)  :
   CALL Tryz.prog 132 [v0] w fun r w'=>Ext w w'∧(r=.bool (decide (NamesR c))):=by
 refine F132_call ?_
 unfold F132
 refine zaB zbu rfl h0 e0 fun w1_ hx1_ hA1 hV1=>?_
 refine zaa zcG ?_
 refine zab zbN (za2 hA1) (Ext.refl w1_) fun v4 h4=>?_
 refine (zfj h4 (Ext.refl w1_)).mono ?_
 rintro _ w2_ ⟨hx2_,rfl⟩
 refine za0 ?_
 refine zbI (fun c1=>?_) (fun c1=>?_)
 · refine ⟨(hx1_.trans hx2_),?_⟩
   have:¬NamesR c:=fun h=>by rw [h.1] at c1;cases c1
   simp only [this,decide_false]
 refine zaa zem ?_
 refine zab zbN (zby hA1) hx2_ fun v9 h9=>?_
 refine (zfj h9 hx2_).mono ?_
 rintro _ w3_ ⟨hx3_,rfl⟩
 refine za0 ?_
 refine zbI (fun c2=>?_) (fun c2=>?_)
 · refine ⟨(hx1_.trans (hx2_.trans hx3_)),?_⟩
   have:¬NamesR c:=fun h=>by rw [h.2.1] at c2;cases c2
   simp only [this,decide_false]
 refine zaa za1 ?_
 refine zab zbN (zap hA1) (hx2_.trans hx3_) fun v15 h15=>?_
 refine (zfj h15 (hx2_.trans hx3_)).mono ?_
 rintro _ w4_ ⟨hx4_,rfl⟩
 refine za0 ?_
 refine zbI (fun c3=>?_) (fun c3=>?_)
 · refine ⟨(hx1_.trans (hx2_.trans (hx3_.trans hx4_))),?_⟩
   have:¬NamesR c:=fun h=>by rw [h.2.2.1] at c3;cases c3
   simp only [this,decide_false]
 refine zaa zcG ?_
 refine zab zbN (za2 hA1) (hx2_.trans (hx3_.trans hx4_)) fun v20 h20=>?_
 refine (zfl h20 (hx2_.trans (hx3_.trans hx4_))).mono ?_
 rintro _ w5_ ⟨hx5_,rfl⟩
 refine br (fun c4=>?_) (fun c4=>?_)
 · refine ⟨(hx1_.trans (hx2_.trans (hx3_.trans (hx4_.trans hx5_)))),?_⟩
   have:¬NamesR c:=fun h=>c4 h.2.2.2.1
   simp only [this,decide_false]
 refine zaa zem ?_
 refine zab zbN (zby hA1) (hx2_.trans (hx3_.trans (hx4_.trans hx5_))) fun v24 h24=>?_
 refine (zfl h24 (hx2_.trans (hx3_.trans (hx4_.trans hx5_)))).mono ?_
 rintro _ w6_ ⟨hx6_,rfl⟩
 refine br (fun c5=>?_) (fun c5=>?_)
 · refine ⟨(hx1_.trans (hx2_.trans (hx3_.trans (hx4_.trans (hx5_.trans hx6_))))),?_⟩
   have:¬NamesR c:=fun h=>c5 h.2.2.2.2.1
   simp only [this,decide_false]
 refine zaa za1 ?_
 refine zab zbN (zap hA1) (hx2_.trans (hx3_.trans (hx4_.trans (hx5_.trans hx6_)))) fun v29 h29=>?_
 refine (zfl h29 (hx2_.trans (hx3_.trans (hx4_.trans (hx5_.trans hx6_))))).mono ?_
 rintro _ w7_ ⟨hx7_,rfl⟩
 refine br (fun c6=>?_) (fun c6=>?_)
 · refine ⟨(hx1_.trans (hx2_.trans (hx3_.trans (hx4_.trans (hx5_.trans (hx6_.trans hx7_)))))),?_⟩
   have:¬NamesR c:=fun h=>c6 h.2.2.2.2.2.1
   simp only [this,decide_false]
 refine zaa za1 ?_
 refine zab zbN (zap hA1) (hx2_.trans (hx3_.trans (hx4_.trans (hx5_.trans (hx6_.trans hx7_))))) fun v33 h33=>?_
 refine (zbO h33 (hx2_.trans (hx3_.trans (hx4_.trans (hx5_.trans (hx6_.trans hx7_)))))).mono ?_
 rintro _ w8_ ⟨hx8_,rfl⟩
 refine ⟨(hx1_.trans (hx2_.trans (hx3_.trans (hx4_.trans (hx5_.trans (hx6_.trans (hx7_.trans hx8_))))))),?_⟩
 congr 1
 rw [decide_eq_decide]
 exact ⟨fun h=>⟨by simpa using c1,by simpa using c2,by simpa using c3,Decidable.not_not.1 c4,Decidable.not_not.1 c5,Decidable.not_not.1 c6,h⟩,fun h=>h.2.2.2.2.2.2⟩
def ziI (c:DCode):Nat→Nat
 | 0=>0
 | k+1=>ziI c k+if (zaj c k).op=9 then 1 else 0
theorem znm (c:DCode):∀ k,ziI c k≤k
 | 0=>Nat.le_refl _
 | k+1=>by have:=znm c k;rw [ziI];split<;>omega
def EntI (c:DCode):Prop:=c.ins.length≤1500∧c.entry.length=c.procs.length∧en c 0=0∧ziI c c.ins.length=c.entry.length ∧
 ∀ i,i<c.entry.length→en c i<zcX c i∧zcX c i≤c.ins.length∧(zaj c (zcX c i-1).toNat).op=9
instance (c:DCode):Decidable (EntI c):=by unfold EntI;infer_instance
theorem zfo {c:DCode} (h0:en c 0=0):∀ {q:Nat},q<c.entry.length→(∀ i,i<q→en c i<zcX c i)→0≤en c q
 | 0,_,_=>by omega
 | q+1,hq,h=>by
   have h1:=zfo h0 (q:=q) (by omega) fun i hi=>h i (by omega)
   have h2:=h q (by omega)
   unfold zcX at h2
   rw [if_pos hq] at h2
   omega
def F133 (a0:Value) (w:World) (R:VW):Prop:=
 oP (Instr.box 32 a0) w fun x1 w=>
 rF 32 x1 4 w fun x9=>
 rL 30 x9 w fun x10=>
 rN 30 3 x10 w fun x11=>
 rB .gtr 3 T0 U0 x11 (iV 1500) w fun x12=>
 BR x12
 (R (Value.bool false) w)
 (rF 32 x1 3 w fun x14=>
 rL 23 x14 w fun x15=>
 rN 23 3 x15 w fun x16=>
 rF 32 x1 2 w fun x17=>
 rL 22 x17 w fun x18=>
 rN 22 3 x18 w fun x19=>
 rB .neq 3 T0 T0 x16 x19 w fun x20=>
 BR x20
 (R (Value.bool false) w)
 (rF 32 x1 3 w fun x23=>
 rL 23 x23 w fun x24=>
 rX 23 x24 (iV 0) w fun x25=>
 rL 3 x25 w fun x26=>
 rB .neq 3 T0 U0 x26 (iV 0) w fun x27=>
 BR x27
 (R (Value.bool false) w)
 (rF 32 x1 4 w fun x29=>
 rL 30 x29 w fun x30=>
 rN 30 3 x30 w fun x31=>
 LOOPI [3,32] [(iV 0),(iV 0)] w fun u5 w next5=>
 rC (u5 32) x31 w fun x33=>
 BR x33
 (rX 30 x30 (u5 32) w fun x34=>
 rL 111 x34 w fun x35=>
 oP (Instr.alloc 111 true (.tuple #[])) w fun x5 w=>
 oS 111 x5 x35 w fun w=>
 rF 111 x5 0 w fun x36=>
 rL 3 x36 w fun x37=>
 rB .eql 3 T0 U0 x37 (iV 9) w fun x38=>
 BR x38
 (rA (u5 3) (iV 1) w fun x40=>
 rA (u5 32) (iV 1) w fun x41=>
 next5 [x40,x41] w)
 (rA (u5 32) (iV 1) w fun x41=>
 next5 [(u5 3),x41] w))
 (rF 32 x1 3 w fun x43=>
 rL 23 x43 w fun x44=>
 rN 23 3 x44 w fun x45=>
 rB .neq 3 T0 T0 (u5 3) x45 w fun x46=>
 BR x46
 (R (Value.bool false) w)
 (rF 32 x1 3 w fun x47=>
 rL 23 x47 w fun x48=>
 rN 23 3 x48 w fun x49=>
 LOOPI [50] [(iV 0)] w fun u13 w next13=>
 rC (u13 50) x49 w fun x51=>
 BR x51
 ((fun w=>rF 32 x1 3 w fun x53=>
 rL 23 x53 w fun x54=>
 rX 23 x54 (u13 50) w fun x56=>
 rL 3 x56 w fun x57=>
 rF 32 x1 4 w fun x58=>
 rL 30 x58 w fun x59=>
 rN 30 3 x59 w fun x60=>
 JOIN [8] (fun J18=>
 rA (u13 50) (iV 1) w fun x62=>
 rF 32 x1 3 w fun x63=>
 rL 23 x63 w fun x64=>
 rN 23 3 x64 w fun x65=>
 rC x62 x65 w fun x66=>
 BR x66
 (rF 32 x1 3 w fun x67=>
 rL 23 x67 w fun x68=>
 rA (u13 50) (iV 1) w fun x70=>
 rX 23 x68 x70 w fun x71=>
 rL 3 x71 w fun x72=>
 J18 [x72] w)
 (J18 [x60] w)) (fun u18 w=>
 rB .leq 3 T0 T0 (u18 8) x57 w fun x75=>
 BR x75
 (R (Value.bool false) w)
 (rF 32 x1 4 w fun x78=>
 rL 30 x78 w fun x79=>
 rN 30 3 x79 w fun x80=>
 rB .gtr 3 T0 T0 (u18 8) x80 w fun x81=>
 BR x81
 (R (Value.bool false) w)
 (rF 32 x1 4 w fun x84=>
 rL 30 x84 w fun x85=>
 rB .sub 3 T0 U0 (u18 8) (iV 1) w fun x87=>
 rX 30 x85 x87 w fun x88=>
 rF 111 x88 0 w fun x89=>
 rL 3 x89 w fun x90=>
 rB .neq 3 T0 U0 x90 (iV 9) w fun x91=>
 BR x91
 (R (Value.bool false) w)
 (rA (u13 50) (iV 1) w fun x93=>
 next13 [x93] w))))) (World.drew1 w))
 (R (Value.bool true) w))))))
def cfg133:Cfg:=⟨extL,[(18,9442427122730076733696,[8])],[(5,4393751543848,[3,32]),(13,19807040628564958498479145412,[50])],[(15,[0,1,2,3,4,5,6,7,8,9],0)],[],[],[]⟩
theorem F133_call {a0:Value} {w:World} {R:VW} (h:F133 a0 w R):cL 133 [a0] w R:=co (g:=cfg133) Tryz.func133 (by kernel_rfl) (by kernel_rfl) (by kernel_rfl) h
theorem zhm {w:World} {v0:Value} {W0:World} {c:DCode}  (h0:Is W0 v0 c) (e0:Ext W0 w) (hp:0<c.procs.length) :
   CALL Tryz.prog 133 [v0] w fun r w'=>Ext w w'∧(r=.bool (decide (EntI c))):=by
 refine F133_call ?_
 unfold F133
 refine zaB zbu rfl h0 e0 fun w1_ hx1_ hA1 hV1=>?_
 refine zaa zaD ?_
 refine zab zco (zai hA1) (Ext.refl w1_) fun v10 h10=>?_
 have hln11:=zal h10
 refine zaf u30 h10 ?_
 refine zdI ?_
 refine br (fun c1=>?_) (fun c1=>?_)
 · refine ⟨hx1_,?_⟩
   have:¬EntI c:=fun h=>by have:=h.1;omega
   simp only [this,decide_false]
 refine zaa zaT ?_
 refine zab zb6 (zam hA1) (Ext.refl w1_) fun v15 h15=>?_
 have hln16:=zal h15
 refine zaf u23 h15 ?_
 refine zaa za1 ?_
 refine zab zbN (zap hA1) (Ext.refl w1_) fun v18 h18=>?_
 have hln19:=zal h18
 refine zaf u22 h18 ?_
 refine zaz ?_
 refine br (fun c2=>?_) (fun c2=>?_)
 · refine ⟨hx1_,?_⟩
   have:¬EntI c:=fun h=>by have:=h.2.1;omega
   simp only [this,decide_false]
 refine zaa zaT ?_
 refine zab zb6 (zam hA1) (Ext.refl w1_) fun v24 h24=>?_
 refine zcl u23 ty3 h24 (by omega) (by omega) fun b25 o25 h25=>?_
 refine zac ty3 h25 (Ext.refl w1_) fun hI26=>?_
 refine zaz ?_
 refine br (fun c3=>?_) (fun c3=>?_)
 · refine ⟨hx1_,?_⟩
   rw [za8] at c3
   have:¬EntI c:=fun h=>c3 h.2.2.1
   simp only [this,decide_false]
 refine zaa zaD ?_
 refine zab zco (zai hA1) (Ext.refl w1_) fun v30 h30=>?_
 have hln31:=zal h30
 refine zaf u30 h30 ?_
 refine zas (c.ins.length) (fun k us w'=>us=[.int .i64 (ziI c k:Int),.int .i64 (k:Int)]∧Ext w1_ w'∧(True)) (0) (by omega) ⟨rfl,Ext.refl w1_,trivial⟩ ?_
 rintro k m5 uu5 w2_ hk5 ⟨hu,hx2_,hinv⟩
 obtain ⟨hu0,hu1⟩:=zb9 hu;clear hu
 try rw [hu0]
 try rw [hu1]
 try clear hu0 hu1
 have hel:=znm c k
 refine zah ?_
 refine br (fun c4=>?_) (fun c4=>?_)
 · refine zad u30 zaS h30 (by omega) fun b34 o34 h34=>?_
   refine zab zaS h34 hx2_ fun v35 h35=>?_
   rw [zaG] at h35
   refine zce zfE rfl zaS rfl h35 hx2_ fun w3_ hx3_ hA5 hV5=>?_
   refine zaa zaH ?_
   refine zac ty3 (zat hA5) (Ext.refl w3_) fun hI37=>?_
   refine zaq ?_
   refine br (fun c5=>?_) (fun c5=>?_)
   · refine zag (by omega) ?_
     refine zag (by omega) ?_
     refine ⟨m5-1,by omega,k+1,by omega,by rw [ziI,if_pos c5],(hx2_.trans hx3_),?_⟩
     trivial
   refine zag (by omega) ?_
   refine ⟨m5-1,by omega,k+1,by omega,by rw [ziI,if_neg c5];rfl,(hx2_.trans hx3_),?_⟩
   trivial
 refine zaa zaT ?_
 refine zab zb6 (zam hA1) hx2_ fun v44 h44=>?_
 have hln45:=zal h44
 refine zaf u23 h44 ?_
 refine zaz ?_
 refine br (fun c6=>?_) (fun c6=>?_)
 · refine ⟨(hx1_.trans hx2_),?_⟩
   have:¬EntI c:=fun h=>c6 (by rw [show k=c.ins.length by omega,h.2.2.2.1])
   simp only [this,decide_false]
 refine zaa zaT ?_
 refine zab zb6 (zam hA1) hx2_ fun v48 h48=>?_
 have hln49:=zal h48
 refine zaf u23 h48 ?_
 refine zas (c.entry.length) (fun q us w'=>us=[.int .i64 (q:Int)]∧Ext w2_ w'∧(∀ i,i<q→en c i<zcX c i∧zcX c i≤c.ins.length∧(zaj c (zcX c i-1).toNat).op=9)) (0) (by omega) ⟨by simp,Ext.refl w2_,fun i h=>by omega⟩ ?_
 rintro q m13 uu13 w4_ hk13 ⟨hu,hx4_,hent⟩
 simp only [List.map_cons,List.map_nil,List.cons.injEq,and_true] at hu
 try rw [hu]
 try clear hu
 refine zah ?_
 refine br (fun c7=>?_) (fun c7=>?_)
 · have hx5_:=zan w4_
   refine zaa zaT ?_
   refine zab zb6 (zam hA1) (hx2_.trans (hx4_.trans hx5_)) fun v54 h54=>?_
   refine zad u23 ty3 h54 (by omega) fun b56 o56 h56=>?_
   refine zac ty3 h56 (hx2_.trans (hx4_.trans hx5_)) fun hI57=>?_
   refine zaa zaD ?_
   refine zab zco (zai hA1) (hx2_.trans (hx4_.trans hx5_)) fun v59 h59=>?_
   have hln60:=zal h59
   refine zaf u30 h59 ?_
   refine JOIN.mk (fun us w'=>us=[.int .i64 (zcX c q)]∧Ext (World.drew1 w4_) w'∧(True)) ?_ ?_
   · refine zag (by omega) ?_
     refine zaa zaT ?_
     refine zab zb6 (zam hA1) (hx2_.trans (hx4_.trans hx5_)) fun v64 h64=>?_
     have hln65:=zal h64
     refine zaf u23 h64 ?_
     refine zah ?_
     refine br (fun c8=>?_) (fun c8=>?_)
     · refine zaa zaT ?_
       refine zab zb6 (zam hA1) (hx2_.trans (hx4_.trans hx5_)) fun v68 h68=>?_
       refine zag (by omega) ?_
       refine zad u23 ty3 h68 (by omega) fun b71 o71 h71=>?_
       refine zac ty3 h71 (hx2_.trans (hx4_.trans hx5_)) fun hI72=>?_
       refine ⟨by unfold zcX;rw [if_pos (by omega),za8],Ext.refl (World.drew1 w4_),?_⟩
       trivial
     refine ⟨by unfold zcX;rw [if_neg (by omega)],Ext.refl (World.drew1 w4_),?_⟩
     trivial
   rintro uj18 w6_ ⟨hu,hx6_,hinv⟩
   simp only [List.map_cons,List.map_nil,List.cons.injEq,and_true] at hu
   try rw [hu]
   try clear hu
   refine zcU ?_
   refine br (fun c9=>?_) (fun c9=>?_)
   · refine ⟨(hx1_.trans (hx2_.trans (hx4_.trans (hx5_.trans hx6_)))),?_⟩
     rw [za8] at c9
     have:¬EntI c:=fun h=>by have:=(h.2.2.2.2 q (by omega)).1;omega
     simp only [this,decide_false]
   refine zaa zaD ?_
   refine zab zco (zai hA1) (hx2_.trans (hx4_.trans (hx5_.trans hx6_))) fun v79 h79=>?_
   have hln80:=zal h79
   refine zaf u30 h79 ?_
   refine zdI ?_
   refine br (fun c10=>?_) (fun c10=>?_)
   · refine ⟨(hx1_.trans (hx2_.trans (hx4_.trans (hx5_.trans hx6_)))),?_⟩
     have:¬EntI c:=fun h=>by have:=(h.2.2.2.2 q (by omega)).2.1;omega
     simp only [this,decide_false]
   refine zaa zaD ?_
   refine zab zco (zai hA1) (hx2_.trans (hx4_.trans (hx5_.trans hx6_))) fun v85 h85=>?_
   rw [za8] at c3 c9
   have hq0:=zfo (Decidable.not_not.1 c3) (q:=q) (by omega) fun i hi=>(hent i hi).1
   refine zbC (by unfold I64;omega) ?_
   refine zcl u30 zaS h85 (by omega) (by omega) fun b88 o88 h88=>?_
   refine zaa zaH ?_
   refine zac ty3 (zat h88) (hx2_.trans (hx4_.trans (hx5_.trans hx6_))) fun hI90=>?_
   refine zaz ?_
   refine br (fun c11=>?_) (fun c11=>?_)
   · refine ⟨(hx1_.trans (hx2_.trans (hx4_.trans (hx5_.trans hx6_)))),?_⟩
     rw [zaG] at c11
     have:¬EntI c:=fun h=>c11 (h.2.2.2.2 q (by omega)).2.2
     simp only [this,decide_false]
   refine zag (by omega) ?_
   refine ⟨m13-1,by omega,q+1,by omega,by simp,(hx4_.trans (hx5_.trans hx6_)),?_⟩
   rw [zaG] at c11
   exact zfN hent ⟨by omega,by omega,Decidable.not_not.1 c11⟩
 refine ⟨(hx1_.trans (hx2_.trans hx4_)),?_⟩
 rw [za8] at c3
 have:EntI c:=⟨by omega,by omega,Decidable.not_not.1 c3,by rw [show c.ins.length=k by omega];omega,fun i hi=>hent i (by omega)⟩
 simp only [this,decide_true]
def F183 (a0 a1:Value) (w:World) (R:VW):Prop:=
 oP (Instr.box 32 a0) w fun x2 w=>
 rB .eql 3 T0 U0 a1 (iV 1) w fun x7=>
 BR x7
 (rF 32 x2 0 w fun x8=>
 rL 22 x8 w fun x9=>
 rN 22 3 x9 w fun x10=>
 R x10 w)
 (rB .eql 3 T0 U0 a1 (iV 4) w fun x12=>
 BR x12
 (rF 32 x2 2 w fun x14=>
 rL 22 x14 w fun x15=>
 rN 22 3 x15 w fun x16=>
 R x16 w)
 (rB .eql 3 T0 U0 a1 (iV 5) w fun x13=>
 BR x13
 (rF 32 x2 2 w fun x14=>
 rL 22 x14 w fun x15=>
 rN 22 3 x15 w fun x16=>
 R x16 w)
 (rB .eql 3 T0 U0 a1 (iV 6) w fun x18=>
 BR x18
 (rF 32 x2 1 w fun x20=>
 rL 22 x20 w fun x21=>
 rN 22 3 x21 w fun x22=>
 R x22 w)
 (rB .eql 3 T0 U0 a1 (iV 7) w fun x19=>
 BR x19
 (rF 32 x2 1 w fun x20=>
 rL 22 x20 w fun x21=>
 rN 22 3 x21 w fun x22=>
 R x22 w)
 (R (iV 1) w)))))
def cfg183:Cfg:=⟨extL,[],[],[],[],[],[]⟩
theorem F183_call {a0 a1:Value} {w:World} {R:VW} (h:F183 a0 a1 w R):cL 183 [a0,a1] w R:=co (g:=cfg183) Tryz.func183 (by kernel_rfl) (by kernel_rfl) (by kernel_rfl) h
theorem zmg {w:World} {v0:Value} {W0:World} {c:DCode} {op:Int}  (h0:Is W0 v0 c) (e0:Ext W0 w)  :
   CALL Tryz.prog 183 [v0,.int .i64 op] w fun r w'=>Ext w w'∧(r=.int .i64 (zbR c op)):=by
 refine F183_call ?_
 unfold F183
 refine zaB zbu rfl h0 e0 fun w1_ hx1_ hA2 hV2=>?_
 refine zaq ?_
 refine br (fun c1=>?_) (fun c1=>?_)
 · refine zaa zcG ?_
   refine zab zbN (za2 hA2) (Ext.refl w1_) fun v9 h9=>?_
   have hln10:=zal h9
   refine zaf u22 h9 ?_
   refine ⟨hx1_,?_⟩
   unfold zbR;rw [if_pos c1]
 refine zaq ?_
 refine br (fun c2=>?_) (fun c2=>?_)
 · refine zaa za1 ?_
   refine zab zbN (zap hA2) (Ext.refl w1_) fun v15 h15=>?_
   have hln16:=zal h15
   refine zaf u22 h15 ?_
   refine ⟨hx1_,?_⟩
   unfold zbR;rw [if_neg (by omega),if_pos (by omega)]
 refine zaq ?_
 refine br (fun c3=>?_) (fun c3=>?_)
 · refine zaa za1 ?_
   refine zab zbN (zap hA2) (Ext.refl w1_) fun v15 h15=>?_
   have hln16:=zal h15
   refine zaf u22 h15 ?_
   refine ⟨hx1_,?_⟩
   unfold zbR;rw [if_neg (by omega),if_pos (by omega)]
 refine zaq ?_
 refine br (fun c4=>?_) (fun c4=>?_)
 · refine zaa zem ?_
   refine zab zbN (zby hA2) (Ext.refl w1_) fun v21 h21=>?_
   have hln22:=zal h21
   refine zaf u22 h21 ?_
   refine ⟨hx1_,?_⟩
   unfold zbR;rw [if_neg (by omega),if_neg (by omega),if_pos (by omega)]
 refine zaq ?_
 refine br (fun c5=>?_) (fun c5=>?_)
 · refine zaa zem ?_
   refine zab zbN (zby hA2) (Ext.refl w1_) fun v21 h21=>?_
   have hln22:=zal h21
   refine zaf u22 h21 ?_
   refine ⟨hx1_,?_⟩
   unfold zbR;rw [if_neg (by omega),if_neg (by omega),if_pos (by omega)]
 refine ⟨hx1_,?_⟩
 unfold zbR;rw [if_neg (by omega),if_neg (by omega),if_neg (by omega)]
def F135 (a0 a1 a2 a3:Value) (w:World) (R:VW):Prop:=
 oP (Instr.box 32 a0) w fun x4 w=>
 oP (Instr.box 111 a1) w fun x5 w=>
 (fun w=>rF 111 x5 0 w fun x11=>
 rL 3 x11 w fun x12=>
 rB .lss 3 T0 U0 x12 (iV 1) w fun x13=>
 BR x13
 (R (Value.bool false) w)
 (rF 111 x5 0 w fun x15=>
 rL 3 x15 w fun x16=>
 rB .gtr 3 T0 U0 x16 (iV 9) w fun x17=>
 BR x17
 (R (Value.bool false) w)
 (rF 111 x5 1 w fun x20=>
 rL 3 x20 w fun x21=>
 rB .lss 3 T0 U0 x21 (iV 0) w fun x22=>
 BR x22
 (R (Value.bool false) w)
 (rF 111 x5 1 w fun x25=>
 rL 3 x25 w fun x26=>
 rL 32 x4 w fun x27=>
 rF 111 x5 0 w fun x28=>
 rL 3 x28 w fun x29=>
 (fun w_=>cL 183 [x27,x29] w_ fun x30 w=>
 Ext w_ w ∧
 rB .geq 3 T0 T0 x26 x30 w fun x31=>
 BR x31
 (R (Value.bool false) w)
 (JOIN [] (fun J14=>
 rF 111 x5 0 w fun x33=>
 rL 3 x33 w fun x34=>
 rB .eql 3 T0 U0 x34 (iV 1) w fun x35=>
 BR x35
 (rF 111 x5 2 w fun x41=>
 rL 109 x41 w fun x42=>
 cL 184 [x42] w fun x43 w=>
 rD (Op.unary .not x43) w fun x44=>
 BR x44
 (R (Value.bool false) w)
 (rF 111 x5 2 w fun x45=>
 rL 109 x45 w fun x46=>
 cL 168 [x46] w fun x47 w=>
 rN 22 3 x47 w fun x48=>
 LOOPI [49] [(iV 0)] w fun u7 w next7=>
 rC (u7 49) x48 w fun x50=>
 BR x50
 (rX 22 x47 (u7 49) w fun x51=>
 rL 9 x51 w fun x52=>
 rF 32 x4 0 w fun x53=>
 rL 22 x53 w fun x54=>
 cL 169 [x54,x52] w fun x56 w=>
 rD (Op.unary .not x56) w fun x57=>
 BR x57
 (R (Value.bool false) w)
 (rA (u7 49) (iV 1) w fun x58=>
 next7 [x58] w))
 (J14 [] w)))
 (rF 111 x5 0 w fun x37=>
 rL 3 x37 w fun x38=>
 rB .eql 3 T0 U0 x38 (iV 2) w fun x39=>
 BR x39
 (rF 111 x5 2 w fun x41=>
 rL 109 x41 w fun x42=>
 cL 184 [x42] w fun x43 w=>
 rD (Op.unary .not x43) w fun x44=>
 BR x44
 (R (Value.bool false) w)
 (rF 111 x5 2 w fun x45=>
 rL 109 x45 w fun x46=>
 cL 168 [x46] w fun x47 w=>
 rN 22 3 x47 w fun x48=>
 LOOPI [49] [(iV 0)] w fun u7 w next7=>
 rC (u7 49) x48 w fun x50=>
 BR x50
 (rX 22 x47 (u7 49) w fun x51=>
 rL 9 x51 w fun x52=>
 rF 32 x4 0 w fun x53=>
 rL 22 x53 w fun x54=>
 cL 169 [x54,x52] w fun x56 w=>
 rD (Op.unary .not x56) w fun x57=>
 BR x57
 (R (Value.bool false) w)
 (rA (u7 49) (iV 1) w fun x58=>
 next7 [x58] w))
 (J14 [] w)))
 (rF 111 x5 2 w fun x59=>
 rL 109 x59 w fun x60=>
 cL 185 [x60] w fun x61 w=>
 rD (Op.unary .not x61) w fun x62=>
 BR x62
 (R (Value.bool false) w)
 (J14 [] w)))) (fun u14 w=>
 rF 111 x5 0 w fun x63=>
 rL 3 x63 w fun x64=>
 rB .eql 3 T0 U0 x64 (iV 2) w fun x65=>
 BR x65
 (rF 111 x5 3 w fun x71=>
 rL 3 x71 w fun x72=>
 rB .geq 3 T0 T0 x72 a2 w fun x74=>
 BR x74
 (rF 111 x5 3 w fun x76=>
 rL 3 x76 w fun x77=>
 rC x77 a3 w fun x79=>
 R x79 w)
 (R (Value.bool false) w))
 (rF 111 x5 0 w fun x67=>
 rL 3 x67 w fun x68=>
 rB .eql 3 T0 U0 x68 (iV 3) w fun x69=>
 BR x69
 (rF 111 x5 3 w fun x71=>
 rL 3 x71 w fun x72=>
 rB .geq 3 T0 T0 x72 a2 w fun x74=>
 BR x74
 (rF 111 x5 3 w fun x76=>
 rL 3 x76 w fun x77=>
 rC x77 a3 w fun x79=>
 R x79 w)
 (R (Value.bool false) w))
 (rF 111 x5 3 w fun x81=>
 rL 3 x81 w fun x82=>
 rB .eql 3 T0 U0 x82 (iV 0) w fun x83=>
 R x83 w))))) w)))) (World.drew1 w)
def cfg135:Cfg:=⟨extL,[(14,9223372028264842496,[])],[(7,575897802350003456,[49])],[(1,[0,1,2,3,4,5,6,7,8,9,10,11,12,13,14,15,16,17,18,19,20,21],524288)],[],[],[]⟩
theorem F135_call {a0 a1 a2 a3:Value} {w:World} {R:VW} (h:F135 a0 a1 a2 a3 w R):cL 135 [a0,a1,a2,a3] w R:=co (g:=cfg135) Tryz.func135 (by kernel_rfl) (by kernel_rfl) (by kernel_rfl) h
theorem zkx {w:World} {v0:Value} {W0:World} {c:DCode} {v1:Value} {W1:World} {a:DIns} {b:Int} {e:Int}  (h0:Is W0 v0 c) (e0:Ext W0 w) (h1:Is W1 v1 a) (e1:Ext W1 w)  :
   CALL Tryz.prog 135 [v0,v1,.int .i64 b,.int .i64 e] w fun r w'=>Ext w w'∧(r=.bool (decide (zfn c a b e))):=by
 refine F135_call ?_
 unfold F135
 refine zaB zbu rfl h0 e0 fun w1_ hx1_ hA4 hV4=>?_
 refine zaB zaS rfl h1 (e1.trans hx1_) fun w2_ hx2_ hA5 hV5=>?_
 have hx3_:=zan w2_
 refine zaa zaH ?_
 refine zac ty3 (zat hA5) hx3_ fun hI12=>?_
 refine zah ?_
 refine br (fun c1=>?_) (fun c1=>?_)
 · refine ⟨(hx1_.trans (hx2_.trans hx3_)),?_⟩
   have:¬zfn c a b e:=fun h=>by have:=h.1;omega
   simp only [this,decide_false]
 refine zaa zaH ?_
 refine zac ty3 (zat hA5) hx3_ fun hI16=>?_
 refine zdI ?_
 refine br (fun c2=>?_) (fun c2=>?_)
 · refine ⟨(hx1_.trans (hx2_.trans hx3_)),?_⟩
   have:¬zfn c a b e:=fun h=>by have:=h.1;omega
   simp only [this,decide_false]
 refine zaa zaP ?_
 refine zac ty3 (zaw hA5) hx3_ fun hI21=>?_
 refine zah ?_
 refine br (fun c3=>?_) (fun c3=>?_)
 · refine ⟨(hx1_.trans (hx2_.trans hx3_)),?_⟩
   have:¬zfn c a b e:=fun h=>by have:=h.2.1;omega
   simp only [this,decide_false]
 refine zaa zaP ?_
 refine zac ty3 (zaw hA5) hx3_ fun hI26=>?_
 refine zbD hV4 (hx2_.trans hx3_) ?_
 refine zaa zaH ?_
 refine zac ty3 (zat hA5) hx3_ fun hI29=>?_
 refine (zmg h0 (e0.trans (hx1_.trans (hx2_.trans hx3_)))).mono ?_
 rintro _ w4_ ⟨hx4_,rfl⟩
 refine ⟨hx4_,?_⟩
 refine zci ?_
 refine br (fun c4=>?_) (fun c4=>?_)
 · refine ⟨(hx1_.trans (hx2_.trans (hx3_.trans hx4_))),?_⟩
   have:¬zfn c a b e:=fun h=>by have:=h.2.1;omega
   simp only [this,decide_false]
 refine JOIN.mk (fun us w'=>us=[]∧Ext w4_ w'∧(if a.op=1∨a.op=2 then zbv 6 a.term=true∧(∀ s∈zbH a.term,s∈c.globals) else a.term=term0)) ?_ ?_
 · refine zaa zaH ?_
   refine zac ty3 (zat hA5) (hx3_.trans hx4_) fun hI34=>?_
   refine zaq ?_
   refine br (fun c5=>?_) (fun c5=>?_)
   · refine zaa zbK ?_
     refine zab zbf (zbi hA5) (hx3_.trans hx4_) fun v42 h42=>?_
     refine (zd7 h42 (hx3_.trans hx4_)).mono ?_
     rintro _ w6_ ⟨hx6_,rfl⟩
     refine za0 ?_
     refine zbI (fun c6=>?_) (fun c6=>?_)
     · refine ⟨(hx1_.trans (hx2_.trans (hx3_.trans (hx4_.trans hx6_)))),?_⟩
       have:¬zfn c a b e:=fun h=>by have:=h.2.2.1;rw [if_pos (.inl c5)] at this;rw [this.1] at c6;cases c6
       simp only [this,decide_false]
     refine zaa zbK ?_
     refine zab zbf (zbi hA5) (hx3_.trans (hx4_.trans hx6_)) fun v46 h46=>?_
     refine (zdC h46 (hx3_.trans (hx4_.trans hx6_))).mono ?_
     rintro r47 w7_ ⟨hx7_,h47⟩
     have hln48:=zal h47
     refine zaf u22 h47 ?_
     refine zas ((zbH a.term).length) (fun k us w'=>us=[.int .i64 (k:Int)]∧Ext w7_ w'∧(∀ s∈(zbH a.term).take k,s∈c.globals)) (0) (by omega) ⟨by simp,Ext.refl w7_,by simp⟩ ?_
     rintro k m7 uu7 w8_ hk7 ⟨hu,hx8_,hinv⟩
     simp only [List.map_cons,List.map_nil,List.cons.injEq,and_true] at hu
     try rw [hu]
     try clear hu
     refine zah ?_
     refine br (fun c7=>?_) (fun c7=>?_)
     · refine zad u22 ty9 h47 (by omega) fun b51 o51 h51=>?_
       refine zaE ty9 h51 hx8_ fun hS52=>?_
       refine zaa zcG ?_
       refine zab zbN (za2 hA4) (hx2_.trans (hx3_.trans (hx4_.trans (hx6_.trans (hx7_.trans hx8_))))) fun v54 h54=>?_
       refine (zbO h54 (hx2_.trans (hx3_.trans (hx4_.trans (hx6_.trans (hx7_.trans hx8_)))))).mono ?_
       rintro _ w9_ ⟨hx9_,rfl⟩
       refine zaA ?_
       refine br (fun c8=>?_) (fun c8=>?_)
       · refine ⟨(hx1_.trans (hx2_.trans (hx3_.trans (hx4_.trans (hx6_.trans (hx7_.trans (hx8_.trans hx9_))))))),?_⟩
         have:¬zfn c a b e:=fun h=>by
           have:=h.2.2.1;rw [if_pos (.inl c5)] at this
           exact c8 (this.2 _ (List.getElem_mem (n:=k) (by omega)))
         simp only [this,decide_false]
       refine zag (by omega) ?_
       refine ⟨m7-1,by omega,k+1,by omega,by simp,(hx8_.trans hx9_),?_⟩
       intro s hs
       rw [List.take_succ_eq_append_getElem (by omega)] at hs
       rcases List.mem_append.1 hs with hs | hs
       · exact hinv s hs
       simp only [List.mem_cons,List.not_mem_nil,or_false] at hs
       subst hs
       exact Decidable.not_not.1 c8
     refine ⟨by simp,(hx6_.trans (hx7_.trans hx8_)),?_⟩
     rw [if_pos (.inl c5)]
     rw [List.take_of_length_le (by omega)] at hinv
     exact ⟨by simpa using c6,hinv⟩
   refine zaa zaH ?_
   refine zac ty3 (zat hA5) (hx3_.trans hx4_) fun hI38=>?_
   refine zaq ?_
   refine br (fun c9=>?_) (fun c9=>?_)
   · refine zaa zbK ?_
     refine zab zbf (zbi hA5) (hx3_.trans hx4_) fun v42 h42=>?_
     refine (zd7 h42 (hx3_.trans hx4_)).mono ?_
     rintro _ w10_ ⟨hx10_,rfl⟩
     refine za0 ?_
     refine zbI (fun c10=>?_) (fun c10=>?_)
     · refine ⟨(hx1_.trans (hx2_.trans (hx3_.trans (hx4_.trans hx10_)))),?_⟩
       have:¬zfn c a b e:=fun h=>by have:=h.2.2.1;rw [if_pos (.inr c9)] at this;rw [this.1] at c10;cases c10
       simp only [this,decide_false]
     refine zaa zbK ?_
     refine zab zbf (zbi hA5) (hx3_.trans (hx4_.trans hx10_)) fun v46 h46=>?_
     refine (zdC h46 (hx3_.trans (hx4_.trans hx10_))).mono ?_
     rintro r47 w11_ ⟨hx11_,h47⟩
     have hln48:=zal h47
     refine zaf u22 h47 ?_
     refine zas ((zbH a.term).length) (fun k us w'=>us=[.int .i64 (k:Int)]∧Ext w11_ w'∧(∀ s∈(zbH a.term).take k,s∈c.globals)) (0) (by omega) ⟨by simp,Ext.refl w11_,by simp⟩ ?_
     rintro k m7 uu7 w12_ hk7 ⟨hu,hx12_,hinv⟩
     simp only [List.map_cons,List.map_nil,List.cons.injEq,and_true] at hu
     try rw [hu]
     try clear hu
     refine zah ?_
     refine br (fun c11=>?_) (fun c11=>?_)
     · refine zad u22 ty9 h47 (by omega) fun b51 o51 h51=>?_
       refine zaE ty9 h51 hx12_ fun hS52=>?_
       refine zaa zcG ?_
       refine zab zbN (za2 hA4) (hx2_.trans (hx3_.trans (hx4_.trans (hx10_.trans (hx11_.trans hx12_))))) fun v54 h54=>?_
       refine (zbO h54 (hx2_.trans (hx3_.trans (hx4_.trans (hx10_.trans (hx11_.trans hx12_)))))).mono ?_
       rintro _ w13_ ⟨hx13_,rfl⟩
       refine zaA ?_
       refine br (fun c12=>?_) (fun c12=>?_)
       · refine ⟨(hx1_.trans (hx2_.trans (hx3_.trans (hx4_.trans (hx10_.trans (hx11_.trans (hx12_.trans hx13_))))))),?_⟩
         have:¬zfn c a b e:=fun h=>by
           have:=h.2.2.1;rw [if_pos (.inr c9)] at this
           exact c12 (this.2 _ (List.getElem_mem (n:=k) (by omega)))
         simp only [this,decide_false]
       refine zag (by omega) ?_
       refine ⟨m7-1,by omega,k+1,by omega,by simp,(hx12_.trans hx13_),?_⟩
       intro s hs
       rw [List.take_succ_eq_append_getElem (by omega)] at hs
       rcases List.mem_append.1 hs with hs | hs
       · exact hinv s hs
       simp only [List.mem_cons,List.not_mem_nil,or_false] at hs
       subst hs
       exact Decidable.not_not.1 c12
     refine ⟨by simp,(hx10_.trans (hx11_.trans hx12_)),?_⟩
     rw [if_pos (.inr c9)]
     rw [List.take_of_length_le (by omega)] at hinv
     exact ⟨by simpa using c10,hinv⟩
   refine zaa zbK ?_
   refine zab zbf (zbi hA5) (hx3_.trans hx4_) fun v60 h60=>?_
   refine (ziz h60 (hx3_.trans hx4_)).mono ?_
   rintro _ w14_ ⟨hx14_,rfl⟩
   refine zaA ?_
   refine br (fun c13=>?_) (fun c13=>?_)
   · refine ⟨(hx1_.trans (hx2_.trans (hx3_.trans (hx4_.trans hx14_)))),?_⟩
     have:¬zfn c a b e:=fun h=>by have:=h.2.2.1;rw [if_neg (by omega)] at this;exact c13 this
     simp only [this,decide_false]
   refine ⟨by simp,hx14_,?_⟩
   rw [if_neg (by omega)]
   exact Decidable.not_not.1 c13
 rintro uj14 w5_ ⟨hu,hx14_,hT⟩
 simp only [List.map_cons,List.map_nil,List.cons.injEq,and_true] at hu
 clear hu
 refine zaa zaH ?_
 refine zac ty3 (zat hA5) (hx3_.trans (hx4_.trans hx14_)) fun hI64=>?_
 refine zaq ?_
 refine br (fun c14=>?_) (fun c14=>?_)
 · refine zaa zbX ?_
   refine zac ty3 (zbj hA5) (hx3_.trans (hx4_.trans hx14_)) fun hI72=>?_
   refine zci ?_
   refine br (fun c15=>?_) (fun c15=>?_)
   · refine zaa zbX ?_
     refine zac ty3 (zbj hA5) (hx3_.trans (hx4_.trans hx14_)) fun hI77=>?_
     refine zah ?_
     refine ⟨(hx1_.trans (hx2_.trans (hx3_.trans (hx4_.trans hx14_)))),?_⟩
     first
       | (have no:¬zfn c a b e:=fun h=>by
           have h4:=h.2.2.2;rw [if_pos (by omega)] at h4;omega
          simp only [no,decide_false]
          done)
       | (congr 1
          rw [decide_eq_decide]
          constructor
          · exact fun h=>⟨by omega,by omega,hT,by first | (rw [if_pos (by omega)];omega) | (rw [if_neg (by omega)];omega)⟩
          intro h
          have h4:=h.2.2.2
          first | (rw [if_pos (by omega)] at h4;omega) | (rw [if_neg (by omega)] at h4;omega))
   refine ⟨(hx1_.trans (hx2_.trans (hx3_.trans (hx4_.trans hx14_)))),?_⟩
   first
     | (have no:¬zfn c a b e:=fun h=>by
         have h4:=h.2.2.2;rw [if_pos (by omega)] at h4;omega
        simp only [no,decide_false]
        done)
     | (congr 1
        rw [decide_eq_decide]
        constructor
        · exact fun h=>⟨by omega,by omega,hT,by first | (rw [if_pos (by omega)];omega) | (rw [if_neg (by omega)];omega)⟩
        intro h
        have h4:=h.2.2.2
        first | (rw [if_pos (by omega)] at h4;omega) | (rw [if_neg (by omega)] at h4;omega))
 refine zaa zaH ?_
 refine zac ty3 (zat hA5) (hx3_.trans (hx4_.trans hx14_)) fun hI68=>?_
 refine zaq ?_
 refine br (fun c16=>?_) (fun c16=>?_)
 · refine zaa zbX ?_
   refine zac ty3 (zbj hA5) (hx3_.trans (hx4_.trans hx14_)) fun hI72=>?_
   refine zci ?_
   refine br (fun c17=>?_) (fun c17=>?_)
   · refine zaa zbX ?_
     refine zac ty3 (zbj hA5) (hx3_.trans (hx4_.trans hx14_)) fun hI77=>?_
     refine zah ?_
     refine ⟨(hx1_.trans (hx2_.trans (hx3_.trans (hx4_.trans hx14_)))),?_⟩
     first
       | (have no:¬zfn c a b e:=fun h=>by
           have h4:=h.2.2.2;rw [if_pos (by omega)] at h4;omega
          simp only [no,decide_false]
          done)
       | (congr 1
          rw [decide_eq_decide]
          constructor
          · exact fun h=>⟨by omega,by omega,hT,by first | (rw [if_pos (by omega)];omega) | (rw [if_neg (by omega)];omega)⟩
          intro h
          have h4:=h.2.2.2
          first | (rw [if_pos (by omega)] at h4;omega) | (rw [if_neg (by omega)] at h4;omega))
   refine ⟨(hx1_.trans (hx2_.trans (hx3_.trans (hx4_.trans hx14_)))),?_⟩
   first
     | (have no:¬zfn c a b e:=fun h=>by
         have h4:=h.2.2.2;rw [if_pos (by omega)] at h4;omega
        simp only [no,decide_false]
        done)
     | (congr 1
        rw [decide_eq_decide]
        constructor
        · exact fun h=>⟨by omega,by omega,hT,by first | (rw [if_pos (by omega)];omega) | (rw [if_neg (by omega)];omega)⟩
        intro h
        have h4:=h.2.2.2
        first | (rw [if_pos (by omega)] at h4;omega) | (rw [if_neg (by omega)] at h4;omega))
 refine zaa zbX ?_
 refine zac ty3 (zbj hA5) (hx3_.trans (hx4_.trans hx14_)) fun hI82=>?_
 refine zaq ?_
 refine ⟨(hx1_.trans (hx2_.trans (hx3_.trans (hx4_.trans hx14_)))),?_⟩
 first
   | (have no:¬zfn c a b e:=fun h=>by
       have h4:=h.2.2.2;rw [if_pos (by omega)] at h4;omega
      simp only [no,decide_false]
      done)
   | (congr 1
      rw [decide_eq_decide]
      constructor
      · exact fun h=>⟨by omega,by omega,hT,by first | (rw [if_pos (by omega)];omega) | (rw [if_neg (by omega)];omega)⟩
      intro h
      have h4:=h.2.2.2
      first | (rw [if_pos (by omega)] at h4;omega) | (rw [if_neg (by omega)] at h4;omega))
def F134 (a0 a1:Value) (w:World) (R:VW):Prop:=
 oP (Instr.box 32 a0) w fun x2 w=>
 rA a1 (iV 1) w fun x6=>
 rF 32 x2 3 w fun x7=>
 rL 23 x7 w fun x8=>
 rN 23 3 x8 w fun x9=>
 rC x6 x9 w fun x10=>
 BR x10
 (rF 32 x2 3 w fun x11=>
 rL 23 x11 w fun x12=>
 rA a1 (iV 1) w fun x14=>
 rX 23 x12 x14 w fun x15=>
 rL 3 x15 w fun x16=>
 R x16 w)
 (rF 32 x2 4 w fun x17=>
 rL 30 x17 w fun x18=>
 rN 30 3 x18 w fun x19=>
 R x19 w)
def cfg134:Cfg:=⟨extL,[],[],[],[],[],[]⟩
theorem F134_call {a0 a1:Value} {w:World} {R:VW} (h:F134 a0 a1 w R):cL 134 [a0,a1] w R:=co (g:=cfg134) Tryz.func134 (by kernel_rfl) (by kernel_rfl) (by kernel_rfl) h
theorem zcH {w:World} {v0:Value} {W0:World} {c:DCode} {i:Nat}  (h0:Is W0 v0 c) (e0:Ext W0 w) (hi:i<1000000000000) :
   CALL Tryz.prog 134 [v0,.int .i64 (i:Int)] w fun r w'=>Ext w w'∧(r=.int .i64 (zcX c i)):=by
 refine F134_call ?_
 unfold F134
 refine zaB zbu rfl h0 e0 fun w1_ hx1_ hA2 hV2=>?_
 refine zag (by omega) ?_
 refine zaa zaT ?_
 refine zab zb6 (zam hA2) (Ext.refl w1_) fun v8 h8=>?_
 have hln9:=zal h8
 refine zaf u23 h8 ?_
 refine zah ?_
 refine br (fun c1=>?_) (fun c1=>?_)
 · refine zaa zaT ?_
   refine zab zb6 (zam hA2) (Ext.refl w1_) fun v12 h12=>?_
   refine zag (by omega) ?_
   refine zad u23 ty3 h12 (by omega) fun b15 o15 h15=>?_
   refine zac ty3 h15 (Ext.refl w1_) fun hI16=>?_
   refine ⟨hx1_,?_⟩
   unfold zcX;rw [if_pos (by omega),za8]
 refine zaa zaD ?_
 refine zab zco (zai hA2) (Ext.refl w1_) fun v18 h18=>?_
 have hln19:=zal h18
 refine zaf u30 h18 ?_
 refine ⟨hx1_,?_⟩
 unfold zcX;rw [if_neg (by omega)]
structure EntF (c:DCode):Prop where
 len:c.entry.length=c.procs.length
 ins:c.ins.length≤1500
 zero:en c 0=0
 lt:∀ i,i<c.entry.length→en c i<zcX c i∧zcX c i≤c.ins.length
theorem EntF.nonneg {c:DCode} (h:EntF c) {i:Nat} (hi:i<c.entry.length):0≤en c i:=zfo h.zero hi fun j hj=>(h.lt j (by omega)).1
theorem EntF.step {c:DCode} (h:EntF c) {i:Nat} (hi:i+1<c.entry.length):zcX c i=en c (i+1):=by unfold zcX;rw [if_pos hi]
theorem EntF.last {c:DCode} (h:EntF c) {i:Nat} (hi:i+1=c.entry.length):zcX c i=c.ins.length:=by unfold zcX;rw [if_neg (by omega)]
theorem EntF.mono {c:DCode} (h:EntF c):∀ {i j:Nat},i<j→j<c.entry.length→zcX c i≤en c j
 | i,j+1,hij,hj=>by
   by_cases e:i=j
   · subst e;rw [h.step hj];exact Int.le_refl _
   have h1:=h.mono (i:=i) (j:=j) (by omega) (by omega)
   have h2:=(h.lt j (by omega)).1
   rw [h.step hj] at h2
   omega
theorem EntF.proc {c:DCode} (h:EntF c) {i:Nat} {a:Int} (hi:i<c.entry.length) (h1:en c i≤a) (h2:a<zcX c i):zar c a=i:=by
 unfold zar
 rw [zgI (m:=i+1) (by omega) fun j hj1 hj2=>by have:=h.mono (i:=i) (j:=j) (by omega) hj2;omega]
 rw [prc,if_pos h1]
theorem EntF.find {c:DCode} (h:EntF c) (hp:0<c.procs.length) {a:Int} (h0:0≤a) (h1:a<c.ins.length):∃ i,i<c.entry.length∧en c i≤a∧a<zcX c i∧zar c a=i:=by
 have hlen:=h.len
 have h2:0≤zar c a:=zga (by rw [h.zero];exact h0) (by omega)
 have h3:=(zfM (c:=c) (a:=a)).2
 have key:∀ n,n≤c.entry.length→(∀ j,n≤j→j<c.entry.length→a<en c j)→0<n→∃ i,i<n∧en c i≤a∧a<zcX c i:=by
   intro n
   induction n with
   | zero=>intro _ _ h;omega
   | succ n ih=>
     intro hn hj _
     by_cases hle:en c n≤a
     · refine ⟨n,by omega,hle,?_⟩
       by_cases hl:n+1<c.entry.length
       · rw [h.step hl];exact hj (n+1) (by omega) hl
       rw [h.last (by omega)];exact h1
     by_cases h0n:n=0
     · subst h0n;rw [h.zero] at hle;omega
     obtain ⟨i,hi,hx⟩:=ih (by omega) (fun j hj1 hj2=>by
       by_cases e:j=n
       · subst e;omega
       exact hj j (by omega) hj2) (by omega)
     exact ⟨i,by omega,hx⟩
 obtain ⟨i,hi,hx,hy⟩:=key c.entry.length (Nat.le_refl _) (fun j hj1 hj2=>by omega) (by omega)
 exact ⟨i,hi,hx,hy,h.proc hi hx hy⟩
theorem EntS.f {c:DCode} (h:EntS c) (hp:0<c.procs.length):EntF c:=by
 obtain ⟨h1,h2,h3,h4⟩:=h
 refine ⟨h1,h2,(h3 0 (by omega)).1 rfl,fun i hi=>?_⟩
 unfold zcX
 split
 · rename_i hl
   have:=h3 (i+1) hl
   have h5:=this.2.1 (by omega)
   simp only [Nat.add_sub_cancel] at h5
   exact ⟨h5,by omega⟩
 exact ⟨(h3 i hi).2.2,Int.le_refl _⟩
theorem EntI.f {c:DCode} (h:EntI c):EntF c:=⟨h.2.1,h.1,h.2.2.1,fun i hi=>⟨(h.2.2.2.2 i hi).1,(h.2.2.2.2 i hi).2.1⟩⟩
theorem znn (c:DCode) (a:Nat):∀ (d:Nat),ziI c a≤ziI c (a+d)∧(ziI c (a+d)=ziI c a↔∀ j,a≤j→j<a+d→¬(zaj c j).op=9)
 | 0=>⟨Nat.le_refl _,⟨fun _ j h1 h2=>by omega,fun _=>rfl⟩⟩
 | d+1=>by
   obtain ⟨h1,h2⟩:=znn c a d
   rw [←Nat.add_assoc,ziI]
   refine ⟨by omega,?_⟩
   split
   · rename_i h9
     exact ⟨fun h=>by omega,fun h=>absurd h9 (h (a+d) (by omega) (by omega))⟩
   rename_i h9
   rw [Nat.add_zero,h2]
   constructor
   · intro h j hj1 hj2
     by_cases e:j=a+d
     · subst e;exact h9
     exact h j hj1 (by omega)
   exact fun h j hj1 hj2=>h j hj1 (by omega)
def eb (c:DCode) (n:Nat):Nat:=if n=0 then 0 else (zcX c (n-1)).toNat
theorem EntF.eb_en {c:DCode} (h:EntF c) {n:Nat} (hn:n<c.entry.length):(eb c n:Int)=en c n:=by
 unfold eb
 split
 · rename_i h0;subst h0;rw [h.zero];rfl
 have h1:=h.nonneg hn
 have h2:zcX c (n-1)=en c n:=by
   have:=h.step (i:=n-1) (by omega)
   rwa [show n-1+1=n by omega] at this
 rw [h2];omega
theorem EntF.eb_succ {c:DCode} (h:EntF c) {n:Nat} (hn:n<c.entry.length):(eb c (n+1):Int)=zcX c n:=by
 unfold eb
 rw [if_neg (by omega),Nat.add_sub_cancel]
 have:=(h.lt n hn).1
 have:=h.nonneg hn
 omega
theorem zgb {c:DCode} (h:EntF c) (he:∀ i,i<c.entry.length→(zaj c (zcX c i-1).toNat).op=9):∀ n,n≤c.entry.length →
   n≤ziI c (eb c n)∧(ziI c (eb c n)=n↔∀ j:Nat,j<eb c n→(zaj c j).op=9→∃ i,i<n∧zcX c i=j+1)
 | 0,_=>⟨Nat.zero_le _,⟨fun _ j hj=>by simp [eb] at hj,fun _=>rfl⟩⟩
 | n+1,hn=>by
   obtain ⟨h1,h2⟩:=zgb h he n (by omega)
   have ha:=h.eb_en (n:=n) (by omega)
   have hb:=h.eb_succ (n:=n) (by omega)
   have hlt:=(h.lt n (by omega)).1
   have h9:=he n (by omega)
   have e9:(zcX c n-1).toNat=eb c (n+1)-1:=by omega
   rw [e9] at h9
   obtain ⟨d,hd⟩:∃ d,eb c (n+1)=eb c n+d+1:=⟨eb c (n+1)-eb c n-1,by omega⟩
   have hd':eb c (n+1)-1=eb c n+d:=by omega
   rw [hd'] at h9
   obtain ⟨h3,h4⟩:=znn c (eb c n) d
   rw [hd,ziI,if_pos h9]
   refine ⟨by omega,?_⟩
   have hsplit:ziI c (eb c n+d)+1=n+1↔(ziI c (eb c n)=n∧ziI c (eb c n+d)=ziI c (eb c n)):=by omega
   rw [hsplit,h2,h4]
   constructor
   · rintro ⟨p1,p2⟩ j hj hj9
     by_cases hja:j<eb c n
     · obtain ⟨i,hi,hx⟩:=p1 j hja hj9
       exact ⟨i,by omega,hx⟩
     by_cases hje:j=eb c n+d
     · exact ⟨n,by omega,by omega⟩
     exact absurd hj9 (p2 j (by omega) (by omega))
   intro p
   constructor
   · intro j hj hj9
     obtain ⟨i,hi,hx⟩:=p j (by omega) hj9
     by_cases hin:i=n
     · subst hin;omega
     exact ⟨i,by omega,hx⟩
   intro j hj1 hj2 hj9
   obtain ⟨i,hi,hx⟩:=p j (by omega) hj9
   by_cases hin:i=n
   · subst hin;omega
   have:=h.mono (i:=i) (j:=n) (by omega) (by omega)
   omega
theorem zno {c:DCode} (hp:0<c.procs.length):EntI c↔EntS c:=by
 constructor
 · intro h
   have hf:=h.f
   obtain ⟨_,_,_,hc,hall⟩:=h
   have hlen:=hf.len
   have he:∀ i,i<c.entry.length→(zaj c (zcX c i-1).toNat).op=9:=fun i hi=>(hall i hi).2.2
   obtain ⟨_,h2⟩:=zgb hf he c.entry.length (Nat.le_refl _)
   have hb:eb c c.entry.length=c.ins.length:=by
     have:=hf.eb_succ (n:=c.entry.length-1) (by omega)
     rw [hf.last (by omega),show c.entry.length-1+1=c.entry.length by omega] at this
     omega
   rw [hb] at h2
   have h3:=h2.1 hc
   refine ⟨hf.len,hf.ins,fun i hi=>⟨fun _=>hf.zero,fun h0=>?_,?_⟩,fun j hj=>?_⟩
   · have h4:=(hf.lt (i-1) (by omega)).1
     have h5:=hf.step (i:=i-1) (by omega)
     rw [show i-1+1=i by omega] at h5
     omega
   · have:=hf.lt i hi;omega
   obtain ⟨i,hi,hx,hy,hpr⟩:=hf.find hp (a:=j) (by omega) (by omega)
   rw [hpr,zdr]
   constructor
   · intro h9
     obtain ⟨i',hi',hx'⟩:=h3 j hj h9
     have:=hf.lt i' hi'
     have hpr':=hf.proc (a:=j) hi' (by omega) (by omega)
     have:i'=i:=by omega
     subst this
     omega
   intro h9
   have:=he i hi
   rwa [show (zcX c i-1).toNat=j by omega] at this
 intro h
 have hf:=h.f hp
 have hlen:=hf.len
 have h4:=h.2.2.2
 have he:∀ i,i<c.entry.length→(zaj c (zcX c i-1).toNat).op=9:=fun i hi=>by
   have h1:=hf.lt i hi
   have h0:=hf.nonneg hi
   have:=(h4 (zcX c i-1).toNat (by omega)).2
   refine this ?_
   rw [hf.proc (i:=i) hi (by omega) (by omega),zdr]
   omega
 obtain ⟨_,h2⟩:=zgb hf he c.entry.length (Nat.le_refl _)
 have hb:eb c c.entry.length=c.ins.length:=by
   have:=hf.eb_succ (n:=c.entry.length-1) (by omega)
   rw [hf.last (by omega),show c.entry.length-1+1=c.entry.length by omega] at this
   omega
 rw [hb] at h2
 refine ⟨hf.ins,hf.len,hf.zero,h2.2 fun j hj h9=>?_,fun i hi=>⟨(hf.lt i hi).1,(hf.lt i hi).2,he i hi⟩⟩
 obtain ⟨i,hi,hx,hy,hpr⟩:=hf.find hp (a:=j) (by omega) (by omega)
 have:=(h4 j hj).1 h9
 rw [hpr,zdr] at this
 exact ⟨i,hi,by omega⟩
theorem zjL {c:DCode} (hn:NamesR c) (he:EntI c):CodeR c↔∀ i,i<c.entry.length→∀ j:Nat,en c i≤j→(j:Int)<zcX c i→zfn c (zaj c j) (en c i) (zcX c i):=by
 have hf:=he.f
 have hp:=hn.procs8.2
 constructor
 · intro h i hi j h1 h2
   have h3:=hf.lt i hi
   have:=h.2.2 j (by omega)
   rw [hf.proc hi h1 h2,zdr,Int.toNat_natCast] at this
   rwa [Int.sub_add_cancel] at this
 intro h
 refine ⟨hn,(zno hp).1 he,fun j hj=>?_⟩
 obtain ⟨i,hi,hx,hy,hpr⟩:=hf.find hp (a:=j) (by omega) (by omega)
 rw [hpr,zdr,Int.toNat_natCast,Int.sub_add_cancel]
 exact h i hi j hx hy
def F77 (a0:Value) (w:World) (R:VW):Prop:=
 oP (Instr.box 32 a0) w fun x1 w=>
 rL 32 x1 w fun x8=>
 cL 132 [x8] w fun x9 w=>
 rD (Op.unary .not x9) w fun x10=>
 BR x10
 (R (Value.bool false) w)
 (rL 32 x1 w fun x12=>
 cL 133 [x12] w fun x13 w=>
 rD (Op.unary .not x13) w fun x14=>
 BR x14
 (R (Value.bool false) w)
 (rF 32 x1 3 w fun x16=>
 rL 23 x16 w fun x17=>
 rN 23 3 x17 w fun x18=>
 LOOPI [19] [(iV 0)] w fun u4 w next4=>
 rC (u4 19) x18 w fun x20=>
 BR x20
 (rX 23 x17 (u4 19) w fun x22=>
 rL 3 x22 w fun x23=>
 rL 32 x1 w fun x24=>
 cL 134 [x24,(u4 19)] w fun x26 w=>
 rF 32 x1 4 w fun x27=>
 rL 30 x27 w fun x28=>
 rD (Instr.sliceAt 30 x28 (some x23) (some x26) none) w fun x31=>
 rN 30 3 x31 w fun x32=>
 LOOPI [33] [(iV 0)] w fun u8 w next8=>
 rC (u8 33) x32 w fun x34=>
 BR x34
 (rX 30 x31 (u8 33) w fun x35=>
 rL 111 x35 w fun x36=>
 oP (Instr.alloc 111 true (.tuple #[])) w fun x7 w=>
 oS 111 x7 x36 w fun w=>
 rL 32 x1 w fun x37=>
 rL 111 x7 w fun x38=>
 cL 135 [x37,x38,x23,x26] w fun x41 w=>
 rD (Op.unary .not x41) w fun x42=>
 BR x42
 (R (Value.bool false) w)
 (rA (u8 33) (iV 1) w fun x43=>
 next8 [x43] w))
 (rA (u4 19) (iV 1) w fun x44=>
 next4 [x44] w))
 (R (Value.bool true) w)))
def cfg77:Cfg:=⟨extL,[],[(4,35184371564732,[19]),(8,17583596109956,[33])],[],[],[],[]⟩
theorem F77_call {a0:Value} {w:World} {R:VW} (h:F77 a0 w R):cL 77 [a0] w R:=co (g:=cfg77) Tryz.func77 (by kernel_rfl) (by kernel_rfl) (by kernel_rfl) h
theorem ziJ {w:World} {v0:Value} {W0:World} {c:DCode}  (h0:Is W0 v0 c) (e0:Ext W0 w)  :
   CALL Tryz.prog 77 [v0] w fun r w'=>Ext w w'∧(r=.bool (decide (CodeR c))):=by
 refine F77_call ?_
 unfold F77
 refine zaB zbu rfl h0 e0 fun w1_ hx1_ hA1 hV1=>?_
 refine zbD hV1 (Ext.refl w1_) ?_
 refine (ziH h0 (e0.trans hx1_)).mono ?_
 rintro _ w2_ ⟨hx2_,rfl⟩
 refine zaA ?_
 refine br (fun c1=>?_) (fun c1=>?_)
 · refine ⟨(hx1_.trans hx2_),?_⟩
   have:¬CodeR c:=fun h=>c1 h.1
   simp only [this,decide_false]
 refine zbD hV1 hx2_ ?_
 refine (zhm h0 (e0.trans (hx1_.trans hx2_)) (Decidable.not_not.1 c1).procs8.2).mono ?_
 rintro _ w3_ ⟨hx3_,rfl⟩
 refine zaA ?_
 refine br (fun c2=>?_) (fun c2=>?_)
 · refine ⟨(hx1_.trans (hx2_.trans hx3_)),?_⟩
   have:¬CodeR c:=fun h=>c2 ((zno h.1.procs8.2).2 h.2.1)
   simp only [this,decide_false]
 refine zaa zaT ?_
 refine zab zb6 (zam hA1) (hx2_.trans hx3_) fun v17 h17=>?_
 have hln18:=zal h17
 refine zaf u23 h17 ?_
 refine zas (c.entry.length) (fun q us w'=>us=[.int .i64 (q:Int)]∧Ext w3_ w'∧(∀ i,i<q→∀ j:Nat,en c i≤j→(j:Int)<zcX c i→zfn c (zaj c j) (en c i) (zcX c i))) (0) (by omega) ⟨by simp,Ext.refl w3_,fun i h=>by omega⟩ ?_
 rintro q m4 uu4 w4_ hk4 ⟨hu,hx4_,hent⟩
 simp only [List.map_cons,List.map_nil,List.cons.injEq,and_true] at hu
 try rw [hu]
 try clear hu
 replace c1:=Decidable.not_not.1 c1;replace c2:=Decidable.not_not.1 c2;have hln4:=zal h17
 refine zah ?_
 refine br (fun c3=>?_) (fun c3=>?_)
 · refine zad u23 ty3 h17 (by omega) fun b22 o22 h22=>?_
   refine zac ty3 h22 (hx2_.trans (hx3_.trans hx4_)) fun hI23=>?_
   rw [za8]
   have h8:=c1.procs8
   have hlq:=c2.f.lt q (by omega)
   have hnq:=c2.f.nonneg (i:=q) (by omega)
   have hlen:=c2.f.len
   refine zbD hV1 (hx2_.trans (hx3_.trans hx4_)) ?_
   refine (zcH h0 (e0.trans (hx1_.trans (hx2_.trans (hx3_.trans hx4_)))) (by omega)).mono ?_
   rintro _ w5_ ⟨hx5_,rfl⟩
   refine zaa zaD ?_
   refine zab zco (zai hA1) (hx2_.trans (hx3_.trans (hx4_.trans hx5_))) fun v28 h28=>?_
   refine ziw u30 zaS h28 (by omega) (by omega) (by omega) fun v31 h31=>?_
   have hln32:=zal h31
   refine zaf u30 h31 ?_
   refine zas ((zcX c q).toNat-(en c q).toNat) (fun k us w'=>us=[.int .i64 (k:Int)]∧Ext w5_ w'∧(∀ j:Nat,en c q≤j→(j:Int)<en c q+k→zfn c (zaj c j) (en c q) (zcX c q))) (0) (by omega) ⟨by simp,Ext.refl w5_,fun j h1 h2=>by omega⟩ ?_
   rintro k m8 uu8 w6_ hk8 ⟨hu,hx6_,hinv⟩
   simp only [List.map_cons,List.map_nil,List.cons.injEq,and_true] at hu
   try rw [hu]
   try clear hu
   have hl31:((c.ins.take (zcX c q).toNat).drop (en c q).toNat).length=(zcX c q).toNat-(en c q).toNat:=by rw [List.length_drop,List.length_take];omega
   refine zah ?_
   refine br (fun c4=>?_) (fun c4=>?_)
   · refine zad u30 zaS h31 (by omega) fun b35 o35 h35=>?_
     refine zab zaS h35 (hx2_.trans (hx3_.trans (hx4_.trans (hx5_.trans hx6_)))) fun v36 h36=>?_
     rw [List.getElem_drop,List.getElem_take,zaG] at h36
     refine zce zfE rfl zaS rfl h36 (hx2_.trans (hx3_.trans (hx4_.trans (hx5_.trans hx6_)))) fun w7_ hx7_ hA7 hV7=>?_
     refine zbD hV1 (hx2_.trans (hx3_.trans (hx4_.trans (hx5_.trans (hx6_.trans hx7_))))) ?_
     refine zbD hV7 (Ext.refl w7_) ?_
     refine (zkx h0 (e0.trans (hx1_.trans (hx2_.trans (hx3_.trans (hx4_.trans (hx5_.trans (hx6_.trans hx7_))))))) h36 (hx2_.trans (hx3_.trans (hx4_.trans (hx5_.trans (hx6_.trans hx7_)))))).mono ?_
     rintro _ w8_ ⟨hx8_,rfl⟩
     refine zaA ?_
     refine br (fun c5=>?_) (fun c5=>?_)
     · refine ⟨(hx1_.trans (hx2_.trans (hx3_.trans (hx4_.trans (hx5_.trans (hx6_.trans (hx7_.trans hx8_))))))),?_⟩
       have:¬CodeR c:=fun h=>c5 ((zjL c1 c2).1 h q (by omega) _ (by omega) (by omega))
       simp only [this,decide_false]
     refine zag (by omega) ?_
     refine ⟨m8-1,by omega,k+1,by omega,by simp,(hx6_.trans (hx7_.trans hx8_)),?_⟩
     intro j h1 h2
     by_cases hj:j=(en c q).toNat+k
     · subst hj;exact Decidable.not_not.1 c5
     exact hinv j h1 (by omega)
   refine zag (by omega) ?_
   refine ⟨m4-1,by omega,q+1,by omega,by simp,(hx4_.trans (hx5_.trans hx6_)),?_⟩
   intro i hi j h1 h2
   by_cases hiq:i=q
   · subst hiq;exact hinv j h1 (by omega)
   exact hent i (by omega) j h1 h2
 refine ⟨(hx1_.trans (hx2_.trans (hx3_.trans hx4_))),?_⟩
 have:CodeR c:=(zjL c1 c2).2 fun i hi=>hent i (by omega)
 simp only [this,decide_true]
theorem CodeR.f {c:DCode} (h:CodeR c):EntF c:=h.2.1.f h.1.procs8.2
def F113 (a0 a1:Value) (w:World) (R:VW):Prop:=
 oP (Instr.box 32 a0) w fun x2 w=>
 rB .geq 3 T0 U0 a1 (iV 0) w fun x6=>
 BR x6
 (rF 32 x2 4 w fun x9=>
 rL 30 x9 w fun x10=>
 rN 30 3 x10 w fun x11=>
 rC a1 x11 w fun x12=>
 R x12 w)
 (R (Value.bool false) w)
def cfg113:Cfg:=⟨extL,[],[],[],[],[],[]⟩
theorem F113_call {a0 a1:Value} {w:World} {R:VW} (h:F113 a0 a1 w R):cL 113 [a0,a1] w R:=co (g:=cfg113) Tryz.func113 (by kernel_rfl) (by kernel_rfl) (by kernel_rfl) h
theorem zmh {w:World} {v0:Value} {W0:World} {c:DCode} {a:Int}  (h0:Is W0 v0 c) (e0:Ext W0 w)  :
   CALL Tryz.prog 113 [v0,.int .i64 a] w fun r w'=>Ext w w'∧(r=.bool (decide (0≤a∧a<c.ins.length))):=by
 refine F113_call ?_
 unfold F113
 refine zaB zbu rfl h0 e0 fun w1_ hx1_ hA2 hV2=>?_
 refine zci ?_
 refine br (fun c1=>?_) (fun c1=>?_)
 · refine zaa zaD ?_
   refine zab zco (zai hA2) (Ext.refl w1_) fun v10 h10=>?_
   have hln11:=zal h10
   refine zaf u30 h10 ?_
   refine zah ?_
   refine ⟨hx1_,?_⟩
   simp [c1]
 refine ⟨hx1_,?_⟩
 simp [c1]
def F157 (a0 a1:Value) (w:World) (R:VW):Prop:=
 oP (Instr.box 32 a0) w fun x2 w=>
 LOOPI [5] [(iV 0)] w fun u2 w next2=>
 rA (u2 5) (iV 1) w fun x7=>
 rF 32 x2 3 w fun x8=>
 rL 23 x8 w fun x9=>
 rN 23 3 x9 w fun x10=>
 rC x7 x10 w fun x11=>
 BR x11
 (rF 32 x2 3 w fun x13=>
 rL 23 x13 w fun x14=>
 rA (u2 5) (iV 1) w fun x16=>
 rX 23 x14 x16 w fun x17=>
 rL 3 x17 w fun x18=>
 rB .leq 3 T0 T0 x18 a1 w fun x20=>
 BR x20
 (rA (u2 5) (iV 1) w fun x23=>
 next2 [x23] w)
 (R (u2 5) w))
 (R (u2 5) w)
def cfg157:Cfg:=⟨extL,[],[(2,16777184,[5])],[],[],[],[]⟩
theorem F157_call {a0 a1:Value} {w:World} {R:VW} (h:F157 a0 a1 w R):cL 157 [a0,a1] w R:=co (g:=cfg157) Tryz.func157 (by kernel_rfl) (by kernel_rfl) (by kernel_rfl) h
theorem zjM {w:World} {v0:Value} {W0:World} {c:DCode} {a:Int}  (h0:Is W0 v0 c) (e0:Ext W0 w) (hc:CodeR c) (ha:0≤a) (ha2:a<c.ins.length) :
   CALL Tryz.prog 157 [v0,.int .i64 a] w fun r w'=>Ext w w'∧(r=.int .i64 (zar c a)):=by
 refine F157_call ?_
 unfold F157
 have hf:=hc.f
 have h8:=hc.1.procs8
 have hl:=hf.len
 refine zaB zbu rfl h0 e0 fun w1_ hx1_ hA2 hV2=>?_
 refine zas (c.entry.length-1) (fun k us w'=>us=[.int .i64 (k:Int)]∧Ext w1_ w'∧(en c k≤a)) (0) (by omega) ⟨by simp,Ext.refl w1_,by rw [hf.zero];exact ha⟩ ?_
 rintro k m2 uu2 w2_ hk2 ⟨hu,hx2_,hinv⟩
 simp only [List.map_cons,List.map_nil,List.cons.injEq,and_true] at hu
 try rw [hu]
 try clear hu
 refine zag (by omega) ?_
 refine zaa zaT ?_
 refine zab zb6 (zam hA2) hx2_ fun v9 h9=>?_
 have hln10:=zal h9
 refine zaf u23 h9 ?_
 refine zah ?_
 refine br (fun c1=>?_) (fun c1=>?_)
 · refine zaa zaT ?_
   refine zab zb6 (zam hA2) hx2_ fun v14 h14=>?_
   refine zag (by omega) ?_
   refine zad u23 ty3 h14 (by omega) fun b17 o17 h17=>?_
   refine zac ty3 h17 hx2_ fun hI18=>?_
   refine zcU ?_
   refine br (fun c2=>?_) (fun c2=>?_)
   · refine zag (by omega) ?_
     refine ⟨m2-1,by omega,k+1,by omega,by simp,hx2_,?_⟩
     rwa [za8] at c2
   refine ⟨(hx1_.trans hx2_),?_⟩
   rw [za8] at c2
   rw [hf.proc (i:=k) (by omega) hinv (by rw [hf.step (by omega)];omega)]
 refine ⟨(hx1_.trans hx2_),?_⟩
 rw [hf.proc (i:=k) (by omega) hinv (by rw [hf.last (by omega)];omega)]
def st (l:List Int) (i:Nat):Int:=l.getD i 0
def znp (c:DCode) (l:List Int):Prop:=l.length≤8∧(∀ i,i<l.length→0≤st l i∧st l i<c.ins.length) ∧
 ∀ i,i<l.length-1→(zaj c (st l i).toNat).op=4∧zar c (st l (i+1))=(zaj c (st l i).toNat).arg
instance (c:DCode) (l:List Int):Decidable (znp c l):=by unfold znp;infer_instance
def zlw (c:DCode) (s:DState):Prop:=s.vars.length=c.globals.length∧s.owner.length=c.locks.length∧(1≤s.stacks.length∧s.stacks.length≤6)∧(∀ v∈s.vars,0≤v∧v≤999) ∧
 (∀ o∈s.owner,-1≤o∧o<s.stacks.length)∧∀ l∈s.stacks,znp c l
instance (c:DCode) (s:DState):Decidable (zlw c s):=by unfold zlw;infer_instance
end Go.Proofs.YtifonhplnmpgaaaGreat
namespace Go.Sh
open Go.RowKit (Below)
open Rep (rep)
section
variable {P:Program} {w w0 w':World} {α β γ:Type} [Rep α] [Rep β]
def OwnS (S:List Nat) (w:World) (v:Value) (x:α):Prop:=∃ F,Mine F w v x∧∀ b∈F,b∈S
theorem Mine.toS {F:List Nat} {v:Value} {x:α} (h:Mine F w v x):OwnS F w v x:=⟨F,h,fun _ h=>h⟩
theorem OwnS.mono {S T:List Nat} {v:Value} {x:α} (h:OwnS S w v x) (hs:∀ b∈S,b∈T):OwnS T w v x:=by
 obtain ⟨F,hm,hF⟩:=h;exact ⟨F,hm,fun b hb=>hs b (hF b hb)⟩
theorem OwnS.is {S:List Nat} {v:Value} {x:α} (h:OwnS S w v x):Is w v x:=by obtain ⟨F,hm,_⟩:=h;exact hm.is
theorem OwnS.ext {S:List Nat} {v:Value} {x:α} (h:OwnS S w v x) (hx:Ext w w'):OwnS S w' v x:=by obtain ⟨F,hm,hF⟩:=h;exact ⟨F,hm.ext hx,hF⟩
theorem OwnS.chg {S T:List Nat} {v:Value} {x:α} (h:OwnS S w v x) (hc:Chg T w w') (hd:∀ b∈S,b∉T):OwnS S w' v x:=by
 obtain ⟨F,hm,hF⟩:=h;exact ⟨F,hm.keep fun b hb=>hc.block b (hm.lt b hb) (hd b (hF b hb)),hF⟩
theorem OwnS.toI {S:List Nat} {v:Value} {x:α} {lo hi:Nat} (h:OwnS S w v x) (hs:∀ b∈S,lo≤b∧b<hi):OwnI lo hi w v x:=by
 obtain ⟨F,hm,hF⟩:=h;exact ⟨F,hm,fun b hb=>hs b (hF b hb)⟩
theorem zeX {t e:TypeId} {by_:Nat} {F:List Nat} {v:Value} {l:List α} {k:Nat} {K:Value→Prop} (ht:P.underlying t=some (.slice e)) (he:tyI P e=some (Rep.size α,by_,Rep.agg α)) (hm:Mine F w v l) (hk:k<l.length)
   (kk:∀ b o G,Lens (MH v) F w b o G l[k] (fun y=>l.set k y)→K (.pointer (some ⟨b,o,none⟩))):RD P (Instr.indexAt t v (.int .i64 (k:Int))) w K:=by
 obtain ⟨b,a,cap,G,hv,hL⟩:=zqT hm hk
 refine za4 (v:=.pointer (some ⟨b,a+k*Rep.size α,none⟩)) (fun w' _=>?_) (kk _ _ _ hL)
 rw [hv,zcE ht he (by omega) (by omega)];simp
theorem zhn {ft by_ b o:Nat} {H:List Nat→World→γ→Prop} {F G:List Nat} {l:List β} {upd:List β→γ} {K:Value→Prop} (hft:tyI P ft=some (1,by_,false)) (hL:Lens H F w b o G l upd)
   (k:∀ u,Mine G w u l→(∀ c∈G,c∈F)→(∀ w' G' l',Chg G w w'→Mine G' w' u l'→(∀ c∈G',c∈G∨c∉F)→∃ F',H F' w' (upd l')∧∀ c∈F',c∈F∨c∈G')→K u) :
   RD P (Instr.loadAt ft (.pointer (some ⟨b,o,none⟩))) w K:=by
 obtain ⟨u,hM,hr,hG,hb⟩:=hL.row
 refine za4 (fun w' hx'=>?_) (k u hM hG hb)
 have h0:w'.cell? ⟨b,o,none⟩=some u:=by simpa using (zbp hr hx') 0 u rfl
 have hA:=zck hft w'
 simp [Instr.loadAt,Instr.sureAddr,loadVar,hA,h0]
theorem zaC {ft by_ g e o:Nat} {cs:List Value} {v:Value} {K:Value→Prop} (hft:tyI P ft=some (1,by_,false)) (hB:Blk g e w cs) (ho:cs[o]?=some v) (k:K v) :
   RD P (Instr.loadAt ft (.pointer (some ⟨g,o,none⟩))) w K:=by
 refine za4 (fun w' hx'=>?_) k
 have h0:w'.cell? ⟨g,o,none⟩=some v:=by simpa using (zbp hB.range hx') o v ho
 have hA:=zck hft w'
 simp [Instr.loadAt,Instr.sureAddr,loadVar,hA,h0]
theorem zky {t:TypeId} {cs:Array Value} {K:Value→World→Prop} (k:∀ w',Ext w w'→Blk w.heap.size t w' cs.toList→K (.pointer (some ⟨w.heap.size,0,none⟩)) w'):OP P (Instr.box t (.agg cs)) w K:=
 ⟨_,w.alloc (.cells cs t),by simp [Instr.box,newVar,newRow,Value.cells],k _ (zaX w _) (by unfold Blk;rw [heap_alloc_new w _])⟩
theorem zeI {t by_ b o:Nat} {F G:List Nat} {v:Value} {y y':β} {upd:β→α} {u:Value} {K:World→Prop} (ht:tyI P t=some (Rep.size β,by_,Rep.agg β)) (h:Lens (MH v) F w b o G y upd)
   (hu:Mine [] w u y') (k:∀ w' F',Chg F w w'→Mine F' w' v (upd y')→(∀ c∈F',c∈F)→K w'):OPU P (Instr.storeAt t (.pointer (some ⟨b,o,none⟩)) u) w K:=
 zoB ht h hu (by simp) fun w' hc ⟨F',h1,h2⟩=>k w' F' hc h1 fun c hc=>by
   rcases h2 c hc with h | h
   · exact h
   simp at h
theorem za7 {x:Int} (h:I64 x):Mine [] w (.int .i64 x) x:=⟨⟨_,⟨rfl,rfl,h⟩,rfl⟩,List.nodup_nil,Wr.nil w⟩
theorem ziK {x:ByteArray} (h:x.size≤maxLen):Mine [] w (.string x) x:=⟨⟨_,⟨rfl,rfl,h⟩,rfl⟩,List.nodup_nil,Wr.nil w⟩
theorem mine_bool {x:Bool}:Mine [] w (.bool x) x:=⟨⟨_,⟨rfl,rfl⟩,rfl⟩,List.nodup_nil,Wr.nil w⟩
theorem Chg.sub {F G:List Nat} {a b c:World} (h:Chg F a b) (k:Chg G b c) (hs:∀ x∈G,x∈F):Chg F a c:=h.trans (k.mono hs)
theorem zqX {ts:Array TypeId} {ty:TypeId} {a b:Int} {K:Value→Prop} (k:K (.int .i64 (max a b))):RD P (Builtin.max_ ts ty [Value.int .i64 a,Value.int .i64 b].toArray) w K:=by
 refine za4 (fun w' _=>?_) k
 have:(if b>a then b else a)=max a b:=by split<;>omega
 simp only [Builtin.max_,List.toList_toArray,List.foldlM_cons,List.foldlM_nil,Builtin.max2,this]
 rfl
theorem zqY {ts:Array TypeId} {ty:TypeId} {a b:Int} {K:Value→Prop} (k:K (.int .i64 (min a b))):RD P (Builtin.min_ ts ty [Value.int .i64 a,Value.int .i64 b].toArray) w K:=by
 refine za4 (fun w' _=>?_) k
 have:(if b<a then b else a)=min a b:=by split<;>omega
 simp only [Builtin.min_,List.toList_toArray,List.foldlM_cons,List.foldlM_nil,Builtin.min2,this]
 rfl
theorem zdj {F:List Nat} {cs:List Value} {l:List β} (hr:rep F w cs l) (hn:F.Nodup) (hw:Wr F w):∃ u,cs=[u]∧Mine F w u l:=by
 have h:=hr
 obtain ⟨a,cap,Fi,xs,rfl,_⟩:=h
 exact ⟨_,rfl,⟨_,hr,rfl⟩,hn,hw⟩
theorem ze9 {t e ft i off by_ by2:Nat} {F:List Nat} {v u:Value} {l:List α} {k:Nat} {y':β} {sel:α→β} {g:α→β→α} {K:World→Prop} (ht:P.underlying t=some (.slice e)) (he:tyI P e=some (Rep.size α,by_,Rep.agg α)) (hf:zcV P e i=some off) (hft:tyI P ft=some (Rep.size β,by2,Rep.agg β))
   (L:∀ {a:α} {G:List Nat} {b o:Nat} {upd:α→List α},Lens (MH v) F w b o G a upd→∃ G1,Lens (MH v) F w b (o+off) G1 (sel a) (fun y=>upd (g a y))) (hm:Mine F w v l) (hk:k<l.length) (hu:Mine [] w u y')
   (kk:∀ w' F',Chg F w w'→Mine F' w' v (l.set k (g l[k] y'))→(∀ c∈F',c∈F)→K w') :
   RD P (Instr.indexAt t v (.int .i64 (k:Int))) w fun p=>RD P (Instr.fieldAt e p i) w fun q=>OPU P (Instr.storeAt ft q u) w K:=by
 refine zeX ht he hm hk fun b o G hL=>?_
 refine zaa hf ?_
 obtain ⟨G1,hL1⟩:=L hL
 exact zeI (upd:=fun y=>l.set k (g l[k] y)) hft hL1 hu kk
theorem zkz {t e e2 ft i j off off2 by_ by2:Nat} {F:List Nat} {v u:Value} {l:List α} {k:Nat} {y':β} {sel:α→β} {g:α→β→α} {K:World→Prop} (ht:P.underlying t=some (.slice e)) (he:tyI P e=some (Rep.size α,by_,Rep.agg α)) (hf:zcV P e i=some off) (hf2:zcV P e2 j=some off2) (hft:tyI P ft=some (Rep.size β,by2,Rep.agg β))
   (L:∀ {a:α} {G:List Nat} {b o:Nat} {upd:α→List α},Lens (MH v) F w b o G a upd→∃ G1,Lens (MH v) F w b (o+off+off2) G1 (sel a) (fun y=>upd (g a y))) (hm:Mine F w v l) (hk:k<l.length) (hu:Mine [] w u y')
   (kk:∀ w' F',Chg F w w'→Mine F' w' v (l.set k (g l[k] y'))→(∀ c∈F',c∈F)→K w') :
   RD P (Instr.indexAt t v (.int .i64 (k:Int))) w fun p=>RD P (Instr.fieldAt e p i) w fun q=>RD P (Instr.fieldAt e2 q j) w fun q=>OPU P (Instr.storeAt ft q u) w K:=by
 refine zeX ht he hm hk fun b o G hL=>?_
 refine zaa hf ?_
 refine zaa hf2 ?_
 obtain ⟨G1,hL1⟩:=L hL
 exact zeI (upd:=fun y=>l.set k (g l[k] y)) hft hL1 hu kk
def RestL (i:Nat) (cur l:List α):Prop:=cur.length=l.length∧∀ j,i≤j→cur[j]?=l[j]?
theorem RestL.set {i:Nat} {cur l:List α} (h:RestL i cur l) (x:α):RestL (i+1) (cur.set i x) l:=
 ⟨by rw [List.length_set];exact h.1,fun j hj=>by rw [List.getElem?_set_ne (by omega)];exact h.2 j (by omega)⟩
theorem RestL.set1 {i:Nat} {cur l:List α} (h:RestL (i+1) cur l) (x:α):RestL (i+1) (cur.set i x) l:=
 ⟨by rw [List.length_set];exact h.1,fun j hj=>by rw [List.getElem?_set_ne (by omega)];exact h.2 j (by omega)⟩
theorem RestL.get {i:Nat} {cur l:List α} (h:RestL i cur l) (hi:i<l.length):cur[i]'(by rw [h.1];exact hi)=l[i]:=by
 have:=h.2 i (Nat.le_refl _)
 rw [List.getElem?_eq_getElem (by rw [h.1];exact hi),List.getElem?_eq_getElem hi] at this
 exact Option.some.inj this
def KeepF {γ:Type} (f:α→γ) (i:Nat) (cur l:List α):Prop:=RestL (i+1) cur l∧∃ (h:i<cur.length) (h':i<l.length),f cur[i]=f l[i]
theorem RestL.keepF {γ:Type} {f:α→γ} {i:Nat} {cur l:List α} (h:RestL i cur l) (hi:i<l.length):KeepF f i cur l:=
 ⟨⟨h.1,fun j hj=>h.2 j (by omega)⟩,by rw [h.1];exact hi,hi,by rw [h.get hi]⟩
theorem KeepF.set {γ:Type} {f:α→γ} {i:Nat} {cur l:List α} (h:KeepF f i cur l) {x:α} (hx:∀ h:i<cur.length,f x=f cur[i]):KeepF f i (cur.set i x) l:=by
 obtain ⟨h1,h2,h3,h4⟩:=h
 exact ⟨h1.set1 x,by rw [List.length_set];exact h2,h3,by rw [List.getElem_set_self,hx h2,h4]⟩
theorem Mine.chgD {α:Type} [Rep α] {F G:List Nat} {w w':World} {v:Value} {x:α} (h:Mine F w v x) (hc:Chg G w w') (hd:∀ b∈F,b∉G):Mine F w' v x:=h.keep fun b hb=>hc.block b (h.lt b hb) (hd b hb)
theorem zcI {F G:List Nat} (h:(F++G).Nodup):F.Nodup∧G.Nodup∧∀ a∈F,a∉G:=by
 rw [List.nodup_append] at h
 exact ⟨h.1,h.2.1,fun a ha hb=>h.2.2 a ha a hb rfl⟩
theorem Var.chgI {t g a b:Nat} {v:Value} (h:Var P t w g v) (hc:ChgI a b w w') (hd:g<a∨b≤g):Var P t w' g v:=h.keep (hc.block g h.lt hd)
end
end Go.Sh
namespace Go.Proofs.YtifonhplnmpgaaaGreat
open Go Go.Sh Go.Proofs
open Rep (rep)
def zpz (s:DState):Prop:=∀ x∈s.stacks,x=[]
instance (s:DState):Decidable (zpz s):=inferInstanceAs (Decidable (∀ x∈s.stacks,x=[]))
def ow (s:DState) (i:Int):Int:=s.owner.getD i.toNat 0
def stk (s:DState) (t:Int):List Int:=s.stacks.getD t.toNat []
def atI (c:DCode) (s:DState) (t:Int):DIns:=zaj c (zqU s t).toNat
theorem zfO {c:DCode} (hc:CodeR c) {j:Nat} (hj:j<c.ins.length):zfn c (zaj c j) (en c (zar c j).toNat) (zd9 c (zar c j)+1):=hc.2.2 j hj
theorem zoN {c:DCode} (hc:CodeR c) {j:Nat} (hj:j<c.ins.length) (h:(zaj c j).op=6∨(zaj c j).op=7):0≤(zaj c j).arg∧(zaj c j).arg<c.locks.length:=by
 have:=(zfO hc hj).2.1
 unfold zbR at this
 rwa [if_neg (by omega),if_neg (by omega),if_pos h] at this
theorem NamesR.locks6 {c:DCode} (h:NamesR c):c.locks.length≤6:=by
 have h1:=h.2.1
 simp only [Bool.and_eq_true,decide_eq_true_eq] at h1
 omega
def GoR (c:DCode) (s:DState) (t:Int):Prop:=0≤zqU s t∧((atI c s t).op=6→ow s (atI c s t).arg=-1)∧((atI c s t).op=4→((stk s t).length:Int)<8)
instance (c:DCode) (s:DState) (t:Int):Decidable (GoR c s t):=by unfold GoR;infer_instance
def zgc (c:DCode) (s:DState) (t:Int):Int:=if 0≤zqU s t∧(atI c s t).op=6∧0≤ow s (atI c s t).arg then (atI c s t).arg else -1
def zkA (c:DCode) (s:DState):Nat→List Int
 | 0=>[]
 | k+1=>if GoR c s k then zkA c s k++[(k:Int)] else zkA c s k
def zqZ (c:DCode) (s:DState):List Int:=zkA c s s.stacks.length
def zjN (c:DCode) (s:DState):Prop:=(CodeR c∧zlw c s)∧¬zpz s∧zqZ c s=[]
instance (c:DCode) (s:DState):Decidable (zjN c s):=by unfold zjN;infer_instance
end Go.Proofs.YtifonhplnmpgaaaGreat
namespace Go.Sh
open Rep (rep)
section
variable {P:Program} {w w0:World} {α:Type} [Rep α]
theorem zjO [RepZ α] {z:Value} (hz:RepZ.zc α=[z]) (w:World):∀ n,Cells [] w (List.replicate n z) (List.replicate n (RepZ.zv:α))
 | 0=>⟨rfl,rfl⟩
 | n+1=>⟨[],[],[z],List.replicate n z,rfl,rfl,hz▸RepZ.zr w,zjO hz w n⟩
theorem zoO (z:Value) (n:Nat):(madeCells #[z] n).toList=List.replicate n z:=by
 apply List.ext_getElem
 · simp [madeCells]
 intro i h1 h2
 simp [madeCells,Nat.mod_one]
theorem ziL [RepZ α] {t e:TypeId} {by_:Nat} {z:Value} {K:Value→World→Prop} {n:Nat} (ht:P.underlying t=some (.slice e)) (he:tyI P e=some (Rep.size α,by_,Rep.agg α)) (h1:Rep.size α=1) (hzc:RepZ.zc α=[z]) (hz:zcQ P e=some [z])
   (hb:by_*n≤281474976710656) (hm:n≤9223372036854775807)
   (k:∀ w',Ext w w'→RowI w.heap.size w'.heap.size e w' (.slice (some ⟨w.heap.size,0,none⟩) n n) (List.replicate n (RepZ.zv:α))→K (.slice (some ⟨w.heap.size,0,none⟩) n n) w') :
   OP P (Instr.makeSlice t (.int .i64 (n:Int)) (.int .i64 (n:Int))) w K:=by
 obtain ⟨i,d,hi,hd,hs,hby,hg⟩:=zcj he
 unfold zcQ at hz
 rw [hi] at hz
 obtain ⟨zz,hzz,hcz⟩:=Option.map_eq_some_iff.1 hz
 have hb':(i.bytes:Int)*(n:Int)≤281474976710656:=by
   have h:((i.bytes*n:Nat):Int)≤281474976710656:=by rw [hby];omega
   rwa [Int.natCast_mul] at h
 have hr:=run_make (P:=P) w t e i zz ht hi hzz .i64 .i64 n n (by omega) (Int.le_refl _) hb' (by omega)
 simp only [Int.toNat_natCast] at hr
 have hcells:zz.cells=#[z]:=by apply Array.ext';simpa using hcz
 have hlen:n*i.size=n:=by rw [hs,h1,Nat.mul_one]
 rw [hcells,hlen] at hr
 refine ⟨_,_,hr,k _ (zaX w _) (.inr ⟨[w.heap.size],⟨List.replicate n z,[],⟨?_,.inr ⟨w.heap.size,n,madeCells #[z] n,?_,Nat.zero_le _,heap_alloc_new w _,by simp,by rw [zao];omega,?_,?_⟩⟩,zjO hzc _ n,rfl,Wr.nil _⟩,by simp,?_⟩)⟩
 · simp [h1]
 · simp
 · rw [h1];simp [madeCells]
 · rw [zoO,List.length_replicate,h1,Nat.mul_one,List.take_of_length_le (by simp)]
 intro b hb
 simp only [List.mem_cons,List.not_mem_nil,or_false] at hb
 subst hb
 exact ⟨Nat.le_refl _,(Array.getElem?_eq_some_iff.1 (heap_alloc_new w _)).1⟩
theorem zcB {K:Value→Prop} {t:TypeId} {parts:Array (Nat×Value)} {cells:Array Value} (h:P.built t parts.toList=some cells) (k:K (.agg cells)):RD P (Instr.build t parts) w K:=
 za4 (fun w' _=>run_build w' t parts cells h) k
theorem zc1 {t by_ g e o:Nat} {cs:List Value} {u:Value} {lo hi:Nat} {x:α} {K:World→Prop} (ht:tyI P t=some (1,by_,false)) (h1:Rep.size α=1) (ha:Rep.agg α=false) (hB:Blk g e w cs) (ho:o<cs.length) (hu:OwnI lo hi w u x)
   (k:∀ w',ChgI g (g+1) w w'→Blk g e w' (cs.set o u)→K w'):OPU P (Instr.storeAt t (.pointer (some ⟨g,o,none⟩)) u) w K:=by
 obtain ⟨F,⟨⟨cs',hr,hv⟩,_⟩,_⟩:=hu
 have hl':=Rep.len hr
 rw [h1] at hl'
 obtain ⟨c,rfl⟩:=List.length_eq_one_iff.1 hl'
 have huc:u=c:=by simpa [mkv,ha] using hv
 subst huc
 refine zpX (by rw [h1,ha];exact ht) hB hr hv (by omega) fun w' hc hB'=>k w' (hc.toI (by simp)) ?_
 have:cs.set o u=cs.take o++[u]++cs.drop (o+1):=by
   rw [List.set_eq_take_append_cons_drop,if_pos ho];simp
 rw [this];exact hB'
theorem Blk.chgI {g e a b:Nat} {w':World} {cs:List Value} (h:Blk g e w cs) (hc:ChgI a b w w') (hd:g<a∨b≤g):Blk g e w' cs:=h.keep (hc.block g h.lt hd)
end
end Go.Sh
namespace Go.Sh
open Rep (rep)
def RowG {α:Type} [Rep α] (F:List Nat) (e:TypeId) (w:World) (v:Value) (l:List α):Prop:=(∃ a,v=.slice a 0 0∧l=[]∧F=[])∨RowF F e w v l
section
variable {P:Program} {w w0 w':World} {α β γ:Type} [Rep α] [Rep β] {e lo hi:Nat} {v:Value} {l:List α} {F:List Nat}
theorem RowG.lt (h:RowG F e w v l):∀ b∈F,b<w.heap.size:=by
 rcases h with ⟨a,_,_,rfl⟩ | h
 · simp
 exact h.lt
theorem RowG.keep (h:RowG F e w v l) (hk:∀ b∈F,w'.heap[b]?=w.heap[b]?):RowG F e w' v l:=by
 rcases h with h | h
 · exact .inl h
 exact .inr (h.keep hk)
theorem RowG.own (h:RowG F e w v l):OwnF F w v l:=by
 rcases h with ⟨a,rfl,rfl,rfl⟩ | h
 · exact ⟨_,⟨a,0,[],[],rfl,Nat.le_refl _,Nat.zero_le _,⟨rfl,rfl⟩,.inl ⟨rfl,rfl⟩⟩,rfl⟩
 exact h.own
theorem RowG.wr (h:RowG F e w v l):Wr F w:=by
 rcases h with ⟨a,_,_,rfl⟩ | h
 · exact Wr.nil w
 exact h.wr
theorem RowG.one (h:RowG F e w v l):v.oneCell'=true:=by
 obtain ⟨cs,⟨a,cap,Fi,xs,rfl,_⟩,rfl⟩:=h.own
 rfl
theorem zgJ:RowI lo hi e w v l↔∃ F,RowG F e w v l∧F.Nodup∧∀ b∈F,lo≤b∧b<hi:=by
 constructor
 · rintro (⟨a,h1,h2⟩ | ⟨F,h1,h2,h3⟩)
   · exact ⟨[],.inl ⟨a,h1,h2,rfl⟩,List.nodup_nil,by simp⟩
   exact ⟨F,.inr h1,h2,h3⟩
 rintro ⟨F,(⟨a,h1,h2,_⟩ | h1),h2',h3⟩
 · exact .inl ⟨a,h1,h2⟩
 exact .inr ⟨F,h1,h2',h3⟩
end
structure RV (α:Type) (e:TypeId) where
 v:Value
 l:List α
instance {α:Type} [Rep α] {e:TypeId}:Rep (RV α e) where
 size:=1
 agg:=false
 rep F w cs x:=cs=[x.v]∧RowG F e w x.v x.l
 pos:=by decide
 sz _:=rfl
 len:=by rintro _ _ _ _ ⟨rfl,_⟩;rfl
 one:=by rintro _ _ _ _ ⟨rfl,h⟩ v hv;simp at hv;subst hv;exact h.one
 keep:=by rintro _ _ _ _ _ ⟨rfl,h⟩ hk;exact ⟨rfl,h.keep hk⟩
 lt:=by rintro _ _ _ _ ⟨rfl,h⟩;exact h.lt
section
variable {P:Program} {w w0 w':World} {α β γ:Type} [Rep α] [Rep β] {e lo hi:Nat} {v:Value} {l:List α} {F:List Nat}
instance:RepZ (RV α e):=⟨⟨.slice none 0 0,[]⟩,[.slice none 0 0],fun _=>⟨rfl,.inl ⟨none,rfl,rfl,rfl⟩⟩⟩
end
end Go.Sh
namespace Go.Sh
open Rep (rep)
abbrev RInts:=RV Int 3
abbrev RIntss:=RV RInts 23
structure DStV where
 vars:List Int
 owner:List Int
 stacks:RIntss
theorem DStV.ext_iff {x y:DStV}:x=y↔(x.vars=y.vars∧x.owner=y.owner∧x.stacks=y.stacks):=⟨fun h=>by rw [h];exact ⟨rfl,rfl,rfl⟩,fun h=>by obtain ⟨h0,h1,h2⟩:=h;cases x;cases y;simp only at h0 h1 h2;simp only [h0,h1,h2]⟩
instance:Rep DStV:=Rep.via fun x=>(x.vars,x.owner,x.stacks)
instance:RepZ DStV:=⟨⟨(RepZ.zv:List Int),(RepZ.zv:List Int),(RepZ.zv:RIntss)⟩,RepZ.zc ((List Int)×(List Int)×RIntss),fun w=>RepZ.zr (α:=(List Int)×(List Int)×RIntss) w⟩
section
variable {w:World}
end
end Go.Sh
namespace Go.Proofs.YtifonhplnmpgaaaGreat
open Go Go.Sh Go.Proofs
open Rep (rep)
end Go.Proofs.YtifonhplnmpgaaaGreat
namespace Go.Sh
open Rep (rep)
structure Raw where
 v:Value
instance:Rep Raw where
 size:=1
 agg:=false
 rep F _ cs x:=F=[]∧cs=[x.v]∧x.v.oneCell'=true
 pos:=by decide
 sz _:=rfl
 len:=by rintro _ _ _ _ ⟨_,rfl,_⟩;rfl
 one:=by rintro _ _ _ _ ⟨_,rfl,h⟩ v hv;simp at hv;subst hv;exact h
 keep:=by rintro _ _ _ _ _ h _;exact h
 lt:=by rintro _ _ _ _ ⟨rfl,_⟩ b hb;cases hb
section
variable {P:Program} {w w0 w' w1:World} {α β γ:Type} [Rep α] [Rep β] {e lo hi:Nat} {v:Value} {F G S:List Nat} {b o g:Nat}
theorem ChgAt.ext_left {n:Nat} (hx:Ext w w1) (h:ChgAt b o n G w1 w'):ChgAt b o n G w w':=
 ⟨(hx.chg _).trans h.chg,fun c e hc=>h.cell c e (by rw [hx.heap (Array.getElem?_eq_some_iff.1 hc).1];exact hc)⟩
theorem OAt.ext {x:α} (h:OAt G w b o x) (hx:Ext w w1):OAt G w1 b o x:=h.keep fun c hc=>hx.heap (h.lts c hc)
theorem Lens.ext {H:List Nat→World→γ→Prop} {y:β} {upd:β→γ} (h:Lens H S w b o G y upd) (hx:Ext w w1):Lens H S w1 b o G y upd:=
 ⟨h.here.ext hx,h.sub,fun w' G' y' hch hO hs=>h.back w' G' y' (hch.ext_left hx) hO hs⟩
theorem VarI.mono {lo' hi':Nat} {x:α} (h:VarI lo hi w g x) (h1:lo'≤lo) (h2:hi≤hi'):VarI lo' hi' w g x:=by
 obtain ⟨F,h,hF⟩:=h;exact ⟨F,h,fun b hb=>by have:=hF b hb;omega⟩
theorem zgK {t ty:TypeId} {by_:Nat} {u:Value} {x:β} {l:List β} {GX:List Nat} {K:World→Value→World→Prop} {C:Value→World→Prop} (ht:P.underlying t=some (.slice e)) (he:tyI P e=some (Rep.size β,by_,Rep.agg β)) (hz:zbJ P e=true)
   (hzc:(P.info? e).map (fun i=>(i.zero.map (·.cells.size)))=some (some (Rep.size β))) (hsz:Rep.size β≤1000) (hv:RowG G e w v l) (hn:G.Nodup) (hx:Mine GX w u x) (hd:∀ c∈GX,c∉G) (hm:l.length+1≤maxLen) (hb:(l.length+1)*by_≤140737488355328)
   (k:∀ w1 v' w' G',Ext w w1→Chg G w1 w'→RowG G' e w' v' (l++[x])→G'.Nodup→(∀ c∈G',c∈G∨c∈GX∨w.heap.size≤c)→K w1 v' w')
   (hC:∀ s w1,Ext w w1→OP P (Builtin.append_ #[t,t] ty [v,s].toArray) w1 (K w1)→C s w1):OP P (Instr.buildSlice t 1 #[(0,u)]) w C:=by
 refine zfJ ht he hz hsz hx fun w1 hx1 hm1=>?_
 obtain ⟨⟨cs,⟨a,cap,Fi,xs,rfl,h1,h2,hc,h4⟩,hveq⟩,hn1,hw1⟩:=hm1
 simp only [mkv,Rep.agg,cond_false,List.headD_cons,Value.slice.injEq,List.length_cons,List.length_nil] at hveq
 obtain ⟨rfl,_,rfl⟩:=hveq
 rcases h4 with ⟨h4,_⟩ | ⟨b,o,hab,hFe,hra,hbl⟩
 · simp at h4
 simp only [List.cons.injEq] at hFe
 obtain ⟨_,rfl⟩:=hFe
 refine hC _ w1 hx1 ?_
 have key:∀ (v:Value) (F:List Nat),RowF F e w v l→F.Nodup→(∀ c∈F,c∈G)→OP P (Builtin.append_ #[t,t] ty [v,.slice (some ⟨w.heap.size,0,none⟩) 1 1].toArray) w1 (K w1):=by
   intro v F hF hFn hFG
   have hF1:=hF.ext hx1
   have hdd:(GX++F).Nodup:=by
     rw [List.nodup_append]
     exact ⟨hx.nodup,hFn,fun p hp q hq e=>hd p hp (hFG _ (e▸hq))⟩
   refine zfD (m:=[x]) ht he hzc hF1 hFn rfl hc (.inr ⟨b,o,hab,hra⟩) (hw1.sub (by simp +contextual)) hdd (by simpa using hm) (by simpa using hb) fun v' w' F' hch hfull hr' hn' hs'=>?_
   have hown:∀ c∈v.ownBlock.toList,c∈G:=fun c hc=>by
     obtain ⟨xs,Fi,_,_,rfl,_⟩:=hF
     exact hFG c (by simp only [List.mem_append];exact .inl hc)
   refine k w1 v' w' F' hx1 (hch.mono hown) (.inr hr') hn' fun c hc=>?_
   rcases hs' c hc with h | h | h
   · exact .inl (hFG c h)
   · exact .inr (.inl h)
   exact .inr (.inr (Nat.le_trans hx1.size h))
 rcases hv with ⟨a0,rfl,rfl,rfl⟩ | hF
 · have kn:=key (.slice none 0 0) [] (zhc e w) List.nodup_nil (by simp)
   cases a0 with
   | none=>exact kn
   | some x0=>
     simp only [Option.some.injEq,Addr.mk.injEq] at hab
     obtain ⟨rfl,rfl,_⟩:=hab
     exact ziv (zfi (α:=β) (n:=1) ht he hzc (by simpa using Cells.len hc) hra (by omega) (by rw [zao];omega) (by simpa using hb)) kn
 exact key v G hF hn (fun _ h=>h)
theorem zbP [Flat β] {t:TypeId} {by_:Nat} {u:Value} {x:β} {K:Value→World→Prop} (ht:P.underlying t=some (.slice e)) (he:tyI P e=some (Rep.size β,by_,Rep.agg β)) (hz:zbJ P e=true) (hsz:Rep.size β≤1000) (hx:Mine [] w u x)
   (k:∀ v w',Ext w w'→RowI w.heap.size w'.heap.size e w' v [x]→K v w'):OP P (Instr.buildSlice t 1 #[(0,u)]) w K:=by
 obtain ⟨⟨cs,hr,rfl⟩,hn,hw⟩:=hx
 have hcl:=zey hr
 have hlen:=Rep.len hr
 have hvs:(mkv β cs).cells.size=Rep.size β:=by rw [←Array.length_toList,hcl,hlen]
 obtain ⟨i,d,hi,hd,hs,hby,hg⟩:=zcj he
 unfold zbJ at hz
 rw [hi] at hz
 obtain ⟨z,hz⟩:=Option.isSome_iff_exists.1 hz
 have hpos:=Rep.pos (α:=β)
 refine ⟨_,w.alloc (.cells (mkv β cs).cells e),?_,k (.slice (some ⟨w.heap.size,0,none⟩) 1 1) _ (zaX w _) (.inr ⟨[w.heap.size],⟨cs,[],⟨by simp [hlen],.inr ⟨w.heap.size,1,(mkv β cs).cells,rfl,Nat.zero_le _,heap_alloc_new w _,Nat.le_refl _,by rw [zao];omega,by rw [hvs,Nat.one_mul],?_⟩⟩,Cells.single (zb4 hr (zaX w _)),rfl,Wr.nil _⟩,by simp,?_⟩)⟩
 · have hne:¬Rep.size β=0:=by omega
   have h24:¬2^24<Rep.size β:=by omega
   simp only [Instr.buildSlice,Sem.run_bind,run_underlying ht,Result.andThen_ok,zaO he,Nat.one_mul]
   simp [h24,hne,zeroValue,typeInfo,hi,hz,zls _ _ _ hvs,newRow]
 · rw [hcl,List.length_singleton,Nat.one_mul,List.take_of_length_le (by omega)]
 intro b hb
 simp only [List.mem_cons,List.not_mem_nil,or_false] at hb
 subst hb
 exact ⟨Nat.le_refl _,(Array.getElem?_eq_some_iff.1 (heap_alloc_new w _)).1⟩
end
end Go.Sh
namespace Go.Proofs.YtifonhplnmpgaaaGreat
open Go Go.Sh Go.Proofs
open Rep (rep)
theorem zp5 {c:DCode} (hc:CodeR c):0≤plc zhM c.procs∧(plc zhM c.procs).toNat<c.entry.length:=by
 have h1:=zeE.2 hc.1.2.2.2.2.2.2
 have h2:=zqV (s:=zhM) (l:=c.procs)
 have h3:=hc.2.1.1
 omega
def F211 (a0:Value) (w:World) (R:VW):Prop:=
 oP (Instr.box 32 a0) w fun x1 w=>
 rF 32 x1 2 w fun x3=>
 rL 22 x3 w fun x4=>
 cL 123 [x4,(Value.string (ByteArray.mk #[109,97,105,110]))] w fun x5 w=>
 R x5 w
def cfg211:Cfg:=⟨extL,[],[],[],[],[],[]⟩
theorem F211_call {a0:Value} {w:World} {R:VW} (h:F211 a0 w R):cL 211 [a0] w R:=co (g:=cfg211) Tryz.func211 (by kernel_rfl) (by kernel_rfl) (by kernel_rfl) h
theorem zeY {w:World} {v0:Value} {W0:World} {c:DCode}  (h0:Is W0 v0 c) (e0:Ext W0 w)  :
   CALL Tryz.prog 211 [v0] w fun r w'=>Ext w w'∧(r=.int .i64 (plc zhM c.procs)):=by
 refine F211_call ?_
 unfold F211
 refine zaB zbu rfl h0 e0 fun w1_ hx1_ hA1 hV1=>?_
 refine zaa za1 ?_
 refine zab zbN (zap hA1) (Ext.refl w1_) fun v4 h4=>?_
 refine (zcA h4 (Ext.refl w1_)).mono ?_
 rintro _ w2_ ⟨hx2_,rfl⟩
 refine ⟨(hx1_.trans hx2_),?_⟩
 rfl
theorem zfp {α:Type} {l:List α} {i:Nat} {x y:α} (h:y∈l.set i x):y=x∨y∈l:=by
 rcases List.mem_or_eq_of_mem_set h with h | h
 · exact .inr h
 exact .inl h
theorem znq {c:DCode} (hc:CodeR c) {a:Int} (h0:0≤a) (h1:a<c.ins.length) (ho:(zaj c a.toNat).op≠9):a+1<c.ins.length∧zar c (a+1)=zar c a:=by
 obtain ⟨i,hi,h2,h3,h4⟩:=hc.f.find hc.1.procs8.2 h0 h1
 have h5:=(hc.2.1.2.2.2 a.toNat (by omega))
 rw [Int.toNat_of_nonneg h0,h4,zdr] at h5
 have h6:zcX c i-1≠a:=fun e=>ho (h5.2 e)
 have h7:=(hc.f.lt i hi).2
 exact ⟨by omega,by rw [h4];exact hc.f.proc hi (by omega) (by omega)⟩
theorem zkB {c:DCode} (hc:CodeR c) {a:Int} (h0:0≤a) (h1:a<c.ins.length) (ho:(zaj c a.toNat).op=2∨(zaj c a.toNat).op=3) :
   0≤(zaj c a.toNat).to∧(zaj c a.toNat).to<c.ins.length∧zar c (zaj c a.toNat).to=zar c a:=by
 obtain ⟨i,hi,h2,h3,h4⟩:=hc.f.find hc.1.procs8.2 h0 h1
 have h5:=(zfO hc (j:=a.toNat) (by omega)).2.2.2
 rw [if_pos ho,Int.toNat_of_nonneg h0,h4,zdr,Int.toNat_natCast] at h5
 have h6:=hc.f.nonneg hi
 have h7:=(hc.f.lt i hi).2
 exact ⟨by omega,by omega,by rw [h4];exact hc.f.proc hi h5.1 (by omega)⟩
theorem znr {c:DCode} (hc:CodeR c) {i:Nat} (hi:i<c.entry.length):0≤en c i∧en c i<c.ins.length∧zar c (en c i)=i:=by
 have h6:=hc.f.nonneg hi
 have h7:=hc.f.lt i hi
 exact ⟨h6,by omega,hc.f.proc hi (Int.le_refl _) h7.1⟩
end Go.Proofs.YtifonhplnmpgaaaGreat
