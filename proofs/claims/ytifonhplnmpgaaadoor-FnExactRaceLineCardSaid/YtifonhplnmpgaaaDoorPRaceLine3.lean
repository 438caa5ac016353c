/-
  The law FnExactRaceLine of the given program returns true for every input, and its arguments read afterwards as before; the library's tables that it reads are tied to the program's text: the given statement Rows.FnExactRaceLineCardSaid.
-/
import Derived.Test.YtifonhplnmpgaaaDoorPRaceLine2
set_option linter.unusedVariables false
set_option linter.unusedSimpArgs false
set_option linter.unusedSectionVars false
namespace Go.Proofs.YtifonhplnmpgaaaDoor
open Go Go.Sh Go.Proofs
open Rep (rep)
def F16 (a0:Value) (w:World) (R:VW):Prop:=
 rN 22 3 a0 w fun x6=>
 oP (Instr.makeSlice 22 x6 x6) w fun x7 w=>
 LOOPI [4] [(iV 0)] w fun u3 w next3=>
 rN 22 3 a0 w fun x10=>
 rC (u3 4) x10 w fun x11=>
 BR x11
 (rX 22 a0 (u3 4) w fun x18=>
 rL 9 x18 w fun x19=>
 rX 22 x7 (u3 4) w fun x20=>
 oS 9 x20 x19 w fun w=>
 rA (u3 4) (iV 1) w fun x13=>
 next3 [x13] w)
 (R x7 w)
def cfg16:Cfg:=⟨extL,[],[(3,2096912,[4])],[],[],[],[]⟩
theorem F16_call {a0:Value} {w:World} {R:VW} (h:F16 a0 w R):cL 16 [a0] w R:=co (g:=cfg16) Tryd.func16 (by kernel_rfl) (by kernel_rfl) (by kernel_rfl) h
def F59 (a0:Value) (w:World) (R:VW):Prop:=
 rN 52 3 a0 w fun x6=>
 oP (Instr.makeSlice 60 x6 x6) w fun x7 w=>
 LOOPI [4] [(iV 0)] w fun u3 w next3=>
 rN 52 3 a0 w fun x10=>
 rC (u3 4) x10 w fun x11=>
 BR x11
 (rX 52 a0 (u3 4) w fun x18=>
 rL 54 x18 w fun x19=>
 cL 44 [x19] w fun x20 w=>
 rX 60 x7 (u3 4) w fun x21=>
 oS 62 x21 x20 w fun w=>
 rA (u3 4) (iV 1) w fun x13=>
 next3 [x13] w)
 (R x7 w)
def cfg59:Cfg:=⟨extL,[],[(3,4194064,[4])],[],[],[],[]⟩
theorem F59_call {a0:Value} {w:World} {R:VW} (h:F59 a0 w R):cL 59 [a0] w R:=co (g:=cfg59) Tryd.func59 (by kernel_rfl) (by kernel_rfl) (by kernel_rfl) h
def F18 (a0:Value) (w:World) (R:VW):Prop:=
 rN 24 3 a0 w fun x6=>
 oP (Instr.makeSlice 31 x6 x6) w fun x7 w=>
 LOOPI [4] [(iV 0)] w fun u3 w next3=>
 rN 24 3 a0 w fun x10=>
 rC (u3 4) x10 w fun x11=>
 BR x11
 (rX 24 a0 (u3 4) w fun x18=>
 rL 56 x18 w fun x19=>
 cL 28 [x19] w fun x20 w=>
 rX 31 x7 (u3 4) w fun x21=>
 oS 64 x21 x20 w fun w=>
 rA (u3 4) (iV 1) w fun x13=>
 next3 [x13] w)
 (R x7 w)
def cfg18:Cfg:=⟨extL,[],[(3,4194064,[4])],[],[],[],[]⟩
theorem F18_call {a0:Value} {w:World} {R:VW} (h:F18 a0 w R):cL 18 [a0] w R:=co (g:=cfg18) Tryd.func18 (by kernel_rfl) (by kernel_rfl) (by kernel_rfl) h
def zhW (l:List ByteArray):Nat:=l.length+sm ByteArray.size l
mutual
def wT:DTerm→Nat
  | .mk _ _ s ks=>s.size+wTs ks
def wTs:List DTerm→Nat
  | []=>0
  | t :: r=>1+wT t+wTs r
end
theorem zhq (l:List DTerm):wTs l=l.length+sm wT l:=by
 induction l with
 | nil=>simp [wTs,sm]
 | cons t l ih=>rw [wTs,ih];simp [sm];omega
theorem zih (t:DTerm):wT t=t.name.size+wTs t.kids:=by cases t;rw [wT];rfl
def zii (l:List DIns):Nat:=l.length+sm (fun i=>wT i.term) l
def zfg (c:DCode):Nat:=zhW c.globals+zhW c.locks+zhW c.procs+c.entry.length+zii c.ins
def F10 (a0 a1:Value) (w:World) (R:VW):Prop:=
 rN 22 3 a0 w fun x8=>
 rB .sub 3 T0 T0 a1 x8 w fun x9=>
 rB .lss 3 T0 U0 x9 (iV 0) w fun x11=>
 BR x11
 (R (iV (-1)) w)
 (LOOPI [1,5] [x9,(iV 0)] w fun u5 w next5=>
 rN 22 3 a0 w fun x14=>
 rC (u5 5) x14 w fun x15=>
 BR x15
 (rX 22 a0 (u5 5) w fun x21=>
 rL 9 x21 w fun x22=>
 rN 9 3 x22 w fun x23=>
 rB .sub 3 T0 T0 (u5 1) x23 w fun x24=>
 rB .lss 3 T0 U0 x24 (iV 0) w fun x26=>
 BR x26
 (R (iV (-1)) w)
 (rA (u5 5) (iV 1) w fun x17=>
 next5 [x24,x17] w))
 (R (u5 1) w))
def cfg10:Cfg:=⟨extL,[],[(5,134213682,[1,5])],[],[],[],[]⟩
theorem F10_call {a0 a1:Value} {w:World} {R:VW} (h:F10 a0 a1 w R):cL 10 [a0,a1] w R:=co (g:=cfg10) Tryd.func10 (by kernel_rfl) (by kernel_rfl) (by kernel_rfl) h
theorem zbX {w:World} {v0:Value} {W0:World} {l:(List ByteArray)} {left:Int}  (h0:Is W0 v0 l) (e0:Ext W0 w) (hl0:-1≤left) (hl1:left≤1048576) :
   CALL Tryd.prog 10 [v0,.int .i64 left] w fun r w'=>Ext w w'∧(∃ n:Int,r=.int .i64 n∧-1≤n∧n≤left∧(0≤n→n+zhW l≤left)):=by
 refine F10_call ?_
 unfold F10
 have hl:=zad h0
 have hln8:=zad h0
 refine zae u22 h0 ?_
 refine zaW (by unfold I64;omega) ?_
 refine zah ?_
 refine br (fun c1=>?_) (fun c1=>?_)
 · refine ⟨Ext.refl w,?_⟩
   exact ⟨-1,rfl,by omega,by omega,by omega⟩
 refine zaQ (l.length) (fun k us w'=>∃ q:Int,us=[.int .i64 q,.int .i64 (k:Int)]∧Ext w w'∧(0≤q∧q+l.length+sm ByteArray.size (l.take k)=left)) (0) (by omega) ⟨left-l.length,by simp,Ext.refl w,by omega,by simp [sm]⟩ ?_
 rintro k m5 uu5 w1_ hk5 ⟨q,hu,hx1_,hq0,hq1⟩
 obtain ⟨hu0,hu1⟩:=zhE hu
 try rw [hu0]
 try rw [hu1]
 try clear hu0 hu1
 have hln14:=zad h0
 refine zae u22 h0 ?_
 refine zah ?_
 refine br (fun c2=>?_) (fun c2=>?_)
 · refine zaf u22 ty9 h0 (by omega) fun b21 o21 h21=>?_
   refine zai ty9 h21 (e0.trans hx1_) fun hS22=>?_
   refine zbU u9 ?_
   rw [zaE] at hS22
   refine zaW (by unfold I64;omega) ?_
   refine zah ?_
   refine br (fun c3=>?_) (fun c3=>?_)
   · refine ⟨hx1_,?_⟩
     exact ⟨-1,rfl,by omega,by omega,by omega⟩
   refine zao (by omega) ?_
   refine ⟨m5-1,by omega,k+1,by omega,_,rfl,hx1_,?_⟩
   refine ⟨by omega,?_⟩
   rw [ze5 _ (by omega)]
   omega
 refine ⟨hx1_,?_⟩
 rw [List.take_of_length_le (by omega)] at hq1
 exact ⟨q,rfl,by omega,by omega,fun _=>by unfold zhW;omega⟩
def zhr (t:DTerm):Prop:=∀ {w W:World} {v:Value} {left:Int},Is W v t→Ext W w→-1≤left→left≤1048576 →
 CALL Tryd.prog 35 [v,.int .i64 left] w fun r w'=>Ext w w'∧∃ n:Int,r=.int .i64 n∧-1≤n∧n≤left∧(0≤n→n+wT t≤left)
def zhM (t:List DTerm):Prop:=∀ {w W:World} {v:Value} {left:Int},Is W v t→Ext W w→-1≤left→left≤1048576 →
 CALL Tryd.prog 54 [v,.int .i64 left] w fun r w'=>Ext w w'∧∃ n:Int,r=.int .i64 n∧-1≤n∧n≤left∧(0≤n→n+wTs t≤left)
def F54 (a0 a1:Value) (w:World) (R:VW):Prop:=
 rN 52 3 a0 w fun x8=>
 rB .sub 3 T0 T0 a1 x8 w fun x9=>
 rB .lss 3 T0 U0 x9 (iV 0) w fun x11=>
 BR x11
 (R (iV (-1)) w)
 (LOOPI [1,5] [x9,(iV 0)] w fun u5 w next5=>
 rN 52 3 a0 w fun x14=>
 rC (u5 5) x14 w fun x15=>
 BR x15
 (rX 52 a0 (u5 5) w fun x20=>
 rL 54 x20 w fun x21=>
 cL 35 [x21,(u5 1)] w fun x23 w=>
 rB .lss 3 T0 U0 x23 (iV 0) w fun x25=>
 BR x25
 (R (iV (-1)) w)
 (rA (u5 5) (iV 1) w fun x17=>
 next5 [x23,x17] w))
 (R (u5 1) w))
def cfg54:Cfg:=⟨extL,[],[(5,67104818,[1,5])],[],[],[],[]⟩
theorem F54_call {a0 a1:Value} {w:World} {R:VW} (h:F54 a0 a1 w R):cL 54 [a0,a1] w R:=co (g:=cfg54) Tryd.func54 (by kernel_rfl) (by kernel_rfl) (by kernel_rfl) h
theorem zeN {w:World} {v0:Value} {W0:World} {l:(List DTerm)} {left:Int}  (h0:Is W0 v0 l) (e0:Ext W0 w) (ih:∀ t∈l,zhr t) (hl0:-1≤left) (hl1:left≤1048576) :
   CALL Tryd.prog 54 [v0,.int .i64 left] w fun r w'=>Ext w w'∧(∃ n:Int,r=.int .i64 n∧-1≤n∧n≤left∧(0≤n→n+wTs l≤left)):=by
 refine F54_call ?_
 unfold F54
 have hl:=zad h0
 have hln8:=zad h0
 refine zae u52 h0 ?_
 refine zaW (by unfold I64;omega) ?_
 refine zah ?_
 refine br (fun c1=>?_) (fun c1=>?_)
 · refine ⟨Ext.refl w,?_⟩
   exact ⟨-1,rfl,by omega,by omega,by omega⟩
 refine zaQ (l.length) (fun k us w'=>∃ q:Int,us=[.int .i64 q,.int .i64 (k:Int)]∧Ext w w'∧(0≤q∧q+l.length+sm wT (l.take k)≤left)) (0) (by omega) ⟨left-l.length,by simp,Ext.refl w,by omega,by simp [sm]⟩ ?_
 rintro k m5 uu5 w1_ hk5 ⟨q,hu,hx1_,hq0,hq1⟩
 obtain ⟨hu0,hu1⟩:=zhE hu
 try rw [hu0]
 try rw [hu1]
 try clear hu0 hu1
 have hln14:=zad h0
 refine zae u52 h0 ?_
 refine zah ?_
 refine br (fun c2=>?_) (fun c2=>?_)
 · refine zaf u52 zhj h0 (by omega) fun b20 o20 h20=>?_
   refine zab zhj h20 (e0.trans hx1_) fun v21 h21=>?_
   refine (ih _ (List.getElem_mem _) h21 (e0.trans hx1_) (by omega) (by omega)).mono ?_
   rintro _ w2_ ⟨hx2_,n23,rfl,hn23⟩
   refine zah ?_
   refine br (fun c3=>?_) (fun c3=>?_)
   · refine ⟨(hx1_.trans hx2_),?_⟩
     exact ⟨-1,rfl,by omega,by omega,by omega⟩
   refine zao (by omega) ?_
   refine ⟨m5-1,by omega,k+1,by omega,_,rfl,(hx1_.trans hx2_),?_⟩
   refine ⟨by omega,?_⟩
   rw [ze5 _ (by omega)]
   have:=hn23.2.2 (by omega)
   omega
 refine ⟨hx1_,?_⟩
 rw [List.take_of_length_le (by omega)] at hq1
 exact ⟨q,rfl,by omega,by omega,fun _=>by rw [zhq];omega⟩
def F35 (a0 a1:Value) (w:World) (R:VW):Prop:=
 oP (Instr.box 54 a0) w fun x2 w=>
 rF 54 x2 2 w fun x6=>
 rL 9 x6 w fun x7=>
 rN 9 3 x7 w fun x8=>
 rB .sub 3 T0 T0 a1 x8 w fun x9=>
 rB .lss 3 T0 U0 x9 (iV 0) w fun x11=>
 BR x11
 (R (iV (-1)) w)
 (rF 54 x2 3 w fun x12=>
 rL 52 x12 w fun x13=>
 cL 54 [x13,x9] w fun x15 w=>
 rB .lss 3 T0 U0 x15 (iV 0) w fun x17=>
 BR x17
 (R (iV (-1)) w)
 (R x15 w))
def cfg35:Cfg:=⟨extL,[],[],[],[],[],[]⟩
theorem F35_call {a0 a1:Value} {w:World} {R:VW} (h:F35 a0 a1 w R):cL 35 [a0,a1] w R:=co (g:=cfg35) Tryd.func35 (by kernel_rfl) (by kernel_rfl) (by kernel_rfl) h
theorem zfh {w:World} {v0:Value} {W0:World} {t:DTerm} {left:Int}  (h0:Is W0 v0 t) (e0:Ext W0 w) (ih:zhM t.kids) (hl0:-1≤left) (hl1:left≤1048576) :
   CALL Tryd.prog 35 [v0,.int .i64 left] w fun r w'=>Ext w w'∧(∃ n:Int,r=.int .i64 n∧-1≤n∧n≤left∧(0≤n→n+wT t≤left)):=by
 refine F35_call ?_
 unfold F35
 refine zam zhj rfl h0 e0 fun w1_ hx1_ hA2 hV2=>?_
 refine zaa zhk ?_
 refine zai ty9 (zau hA2) (Ext.refl w1_) fun hS7=>?_
 refine zbU u9 ?_
 rw [zaE] at hS7
 refine zaW (by unfold I64;omega) ?_
 refine zah ?_
 refine br (fun c1=>?_) (fun c1=>?_)
 · refine ⟨hx1_,?_⟩
   exact ⟨-1,rfl,by omega,by omega,by omega⟩
 refine zaa zhl ?_
 refine zab ziJ (zaj hA2) (Ext.refl w1_) fun v13 h13=>?_
 refine (ih h13 (Ext.refl w1_) (by omega) (by omega)).mono ?_
 rintro _ w2_ ⟨hx2_,n15,rfl,hn15⟩
 refine zah ?_
 refine br (fun c2=>?_) (fun c2=>?_)
 · refine ⟨(hx1_.trans hx2_),?_⟩
   exact ⟨-1,rfl,by omega,by omega,by omega⟩
 refine ⟨(hx1_.trans hx2_),?_⟩
 refine ⟨n15,rfl,by omega,by omega,fun h=>?_⟩
 have:=hn15.2.2 (by omega)
 rw [zih];omega
theorem zgs (t:DTerm):zhr t:=DTerm.ind (fun t ih {w W v left} h e h0 h1=>zfh h e (fun {w W v left} h e h0 h1=>zeN h e ih h0 h1) h0 h1) t
def F24 (a0 a1:Value) (w:World) (R:VW):Prop:=
 oP (Instr.box 56 a0) w fun x2 w=>
 rF 56 x2 2 w fun x5=>
 rL 54 x5 w fun x6=>
 cL 35 [x6,a1] w fun x8 w=>
 rB .lss 3 T0 U0 x8 (iV 0) w fun x10=>
 BR x10
 (R (iV (-1)) w)
 (R x8 w)
def cfg24:Cfg:=⟨extL,[],[],[],[],[],[]⟩
theorem F24_call {a0 a1:Value} {w:World} {R:VW} (h:F24 a0 a1 w R):cL 24 [a0,a1] w R:=co (g:=cfg24) Tryd.func24 (by kernel_rfl) (by kernel_rfl) (by kernel_rfl) h
theorem zg4 {w:World} {v0:Value} {W0:World} {i:DIns} {left:Int}  (h0:Is W0 v0 i) (e0:Ext W0 w) (hl0:-1≤left) (hl1:left≤1048576) :
   CALL Tryd.prog 24 [v0,.int .i64 left] w fun r w'=>Ext w w'∧(∃ n:Int,r=.int .i64 n∧-1≤n∧n≤left∧(0≤n→n+wT i.term≤left)):=by
 refine F24_call ?_
 unfold F24
 refine zam zhV rfl h0 e0 fun w1_ hx1_ hA2 hV2=>?_
 refine zaa zhm ?_
 refine zab zhj (zaJ hA2) (Ext.refl w1_) fun v6 h6=>?_
 refine ((zgs _) h6 (Ext.refl w1_) (by omega) (by omega)).mono ?_
 rintro _ w2_ ⟨hx2_,n8,rfl,hn8⟩
 refine zah ?_
 refine br (fun c1=>?_) (fun c1=>?_)
 · refine ⟨(hx1_.trans hx2_),?_⟩
   exact ⟨-1,rfl,by omega,by omega,by omega⟩
 refine ⟨(hx1_.trans hx2_),?_⟩
 exact ⟨n8,rfl,by omega,by omega,hn8.2.2⟩
def F12 (a0 a1:Value) (w:World) (R:VW):Prop:=
 rN 24 3 a0 w fun x8=>
 rB .sub 3 T0 T0 a1 x8 w fun x9=>
 rB .lss 3 T0 U0 x9 (iV 0) w fun x11=>
 BR x11
 (R (iV (-1)) w)
 (LOOPI [1,5] [x9,(iV 0)] w fun u5 w next5=>
 rN 24 3 a0 w fun x14=>
 rC (u5 5) x14 w fun x15=>
 BR x15
 (rX 24 a0 (u5 5) w fun x20=>
 rL 56 x20 w fun x21=>
 cL 24 [x21,(u5 1)] w fun x23 w=>
 rB .lss 3 T0 U0 x23 (iV 0) w fun x25=>
 BR x25
 (R (iV (-1)) w)
 (rA (u5 5) (iV 1) w fun x17=>
 next5 [x23,x17] w))
 (R (u5 1) w))
def cfg12:Cfg:=⟨extL,[],[(5,67104818,[1,5])],[],[],[],[]⟩
theorem F12_call {a0 a1:Value} {w:World} {R:VW} (h:F12 a0 a1 w R):cL 12 [a0,a1] w R:=co (g:=cfg12) Tryd.func12 (by kernel_rfl) (by kernel_rfl) (by kernel_rfl) h
theorem zgt {w:World} {v0:Value} {W0:World} {l:(List DIns)} {left:Int}  (h0:Is W0 v0 l) (e0:Ext W0 w) (hl0:-1≤left) (hl1:left≤1048576) :
   CALL Tryd.prog 12 [v0,.int .i64 left] w fun r w'=>Ext w w'∧(∃ n:Int,r=.int .i64 n∧-1≤n∧n≤left∧(0≤n→n+zii l≤left)):=by
 refine F12_call ?_
 unfold F12
 have hl:=zad h0
 have hln8:=zad h0
 refine zae u24 h0 ?_
 refine zaW (by unfold I64;omega) ?_
 refine zah ?_
 refine br (fun c1=>?_) (fun c1=>?_)
 · refine ⟨Ext.refl w,?_⟩
   exact ⟨-1,rfl,by omega,by omega,by omega⟩
 refine zaQ (l.length) (fun k us w'=>∃ q:Int,us=[.int .i64 q,.int .i64 (k:Int)]∧Ext w w'∧(0≤q∧q+l.length+sm (fun i=>wT i.term) (l.take k)≤left)) (0) (by omega) ⟨left-l.length,by simp,Ext.refl w,by omega,by simp [sm]⟩ ?_
 rintro k m5 uu5 w1_ hk5 ⟨q,hu,hx1_,hq0,hq1⟩
 obtain ⟨hu0,hu1⟩:=zhE hu
 try rw [hu0]
 try rw [hu1]
 try clear hu0 hu1
 have hln14:=zad h0
 refine zae u24 h0 ?_
 refine zah ?_
 refine br (fun c2=>?_) (fun c2=>?_)
 · refine zaf u24 zhV h0 (by omega) fun b20 o20 h20=>?_
   refine zab zhV h20 (e0.trans hx1_) fun v21 h21=>?_
   refine (zg4 h21 (e0.trans hx1_) (by omega) (by omega)).mono ?_
   rintro _ w2_ ⟨hx2_,n23,rfl,hn23⟩
   refine zah ?_
   refine br (fun c3=>?_) (fun c3=>?_)
   · refine ⟨(hx1_.trans hx2_),?_⟩
     exact ⟨-1,rfl,by omega,by omega,by omega⟩
   refine zao (by omega) ?_
   refine ⟨m5-1,by omega,k+1,by omega,_,rfl,(hx1_.trans hx2_),?_⟩
   refine ⟨by omega,?_⟩
   rw [ze5 _ (by omega)]
   have:=hn23.2.2 (by omega)
   omega
 refine ⟨hx1_,?_⟩
 rw [List.take_of_length_le (by omega)] at hq1
 exact ⟨q,rfl,by omega,by omega,fun _=>by unfold zii;omega⟩
def F4 (a0 a1:Value) (w:World) (R:VW):Prop:=
 oP (Instr.box 26 a0) w fun x2 w=>
 rF 26 x2 0 w fun x5=>
 rL 22 x5 w fun x6=>
 cL 10 [x6,a1] w fun x8 w=>
 rB .lss 3 T0 U0 x8 (iV 0) w fun x10=>
 BR x10
 (R (iV (-1)) w)
 (rF 26 x2 1 w fun x11=>
 rL 22 x11 w fun x12=>
 cL 10 [x12,x8] w fun x14 w=>
 rB .lss 3 T0 U0 x14 (iV 0) w fun x16=>
 BR x16
 (R (iV (-1)) w)
 (rF 26 x2 2 w fun x17=>
 rL 22 x17 w fun x18=>
 cL 10 [x18,x14] w fun x20 w=>
 rB .lss 3 T0 U0 x20 (iV 0) w fun x22=>
 BR x22
 (R (iV (-1)) w)
 (rF 26 x2 3 w fun x23=>
 rL 23 x23 w fun x24=>
 cL 11 [x24,x20] w fun x26 w=>
 rB .lss 3 T0 U0 x26 (iV 0) w fun x28=>
 BR x28
 (R (iV (-1)) w)
 (rF 26 x2 4 w fun x29=>
 rL 24 x29 w fun x30=>
 cL 12 [x30,x26] w fun x32 w=>
 rB .lss 3 T0 U0 x32 (iV 0) w fun x34=>
 BR x34
 (R (iV (-1)) w)
 (R x32 w)))))
def cfg4:Cfg:=⟨extL,[],[],[],[],[],[]⟩
theorem F4_call {a0 a1:Value} {w:World} {R:VW} (h:F4 a0 a1 w R):cL 4 [a0,a1] w R:=co (g:=cfg4) Tryd.func4 (by kernel_rfl) (by kernel_rfl) (by kernel_rfl) h
theorem zgu {w:World} {v0:Value} {W0:World} {c:DCode} {left:Int}  (h0:Is W0 v0 c) (e0:Ext W0 w) (hl0:-1≤left) (hl1:left≤1048576) :
   CALL Tryd.prog 4 [v0,.int .i64 left] w fun r w'=>Ext w w'∧(∃ n:Int,r=.int .i64 n∧-1≤n∧n≤left∧(0≤n→n+zfg c≤left)):=by
 refine F4_call ?_
 unfold F4
 refine zam ziv rfl h0 e0 fun w1_ hx1_ hA2 hV2=>?_
 refine zaa zhe ?_
 refine zab zbi (zar hA2) (Ext.refl w1_) fun v6 h6=>?_
 refine (zbX h6 (Ext.refl w1_) (by omega) (by omega)).mono ?_
 rintro _ w2_ ⟨hx2_,n8,rfl,hn8⟩
 refine zah ?_
 refine br (fun c1=>?_) (fun c1=>?_)
 · refine ⟨(hx1_.trans hx2_),?_⟩
   exact ⟨-1,rfl,by omega,by omega,by omega⟩
 refine zaa zhf ?_
 refine zab zbi (zaH hA2) hx2_ fun v12 h12=>?_
 refine (zbX h12 hx2_ (by omega) (by omega)).mono ?_
 rintro _ w3_ ⟨hx3_,n14,rfl,hn14⟩
 refine zah ?_
 refine br (fun c2=>?_) (fun c2=>?_)
 · refine ⟨(hx1_.trans (hx2_.trans hx3_)),?_⟩
   exact ⟨-1,rfl,by omega,by omega,by omega⟩
 refine zaa zhg ?_
 refine zab zbi (zav hA2) (hx2_.trans hx3_) fun v18 h18=>?_
 refine (zbX h18 (hx2_.trans hx3_) (by omega) (by omega)).mono ?_
 rintro _ w4_ ⟨hx4_,n20,rfl,hn20⟩
 refine zah ?_
 refine br (fun c3=>?_) (fun c3=>?_)
 · refine ⟨(hx1_.trans (hx2_.trans (hx3_.trans hx4_))),?_⟩
   exact ⟨-1,rfl,by omega,by omega,by omega⟩
 refine zaa zhh ?_
 refine zab zcj (zag hA2) (hx2_.trans (hx3_.trans hx4_)) fun v24 h24=>?_
 refine (zgb h24 (hx2_.trans (hx3_.trans hx4_)) (by omega) (by omega)).mono ?_
 rintro _ w5_ ⟨hx5_,n26,rfl,hn26⟩
 refine zah ?_
 refine br (fun c4=>?_) (fun c4=>?_)
 · refine ⟨(hx1_.trans (hx2_.trans (hx3_.trans (hx4_.trans hx5_)))),?_⟩
   exact ⟨-1,rfl,by omega,by omega,by omega⟩
 refine zaa zhi ?_
 refine zab ziG (zal hA2) (hx2_.trans (hx3_.trans (hx4_.trans hx5_))) fun v30 h30=>?_
 refine (zgt h30 (hx2_.trans (hx3_.trans (hx4_.trans hx5_))) (by omega) (by omega)).mono ?_
 rintro _ w6_ ⟨hx6_,n32,rfl,hn32⟩
 refine zah ?_
 refine br (fun c5=>?_) (fun c5=>?_)
 · refine ⟨(hx1_.trans (hx2_.trans (hx3_.trans (hx4_.trans (hx5_.trans hx6_))))),?_⟩
   exact ⟨-1,rfl,by omega,by omega,by omega⟩
 refine ⟨(hx1_.trans (hx2_.trans (hx3_.trans (hx4_.trans (hx5_.trans hx6_))))),?_⟩
 refine ⟨n32,rfl,by omega,by omega,fun _=>?_⟩
 have h1:=hn8.2.2 (by omega)
 have h2:=hn14.2.2 (by omega)
 have h3:=hn20.2.2 (by omega)
 have h4:=hn26.2.2 (by omega)
 have h5:=hn32.2.2 (by omega)
 unfold zfg
 omega
def F21 (a0 a1:Value) (w:World) (R:VW):Prop:=
 rN 22 3 a0 w fun x7=>
 rN 22 3 a1 w fun x9=>
 rB .neq 3 T0 T0 x7 x9 w fun x10=>
 BR x10
 (R (Value.bool false) w)
 (LOOPI [5] [(iV 0)] w fun u4 w next4=>
 rN 22 3 a0 w fun x13=>
 rC (u4 5) x13 w fun x14=>
 BR x14
 ((fun w=>rX 22 a0 (u4 5) w fun x19=>
 rL 9 x19 w fun x20=>
 rX 22 a1 (u4 5) w fun x23=>
 rL 9 x23 w fun x24=>
 rB .neq 9 T0 T0 x20 x24 w fun x25=>
 BR x25
 (R (Value.bool false) w)
 (rA (u4 5) (iV 1) w fun x16=>
 next4 [x16] w)) (World.drew1 w))
 (R (Value.bool true) w))
def cfg21:Cfg:=⟨extL,[],[(4,67106864,[5])],[(6,[0,1,2,3,4,5,6,7,8],0)],[],[],[]⟩
theorem F21_call {a0 a1:Value} {w:World} {R:VW} (h:F21 a0 a1 w R):cL 21 [a0,a1] w R:=co (g:=cfg21) Tryd.func21 (by kernel_rfl) (by kernel_rfl) (by kernel_rfl) h
theorem zbY {w:World} {v0:Value} {W0:World} {l1:(List ByteArray)} {v1:Value} {W1:World} {l2:(List ByteArray)}  (h0:Is W0 v0 l1) (e0:Ext W0 w) (h1:Is W1 v1 l2) (e1:Ext W1 w)  :
   CALL Tryd.prog 21 [v0,v1] w fun r w'=>Ext w w'∧(r=.bool (decide (l1=l2))):=by
 refine F21_call ?_
 unfold F21
 have hl1:=zad h0
 have hln7:=zad h0
 refine zae u22 h0 ?_
 have hln9:=zad h1
 refine zae u22 h1 ?_
 refine zaC ?_
 refine br (fun c1=>?_) (fun c1=>?_)
 · refine ⟨Ext.refl w,?_⟩
   have:l1≠l2:=fun e=>c1 (by rw [e])
   simp [this]
 refine zaQ (l1.length) (fun k us w'=>us=[.int .i64 (k:Int)]∧Ext w w'∧(l1.take k=l2.take k)) (0) (by omega) ⟨by simp,Ext.refl w,by simp⟩ ?_
 rintro k m4 uu4 w1_ hk4 ⟨hu,hx1_,hinv⟩
 simp only [List.map_cons,List.map_nil,List.cons.injEq,and_true] at hu
 try rw [hu]
 try clear hu
 have hln13:=zad h0
 refine zae u22 h0 ?_
 refine zah ?_
 refine br (fun c2=>?_) (fun c2=>?_)
 · have hx2_:=zaw w1_
   refine zaf u22 ty9 h0 (by omega) fun b19 o19 h19=>?_
   refine zai ty9 h19 (e0.trans (hx1_.trans hx2_)) fun hS20=>?_
   refine zaf u22 ty9 h1 (by omega) fun b23 o23 h23=>?_
   refine zai ty9 h23 (e1.trans (hx1_.trans hx2_)) fun hS24=>?_
   refine zcN ?_
   refine br (fun c3=>?_) (fun c3=>?_)
   · refine ⟨(hx1_.trans hx2_),?_⟩
     have:l1≠l2:=fun e=>c3 (by subst e;rfl)
     simp [this]
   refine zao (by omega) ?_
   refine ⟨m4-1,by omega,k+1,by omega,by simp,(hx1_.trans hx2_),?_⟩
   rw [List.take_succ_eq_append_getElem (by omega),List.take_succ_eq_append_getElem (by omega),hinv,Decidable.not_not.1 c3]
 refine ⟨hx1_,?_⟩
 rw [List.take_of_length_le (by omega),List.take_of_length_le (by omega)] at hinv
 simp [hinv]
def zhs (t:DTerm):Prop:=∀ {w W W':World} {v v':Value} {t':DTerm},Is W v t→Ext W w→Is W' v' t'→Ext W' w →
 CALL Tryd.prog 53 [v,v'] w fun r w'=>Ext w w'∧r=.bool (decide (t=t'))
def zhN (t:List DTerm):Prop:=∀ {w W W':World} {v v':Value} {t':List DTerm},Is W v t→Ext W w→Is W' v' t'→Ext W' w →
 CALL Tryd.prog 65 [v,v'] w fun r w'=>Ext w w'∧r=.bool (decide (t=t'))
def F65 (a0 a1:Value) (w:World) (R:VW):Prop:=
 rN 60 3 a0 w fun x7=>
 rN 60 3 a1 w fun x9=>
 rB .neq 3 T0 T0 x7 x9 w fun x10=>
 BR x10
 (R (Value.bool false) w)
 (LOOPI [5] [(iV 0)] w fun u4 w next4=>
 rN 60 3 a0 w fun x13=>
 rC (u4 5) x13 w fun x14=>
 BR x14
 ((fun w=>rX 60 a0 (u4 5) w fun x19=>
 rL 62 x19 w fun x20=>
 rX 60 a1 (u4 5) w fun x23=>
 rL 62 x23 w fun x24=>
 cL 53 [x20,x24] w fun x25 w=>
 rD (Op.unary .not x25) w fun x26=>
 BR x26
 (R (Value.bool false) w)
 (rA (u4 5) (iV 1) w fun x16=>
 next4 [x16] w)) (World.drew1 w))
 (R (Value.bool true) w))
def cfg65:Cfg:=⟨extL,[],[(4,134215728,[5])],[(6,[0,1,2,3,4,5,6,7,8,9],0)],[],[],[]⟩
theorem F65_call {a0 a1:Value} {w:World} {R:VW} (h:F65 a0 a1 w R):cL 65 [a0,a1] w R:=co (g:=cfg65) Tryd.func65 (by kernel_rfl) (by kernel_rfl) (by kernel_rfl) h
theorem zeO {w:World} {v0:Value} {W0:World} {l1:(List DTerm)} {v1:Value} {W1:World} {l2:(List DTerm)}  (h0:Is W0 v0 l1) (e0:Ext W0 w) (h1:Is W1 v1 l2) (e1:Ext W1 w) (ih:∀ t∈l1,zhs t) :
   CALL Tryd.prog 65 [v0,v1] w fun r w'=>Ext w w'∧(r=.bool (decide (l1=l2))):=by
 refine F65_call ?_
 unfold F65
 have hl1:=zad h0
 have hln7:=zad h0
 refine zae u60 h0 ?_
 have hln9:=zad h1
 refine zae u60 h1 ?_
 refine zaC ?_
 refine br (fun c1=>?_) (fun c1=>?_)
 · refine ⟨Ext.refl w,?_⟩
   have:l1≠l2:=fun e=>c1 (by rw [e])
   simp [this]
 refine zaQ (l1.length) (fun k us w'=>us=[.int .i64 (k:Int)]∧Ext w w'∧(l1.take k=l2.take k)) (0) (by omega) ⟨by simp,Ext.refl w,by simp⟩ ?_
 rintro k m4 uu4 w1_ hk4 ⟨hu,hx1_,hinv⟩
 simp only [List.map_cons,List.map_nil,List.cons.injEq,and_true] at hu
 try rw [hu]
 try clear hu
 have hln13:=zad h0
 refine zae u60 h0 ?_
 refine zah ?_
 refine br (fun c2=>?_) (fun c2=>?_)
 · have hx2_:=zaw w1_
   refine zaf u60 zbq h0 (by omega) fun b19 o19 h19=>?_
   refine zab zbq h19 (e0.trans (hx1_.trans hx2_)) fun v20 h20=>?_
   refine zaf u60 zbq h1 (by omega) fun b23 o23 h23=>?_
   refine zab zbq h23 (e1.trans (hx1_.trans hx2_)) fun v24 h24=>?_
   refine (ih _ (List.getElem_mem _) h20 (e0.trans (hx1_.trans hx2_)) h24 (e1.trans (hx1_.trans hx2_))).mono ?_
   rintro _ w3_ ⟨hx3_,rfl⟩
   refine zak ?_
   refine br (fun c3=>?_) (fun c3=>?_)
   · refine ⟨(hx1_.trans (hx2_.trans hx3_)),?_⟩
     have:l1≠l2:=fun e=>c3 (by subst e;rfl)
     simp [this]
   refine zao (by omega) ?_
   refine ⟨m4-1,by omega,k+1,by omega,by simp,(hx1_.trans (hx2_.trans hx3_)),?_⟩
   rw [List.take_succ_eq_append_getElem (by omega),List.take_succ_eq_append_getElem (by omega),hinv,Decidable.not_not.1 c3]
 refine ⟨hx1_,?_⟩
 rw [List.take_of_length_le (by omega),List.take_of_length_le (by omega)] at hinv
 simp [hinv]
def F53 (a0 a1:Value) (w:World) (R:VW):Prop:=
 oP (Instr.box 62 a0) w fun x2 w=>
 oP (Instr.box 62 a1) w fun x3 w=>
 rF 62 x2 0 w fun x5=>
 rL 3 x5 w fun x6=>
 rF 62 x3 0 w fun x7=>
 rL 3 x7 w fun x8=>
 rB .neq 3 T0 T0 x6 x8 w fun x9=>
 BR x9
 (R (Value.bool false) w)
 (rF 62 x2 1 w fun x10=>
 rL 3 x10 w fun x11=>
 rF 62 x3 1 w fun x12=>
 rL 3 x12 w fun x13=>
 rB .neq 3 T0 T0 x11 x13 w fun x14=>
 BR x14
 (R (Value.bool false) w)
 (rF 62 x2 2 w fun x15=>
 rL 9 x15 w fun x16=>
 rF 62 x3 2 w fun x17=>
 rL 9 x17 w fun x18=>
 rB .neq 9 T0 T0 x16 x18 w fun x19=>
 BR x19
 (R (Value.bool false) w)
 (rF 62 x2 3 w fun x20=>
 rL 60 x20 w fun x21=>
 rF 62 x3 3 w fun x22=>
 rL 60 x22 w fun x23=>
 cL 65 [x21,x23] w fun x24 w=>
 rD (Op.unary .not x24) w fun x25=>
 BR x25
 (R (Value.bool false) w)
 (R (Value.bool true) w))))
def cfg53:Cfg:=⟨extL,[],[],[],[],[],[]⟩
theorem F53_call {a0 a1:Value} {w:World} {R:VW} (h:F53 a0 a1 w R):cL 53 [a0,a1] w R:=co (g:=cfg53) Tryd.func53 (by kernel_rfl) (by kernel_rfl) (by kernel_rfl) h
theorem zfi {w:World} {v0:Value} {W0:World} {t1:DTerm} {v1:Value} {W1:World} {t2:DTerm}  (h0:Is W0 v0 t1) (e0:Ext W0 w) (h1:Is W1 v1 t2) (e1:Ext W1 w) (ih:zhN t1.kids) :
   CALL Tryd.prog 53 [v0,v1] w fun r w'=>Ext w w'∧(r=.bool (decide (t1=t2))):=by
 refine F53_call ?_
 unfold F53
 refine zam zbq rfl h0 e0 fun w1_ hx1_ hA2 hV2=>?_
 refine zam zbq rfl h1 (e1.trans hx1_) fun w2_ hx2_ hA3 hV3=>?_
 refine zaa zbP ?_
 refine zac ty3 (zaG hA2) hx2_ fun hI6=>?_
 refine zaa zbP ?_
 refine zac ty3 (zaG hA3) (Ext.refl w2_) fun hI8=>?_
 refine zaC ?_
 refine br (fun c1=>?_) (fun c1=>?_)
 · refine ⟨(hx1_.trans hx2_),?_⟩
   have:t1≠t2:=fun e=>c1 (by rw [e])
   simp [this]
 refine zaa zbF ?_
 refine zac ty3 (zaD hA2) hx2_ fun hI11=>?_
 refine zaa zbF ?_
 refine zac ty3 (zaD hA3) (Ext.refl w2_) fun hI13=>?_
 refine zaC ?_
 refine br (fun c2=>?_) (fun c2=>?_)
 · refine ⟨(hx1_.trans hx2_),?_⟩
   have:t1≠t2:=fun e=>c2 (by rw [e])
   simp [this]
 refine zaa zbn ?_
 refine zai ty9 (zau hA2) hx2_ fun hS16=>?_
 refine zaa zbn ?_
 refine zai ty9 (zau hA3) (Ext.refl w2_) fun hS18=>?_
 refine zcN ?_
 refine br (fun c3=>?_) (fun c3=>?_)
 · refine ⟨(hx1_.trans hx2_),?_⟩
   have:t1≠t2:=fun e=>c3 (by rw [e])
   simp [this]
 refine zaa zaS ?_
 refine zab zc0 (zaj hA2) hx2_ fun v21 h21=>?_
 refine zaa zaS ?_
 refine zab zc0 (zaj hA3) (Ext.refl w2_) fun v23 h23=>?_
 refine (ih h21 hx2_ h23 (Ext.refl w2_)).mono ?_
 rintro _ w3_ ⟨hx3_,rfl⟩
 refine zak ?_
 refine br (fun c4=>?_) (fun c4=>?_)
 · refine ⟨(hx1_.trans (hx2_.trans hx3_)),?_⟩
   have:t1≠t2:=fun e=>c4 (by rw [e])
   simp [this]
 refine ⟨(hx1_.trans (hx2_.trans hx3_)),?_⟩
 have:t1=t2:=DTerm.ext_iff.2 ⟨Decidable.not_not.1 c1,Decidable.not_not.1 c2,Decidable.not_not.1 c3,Decidable.not_not.1 c4⟩
 simp [this]
theorem zgv (t:DTerm):zhs t:=DTerm.ind (fun t ih {_ _ _ _ _ _} h e h' e'=>zfi h e h' e' (fun {_ _ _ _ _ _} h e h' e'=>zeO h e h' e' ih)) t
def F34 (a0 a1:Value) (w:World) (R:VW):Prop:=
 oP (Instr.box 64 a0) w fun x2 w=>
 oP (Instr.box 64 a1) w fun x3 w=>
 rF 64 x2 0 w fun x5=>
 rL 3 x5 w fun x6=>
 rF 64 x3 0 w fun x7=>
 rL 3 x7 w fun x8=>
 rB .neq 3 T0 T0 x6 x8 w fun x9=>
 BR x9
 (R (Value.bool false) w)
 (rF 64 x2 1 w fun x10=>
 rL 3 x10 w fun x11=>
 rF 64 x3 1 w fun x12=>
 rL 3 x12 w fun x13=>
 rB .neq 3 T0 T0 x11 x13 w fun x14=>
 BR x14
 (R (Value.bool false) w)
 (rF 64 x2 2 w fun x15=>
 rL 62 x15 w fun x16=>
 rF 64 x3 2 w fun x17=>
 rL 62 x17 w fun x18=>
 cL 53 [x16,x18] w fun x19 w=>
 rD (Op.unary .not x19) w fun x20=>
 BR x20
 (R (Value.bool false) w)
 (rF 64 x2 3 w fun x21=>
 rL 3 x21 w fun x22=>
 rF 64 x3 3 w fun x23=>
 rL 3 x23 w fun x24=>
 rB .neq 3 T0 T0 x22 x24 w fun x25=>
 BR x25
 (R (Value.bool false) w)
 (R (Value.bool true) w))))
def cfg34:Cfg:=⟨extL,[],[],[],[],[],[]⟩
theorem F34_call {a0 a1:Value} {w:World} {R:VW} (h:F34 a0 a1 w R):cL 34 [a0,a1] w R:=co (g:=cfg34) Tryd.func34 (by kernel_rfl) (by kernel_rfl) (by kernel_rfl) h
theorem zg5 {w:World} {v0:Value} {W0:World} {t1:DIns} {v1:Value} {W1:World} {t2:DIns}  (h0:Is W0 v0 t1) (e0:Ext W0 w) (h1:Is W1 v1 t2) (e1:Ext W1 w)  :
   CALL Tryd.prog 34 [v0,v1] w fun r w'=>Ext w w'∧(r=.bool (decide (t1=t2))):=by
 refine F34_call ?_
 unfold F34
 refine zam zc1 rfl h0 e0 fun w1_ hx1_ hA2 hV2=>?_
 refine zam zc1 rfl h1 (e1.trans hx1_) fun w2_ hx2_ hA3 hV3=>?_
 refine zaa za6 ?_
 refine zac ty3 (zat hA2) hx2_ fun hI6=>?_
 refine zaa za6 ?_
 refine zac ty3 (zat hA3) (Ext.refl w2_) fun hI8=>?_
 refine zaC ?_
 refine br (fun c1=>?_) (fun c1=>?_)
 · refine ⟨(hx1_.trans hx2_),?_⟩
   have:t1≠t2:=fun e=>c1 (by rw [e])
   simp [this]
 refine zaa zdJ ?_
 refine zac ty3 (zbH hA2) hx2_ fun hI11=>?_
 refine zaa zdJ ?_
 refine zac ty3 (zbH hA3) (Ext.refl w2_) fun hI13=>?_
 refine zaC ?_
 refine br (fun c2=>?_) (fun c2=>?_)
 · refine ⟨(hx1_.trans hx2_),?_⟩
   have:t1≠t2:=fun e=>c2 (by rw [e])
   simp [this]
 refine zaa zbG ?_
 refine zab zbq (zaJ hA2) hx2_ fun v16 h16=>?_
 refine zaa zbG ?_
 refine zab zbq (zaJ hA3) (Ext.refl w2_) fun v18 h18=>?_
 refine ((zgv _) h16 hx2_ h18 (Ext.refl w2_)).mono ?_
 rintro _ w3_ ⟨hx3_,rfl⟩
 refine zak ?_
 refine br (fun c3=>?_) (fun c3=>?_)
 · refine ⟨(hx1_.trans (hx2_.trans hx3_)),?_⟩
   have:t1≠t2:=fun e=>c3 (by rw [e])
   simp [this]
 refine zaa zcc ?_
 refine zac ty3 (zaX hA2) (hx2_.trans hx3_) fun hI22=>?_
 refine zaa zcc ?_
 refine zac ty3 (zaX hA3) hx3_ fun hI24=>?_
 refine zaC ?_
 refine br (fun c4=>?_) (fun c4=>?_)
 · refine ⟨(hx1_.trans (hx2_.trans hx3_)),?_⟩
   have:t1≠t2:=fun e=>c4 (by rw [e])
   simp [this]
 refine ⟨(hx1_.trans (hx2_.trans hx3_)),?_⟩
 have:t1=t2:=DIns.ext_iff.2 ⟨Decidable.not_not.1 c1,Decidable.not_not.1 c2,Decidable.not_not.1 c3,Decidable.not_not.1 c4⟩
 simp [this]
def F23 (a0 a1:Value) (w:World) (R:VW):Prop:=
 rN 31 3 a0 w fun x7=>
 rN 31 3 a1 w fun x9=>
 rB .neq 3 T0 T0 x7 x9 w fun x10=>
 BR x10
 (R (Value.bool false) w)
 (LOOPI [5] [(iV 0)] w fun u4 w next4=>
 rN 31 3 a0 w fun x13=>
 rC (u4 5) x13 w fun x14=>
 BR x14
 ((fun w=>rX 31 a0 (u4 5) w fun x19=>
 rL 64 x19 w fun x20=>
 rX 31 a1 (u4 5) w fun x23=>
 rL 64 x23 w fun x24=>
 cL 34 [x20,x24] w fun x25 w=>
 rD (Op.unary .not x25) w fun x26=>
 BR x26
 (R (Value.bool false) w)
 (rA (u4 5) (iV 1) w fun x16=>
 next4 [x16] w)) (World.drew1 w))
 (R (Value.bool true) w))
def cfg23:Cfg:=⟨extL,[],[(4,134215728,[5])],[(6,[0,1,2,3,4,5,6,7,8,9],0)],[],[],[]⟩
theorem F23_call {a0 a1:Value} {w:World} {R:VW} (h:F23 a0 a1 w R):cL 23 [a0,a1] w R:=co (g:=cfg23) Tryd.func23 (by kernel_rfl) (by kernel_rfl) (by kernel_rfl) h
theorem zgw {w:World} {v0:Value} {W0:World} {l1:(List DIns)} {v1:Value} {W1:World} {l2:(List DIns)}  (h0:Is W0 v0 l1) (e0:Ext W0 w) (h1:Is W1 v1 l2) (e1:Ext W1 w)  :
   CALL Tryd.prog 23 [v0,v1] w fun r w'=>Ext w w'∧(r=.bool (decide (l1=l2))):=by
 refine F23_call ?_
 unfold F23
 have hl1:=zad h0
 have hln7:=zad h0
 refine zae u31 h0 ?_
 have hln9:=zad h1
 refine zae u31 h1 ?_
 refine zaC ?_
 refine br (fun c1=>?_) (fun c1=>?_)
 · refine ⟨Ext.refl w,?_⟩
   have:l1≠l2:=fun e=>c1 (by rw [e])
   simp [this]
 refine zaQ (l1.length) (fun k us w'=>us=[.int .i64 (k:Int)]∧Ext w w'∧(l1.take k=l2.take k)) (0) (by omega) ⟨by simp,Ext.refl w,by simp⟩ ?_
 rintro k m4 uu4 w1_ hk4 ⟨hu,hx1_,hinv⟩
 simp only [List.map_cons,List.map_nil,List.cons.injEq,and_true] at hu
 try rw [hu]
 try clear hu
 have hln13:=zad h0
 refine zae u31 h0 ?_
 refine zah ?_
 refine br (fun c2=>?_) (fun c2=>?_)
 · have hx2_:=zaw w1_
   refine zaf u31 zc1 h0 (by omega) fun b19 o19 h19=>?_
   refine zab zc1 h19 (e0.trans (hx1_.trans hx2_)) fun v20 h20=>?_
   refine zaf u31 zc1 h1 (by omega) fun b23 o23 h23=>?_
   refine zab zc1 h23 (e1.trans (hx1_.trans hx2_)) fun v24 h24=>?_
   refine (zg5 h20 (e0.trans (hx1_.trans hx2_)) h24 (e1.trans (hx1_.trans hx2_))).mono ?_
   rintro _ w3_ ⟨hx3_,rfl⟩
   refine zak ?_
   refine br (fun c3=>?_) (fun c3=>?_)
   · refine ⟨(hx1_.trans (hx2_.trans hx3_)),?_⟩
     have:l1≠l2:=fun e=>c3 (by subst e;rfl)
     simp [this]
   refine zao (by omega) ?_
   refine ⟨m4-1,by omega,k+1,by omega,by simp,(hx1_.trans (hx2_.trans hx3_)),?_⟩
   rw [List.take_succ_eq_append_getElem (by omega),List.take_succ_eq_append_getElem (by omega),hinv,Decidable.not_not.1 c3]
 refine ⟨hx1_,?_⟩
 rw [List.take_of_length_le (by omega),List.take_of_length_le (by omega)] at hinv
 simp [hinv]
def F9 (a0 a1:Value) (w:World) (R:VW):Prop:=
 oP (Instr.box 33 a0) w fun x2 w=>
 oP (Instr.box 33 a1) w fun x3 w=>
 rF 33 x2 0 w fun x5=>
 rL 22 x5 w fun x6=>
 rF 33 x3 0 w fun x7=>
 rL 22 x7 w fun x8=>
 cL 21 [x6,x8] w fun x9 w=>
 rD (Op.unary .not x9) w fun x10=>
 BR x10
 (R (Value.bool false) w)
 (rF 33 x2 1 w fun x11=>
 rL 22 x11 w fun x12=>
 rF 33 x3 1 w fun x13=>
 rL 22 x13 w fun x14=>
 cL 21 [x12,x14] w fun x15 w=>
 rD (Op.unary .not x15) w fun x16=>
 BR x16
 (R (Value.bool false) w)
 (rF 33 x2 2 w fun x17=>
 rL 22 x17 w fun x18=>
 rF 33 x3 2 w fun x19=>
 rL 22 x19 w fun x20=>
 cL 21 [x18,x20] w fun x21 w=>
 rD (Op.unary .not x21) w fun x22=>
 BR x22
 (R (Value.bool false) w)
 (rF 33 x2 3 w fun x23=>
 rL 23 x23 w fun x24=>
 rF 33 x3 3 w fun x25=>
 rL 23 x25 w fun x26=>
 cL 22 [x24,x26] w fun x27 w=>
 rD (Op.unary .not x27) w fun x28=>
 BR x28
 (R (Value.bool false) w)
 (rF 33 x2 4 w fun x29=>
 rL 31 x29 w fun x30=>
 rF 33 x3 4 w fun x31=>
 rL 31 x31 w fun x32=>
 cL 23 [x30,x32] w fun x33 w=>
 rD (Op.unary .not x33) w fun x34=>
 BR x34
 (R (Value.bool false) w)
 (R (Value.bool true) w)))))
def cfg9:Cfg:=⟨extL,[],[],[],[],[],[]⟩
theorem F9_call {a0 a1:Value} {w:World} {R:VW} (h:F9 a0 a1 w R):cL 9 [a0,a1] w R:=co (g:=cfg9) Tryd.func9 (by kernel_rfl) (by kernel_rfl) (by kernel_rfl) h
theorem zgx {w:World} {v0:Value} {W0:World} {t1:DCode} {v1:Value} {W1:World} {t2:DCode}  (h0:Is W0 v0 t1) (e0:Ext W0 w) (h1:Is W1 v1 t2) (e1:Ext W1 w)  :
   CALL Tryd.prog 9 [v0,v1] w fun r w'=>Ext w w'∧(r=.bool (decide (t1=t2))):=by
 refine F9_call ?_
 unfold F9
 refine zam zd3 rfl h0 e0 fun w1_ hx1_ hA2 hV2=>?_
 refine zam zd3 rfl h1 (e1.trans hx1_) fun w2_ hx2_ hA3 hV3=>?_
 refine zaa zbb ?_
 refine zab zbi (zar hA2) hx2_ fun v6 h6=>?_
 refine zaa zbb ?_
 refine zab zbi (zar hA3) (Ext.refl w2_) fun v8 h8=>?_
 refine (zbY h6 hx2_ h8 (Ext.refl w2_)).mono ?_
 rintro _ w3_ ⟨hx3_,rfl⟩
 refine zak ?_
 refine br (fun c1=>?_) (fun c1=>?_)
 · refine ⟨(hx1_.trans (hx2_.trans hx3_)),?_⟩
   have:t1≠t2:=fun e=>c1 (by rw [e])
   simp [this]
 refine zaa zbW ?_
 refine zab zbi (zaH hA2) (hx2_.trans hx3_) fun v12 h12=>?_
 refine zaa zbW ?_
 refine zab zbi (zaH hA3) hx3_ fun v14 h14=>?_
 refine (zbY h12 (hx2_.trans hx3_) h14 hx3_).mono ?_
 rintro _ w4_ ⟨hx4_,rfl⟩
 refine zak ?_
 refine br (fun c2=>?_) (fun c2=>?_)
 · refine ⟨(hx1_.trans (hx2_.trans (hx3_.trans hx4_))),?_⟩
   have:t1≠t2:=fun e=>c2 (by rw [e])
   simp [this]
 refine zaa zbm ?_
 refine zab zbi (zav hA2) (hx2_.trans (hx3_.trans hx4_)) fun v18 h18=>?_
 refine zaa zbm ?_
 refine zab zbi (zav hA3) (hx3_.trans hx4_) fun v20 h20=>?_
 refine (zbY h18 (hx2_.trans (hx3_.trans hx4_)) h20 (hx3_.trans hx4_)).mono ?_
 rintro _ w5_ ⟨hx5_,rfl⟩
 refine zak ?_
 refine br (fun c3=>?_) (fun c3=>?_)
 · refine ⟨(hx1_.trans (hx2_.trans (hx3_.trans (hx4_.trans hx5_)))),?_⟩
   have:t1≠t2:=fun e=>c3 (by rw [e])
   simp [this]
 refine zaa zaI ?_
 refine zab zcj (zag hA2) (hx2_.trans (hx3_.trans (hx4_.trans hx5_))) fun v24 h24=>?_
 refine zaa zaI ?_
 refine zab zcj (zag hA3) (hx3_.trans (hx4_.trans hx5_)) fun v26 h26=>?_
 refine (zfN h24 (hx2_.trans (hx3_.trans (hx4_.trans hx5_))) h26 (hx3_.trans (hx4_.trans hx5_))).mono ?_
 rintro _ w6_ ⟨hx6_,rfl⟩
 refine zak ?_
 refine br (fun c4=>?_) (fun c4=>?_)
 · refine ⟨(hx1_.trans (hx2_.trans (hx3_.trans (hx4_.trans (hx5_.trans hx6_))))),?_⟩
   have:t1≠t2:=fun e=>c4 (by rw [e])
   simp [this]
 refine zaa za2 ?_
 refine zab zdH (zal hA2) (hx2_.trans (hx3_.trans (hx4_.trans (hx5_.trans hx6_)))) fun v30 h30=>?_
 refine zaa za2 ?_
 refine zab zdH (zal hA3) (hx3_.trans (hx4_.trans (hx5_.trans hx6_))) fun v32 h32=>?_
 refine (zgw h30 (hx2_.trans (hx3_.trans (hx4_.trans (hx5_.trans hx6_)))) h32 (hx3_.trans (hx4_.trans (hx5_.trans hx6_)))).mono ?_
 rintro _ w7_ ⟨hx7_,rfl⟩
 refine zak ?_
 refine br (fun c5=>?_) (fun c5=>?_)
 · refine ⟨(hx1_.trans (hx2_.trans (hx3_.trans (hx4_.trans (hx5_.trans (hx6_.trans hx7_)))))),?_⟩
   have:t1≠t2:=fun e=>c5 (by rw [e])
   simp [this]
 refine ⟨(hx1_.trans (hx2_.trans (hx3_.trans (hx4_.trans (hx5_.trans (hx6_.trans hx7_)))))),?_⟩
 have:t1=t2:=DCode.ext_iff.2 ⟨Decidable.not_not.1 c1,Decidable.not_not.1 c2,Decidable.not_not.1 c3,Decidable.not_not.1 c4,Decidable.not_not.1 c5⟩
 simp [this]
theorem zbZ {w:World} {v:Value} {l:List ByteArray} (h:Is w v l) (hn:l.length≤1048576) :
   CALL Tryd.prog 16 [v] w fun r w'=>Ext w w'∧Own w.heap.size w' r l:=by
 refine F16_call ?_
 unfold F16
 refine zae u22 h ?_
 refine zdZ (α:=ByteArray) u22 ty9 z9 (by omega) (by omega) fun w1 hx1 hf=>?_
 refine zaQ l.length (fun k us w'=>us=[.int .i64 (k:Int)]∧Ext w w'∧Fill w.heap.size 9 l.length [] w' (l.take k)) 0 (Nat.zero_le _) ⟨rfl,hx1,by simpa using hf⟩ ?_
 rintro k m u w2 hkm ⟨hu,hx2,hf2⟩
 simp only [List.map_cons,List.map_nil,List.cons.injEq,and_true] at hu
 rw [hu]
 refine zae u22 h ?_
 refine zah ?_
 refine br (fun hlt=>?_) (fun hge=>?_)
 · have hk:k<l.length:=by omega
   refine zaf u22 ty9 h hk fun b o hA=>?_
   refine zai ty9 hA hx2 fun hI=>?_
   refine zcB u22 ty9 hk ?_
   refine zc3 (α:=ByteArray) ty9 hf2 (by simp [Rep.size];omega) (by simp;omega) (⟨⟨_,⟨rfl,rfl,hI⟩,rfl⟩,List.nodup_nil,Wr.nil _⟩:Mine [] w2 _ l[k]) (by simp) fun w3 hc3 hf3=>?_
   refine zao (by have:=zad h;omega) ?_
   refine ⟨m-1,by omega,k+1,by omega,rfl,hx2.chg_trans hc3 (by simp),?_⟩
   rw [List.take_succ_eq_append_getElem hk]
   simpa using hf3
 have hk:k=l.length:=by omega
 subst hk
 rw [List.take_length] at hf2
 exact ⟨hx2,_,hf2.own rfl (by rw [zaE];omega),by simp⟩
def zht (t:DTerm):Prop:=∀ {w:World} {v:Value},Is w v t→wT t≤1048576 →
 CALL Tryd.prog 44 [v] w fun r w'=>Ext w w'∧Own w.heap.size w' r t
def zhO (l:List DTerm):Prop:=∀ {w:World} {v:Value},Is w v l→wTs l≤1048576 →
 CALL Tryd.prog 59 [v] w fun r w'=>Ext w w'∧Own w.heap.size w' r l
theorem zdO {α:Type} [Rep α] {g e n lo:Nat} {Fi F1:List Nat} {w w':World} {l:List α} {v:Value} {x:α} (hf:Fill g e n Fi w l) (hm:Mine F1 w' v x) (hl:∀ b∈F1,w.heap.size≤b):(F1++(g :: Fi)).Nodup:=by
 rw [List.nodup_append]
 refine ⟨hm.nodup,by obtain ⟨_,_,_,_,_,hn,_⟩:=hf;exact hn,fun a ha c hc e=>?_⟩
 subst e
 have:=hl a ha
 have:=hf.lt a hc
 omega
theorem zeP {w:World} {v:Value} {l:List DTerm} (ih:∀ t∈l,zht t) (h:Is w v l) (hn:wTs l≤1048576) :
   CALL Tryd.prog 59 [v] w fun r w'=>Ext w w'∧Own w.heap.size w' r l:=by
 rw [zhq] at hn
 refine F59_call ?_
 unfold F59
 refine zae u52 h ?_
 refine zdZ (α:=DTerm) u60 zbq z62 (by omega) (by omega) fun w1 hx1 hf=>?_
 refine zaQ l.length (fun k us w'=>us=[.int .i64 (k:Int)]∧Ext w w'∧∃ Fi,Fill w.heap.size 62 l.length Fi w' (l.take k)∧∀ b∈Fi,w.heap.size≤b) 0 (Nat.zero_le _) ⟨rfl,hx1,[],by simpa using hf,by simp⟩ ?_
 rintro k m u w2 hkm ⟨hu,hx2,Fi,hf2,hFl⟩
 simp only [List.map_cons,List.map_nil,List.cons.injEq,and_true] at hu
 rw [hu]
 refine zae u52 h ?_
 refine zah ?_
 refine br (fun hlt=>?_) (fun hge=>?_)
 · have hk:k<l.length:=by omega
   refine zaf u52 zhj h hk fun b o hA=>?_
   refine zab zhj hA hx2 fun v19 h19=>?_
   refine (ih _ (List.getElem_mem hk) (h19.ext hx2) (by have:=zho wT (List.getElem_mem hk);omega)).mono ?_
   rintro r20 w3 ⟨hx3,F20,hm20,hl20⟩
   refine zcB u60 zbq hk ?_
   refine zc3 (α:=DTerm) zbq (hf2.ext hx3) (by simp [Rep.size];omega) (by simp;omega) hm20 (zdO (lo:=0) hf2 hm20 hl20) fun w4 hc4 hf4=>?_
   refine zao (by have:=zad h;omega) ?_
   refine ⟨m-1,by omega,k+1,by omega,rfl,(hx2.trans hx3).chg_trans hc4 (by simp),Fi++F20,?_,?_⟩
   · rw [List.take_succ_eq_append_getElem hk]
     exact hf4
   intro b hb
   rcases List.mem_append.1 hb with hb | hb
   · exact hFl b hb
   exact Nat.le_trans hx2.size (hl20 b hb)
 have hk:k=l.length:=by omega
 subst hk
 rw [List.take_length] at hf2
 exact ⟨hx2,_,hf2.own rfl (by rw [zaE];omega),by simpa using hFl⟩
def F44 (a0:Value) (w:World) (R:VW):Prop:=
 oP (Instr.box 54 a0) w fun x1 w=>
 oP (Instr.alloc 62 true (.tuple #[])) w fun x2 w=>
 oP (Instr.alloc 62 true (.tuple #[])) w fun x3 w=>
 rF 54 x1 0 w fun x4=>
 rL 3 x4 w fun x5=>
 rF 62 x3 0 w fun x6=>
 oS 3 x6 x5 w fun w=>
 rF 54 x1 1 w fun x7=>
 rL 3 x7 w fun x8=>
 rF 62 x3 1 w fun x9=>
 oS 3 x9 x8 w fun w=>
 rF 54 x1 2 w fun x10=>
 rL 9 x10 w fun x11=>
 rF 62 x3 2 w fun x12=>
 oS 9 x12 x11 w fun w=>
 rF 54 x1 3 w fun x13=>
 rL 52 x13 w fun x14=>
 cL 59 [x14] w fun x15 w=>
 rF 62 x3 3 w fun x16=>
 oS 60 x16 x15 w fun w=>
 rL 62 x3 w fun x17=>
 oS 62 x2 x17 w fun w=>
 rD (zby 62 x2) w fun r2=>R r2 w
def cfg44:Cfg:=⟨extL,[],[],[],[],[],[]⟩
theorem F44_call {a0:Value} {w:World} {R:VW} (h:F44 a0 w R):cL 44 [a0] w R:=co (g:=cfg44) Tryd.func44 (by kernel_rfl) (by kernel_rfl) (by kernel_rfl) h
theorem zfj {w:World} {v0:Value} {W0:World} {t:DTerm}  (h0:Is W0 v0 t) (e0:Ext W0 w) (ih:zhO t.kids) (hn:wT t≤1048576) :
   CALL Tryd.prog 44 [v0] w fun r w'=>Ext w w'∧(Own w.heap.size w' r t):=by
 refine F44_call ?_
 unfold F44
 have hn':wTs t.kids≤1048576:=by rw [zih] at hn;omega
 have hs_e0:=e0.size
 refine zam zhj rfl h0 e0 fun w1_ hx1_ hA1 hV1=>?_
 have hs_hx1_:=hx1_.size
 refine zcO (α:=DTerm) zic fun w2_ hx2_ hv2=>?_
 have hg2:=hv2.lt
 have hs_hx2_:=hx2_.size
 refine zcO (α:=DTerm) zic fun w3_ hx3_ hv3=>?_
 have hg3:=hv3.lt
 have hs_hx3_:=hx3_.size
 refine zaa zh7 ?_
 refine zac ty3 (zaG hA1) (hx2_.trans hx3_) fun hI5=>?_
 refine zaa zbP ?_
 obtain ⟨Fv4,hO4,hF4⟩:=(hv3.ext (Ext.refl w3_))
 obtain ⟨Gv4,hL4⟩:=zeB (Lens.var hO4)
 refine zaV ty3 hL4 hF4 (zcC (lo:=w3_.heap.size) (hi:=w3_.heap.size) (by first | assumption | (unfold I64 at *;omega))) (by omega) (by omega) fun w4_ hc4_ hv4_=>?_
 have hv3_s4:=hv4_ (w3_.heap.size) (by omega) (by omega) (w3_.heap.size) (by omega) (by omega)
 clear hv4_ hL4 hO4 hF4
 have hs_hc4_:=hc4_.size
 have hv2_c4:=(hv2.ext hx3_).chg hc4_ (by omega) (by omega)
 refine zaa zh8 ?_
 refine zac ty3 (zaD hA1) (Ext.chgI (hx2_.trans hx3_) hc4_ (by omega)) fun hI8=>?_
 refine zaa zbF ?_
 obtain ⟨Fv5,hO5,hF5⟩:=(hv3_s4.ext (Ext.refl w4_))
 obtain ⟨Gv5,hL5⟩:=zeC (Lens.var hO5)
 refine zaV ty3 hL5 hF5 (zcC (lo:=w4_.heap.size) (hi:=w4_.heap.size) (by first | assumption | (unfold I64 at *;omega))) (by omega) (by omega) fun w5_ hc5_ hv5_=>?_
 have hv3_s5:=hv5_ (w3_.heap.size) (by omega) (by omega) (w4_.heap.size) (by omega) (by omega)
 clear hv5_ hL5 hO5 hF5
 have hs_hc5_:=hc5_.size
 have hv2_c5:=(hv2_c4.ext (Ext.refl w4_)).chg hc5_ (by omega) (by omega)
 refine zaa zhk ?_
 refine zai ty9 (zau hA1) (Ext.chgI (Ext.chgI (hx2_.trans hx3_) hc4_ (by omega)) hc5_ (by omega)) fun hS11=>?_
 refine zaa zbn ?_
 obtain ⟨Fv6,hO6,hF6⟩:=(hv3_s5.ext (Ext.refl w5_))
 obtain ⟨Gv6,hL6⟩:=zeD (Lens.var hO6)
 refine zaV ty9 hL6 hF6 (zgV (lo:=w5_.heap.size) (hi:=w5_.heap.size) (by first | assumption | (rw [zaE];omega) | (simp [zaE];omega))) (by omega) (by omega) fun w6_ hc6_ hv6_=>?_
 have hv3_s6:=hv6_ (w3_.heap.size) (by omega) (by omega) (w5_.heap.size) (by omega) (by omega)
 clear hv6_ hL6 hO6 hF6
 have hs_hc6_:=hc6_.size
 have hv2_c6:=(hv2_c5.ext (Ext.refl w5_)).chg hc6_ (by omega) (by omega)
 refine zaa zhl ?_
 refine zab ziJ (zaj hA1) (Ext.chgI (Ext.chgI (Ext.chgI (hx2_.trans hx3_) hc4_ (by omega)) hc5_ (by omega)) hc6_ (by omega)) fun v14 h14=>?_
 refine (ih (h14.ext (Ext.chgI (Ext.chgI (Ext.chgI (hx2_.trans hx3_) hc4_ (by omega)) hc5_ (by omega)) hc6_ (by omega))) (by omega)).mono ?_
 rintro r15 w7_ ⟨hx7_,o15⟩
 have o15:=o15.toI
 have hs_hx7_:=hx7_.size
 refine zaa zaS ?_
 obtain ⟨Fv8,hO8,hF8⟩:=(hv3_s6.ext hx7_)
 obtain ⟨Gv8,hL8⟩:=zeE (Lens.var hO8)
 refine zaV zc0 hL8 hF8 (o15.ext (Ext.refl w7_)) (by omega) (by omega) fun w8_ hc8_ hv8_=>?_
 have hv3_s8:=hv8_ (w3_.heap.size) (by omega) (by omega) (w7_.heap.size) (by omega) (by omega)
 clear hv8_ hL8 hO8 hF8
 have hs_hc8_:=hc8_.size
 have hv2_c8:=(hv2_c6.ext hx7_).chg hc8_ (by omega) (by omega)
 have o15_c8:=(o15.ext (Ext.refl w7_)).chg hc8_ (by omega)
 refine ze3 zbq hv3_s8 (Ext.refl w8_) fun v17 o17=>?_
 refine zd5 zbq (hv2_c8.ext (Ext.refl w8_)) (o17.ext (Ext.refl w8_)) (by omega) fun w9_ hc9_ hv2_s9=>?_
 have hs_hc9_:=hc9_.size
 have hv3_s8_c9:=(hv3_s8.ext (Ext.refl w8_)).chg hc9_ (by omega) (by omega)
 have o15_c9:=(o15_c8.ext (Ext.refl w8_)).chg hc9_ (by omega)
 have o17_c9:=(o17.ext (Ext.refl w8_)).chg hc9_ (by omega)
 refine zd4 zbq hv2_s9 (Ext.refl w9_) fun r2 hr2=>?_
 replace hr2:=hr2.ext (Ext.refl w9_)
 refine ⟨(Ext.chgI (Ext.chgI ((Ext.chgI (Ext.chgI (Ext.chgI ((hx1_.trans hx2_).trans hx3_) hc4_ (by omega)) hc5_ (by omega)) hc6_ (by omega)).trans hx7_) hc8_ (by omega)) hc9_ (by omega)),?_⟩
 have:=(hr2.mono (lo':=w.heap.size) (by omega) (Nat.le_refl _)).own
 cases t
 exact this
theorem zgy (t:DTerm):zht t:=DTerm.ind (fun t ih {w v} h hn=>zfj h (Ext.refl w) (fun {_ _} h hn=>zeP ih h hn) hn) t
def F28 (a0:Value) (w:World) (R:VW):Prop:=
 oP (Instr.box 56 a0) w fun x1 w=>
 oP (Instr.alloc 64 true (.tuple #[])) w fun x2 w=>
 oP (Instr.alloc 64 true (.tuple #[])) w fun x3 w=>
 rF 56 x1 0 w fun x4=>
 rL 3 x4 w fun x5=>
 rF 64 x3 0 w fun x6=>
 oS 3 x6 x5 w fun w=>
 rF 56 x1 1 w fun x7=>
 rL 3 x7 w fun x8=>
 rF 64 x3 1 w fun x9=>
 oS 3 x9 x8 w fun w=>
 rF 56 x1 2 w fun x10=>
 rL 54 x10 w fun x11=>
 cL 44 [x11] w fun x12 w=>
 rF 64 x3 2 w fun x13=>
 oS 62 x13 x12 w fun w=>
 rF 56 x1 3 w fun x14=>
 rL 3 x14 w fun x15=>
 rF 64 x3 3 w fun x16=>
 oS 3 x16 x15 w fun w=>
 rL 64 x3 w fun x17=>
 oS 64 x2 x17 w fun w=>
 rD (zby 64 x2) w fun r2=>R r2 w
def cfg28:Cfg:=⟨extL,[],[],[],[],[],[]⟩
theorem F28_call {a0:Value} {w:World} {R:VW} (h:F28 a0 w R):cL 28 [a0] w R:=co (g:=cfg28) Tryd.func28 (by kernel_rfl) (by kernel_rfl) (by kernel_rfl) h
theorem zg6 {w:World} {v0:Value} {W0:World} {t:DIns}  (h0:Is W0 v0 t) (e0:Ext W0 w) (hn:wT t.term≤1048576) :
   CALL Tryd.prog 28 [v0] w fun r w'=>Ext w w'∧(Own w.heap.size w' r t):=by
 refine F28_call ?_
 unfold F28
 have hs_e0:=e0.size
 refine zam zhV rfl h0 e0 fun w1_ hx1_ hA1 hV1=>?_
 have hs_hx1_:=hx1_.size
 refine zcO (α:=DIns) zid fun w2_ hx2_ hv2=>?_
 have hg2:=hv2.lt
 have hs_hx2_:=hx2_.size
 refine zcO (α:=DIns) zid fun w3_ hx3_ hv3=>?_
 have hg3:=hv3.lt
 have hs_hx3_:=hx3_.size
 refine zaa zh9 ?_
 refine zac ty3 (zat hA1) (hx2_.trans hx3_) fun hI5=>?_
 refine zaa za6 ?_
 obtain ⟨Fv4,hO4,hF4⟩:=(hv3.ext (Ext.refl w3_))
 obtain ⟨Gv4,hL4⟩:=zfa (Lens.var hO4)
 refine zaV ty3 hL4 hF4 (zcC (lo:=w3_.heap.size) (hi:=w3_.heap.size) (by first | assumption | (unfold I64 at *;omega))) (by omega) (by omega) fun w4_ hc4_ hv4_=>?_
 have hv3_s4:=hv4_ (w3_.heap.size) (by omega) (by omega) (w3_.heap.size) (by omega) (by omega)
 clear hv4_ hL4 hO4 hF4
 have hs_hc4_:=hc4_.size
 have hv2_c4:=(hv2.ext hx3_).chg hc4_ (by omega) (by omega)
 refine zaa zia ?_
 refine zac ty3 (zbH hA1) (Ext.chgI (hx2_.trans hx3_) hc4_ (by omega)) fun hI8=>?_
 refine zaa zdJ ?_
 obtain ⟨Fv5,hO5,hF5⟩:=(hv3_s4.ext (Ext.refl w4_))
 obtain ⟨Gv5,hL5⟩:=zfb (Lens.var hO5)
 refine zaV ty3 hL5 hF5 (zcC (lo:=w4_.heap.size) (hi:=w4_.heap.size) (by first | assumption | (unfold I64 at *;omega))) (by omega) (by omega) fun w5_ hc5_ hv5_=>?_
 have hv3_s5:=hv5_ (w3_.heap.size) (by omega) (by omega) (w4_.heap.size) (by omega) (by omega)
 clear hv5_ hL5 hO5 hF5
 have hs_hc5_:=hc5_.size
 have hv2_c5:=(hv2_c4.ext (Ext.refl w4_)).chg hc5_ (by omega) (by omega)
 refine zaa zhm ?_
 refine zab zhj (zaJ hA1) (Ext.chgI (Ext.chgI (hx2_.trans hx3_) hc4_ (by omega)) hc5_ (by omega)) fun v11 h11=>?_
 refine ((zgy _) (h11.ext (Ext.chgI (Ext.chgI (hx2_.trans hx3_) hc4_ (by omega)) hc5_ (by omega))) (by assumption)).mono ?_
 rintro r12 w6_ ⟨hx6_,o12⟩
 have o12:=o12.toI
 have hs_hx6_:=hx6_.size
 refine zaa zbG ?_
 obtain ⟨Fv7,hO7,hF7⟩:=(hv3_s5.ext hx6_)
 obtain ⟨Gv7,hL7⟩:=zfc (Lens.var hO7)
 refine zaV zbq hL7 hF7 (o12.ext (Ext.refl w6_)) (by omega) (by omega) fun w7_ hc7_ hv7_=>?_
 have hv3_s7:=hv7_ (w3_.heap.size) (by omega) (by omega) (w6_.heap.size) (by omega) (by omega)
 clear hv7_ hL7 hO7 hF7
 have hs_hc7_:=hc7_.size
 have hv2_c7:=(hv2_c5.ext hx6_).chg hc7_ (by omega) (by omega)
 have o12_c7:=(o12.ext (Ext.refl w6_)).chg hc7_ (by omega)
 refine zaa zib ?_
 refine zac ty3 (zaX hA1) (Ext.chgI ((Ext.chgI (Ext.chgI (hx2_.trans hx3_) hc4_ (by omega)) hc5_ (by omega)).trans hx6_) hc7_ (by omega)) fun hI15=>?_
 refine zaa zcc ?_
 obtain ⟨Fv8,hO8,hF8⟩:=(hv3_s7.ext (Ext.refl w7_))
 obtain ⟨Gv8,hL8⟩:=zfd (Lens.var hO8)
 refine zaV ty3 hL8 hF8 (zcC (lo:=w7_.heap.size) (hi:=w7_.heap.size) (by first | assumption | (unfold I64 at *;omega))) (by omega) (by omega) fun w8_ hc8_ hv8_=>?_
 have hv3_s8:=hv8_ (w3_.heap.size) (by omega) (by omega) (w7_.heap.size) (by omega) (by omega)
 clear hv8_ hL8 hO8 hF8
 have hs_hc8_:=hc8_.size
 have hv2_c8:=(hv2_c7.ext (Ext.refl w7_)).chg hc8_ (by omega) (by omega)
 have o12_c8:=(o12_c7.ext (Ext.refl w7_)).chg hc8_ (by omega)
 refine ze3 zc1 hv3_s8 (Ext.refl w8_) fun v17 o17=>?_
 refine zd5 zc1 (hv2_c8.ext (Ext.refl w8_)) (o17.ext (Ext.refl w8_)) (by omega) fun w9_ hc9_ hv2_s9=>?_
 have hs_hc9_:=hc9_.size
 have hv3_s8_c9:=(hv3_s8.ext (Ext.refl w8_)).chg hc9_ (by omega) (by omega)
 have o12_c9:=(o12_c8.ext (Ext.refl w8_)).chg hc9_ (by omega)
 have o17_c9:=(o17.ext (Ext.refl w8_)).chg hc9_ (by omega)
 refine zd4 zc1 hv2_s9 (Ext.refl w9_) fun r2 hr2=>?_
 replace hr2:=hr2.ext (Ext.refl w9_)
 refine ⟨(Ext.chgI (Ext.chgI (Ext.chgI ((Ext.chgI (Ext.chgI ((hx1_.trans hx2_).trans hx3_) hc4_ (by omega)) hc5_ (by omega)).trans hx6_) hc7_ (by omega)) hc8_ (by omega)) hc9_ (by omega)),?_⟩
 exact (hr2.mono (lo':=w.heap.size) (by omega) (Nat.le_refl _)).own
theorem zgz {w:World} {v:Value} {l:List DIns} (h:Is w v l) (hn:zii l≤1048576) :
   CALL Tryd.prog 18 [v] w fun r w'=>Ext w w'∧Own w.heap.size w' r l:=by
 unfold zii at hn
 refine F18_call ?_
 unfold F18
 refine zae u24 h ?_
 refine zdZ (α:=DIns) u31 zc1 z64 (by omega) (by omega) fun w1 hx1 hf=>?_
 refine zaQ l.length (fun k us w'=>us=[.int .i64 (k:Int)]∧Ext w w'∧∃ Fi,Fill w.heap.size 64 l.length Fi w' (l.take k)∧∀ b∈Fi,w.heap.size≤b) 0 (Nat.zero_le _) ⟨rfl,hx1,[],by simpa using hf,by simp⟩ ?_
 rintro k m u w2 hkm ⟨hu,hx2,Fi,hf2,hFl⟩
 simp only [List.map_cons,List.map_nil,List.cons.injEq,and_true] at hu
 rw [hu]
 refine zae u24 h ?_
 refine zah ?_
 refine br (fun hlt=>?_) (fun hge=>?_)
 · have hk:k<l.length:=by omega
   refine zaf u24 zhV h hk fun b o hA=>?_
   refine zab zhV hA hx2 fun v19 h19=>?_
   refine (zg6 h19 hx2 (by have:=zho (fun i:DIns=>wT i.term) (List.getElem_mem hk);omega)).mono ?_
   rintro r20 w3 ⟨hx3,F20,hm20,hl20⟩
   refine zcB u31 zc1 hk ?_
   refine zc3 (α:=DIns) zc1 (hf2.ext hx3) (by simp [Rep.size];omega) (by simp;omega) hm20 (zdO (lo:=0) hf2 hm20 hl20) fun w4 hc4 hf4=>?_
   refine zao (by have:=zad h;omega) ?_
   refine ⟨m-1,by omega,k+1,by omega,rfl,(hx2.trans hx3).chg_trans hc4 (by simp),Fi++F20,?_,?_⟩
   · rw [List.take_succ_eq_append_getElem hk]
     exact hf4
   intro b hb
   rcases List.mem_append.1 hb with hb | hb
   · exact hFl b hb
   exact Nat.le_trans hx2.size (hl20 b hb)
 have hk:k=l.length:=by omega
 subst hk
 rw [List.take_length] at hf2
 exact ⟨hx2,_,hf2.own rfl (by rw [zaE];omega),by simpa using hFl⟩
def F6 (a0:Value) (w:World) (R:VW):Prop:=
 oP (Instr.box 26 a0) w fun x1 w=>
 oP (Instr.alloc 33 true (.tuple #[])) w fun x2 w=>
 oP (Instr.alloc 33 true (.tuple #[])) w fun x3 w=>
 rF 26 x1 0 w fun x4=>
 rL 22 x4 w fun x5=>
 cL 16 [x5] w fun x6 w=>
 rF 33 x3 0 w fun x7=>
 oS 22 x7 x6 w fun w=>
 rF 26 x1 1 w fun x8=>
 rL 22 x8 w fun x9=>
 cL 16 [x9] w fun x10 w=>
 rF 33 x3 1 w fun x11=>
 oS 22 x11 x10 w fun w=>
 rF 26 x1 2 w fun x12=>
 rL 22 x12 w fun x13=>
 cL 16 [x13] w fun x14 w=>
 rF 33 x3 2 w fun x15=>
 oS 22 x15 x14 w fun w=>
 rF 26 x1 3 w fun x16=>
 rL 23 x16 w fun x17=>
 cL 17 [x17] w fun x18 w=>
 rF 33 x3 3 w fun x19=>
 oS 23 x19 x18 w fun w=>
 rF 26 x1 4 w fun x20=>
 rL 24 x20 w fun x21=>
 cL 18 [x21] w fun x22 w=>
 rF 33 x3 4 w fun x23=>
 oS 31 x23 x22 w fun w=>
 rL 33 x3 w fun x24=>
 oS 33 x2 x24 w fun w=>
 rD (zby 33 x2) w fun r2=>R r2 w
def cfg6:Cfg:=⟨extL,[],[],[],[],[],[]⟩
theorem F6_call {a0:Value} {w:World} {R:VW} (h:F6 a0 w R):cL 6 [a0] w R:=co (g:=cfg6) Tryd.func6 (by kernel_rfl) (by kernel_rfl) (by kernel_rfl) h
theorem zfk {w:World} {v0:Value} {W0:World} {t:DCode}  (h0:Is W0 v0 t) (e0:Ext W0 w) (hn:zfg t≤1048576) :
   CALL Tryd.prog 6 [v0] w fun r w'=>Ext w w'∧(Own w.heap.size w' r t):=by
 refine F6_call ?_
 unfold F6
 unfold zfg zhW at hn
 have hs_e0:=e0.size
 refine zam ziv rfl h0 e0 fun w1_ hx1_ hA1 hV1=>?_
 have hs_hx1_:=hx1_.size
 refine zcO (α:=DCode) ziw fun w2_ hx2_ hv2=>?_
 have hg2:=hv2.lt
 have hs_hx2_:=hx2_.size
 refine zcO (α:=DCode) ziw fun w3_ hx3_ hv3=>?_
 have hg3:=hv3.lt
 have hs_hx3_:=hx3_.size
 refine zaa zhe ?_
 refine zab zbi (zar hA1) (hx2_.trans hx3_) fun v5 h5=>?_
 refine (zbZ (h5.ext (hx2_.trans hx3_)) (by omega)).mono ?_
 rintro r6 w4_ ⟨hx4_,o6⟩
 have o6:=o6.toI
 have hs_hx4_:=hx4_.size
 refine zaa zbb ?_
 obtain ⟨Fv5,hO5,hF5⟩:=(hv3.ext hx4_)
 obtain ⟨Gv5,hL5⟩:=zeF (Lens.var hO5)
 refine zaV zbi hL5 hF5 (o6.ext (Ext.refl w4_)) (by omega) (by omega) fun w5_ hc5_ hv5_=>?_
 have hv3_s5:=hv5_ (w3_.heap.size) (by omega) (by omega) (w4_.heap.size) (by omega) (by omega)
 clear hv5_ hL5 hO5 hF5
 have hs_hc5_:=hc5_.size
 have hv2_c5:=(hv2.ext (hx3_.trans hx4_)).chg hc5_ (by omega) (by omega)
 have o6_c5:=(o6.ext (Ext.refl w4_)).chg hc5_ (by omega)
 refine zaa zhf ?_
 refine zab zbi (zaH hA1) (Ext.chgI ((hx2_.trans hx3_).trans hx4_) hc5_ (by omega)) fun v9 h9=>?_
 refine (zbZ (h9.ext (Ext.chgI ((hx2_.trans hx3_).trans hx4_) hc5_ (by omega))) (by omega)).mono ?_
 rintro r10 w6_ ⟨hx6_,o10⟩
 have o10:=o10.toI
 have hs_hx6_:=hx6_.size
 refine zaa zbW ?_
 obtain ⟨Fv7,hO7,hF7⟩:=(hv3_s5.ext hx6_)
 obtain ⟨Gv7,hL7⟩:=zeG (Lens.var hO7)
 refine zaV zbi hL7 hF7 (o10.ext (Ext.refl w6_)) (by omega) (by omega) fun w7_ hc7_ hv7_=>?_
 have hv3_s7:=hv7_ (w3_.heap.size) (by omega) (by omega) (w6_.heap.size) (by omega) (by omega)
 clear hv7_ hL7 hO7 hF7
 have hs_hc7_:=hc7_.size
 have hv2_c7:=(hv2_c5.ext hx6_).chg hc7_ (by omega) (by omega)
 have o6_c7:=(o6_c5.ext hx6_).chg hc7_ (by omega)
 have o10_c7:=(o10.ext (Ext.refl w6_)).chg hc7_ (by omega)
 refine zaa zhg ?_
 refine zab zbi (zav hA1) (Ext.chgI ((Ext.chgI ((hx2_.trans hx3_).trans hx4_) hc5_ (by omega)).trans hx6_) hc7_ (by omega)) fun v13 h13=>?_
 refine (zbZ (h13.ext (Ext.chgI ((Ext.chgI ((hx2_.trans hx3_).trans hx4_) hc5_ (by omega)).trans hx6_) hc7_ (by omega))) (by omega)).mono ?_
 rintro r14 w8_ ⟨hx8_,o14⟩
 have o14:=o14.toI
 have hs_hx8_:=hx8_.size
 refine zaa zbm ?_
 obtain ⟨Fv9,hO9,hF9⟩:=(hv3_s7.ext hx8_)
 obtain ⟨Gv9,hL9⟩:=zeH (Lens.var hO9)
 refine zaV zbi hL9 hF9 (o14.ext (Ext.refl w8_)) (by omega) (by omega) fun w9_ hc9_ hv9_=>?_
 have hv3_s9:=hv9_ (w3_.heap.size) (by omega) (by omega) (w8_.heap.size) (by omega) (by omega)
 clear hv9_ hL9 hO9 hF9
 have hs_hc9_:=hc9_.size
 have hv2_c9:=(hv2_c7.ext hx8_).chg hc9_ (by omega) (by omega)
 have o6_c9:=(o6_c7.ext hx8_).chg hc9_ (by omega)
 have o10_c9:=(o10_c7.ext hx8_).chg hc9_ (by omega)
 have o14_c9:=(o14.ext (Ext.refl w8_)).chg hc9_ (by omega)
 refine zaa zhh ?_
 refine zab zcj (zag hA1) (Ext.chgI ((Ext.chgI ((Ext.chgI ((hx2_.trans hx3_).trans hx4_) hc5_ (by omega)).trans hx6_) hc7_ (by omega)).trans hx8_) hc9_ (by omega)) fun v17 h17=>?_
 refine (zf6 (h17.ext (Ext.chgI ((Ext.chgI ((Ext.chgI ((hx2_.trans hx3_).trans hx4_) hc5_ (by omega)).trans hx6_) hc7_ (by omega)).trans hx8_) hc9_ (by omega))) (by omega)).mono ?_
 rintro r18 w10_ ⟨hx10_,o18⟩
 have o18:=o18.toI
 have hs_hx10_:=hx10_.size
 refine zaa zaI ?_
 obtain ⟨Fv11,hO11,hF11⟩:=(hv3_s9.ext hx10_)
 obtain ⟨Gv11,hL11⟩:=zeI (Lens.var hO11)
 refine zaV zcj hL11 hF11 (o18.ext (Ext.refl w10_)) (by omega) (by omega) fun w11_ hc11_ hv11_=>?_
 have hv3_s11:=hv11_ (w3_.heap.size) (by omega) (by omega) (w10_.heap.size) (by omega) (by omega)
 clear hv11_ hL11 hO11 hF11
 have hs_hc11_:=hc11_.size
 have hv2_c11:=(hv2_c9.ext hx10_).chg hc11_ (by omega) (by omega)
 have o6_c11:=(o6_c9.ext hx10_).chg hc11_ (by omega)
 have o10_c11:=(o10_c9.ext hx10_).chg hc11_ (by omega)
 have o14_c11:=(o14_c9.ext hx10_).chg hc11_ (by omega)
 have o18_c11:=(o18.ext (Ext.refl w10_)).chg hc11_ (by omega)
 refine zaa zhi ?_
 refine zab ziG (zal hA1) (Ext.chgI ((Ext.chgI ((Ext.chgI ((Ext.chgI ((hx2_.trans hx3_).trans hx4_) hc5_ (by omega)).trans hx6_) hc7_ (by omega)).trans hx8_) hc9_ (by omega)).trans hx10_) hc11_ (by omega)) fun v21 h21=>?_
 refine (zgz (h21.ext (Ext.chgI ((Ext.chgI ((Ext.chgI ((Ext.chgI ((hx2_.trans hx3_).trans hx4_) hc5_ (by omega)).trans hx6_) hc7_ (by omega)).trans hx8_) hc9_ (by omega)).trans hx10_) hc11_ (by omega))) (by omega)).mono ?_
 rintro r22 w12_ ⟨hx12_,o22⟩
 have o22:=o22.toI
 have hs_hx12_:=hx12_.size
 refine zaa za2 ?_
 obtain ⟨Fv13,hO13,hF13⟩:=(hv3_s11.ext hx12_)
 obtain ⟨Gv13,hL13⟩:=zeJ (Lens.var hO13)
 refine zaV zdH hL13 hF13 (o22.ext (Ext.refl w12_)) (by omega) (by omega) fun w13_ hc13_ hv13_=>?_
 have hv3_s13:=hv13_ (w3_.heap.size) (by omega) (by omega) (w12_.heap.size) (by omega) (by omega)
 clear hv13_ hL13 hO13 hF13
 have hs_hc13_:=hc13_.size
 have hv2_c13:=(hv2_c11.ext hx12_).chg hc13_ (by omega) (by omega)
 have o6_c13:=(o6_c11.ext hx12_).chg hc13_ (by omega)
 have o10_c13:=(o10_c11.ext hx12_).chg hc13_ (by omega)
 have o14_c13:=(o14_c11.ext hx12_).chg hc13_ (by omega)
 have o18_c13:=(o18_c11.ext hx12_).chg hc13_ (by omega)
 have o22_c13:=(o22.ext (Ext.refl w12_)).chg hc13_ (by omega)
 refine ze3 zd3 hv3_s13 (Ext.refl w13_) fun v24 o24=>?_
 refine zd5 zd3 (hv2_c13.ext (Ext.refl w13_)) (o24.ext (Ext.refl w13_)) (by omega) fun w14_ hc14_ hv2_s14=>?_
 have hs_hc14_:=hc14_.size
 have hv3_s13_c14:=(hv3_s13.ext (Ext.refl w13_)).chg hc14_ (by omega) (by omega)
 have o6_c14:=(o6_c13.ext (Ext.refl w13_)).chg hc14_ (by omega)
 have o10_c14:=(o10_c13.ext (Ext.refl w13_)).chg hc14_ (by omega)
 have o14_c14:=(o14_c13.ext (Ext.refl w13_)).chg hc14_ (by omega)
 have o18_c14:=(o18_c13.ext (Ext.refl w13_)).chg hc14_ (by omega)
 have o22_c14:=(o22_c13.ext (Ext.refl w13_)).chg hc14_ (by omega)
 have o24_c14:=(o24.ext (Ext.refl w13_)).chg hc14_ (by omega)
 refine zd4 zd3 hv2_s14 (Ext.refl w14_) fun r2 hr2=>?_
 replace hr2:=hr2.ext (Ext.refl w14_)
 refine ⟨(Ext.chgI (Ext.chgI ((Ext.chgI ((Ext.chgI ((Ext.chgI ((Ext.chgI (((hx1_.trans hx2_).trans hx3_).trans hx4_) hc5_ (by omega)).trans hx6_) hc7_ (by omega)).trans hx8_) hc9_ (by omega)).trans hx10_) hc11_ (by omega)).trans hx12_) hc13_ (by omega)) hc14_ (by omega)),?_⟩
 exact (hr2.mono (lo':=w.heap.size) (by omega) (Nat.le_refl _)).own
theorem zds {w:World} {v:Value} {t:DCode} (h:Is w v t) (hn:zfg t≤1048576):CALL Tryd.prog 6 [v] w fun r w'=>Ext w w'∧Own w.heap.size w' r t:=zfk h (Ext.refl w) hn
def ziT:DIns:=⟨0,0,term0,0⟩
def en (c:DCode) (i:Nat):Int:=c.entry.getD i 0
def zbB (c:DCode) (j:Nat):DIns:=c.ins.getD j ziT
theorem zaZ {c:DCode} {i:Nat} (h:i<c.entry.length):c.entry[i]=en c i:=by unfold en;rw [List.getD_eq_getElem?_getD,List.getElem?_eq_getElem h];rfl
theorem zbp {c:DCode} {i:Nat} (h:i<c.ins.length):c.ins[i]=zbB c i:=by unfold zbB;rw [List.getD_eq_getElem?_getD,List.getElem?_eq_getElem h];rfl
def prc (c:DCode) (a:Int):Nat→Int
 | 0=>-1
 | n+1=>if en c n≤a then n else prc c a n
def zaz (c:DCode) (a:Int):Int:=prc c a c.entry.length
theorem zc7 {c:DCode} {a:Int} {m:Nat}:∀ {n:Nat},m≤n→(∀ j,m≤j→j<n→a<en c j)→prc c a n=prc c a m
 | 0,h,_=>by rw [Nat.le_zero.1 h]
 | n+1,h,hj=>by
   by_cases e:m=n+1
   · rw [e]
   rw [prc,if_neg (by have:=hj n (by omega) (by omega);omega)]
   exact zc7 (by omega) fun j h1 h2=>hj j h1 (by omega)
theorem zhu {c:DCode} {a:Int}:∀ (n:Nat),-1≤prc c a n∧prc c a n<n
 | 0=>by simp [prc]
 | n+1=>by
   have:=zhu (c:=c) (a:=a) n
   rw [prc]
   split<;>omega
theorem zcJ {c:DCode} {a:Int}:-1≤zaz c a∧zaz c a<c.entry.length:=zhu _
def zb0 (c:DCode) (p:Int):Int:=if p+1<c.entry.length then en c (p+1).toNat-1 else (c.ins.length:Int)-1
def zbr (c:DCode) (i:Nat):Int:=if i+1<c.entry.length then en c (i+1) else c.ins.length
theorem zcK (c:DCode) (i:Nat):zb0 c i=zbr c i-1:=by
 unfold zb0 zbr
 have e:((i:Int)+1).toNat=i+1:=by omega
 by_cases h:i+1<c.entry.length
 · rw [if_pos (by omega),if_pos h,e]
 rw [if_neg (by omega),if_neg h]
def F40 (a0 a1:Value) (w:World) (R:VW):Prop:=
 oP (Instr.box 33 a0) w fun x2 w=>
 rF 33 x2 3 w fun x6=>
 rL 23 x6 w fun x7=>
 rN 23 3 x7 w fun x8=>
 rB .sub 3 T0 U0 x8 (iV 1) w fun x9=>
 LOOPI [5] [x9] w fun u2 w next2=>
 rB .geq 3 T0 U0 (u2 5) (iV 0) w fun x11=>
 BR x11
 (rF 33 x2 3 w fun x14=>
 rL 23 x14 w fun x15=>
 rX 23 x15 (u2 5) w fun x17=>
 rL 3 x17 w fun x18=>
 rB .leq 3 T0 T0 x18 a1 w fun x20=>
 BR x20
 (R (u2 5) w)
 (rB .sub 3 T0 U0 (u2 5) (iV 1) w fun x13=>
 next2 [x13] w))
 (R (iV (-1)) w)
def cfg40:Cfg:=⟨extL,[],[(2,4193328,[5])],[],[],[],[]⟩
theorem F40_call {a0 a1:Value} {w:World} {R:VW} (h:F40 a0 a1 w R):cL 40 [a0,a1] w R:=co (g:=cfg40) Tryd.func40 (by kernel_rfl) (by kernel_rfl) (by kernel_rfl) h
theorem zdP {w:World} {v0:Value} {W0:World} {c:DCode} {a:Int}  (h0:Is W0 v0 c) (e0:Ext W0 w)  :
   CALL Tryd.prog 40 [v0,.int .i64 a] w fun r w'=>Ext w w'∧(r=.int .i64 (zaz c a)):=by
 refine F40_call ?_
 unfold F40
 refine zam zd3 rfl h0 e0 fun w1_ hx1_ hA2 hV2=>?_
 refine zaa zaI ?_
 refine zab zcj (zag hA2) (Ext.refl w1_) fun v7 h7=>?_
 have hln8:=zad h7
 refine zae u23 h7 ?_
 refine zaW (by unfold I64;omega) ?_
 refine zaQ (c.entry.length) (fun k us w'=>us=[.int .i64 ((c.entry.length:Int)-1-(k:Int))]∧Ext w1_ w'∧(∀ j,c.entry.length-k≤j→j<c.entry.length→a<en c j)) (0) (by omega) ⟨by simp,Ext.refl w1_,fun j h1 h2=>by omega⟩ ?_
 rintro k m2 uu2 w2_ hk2 ⟨hu,hx2_,hinv⟩
 simp only [List.map_cons,List.map_nil,List.cons.injEq,and_true] at hu
 try rw [hu]
 try clear hu
 have hln:=zad h7
 refine zbf ?_
 refine br (fun c1=>?_) (fun c1=>?_)
 · refine zaa zaI ?_
   refine zab zcj (zag hA2) hx2_ fun v15 h15=>?_
   refine zbh u23 ty3 h15 (by omega) (by omega) fun b17 o17 h17=>?_
   have hn17:((c.entry.length:Int)-1-(k:Int)).toNat=c.entry.length-k-1:=by omega
   simp only [hn17] at h17
   refine zac ty3 h17 hx2_ fun hI18=>?_
   refine zca ?_
   refine br (fun c2=>?_) (fun c2=>?_)
   · refine ⟨(hx1_.trans hx2_),?_⟩
     rw [zaZ] at c2
     unfold zaz
     rw [zc7 (m:=c.entry.length-k) (by omega) hinv,show c.entry.length-k=(c.entry.length-k-1)+1 by omega,prc,if_pos c2]
     congr 1
     omega
   refine zaW (by unfold I64;omega) ?_
   refine ⟨m2-1,by omega,k+1,by omega,by simp;omega,hx2_,?_⟩
   intro j h1 h2
   by_cases hj:j=c.entry.length-k-1
   · subst hj
     rw [zaZ] at c2
     omega
   exact hinv j (by omega) h2
 refine ⟨(hx1_.trans hx2_),?_⟩
 unfold zaz
 rw [zc7 (m:=c.entry.length-k) (by omega) hinv,show c.entry.length-k=0 by omega]
 rfl
def F39 (a0 a1:Value) (w:World) (R:VW):Prop:=
 oP (Instr.box 33 a0) w fun x2 w=>
 rA a1 (iV 1) w fun x6=>
 rF 33 x2 3 w fun x7=>
 rL 23 x7 w fun x8=>
 rN 23 3 x8 w fun x9=>
 rC x6 x9 w fun x10=>
 BR x10
 (rF 33 x2 3 w fun x11=>
 rL 23 x11 w fun x12=>
 rA a1 (iV 1) w fun x14=>
 rX 23 x12 x14 w fun x15=>
 rL 3 x15 w fun x16=>
 rB .sub 3 T0 U0 x16 (iV 1) w fun x17=>
 R x17 w)
 (rF 33 x2 4 w fun x18=>
 rL 31 x18 w fun x19=>
 rN 31 3 x19 w fun x20=>
 rB .sub 3 T0 U0 x20 (iV 1) w fun x21=>
 R x21 w)
def cfg39:Cfg:=⟨extL,[],[],[],[],[],[]⟩
theorem F39_call {a0 a1:Value} {w:World} {R:VW} (h:F39 a0 a1 w R):cL 39 [a0,a1] w R:=co (g:=cfg39) Tryd.func39 (by kernel_rfl) (by kernel_rfl) (by kernel_rfl) h
theorem zeQ {w:World} {v0:Value} {W0:World} {c:DCode} {p:Int}  (h0:Is W0 v0 c) (e0:Ext W0 w) (hp0:-1≤p) (hp1:p<1000000000000) (hE:∀ i,i<c.entry.length→0≤en c i) :
   CALL Tryd.prog 39 [v0,.int .i64 p] w fun r w'=>Ext w w'∧(r=.int .i64 (zb0 c p)):=by
 refine F39_call ?_
 unfold F39
 refine zam zd3 rfl h0 e0 fun w1_ hx1_ hA2 hV2=>?_
 refine zfx (by unfold I64;omega) ?_
 refine zaa zaI ?_
 refine zab zcj (zag hA2) (Ext.refl w1_) fun v8 h8=>?_
 have hln9:=zad h8
 refine zae u23 h8 ?_
 refine zah ?_
 refine br (fun c1=>?_) (fun c1=>?_)
 · refine zaa zaI ?_
   refine zab zcj (zag hA2) (Ext.refl w1_) fun v12 h12=>?_
   refine zfx (by unfold I64;omega) ?_
   refine zbh u23 ty3 h12 (by omega) (by omega) fun b15 o15 h15=>?_
   refine zac ty3 h15 (Ext.refl w1_) fun hI16=>?_
   have hE1:=hE (p+1).toNat (by omega)
   rw [←zaZ (by omega)] at hE1
   refine zaW (by unfold I64 at *;omega) ?_
   refine ⟨hx1_,?_⟩
   unfold zb0
   rw [if_pos c1,zaZ]
 refine zaa za2 ?_
 refine zab zdH (zal hA2) (Ext.refl w1_) fun v19 h19=>?_
 have hln20:=zad h19
 refine zae u31 h19 ?_
 refine zaW (by unfold I64;have:=zad h19;omega) ?_
 refine ⟨hx1_,?_⟩
 unfold zb0
 rw [if_neg c1]
def zhP:ByteArray:=ByteArray.mk #[109,97,105,110]
def NamesR (c:DCode):Prop:=(decide ((c.globals.length:Int)≤6)&&c.globals.all zaB)=true∧(decide ((c.locks.length:Int)≤6)&&c.locks.all zaB)=true∧(decide ((c.procs.length:Int)≤8)&&c.procs.all zaB)=true ∧
 c.globals.Nodup∧c.locks.Nodup∧c.procs.Nodup∧zhP∈c.procs
instance (c:DCode):Decidable (NamesR c):=by unfold NamesR;infer_instance
def EntS (c:DCode):Prop:=c.entry.length=c.procs.length∧c.ins.length≤1500∧(∀ i,i<c.entry.length→(i=0→en c 0=0)∧(0<i→en c (i-1)<en c i)∧en c i<c.ins.length) ∧
 ∀ j,j<c.ins.length→((zbB c j).op=9↔zb0 c (zaz c j)=j)
instance (c:DCode):Decidable (EntS c):=by unfold EntS;infer_instance
theorem zcL {P:Nat→Prop} {k:Nat} (h:∀ i,i<k→P i) (hk:P k):∀ i,i<k+1→P i:=fun i hi=>by
 by_cases e:i=k
 · rw [e];exact hk
 exact h i (by omega)
theorem zcR {c:DCode} {n:Nat} {m:Int} (h:∀ i,i<n→(i=0→en c 0=0)∧(0<i→en c (i-1)<en c i)∧en c i<m):∀ i,i<n→0≤en c i
 | 0,hi=>by rw [(h 0 hi).1 rfl];omega
 | i+1,hi=>by
   have h1:=zcR h i (by omega)
   have h2:=(h (i+1) hi).2.1 (by omega)
   simp only [Nat.add_sub_cancel] at h2
   omega
def F25 (a0:Value) (w:World) (R:VW):Prop:=
 oP (Instr.box 33 a0) w fun x1 w=>
 rF 33 x1 0 w fun x5=>
 rL 22 x5 w fun x6=>
 cL 36 [x6,(iV 6)] w fun x7 w=>
 rD (Op.unary .not x7) w fun x8=>
 BR x8
 (R (Value.bool false) w)
 (rF 33 x1 1 w fun x10=>
 rL 22 x10 w fun x11=>
 cL 36 [x11,(iV 6)] w fun x12 w=>
 rD (Op.unary .not x12) w fun x13=>
 BR x13
 (R (Value.bool false) w)
 (rF 33 x1 2 w fun x16=>
 rL 22 x16 w fun x17=>
 cL 36 [x17,(iV 8)] w fun x18 w=>
 rD (Op.unary .not x18) w fun x19=>
 BR x19
 (R (Value.bool false) w)
 (rF 33 x1 0 w fun x22=>
 rL 22 x22 w fun x23=>
 cL 37 [x23] w fun x24 w=>
 BR x24
 (R (Value.bool false) w)
 (rF 33 x1 1 w fun x27=>
 rL 22 x27 w fun x28=>
 cL 37 [x28] w fun x29 w=>
 BR x29
 (R (Value.bool false) w)
 (rF 33 x1 2 w fun x32=>
 rL 22 x32 w fun x33=>
 cL 37 [x33] w fun x34 w=>
 BR x34
 (R (Value.bool false) w)
 (rF 33 x1 3 w fun x37=>
 rL 23 x37 w fun x38=>
 rN 23 3 x38 w fun x39=>
 rF 33 x1 2 w fun x40=>
 rL 22 x40 w fun x41=>
 rN 22 3 x41 w fun x42=>
 rB .neq 3 T0 T0 x39 x42 w fun x43=>
 BR x43
 (R (Value.bool false) w)
 (rF 33 x1 4 w fun x46=>
 rL 31 x46 w fun x47=>
 rN 31 3 x47 w fun x48=>
 rB .gtr 3 T0 U0 x48 (iV 1500) w fun x49=>
 BR x49
 (R (Value.bool false) w)
 (rF 33 x1 2 w fun x52=>
 rL 22 x52 w fun x53=>
 cL 38 [x53,(Value.string (ByteArray.mk #[109,97,105,110]))] w fun x54 w=>
 rB .lss 3 T0 U0 x54 (iV 0) w fun x55=>
 BR x55
 (R (Value.bool false) w)
 (LOOPI [3] [(iV 0)] w fun u4 w next4=>
 rF 33 x1 3 w fun x58=>
 rL 23 x58 w fun x59=>
 rN 23 3 x59 w fun x60=>
 rC (u4 3) x60 w fun x61=>
 BR x61
 ((fun w=>rB .eql 3 T0 U0 (u4 3) (iV 0) w fun x65=>
 BR x65
 (rF 33 x1 3 w fun x67=>
 rL 23 x67 w fun x68=>
 rX 23 x68 (iV 0) w fun x69=>
 rL 3 x69 w fun x70=>
 rB .neq 3 T0 U0 x70 (iV 0) w fun x71=>
 BR x71
 (R (Value.bool false) w)
 (rB .gtr 3 T0 U0 (u4 3) (iV 0) w fun x75=>
 GBR x75
 (rF 33 x1 3 w fun x77=>
 rL 23 x77 w fun x78=>
 rX 23 x78 (u4 3) w fun x80=>
 rL 3 x80 w fun x81=>
 rF 33 x1 3 w fun x82=>
 rL 23 x82 w fun x83=>
 rB .sub 3 T0 U0 (u4 3) (iV 1) w fun x85=>
 rX 23 x83 x85 w fun x86=>
 rL 3 x86 w fun x87=>
 rB .leq 3 T0 T0 x81 x87 w fun x88=>
 BR x88
 (R (Value.bool false) w)
 (rF 33 x1 3 w fun x92=>
 rL 23 x92 w fun x93=>
 rX 23 x93 (u4 3) w fun x95=>
 rL 3 x95 w fun x96=>
 rF 33 x1 4 w fun x97=>
 rL 31 x97 w fun x98=>
 rN 31 3 x98 w fun x99=>
 rB .geq 3 T0 T0 x96 x99 w fun x100=>
 BR x100
 (R (Value.bool false) w)
 (rA (u4 3) (iV 1) w fun x63=>
 next4 [x63] w)))
 (rF 33 x1 3 w fun x92=>
 rL 23 x92 w fun x93=>
 rX 23 x93 (u4 3) w fun x95=>
 rL 3 x95 w fun x96=>
 rF 33 x1 4 w fun x97=>
 rL 31 x97 w fun x98=>
 rN 31 3 x98 w fun x99=>
 rB .geq 3 T0 T0 x96 x99 w fun x100=>
 BR x100
 (R (Value.bool false) w)
 (rA (u4 3) (iV 1) w fun x63=>
 next4 [x63] w))
 (BR undef
 (BR undef
 (R (Value.bool false) w)
 (rF 33 x1 3 w fun x92=>
 rL 23 x92 w fun x93=>
 rX 23 x93 (u4 3) w fun x95=>
 rL 3 x95 w fun x96=>
 rF 33 x1 4 w fun x97=>
 rL 31 x97 w fun x98=>
 rN 31 3 x98 w fun x99=>
 rB .geq 3 T0 T0 x96 x99 w fun x100=>
 BR x100
 (R (Value.bool false) w)
 (rA (u4 3) (iV 1) w fun x63=>
 next4 [x63] w)))
 (rF 33 x1 3 w fun x92=>
 rL 23 x92 w fun x93=>
 rX 23 x93 (u4 3) w fun x95=>
 rL 3 x95 w fun x96=>
 rF 33 x1 4 w fun x97=>
 rL 31 x97 w fun x98=>
 rN 31 3 x98 w fun x99=>
 rB .geq 3 T0 T0 x96 x99 w fun x100=>
 BR x100
 (R (Value.bool false) w)
 (rA (u4 3) (iV 1) w fun x63=>
 next4 [x63] w)))))
 (rB .gtr 3 T0 U0 (u4 3) (iV 0) w fun x75=>
 GBR x75
 (rF 33 x1 3 w fun x77=>
 rL 23 x77 w fun x78=>
 rX 23 x78 (u4 3) w fun x80=>
 rL 3 x80 w fun x81=>
 rF 33 x1 3 w fun x82=>
 rL 23 x82 w fun x83=>
 rB .sub 3 T0 U0 (u4 3) (iV 1) w fun x85=>
 rX 23 x83 x85 w fun x86=>
 rL 3 x86 w fun x87=>
 rB .leq 3 T0 T0 x81 x87 w fun x88=>
 BR x88
 (R (Value.bool false) w)
 (rF 33 x1 3 w fun x92=>
 rL 23 x92 w fun x93=>
 rX 23 x93 (u4 3) w fun x95=>
 rL 3 x95 w fun x96=>
 rF 33 x1 4 w fun x97=>
 rL 31 x97 w fun x98=>
 rN 31 3 x98 w fun x99=>
 rB .geq 3 T0 T0 x96 x99 w fun x100=>
 BR x100
 (R (Value.bool false) w)
 (rA (u4 3) (iV 1) w fun x63=>
 next4 [x63] w)))
 (rF 33 x1 3 w fun x92=>
 rL 23 x92 w fun x93=>
 rX 23 x93 (u4 3) w fun x95=>
 rL 3 x95 w fun x96=>
 rF 33 x1 4 w fun x97=>
 rL 31 x97 w fun x98=>
 rN 31 3 x98 w fun x99=>
 rB .geq 3 T0 T0 x96 x99 w fun x100=>
 BR x100
 (R (Value.bool false) w)
 (rA (u4 3) (iV 1) w fun x63=>
 next4 [x63] w))
 (BR undef
 (BR undef
 (R (Value.bool false) w)
 (rF 33 x1 3 w fun x92=>
 rL 23 x92 w fun x93=>
 rX 23 x93 (u4 3) w fun x95=>
 rL 3 x95 w fun x96=>
 rF 33 x1 4 w fun x97=>
 rL 31 x97 w fun x98=>
 rN 31 3 x98 w fun x99=>
 rB .geq 3 T0 T0 x96 x99 w fun x100=>
 BR x100
 (R (Value.bool false) w)
 (rA (u4 3) (iV 1) w fun x63=>
 next4 [x63] w)))
 (rF 33 x1 3 w fun x92=>
 rL 23 x92 w fun x93=>
 rX 23 x93 (u4 3) w fun x95=>
 rL 3 x95 w fun x96=>
 rF 33 x1 4 w fun x97=>
 rL 31 x97 w fun x98=>
 rN 31 3 x98 w fun x99=>
 rB .geq 3 T0 T0 x96 x99 w fun x100=>
 BR x100
 (R (Value.bool false) w)
 (rA (u4 3) (iV 1) w fun x63=>
 next4 [x63] w))))) (World.drew1 w))
 (LOOPI [4] [(iV 0)] w fun u9 w next9=>
 rF 33 x1 4 w fun x103=>
 rL 31 x103 w fun x104=>
 rN 31 3 x104 w fun x105=>
 rC (u9 4) x105 w fun x106=>
 BR x106
 ((fun w=>rF 33 x1 4 w fun x109=>
 rL 31 x109 w fun x110=>
 rX 31 x110 (u9 4) w fun x112=>
 rF 64 x112 0 w fun x113=>
 rL 3 x113 w fun x114=>
 rB .eql 3 T0 U0 x114 (iV 9) w fun x115=>
 rL 33 x1 w fun x116=>
 rL 33 x1 w fun x117=>
 (fun w_=>cL 40 [x117,(u9 4)] w_ fun x119 w=>
 Ext w_ w ∧
 (fun w_=>cL 39 [x116,x119] w_ fun x120 w=>
 Ext w_ w ∧
 rB .eql 3 T0 T0 x120 (u9 4) w fun x122=>
 rB .neq 4 T0 T0 x115 x122 w fun x123=>
 BR x123
 (R (Value.bool false) w)
 (rA (u9 4) (iV 1) w fun x108=>
 next9 [x108] w)) w) w) (World.drew1 w))
 (R (Value.bool true) w)))))))))))
def cfg25:Cfg:=⟨extL,[],[(4,5070602400912773490798736965644,[3]),(9,21267642861956253053543306977672691732,[4])],[(6,[0,1,2,3,4,5,6,7,8,9,10,11,12,13,14,15,16,17,18,19,20,21,22,23,24,25,26,27,28,29,30,31,32,33,34,35,36,37],0),(11,[0,1,2,3,4,5,6,7,8,9,12,10,11,13,14],3072)],[],[],[]⟩
theorem F25_call {a0:Value} {w:World} {R:VW} (h:F25 a0 w R):cL 25 [a0] w R:=co (g:=cfg25) Tryd.func25 (by kernel_rfl) (by kernel_rfl) (by kernel_rfl) h
theorem zfl {w:World} {v0:Value} {W0:World} {c:DCode}  (h0:Is W0 v0 c) (e0:Ext W0 w)  :
   CALL Tryd.prog 25 [v0] w fun r w'=>Ext w w'∧(r=.bool (decide (NamesR c∧EntS c))):=by
 refine F25_call ?_
 unfold F25
 refine zam zd3 rfl h0 e0 fun w1_ hx1_ hA1 hV1=>?_
 refine zaa zbb ?_
 refine zab zbi (zar hA1) (Ext.refl w1_) fun v6 h6=>?_
 refine (zcn h6 (Ext.refl w1_)).mono ?_
 rintro _ w2_ ⟨hx2_,rfl⟩
 refine zbg ?_
 refine zej (fun c1=>?_) (fun c1=>?_)
 · refine ⟨(hx1_.trans hx2_),?_⟩
   have:¬(NamesR c∧EntS c):=fun h=>by rw [h.1.1] at c1;cases c1
   simp only [this,decide_false]
 refine zaa zbW ?_
 refine zab zbi (zaH hA1) hx2_ fun v11 h11=>?_
 refine (zcn h11 hx2_).mono ?_
 rintro _ w3_ ⟨hx3_,rfl⟩
 refine zbg ?_
 refine zej (fun c2=>?_) (fun c2=>?_)
 · refine ⟨(hx1_.trans (hx2_.trans hx3_)),?_⟩
   have:¬(NamesR c∧EntS c):=fun h=>by rw [h.1.2.1] at c2;cases c2
   simp only [this,decide_false]
 refine zaa zbm ?_
 refine zab zbi (zav hA1) (hx2_.trans hx3_) fun v17 h17=>?_
 refine (zcn h17 (hx2_.trans hx3_)).mono ?_
 rintro _ w4_ ⟨hx4_,rfl⟩
 refine zbg ?_
 refine zej (fun c3=>?_) (fun c3=>?_)
 · refine ⟨(hx1_.trans (hx2_.trans (hx3_.trans hx4_))),?_⟩
   have:¬(NamesR c∧EntS c):=fun h=>by rw [h.1.2.2.1] at c3;cases c3
   simp only [this,decide_false]
 refine zaa zbb ?_
 refine zab zbi (zar hA1) (hx2_.trans (hx3_.trans hx4_)) fun v23 h23=>?_
 refine (zcp h23 (hx2_.trans (hx3_.trans hx4_))).mono ?_
 rintro _ w5_ ⟨hx5_,rfl⟩
 refine br (fun c4=>?_) (fun c4=>?_)
 · refine ⟨(hx1_.trans (hx2_.trans (hx3_.trans (hx4_.trans hx5_)))),?_⟩
   have:¬(NamesR c∧EntS c):=fun h=>c4 h.1.2.2.2.1
   simp only [this,decide_false]
 refine zaa zbW ?_
 refine zab zbi (zaH hA1) (hx2_.trans (hx3_.trans (hx4_.trans hx5_))) fun v28 h28=>?_
 refine (zcp h28 (hx2_.trans (hx3_.trans (hx4_.trans hx5_)))).mono ?_
 rintro _ w6_ ⟨hx6_,rfl⟩
 refine br (fun c5=>?_) (fun c5=>?_)
 · refine ⟨(hx1_.trans (hx2_.trans (hx3_.trans (hx4_.trans (hx5_.trans hx6_))))),?_⟩
   have:¬(NamesR c∧EntS c):=fun h=>c5 h.1.2.2.2.2.1
   simp only [this,decide_false]
 refine zaa zbm ?_
 refine zab zbi (zav hA1) (hx2_.trans (hx3_.trans (hx4_.trans (hx5_.trans hx6_)))) fun v33 h33=>?_
 refine (zcp h33 (hx2_.trans (hx3_.trans (hx4_.trans (hx5_.trans hx6_))))).mono ?_
 rintro _ w7_ ⟨hx7_,rfl⟩
 refine br (fun c6=>?_) (fun c6=>?_)
 · refine ⟨(hx1_.trans (hx2_.trans (hx3_.trans (hx4_.trans (hx5_.trans (hx6_.trans hx7_)))))),?_⟩
   have:¬(NamesR c∧EntS c):=fun h=>c6 h.1.2.2.2.2.2.1
   simp only [this,decide_false]
 refine zaa zaI ?_
 refine zab zcj (zag hA1) (hx2_.trans (hx3_.trans (hx4_.trans (hx5_.trans (hx6_.trans hx7_))))) fun v38 h38=>?_
 have hln39:=zad h38
 refine zae u23 h38 ?_
 refine zaa zbm ?_
 refine zab zbi (zav hA1) (hx2_.trans (hx3_.trans (hx4_.trans (hx5_.trans (hx6_.trans hx7_))))) fun v41 h41=>?_
 have hln42:=zad h41
 refine zae u22 h41 ?_
 refine zaC ?_
 refine br (fun c7=>?_) (fun c7=>?_)
 · refine ⟨(hx1_.trans (hx2_.trans (hx3_.trans (hx4_.trans (hx5_.trans (hx6_.trans hx7_)))))),?_⟩
   have:¬(NamesR c∧EntS c):=fun h=>c7 (by rw [h.2.1])
   simp only [this,decide_false]
 refine zaa za2 ?_
 refine zab zdH (zal hA1) (hx2_.trans (hx3_.trans (hx4_.trans (hx5_.trans (hx6_.trans hx7_))))) fun v47 h47=>?_
 have hln48:=zad h47
 refine zae u31 h47 ?_
 refine zcb ?_
 refine br (fun c8=>?_) (fun c8=>?_)
 · refine ⟨(hx1_.trans (hx2_.trans (hx3_.trans (hx4_.trans (hx5_.trans (hx6_.trans hx7_)))))),?_⟩
   have:¬(NamesR c∧EntS c):=fun h=>by have:=h.2.2.1;omega
   simp only [this,decide_false]
 refine zaa zbm ?_
 refine zab zbi (zav hA1) (hx2_.trans (hx3_.trans (hx4_.trans (hx5_.trans (hx6_.trans hx7_))))) fun v53 h53=>?_
 refine (zbA h53 (hx2_.trans (hx3_.trans (hx4_.trans (hx5_.trans (hx6_.trans hx7_)))))).mono ?_
 rintro _ w8_ ⟨hx8_,rfl⟩
 refine zah ?_
 refine br (fun c9=>?_) (fun c9=>?_)
 · refine ⟨(hx1_.trans (hx2_.trans (hx3_.trans (hx4_.trans (hx5_.trans (hx6_.trans (hx7_.trans hx8_))))))),?_⟩
   have:¬(NamesR c∧EntS c):=fun h=>by have:=zcl.2 h.1.2.2.2.2.2.2;unfold zhP at this;omega
   simp only [this,decide_false]
 refine zaQ (c.entry.length) (fun k us w'=>us=[.int .i64 (k:Int)]∧Ext w8_ w'∧(∀ i,i<k→(i=0→en c 0=0)∧(0<i→en c (i-1)<en c i)∧en c i<c.ins.length)) (0) (by omega) ⟨by simp,Ext.refl w8_,fun i h=>by omega⟩ ?_
 rintro k m4 uu4 w9_ hk4 ⟨hu,hx9_,hent⟩
 simp only [List.map_cons,List.map_nil,List.cons.injEq,and_true] at hu
 try rw [hu]
 try clear hu
 refine zaa zaI ?_
 refine zab zcj (zag hA1) (hx2_.trans (hx3_.trans (hx4_.trans (hx5_.trans (hx6_.trans (hx7_.trans (hx8_.trans hx9_))))))) fun v59 h59=>?_
 have hln60:=zad h59
 refine zae u23 h59 ?_
 refine zah ?_
 refine br (fun c10=>?_) (fun c10=>?_)
 · have hx10_:=zaw w9_
   refine zan ?_
   refine br (fun c11=>?_) (fun c11=>?_)
   · refine zaa zaI ?_
     refine zab zcj (zag hA1) (hx2_.trans (hx3_.trans (hx4_.trans (hx5_.trans (hx6_.trans (hx7_.trans (hx8_.trans (hx9_.trans hx10_)))))))) fun v68 h68=>?_
     refine zbh u23 ty3 h68 (by omega) (by omega) fun b69 o69 h69=>?_
     refine zac ty3 h69 (hx2_.trans (hx3_.trans (hx4_.trans (hx5_.trans (hx6_.trans (hx7_.trans (hx8_.trans (hx9_.trans hx10_)))))))) fun hI70=>?_
     refine zaC ?_
     refine br (fun c12=>?_) (fun c12=>?_)
     · refine ⟨(hx1_.trans (hx2_.trans (hx3_.trans (hx4_.trans (hx5_.trans (hx6_.trans (hx7_.trans (hx8_.trans (hx9_.trans hx10_))))))))),?_⟩
       rw [zaZ] at c12
       have:¬(NamesR c∧EntS c):=fun h=>c12 ((h.2.2.2.1 0 (by omega)).1 rfl)
       simp only [this,decide_false]
     refine zcb ?_
     refine gbr (fun c13=>?_) (fun c13=>?_)
     · refine zaa zaI ?_
       refine zab zcj (zag hA1) (hx2_.trans (hx3_.trans (hx4_.trans (hx5_.trans (hx6_.trans (hx7_.trans (hx8_.trans (hx9_.trans hx10_)))))))) fun v78 h78=>?_
       refine zaf u23 ty3 h78 (by omega) fun b80 o80 h80=>?_
       refine zac ty3 h80 (hx2_.trans (hx3_.trans (hx4_.trans (hx5_.trans (hx6_.trans (hx7_.trans (hx8_.trans (hx9_.trans hx10_)))))))) fun hI81=>?_
       refine zaa zaI ?_
       refine zab zcj (zag hA1) (hx2_.trans (hx3_.trans (hx4_.trans (hx5_.trans (hx6_.trans (hx7_.trans (hx8_.trans (hx9_.trans hx10_)))))))) fun v83 h83=>?_
       refine zaW (by unfold I64;omega) ?_
       refine zbh u23 ty3 h83 (by omega) (by omega) fun b86 o86 h86=>?_
       refine zac ty3 h86 (hx2_.trans (hx3_.trans (hx4_.trans (hx5_.trans (hx6_.trans (hx7_.trans (hx8_.trans (hx9_.trans hx10_)))))))) fun hI87=>?_
       have hn86:((k:Int)-1).toNat=k-1:=by omega
       refine zca ?_
       refine br (fun c14=>?_) (fun c14=>?_)
       · refine ⟨(hx1_.trans (hx2_.trans (hx3_.trans (hx4_.trans (hx5_.trans (hx6_.trans (hx7_.trans (hx8_.trans (hx9_.trans hx10_))))))))),?_⟩
         exact absurd c11 (by omega)
       refine zaa zaI ?_
       refine zab zcj (zag hA1) (hx2_.trans (hx3_.trans (hx4_.trans (hx5_.trans (hx6_.trans (hx7_.trans (hx8_.trans (hx9_.trans hx10_)))))))) fun v93 h93=>?_
       refine zaf u23 ty3 h93 (by omega) fun b95 o95 h95=>?_
       refine zac ty3 h95 (hx2_.trans (hx3_.trans (hx4_.trans (hx5_.trans (hx6_.trans (hx7_.trans (hx8_.trans (hx9_.trans hx10_)))))))) fun hI96=>?_
       refine zaa za2 ?_
       refine zab zdH (zal hA1) (hx2_.trans (hx3_.trans (hx4_.trans (hx5_.trans (hx6_.trans (hx7_.trans (hx8_.trans (hx9_.trans hx10_)))))))) fun v98 h98=>?_
       have hln99:=zad h98
       refine zae u31 h98 ?_
       refine zbf ?_
       refine br (fun c15=>?_) (fun c15=>?_)
       · refine ⟨(hx1_.trans (hx2_.trans (hx3_.trans (hx4_.trans (hx5_.trans (hx6_.trans (hx7_.trans (hx8_.trans (hx9_.trans hx10_))))))))),?_⟩
         exact absurd c11 (by omega)
       refine zao (by omega) ?_
       refine ⟨m4-1,by omega,k+1,by omega,by simp,(hx9_.trans hx10_),?_⟩
       exact absurd c11 (by omega)
     refine zaa zaI ?_
     refine zab zcj (zag hA1) (hx2_.trans (hx3_.trans (hx4_.trans (hx5_.trans (hx6_.trans (hx7_.trans (hx8_.trans (hx9_.trans hx10_)))))))) fun v93 h93=>?_
     refine zaf u23 ty3 h93 (by omega) fun b95 o95 h95=>?_
     refine zac ty3 h95 (hx2_.trans (hx3_.trans (hx4_.trans (hx5_.trans (hx6_.trans (hx7_.trans (hx8_.trans (hx9_.trans hx10_)))))))) fun hI96=>?_
     refine zaa za2 ?_
     refine zab zdH (zal hA1) (hx2_.trans (hx3_.trans (hx4_.trans (hx5_.trans (hx6_.trans (hx7_.trans (hx8_.trans (hx9_.trans hx10_)))))))) fun v98 h98=>?_
     have hln99:=zad h98
     refine zae u31 h98 ?_
     refine zbf ?_
     refine br (fun c16=>?_) (fun c16=>?_)
     · refine ⟨(hx1_.trans (hx2_.trans (hx3_.trans (hx4_.trans (hx5_.trans (hx6_.trans (hx7_.trans (hx8_.trans (hx9_.trans hx10_))))))))),?_⟩
       rw [zaZ] at c16
       have:¬(NamesR c∧EntS c):=fun h=>by have:=(h.2.2.2.1 k (by omega)).2.2;omega
       simp only [this,decide_false]
     refine zao (by omega) ?_
     refine ⟨m4-1,by omega,k+1,by omega,by simp,(hx9_.trans hx10_),?_⟩
     rw [zaZ] at c16 c12
     have hk0:k=0:=by omega
     subst hk0
     exact zcL hent ⟨fun _=>Decidable.not_not.1 c12,fun h=>by omega,by omega⟩
   refine zcb ?_
   refine gbr (fun c17=>?_) (fun c17=>?_)
   · refine zaa zaI ?_
     refine zab zcj (zag hA1) (hx2_.trans (hx3_.trans (hx4_.trans (hx5_.trans (hx6_.trans (hx7_.trans (hx8_.trans (hx9_.trans hx10_)))))))) fun v78 h78=>?_
     refine zaf u23 ty3 h78 (by omega) fun b80 o80 h80=>?_
     refine zac ty3 h80 (hx2_.trans (hx3_.trans (hx4_.trans (hx5_.trans (hx6_.trans (hx7_.trans (hx8_.trans (hx9_.trans hx10_)))))))) fun hI81=>?_
     refine zaa zaI ?_
     refine zab zcj (zag hA1) (hx2_.trans (hx3_.trans (hx4_.trans (hx5_.trans (hx6_.trans (hx7_.trans (hx8_.trans (hx9_.trans hx10_)))))))) fun v83 h83=>?_
     refine zaW (by unfold I64;omega) ?_
     refine zbh u23 ty3 h83 (by omega) (by omega) fun b86 o86 h86=>?_
     refine zac ty3 h86 (hx2_.trans (hx3_.trans (hx4_.trans (hx5_.trans (hx6_.trans (hx7_.trans (hx8_.trans (hx9_.trans hx10_)))))))) fun hI87=>?_
     have hn86:((k:Int)-1).toNat=k-1:=by omega
     refine zca ?_
     refine br (fun c18=>?_) (fun c18=>?_)
     · refine ⟨(hx1_.trans (hx2_.trans (hx3_.trans (hx4_.trans (hx5_.trans (hx6_.trans (hx7_.trans (hx8_.trans (hx9_.trans hx10_))))))))),?_⟩
       rw [zaZ,zaZ] at c18
       simp only [hn86] at c18
       have:¬(NamesR c∧EntS c):=fun h=>by have:=(h.2.2.2.1 k (by omega)).2.1 (by omega);omega
       simp only [this,decide_false]
     refine zaa zaI ?_
     refine zab zcj (zag hA1) (hx2_.trans (hx3_.trans (hx4_.trans (hx5_.trans (hx6_.trans (hx7_.trans (hx8_.trans (hx9_.trans hx10_)))))))) fun v93 h93=>?_
     refine zaf u23 ty3 h93 (by omega) fun b95 o95 h95=>?_
     refine zac ty3 h95 (hx2_.trans (hx3_.trans (hx4_.trans (hx5_.trans (hx6_.trans (hx7_.trans (hx8_.trans (hx9_.trans hx10_)))))))) fun hI96=>?_
     refine zaa za2 ?_
     refine zab zdH (zal hA1) (hx2_.trans (hx3_.trans (hx4_.trans (hx5_.trans (hx6_.trans (hx7_.trans (hx8_.trans (hx9_.trans hx10_)))))))) fun v98 h98=>?_
     have hln99:=zad h98
     refine zae u31 h98 ?_
     refine zbf ?_
     refine br (fun c19=>?_) (fun c19=>?_)
     · refine ⟨(hx1_.trans (hx2_.trans (hx3_.trans (hx4_.trans (hx5_.trans (hx6_.trans (hx7_.trans (hx8_.trans (hx9_.trans hx10_))))))))),?_⟩
       rw [zaZ] at c19
       have:¬(NamesR c∧EntS c):=fun h=>by have:=(h.2.2.2.1 k (by omega)).2.2;omega
       simp only [this,decide_false]
     refine zao (by omega) ?_
     refine ⟨m4-1,by omega,k+1,by omega,by simp,(hx9_.trans hx10_),?_⟩
     rw [zaZ] at c19
     rw [zaZ,zaZ] at c18
     simp only [hn86] at c18
     exact zcL hent ⟨fun h=>by omega,fun _=>by omega,by omega⟩
   refine zaa zaI ?_
   refine zab zcj (zag hA1) (hx2_.trans (hx3_.trans (hx4_.trans (hx5_.trans (hx6_.trans (hx7_.trans (hx8_.trans (hx9_.trans hx10_)))))))) fun v93 h93=>?_
   refine zaf u23 ty3 h93 (by omega) fun b95 o95 h95=>?_
   refine zac ty3 h95 (hx2_.trans (hx3_.trans (hx4_.trans (hx5_.trans (hx6_.trans (hx7_.trans (hx8_.trans (hx9_.trans hx10_)))))))) fun hI96=>?_
   refine zaa za2 ?_
   refine zab zdH (zal hA1) (hx2_.trans (hx3_.trans (hx4_.trans (hx5_.trans (hx6_.trans (hx7_.trans (hx8_.trans (hx9_.trans hx10_)))))))) fun v98 h98=>?_
   have hln99:=zad h98
   refine zae u31 h98 ?_
   refine zbf ?_
   refine br (fun c20=>?_) (fun c20=>?_)
   · refine ⟨(hx1_.trans (hx2_.trans (hx3_.trans (hx4_.trans (hx5_.trans (hx6_.trans (hx7_.trans (hx8_.trans (hx9_.trans hx10_))))))))),?_⟩
     exact absurd c11 (by omega)
   refine zao (by omega) ?_
   refine ⟨m4-1,by omega,k+1,by omega,by simp,(hx9_.trans hx10_),?_⟩
   exact absurd c11 (by omega)
 refine zaQ (c.ins.length) (fun k us w'=>us=[.int .i64 (k:Int)]∧Ext w9_ w'∧(∀ j,j<k→((zbB c j).op=9↔zb0 c (zaz c j)=j))) (0) (by omega) ⟨by simp,Ext.refl w9_,fun i h=>by omega⟩ ?_
 rintro k m9 uu9 w11_ hk9 ⟨hu,hx11_,hinv⟩
 simp only [List.map_cons,List.map_nil,List.cons.injEq,and_true] at hu
 try rw [hu]
 try clear hu
 refine zaa za2 ?_
 refine zab zdH (zal hA1) (hx2_.trans (hx3_.trans (hx4_.trans (hx5_.trans (hx6_.trans (hx7_.trans (hx8_.trans (hx9_.trans hx11_)))))))) fun v104 h104=>?_
 have hln105:=zad h104
 refine zae u31 h104 ?_
 refine zah ?_
 refine br (fun c21=>?_) (fun c21=>?_)
 · have hx12_:=zaw w11_
   refine zaa za2 ?_
   refine zab zdH (zal hA1) (hx2_.trans (hx3_.trans (hx4_.trans (hx5_.trans (hx6_.trans (hx7_.trans (hx8_.trans (hx9_.trans (hx11_.trans hx12_))))))))) fun v110 h110=>?_
   refine zaf u31 zc1 h110 (by omega) fun b112 o112 h112=>?_
   refine zaa za6 ?_
   refine zac ty3 (zat h112) (hx2_.trans (hx3_.trans (hx4_.trans (hx5_.trans (hx6_.trans (hx7_.trans (hx8_.trans (hx9_.trans (hx11_.trans hx12_))))))))) fun hI114=>?_
   refine zan ?_
   refine zaL hV1 (hx2_.trans (hx3_.trans (hx4_.trans (hx5_.trans (hx6_.trans (hx7_.trans (hx8_.trans (hx9_.trans (hx11_.trans hx12_))))))))) ?_
   refine zaL hV1 (hx2_.trans (hx3_.trans (hx4_.trans (hx5_.trans (hx6_.trans (hx7_.trans (hx8_.trans (hx9_.trans (hx11_.trans hx12_))))))))) ?_
   have h8:c.entry.length≤8:=by
     simp only [Bool.not_eq_false',Bool.and_eq_true,decide_eq_true_eq] at c3
     have:=c3.1
     omega
   refine (zdP h0 (e0.trans (hx1_.trans (hx2_.trans (hx3_.trans (hx4_.trans (hx5_.trans (hx6_.trans (hx7_.trans (hx8_.trans (hx9_.trans (hx11_.trans hx12_)))))))))))).mono ?_
   rintro _ w13_ ⟨hx13_,rfl⟩
   refine ⟨hx13_,?_⟩
   refine (zeQ h0 (e0.trans (hx1_.trans (hx2_.trans (hx3_.trans (hx4_.trans (hx5_.trans (hx6_.trans (hx7_.trans (hx8_.trans (hx9_.trans (hx11_.trans (hx12_.trans hx13_)))))))))))) (by have:=zcJ (c:=c) (a:=k);omega) (by have:=zcJ (c:=c) (a:=k);omega) (zcR fun i hi=>hent i (by omega))).mono ?_
   rintro _ w14_ ⟨hx14_,rfl⟩
   refine ⟨hx14_,?_⟩
   refine zan ?_
   refine zhG u4 ?_
   refine br (fun c22=>?_) (fun c22=>?_)
   · refine ⟨(hx1_.trans (hx2_.trans (hx3_.trans (hx4_.trans (hx5_.trans (hx6_.trans (hx7_.trans (hx8_.trans (hx9_.trans (hx11_.trans (hx12_.trans (hx13_.trans hx14_)))))))))))),?_⟩
     rw [zbp] at c22
     have:¬(NamesR c∧EntS c):=fun h=>c22 (decide_eq_decide.2 (h.2.2.2.2 k (by omega)))
     simp only [this,decide_false]
   refine zao (by omega) ?_
   refine ⟨m9-1,by omega,k+1,by omega,by simp,(hx11_.trans (hx12_.trans (hx13_.trans hx14_))),?_⟩
   rw [zbp] at c22
   exact zcL hinv (decide_eq_decide.1 (Decidable.not_not.1 c22))
 refine ⟨(hx1_.trans (hx2_.trans (hx3_.trans (hx4_.trans (hx5_.trans (hx6_.trans (hx7_.trans (hx8_.trans (hx9_.trans hx11_))))))))),?_⟩
 have:NamesR c∧EntS c:=by
   refine ⟨⟨by simpa using c1,by simpa using c2,by simpa using c3,Decidable.not_not.1 c4,Decidable.not_not.1 c5,Decidable.not_not.1 c6,zcl.1 (by unfold zhP;omega)⟩,by omega,by omega,fun i hi=>hent i (by omega),fun j hj=>hinv j (by omega)⟩
 simp only [this,and_self,decide_true]
def za1 (c:DCode) (op:Int):Int:=if op=1 then c.globals.length else if op=4∨op=5 then c.procs.length else if op=6∨op=7 then c.locks.length else 1
def zcr (c:DCode) (a:DIns) (b e:Int):Prop:=(1≤a.op∧a.op≤9)∧(0≤a.arg∧a.arg<za1 c a.op) ∧
 (if a.op=1∨a.op=2 then zaF 6 a.term=true∧(∀ s∈zaU a.term,s∈c.globals) else a.term=term0)∧(if a.op=2∨a.op=3 then b≤a.to∧a.to<e else a.to=0)
instance (c:DCode) (a:DIns) (b e:Int):Decidable (zcr c a b e):=by unfold zcr;infer_instance
def F26 (a0 a1:Value) (w:World) (R:VW):Prop:=
 oP (Instr.box 33 a0) w fun x2 w=>
 rF 33 x2 4 w fun x10=>
 rL 31 x10 w fun x11=>
 rX 31 x11 a1 w fun x13=>
 rL 64 x13 w fun x14=>
 oP (Instr.alloc 64 true (.tuple #[])) w fun x5 w=>
 oS 64 x5 x14 w fun w=>
 JOIN [6] (fun J12=>
 rF 64 x5 0 w fun x15=>
 rL 3 x15 w fun x16=>
 rB .eql 3 T0 U0 x16 (iV 1) w fun x18=>
 BR x18
 (rF 33 x2 0 w fun x19=>
 rL 22 x19 w fun x20=>
 rN 22 3 x20 w fun x21=>
 rB .sub 3 T0 U0 x21 (iV 1) w fun x22=>
 J12 [x22] w)
 (rB .eql 3 T0 U0 x16 (iV 6) w fun x24=>
 BR x24
 (rF 33 x2 1 w fun x26=>
 rL 22 x26 w fun x27=>
 rN 22 3 x27 w fun x28=>
 rB .sub 3 T0 U0 x28 (iV 1) w fun x29=>
 J12 [x29] w)
 (rB .eql 3 T0 U0 x16 (iV 7) w fun x25=>
 BR x25
 (rF 33 x2 1 w fun x26=>
 rL 22 x26 w fun x27=>
 rN 22 3 x27 w fun x28=>
 rB .sub 3 T0 U0 x28 (iV 1) w fun x29=>
 J12 [x29] w)
 (rB .eql 3 T0 U0 x16 (iV 4) w fun x31=>
 BR x31
 (rF 33 x2 2 w fun x33=>
 rL 22 x33 w fun x34=>
 rN 22 3 x34 w fun x35=>
 rB .sub 3 T0 U0 x35 (iV 1) w fun x36=>
 J12 [x36] w)
 (rB .eql 3 T0 U0 x16 (iV 5) w fun x32=>
 BR x32
 (rF 33 x2 2 w fun x33=>
 rL 22 x33 w fun x34=>
 rN 22 3 x34 w fun x35=>
 rB .sub 3 T0 U0 x35 (iV 1) w fun x36=>
 J12 [x36] w)
 (J12 [(iV 0)] w)))))) (fun u12 w=>
 rF 64 x5 0 w fun x37=>
 rL 3 x37 w fun x38=>
 cL 14 [x38,(iV 1),(iV 9)] w fun x39 w=>
 rD (Op.unary .not x39) w fun x40=>
 BR x40
 (R (Value.bool false) w)
 (rF 64 x5 1 w fun x42=>
 rL 3 x42 w fun x43=>
 cL 14 [x43,(iV 0),(u12 6)] w fun x45 w=>
 rD (Op.unary .not x45) w fun x46=>
 BR x46
 (R (Value.bool false) w)
 (JOIN [] (fun J25=>
 rF 64 x5 0 w fun x48=>
 rL 3 x48 w fun x49=>
 rB .eql 3 T0 U0 x49 (iV 1) w fun x50=>
 BR x50
 (rF 64 x5 2 w fun x56=>
 rL 62 x56 w fun x57=>
 cL 41 [x57] w fun x58 w=>
 rD (Op.unary .not x58) w fun x59=>
 BR x59
 (R (Value.bool false) w)
 (rF 64 x5 2 w fun x60=>
 rL 62 x60 w fun x61=>
 cL 42 [x61] w fun x62 w=>
 LOOPI [8] [(iV 0)] w fun u19 w next19=>
 rN 22 3 x62 w fun x65=>
 rC (u19 8) x65 w fun x66=>
 BR x66
 ((fun w=>rF 33 x2 0 w fun x69=>
 rL 22 x69 w fun x70=>
 rX 22 x62 (u19 8) w fun x73=>
 rL 9 x73 w fun x74=>
 cL 38 [x70,x74] w fun x75 w=>
 rB .lss 3 T0 U0 x75 (iV 0) w fun x76=>
 BR x76
 (R (Value.bool false) w)
 (rA (u19 8) (iV 1) w fun x68=>
 next19 [x68] w)) (World.drew1 w))
 (J25 [] w)))
 (rF 64 x5 0 w fun x52=>
 rL 3 x52 w fun x53=>
 rB .eql 3 T0 U0 x53 (iV 2) w fun x54=>
 BR x54
 (rF 64 x5 2 w fun x56=>
 rL 62 x56 w fun x57=>
 cL 41 [x57] w fun x58 w=>
 rD (Op.unary .not x58) w fun x59=>
 BR x59
 (R (Value.bool false) w)
 (rF 64 x5 2 w fun x60=>
 rL 62 x60 w fun x61=>
 cL 42 [x61] w fun x62 w=>
 LOOPI [8] [(iV 0)] w fun u19 w next19=>
 rN 22 3 x62 w fun x65=>
 rC (u19 8) x65 w fun x66=>
 BR x66
 ((fun w=>rF 33 x2 0 w fun x69=>
 rL 22 x69 w fun x70=>
 rX 22 x62 (u19 8) w fun x73=>
 rL 9 x73 w fun x74=>
 cL 38 [x70,x74] w fun x75 w=>
 rB .lss 3 T0 U0 x75 (iV 0) w fun x76=>
 BR x76
 (R (Value.bool false) w)
 (rA (u19 8) (iV 1) w fun x68=>
 next19 [x68] w)) (World.drew1 w))
 (J25 [] w)))
 (rF 64 x5 2 w fun x77=>
 rL 62 x77 w fun x78=>
 rD (Instr.build 62 #[]) w fun x79=>
 cL 43 [x78,x79] w fun x80 w=>
 rD (Op.unary .not x80) w fun x81=>
 BR x81
 (R (Value.bool false) w)
 (J25 [] w)))) (fun u25 w=>
 JOIN [] (fun J27=>
 rF 64 x5 0 w fun x82=>
 rL 3 x82 w fun x83=>
 rB .neq 3 T0 U0 x83 (iV 2) w fun x84=>
 BR x84
 (rF 64 x5 0 w fun x86=>
 rL 3 x86 w fun x87=>
 rB .neq 3 T0 U0 x87 (iV 3) w fun x88=>
 BR x88
 (rF 64 x5 3 w fun x90=>
 rL 3 x90 w fun x91=>
 rB .eql 3 T0 U0 x91 (iV 0) w fun x92=>
 R x92 w)
 (J27 [] w))
 (J27 [] w)) (fun u27 w=>
 rL 33 x2 w fun x93=>
 cL 40 [x93,a1] w fun x95 w=>
 (fun w=>rF 64 x5 3 w fun x96=>
 rL 3 x96 w fun x97=>
 rF 33 x2 3 w fun x98=>
 rL 23 x98 w fun x99=>
 rX 23 x99 x95 w fun x101=>
 rL 3 x101 w fun x102=>
 rL 33 x2 w fun x103=>
 (fun w_=>cL 39 [x103,x95] w_ fun x105 w=>
 Ext w_ w ∧
 cL 14 [x97,x102,x105] w fun x106 w=>
 R x106 w) w) (World.drew1 w))))))
def cfg26:Cfg:=⟨extL,[(12,137438920768,[6]),(25,4835703278177041722114448,[]),(27,9898684611004583682494169104,[])],[(19,151106504079791792062736,[8])],[(21,[0,1,2,3,4,5,6,7],0),(28,[0,1,2,3,4,5,6,7,8,9,10,11],512)],[],[],[]⟩
theorem F26_call {a0 a1:Value} {w:World} {R:VW} (h:F26 a0 a1 w R):cL 26 [a0,a1] w R:=co (g:=cfg26) Tryd.func26 (by kernel_rfl) (by kernel_rfl) (by kernel_rfl) h
theorem zgA {w:World} {v0:Value} {W0:World} {c:DCode} {j:Nat}  (h0:Is W0 v0 c) (e0:Ext W0 w) (hj:j<c.ins.length) (hE:∀ i,i<c.entry.length→0≤en c i) (h8:c.entry.length≤8) (hp:0≤zaz c j) :
   CALL Tryd.prog 26 [v0,.int .i64 (j:Int)] w fun r w'=>Ext w w'∧(r=.bool (decide (zcr c (zbB c j) (en c (zaz c j).toNat) (zb0 c (zaz c j)+1)))):=by
 refine F26_call ?_
 unfold F26
 have hpl:=zcJ (c:=c) (a:=j)
 refine zam zd3 rfl h0 e0 fun w1_ hx1_ hA2 hV2=>?_
 refine zaa za2 ?_
 refine zab zdH (zal hA2) (Ext.refl w1_) fun v11 h11=>?_
 refine zaf u31 zc1 h11 (by omega) fun b13 o13 h13=>?_
 refine zab zc1 h13 (Ext.refl w1_) fun v14 h14=>?_
 rw [zbp] at h14
 obtain ⟨a,ha⟩:∃ a,a=zbB c j:=⟨_,rfl⟩
 rw [←ha] at h14 ⊢
 refine zdG zid rfl zc1 rfl h14 (Ext.refl w1_) fun w2_ hx2_ hA5 hV5=>?_
 refine JOIN.mk (fun us w'=>us=[.int .i64 (za1 c a.op-1)]∧Ext w2_ w'∧(True)) ?_ ?_
 · refine zaa za6 ?_
   refine zac ty3 (zat hA5) (Ext.refl w2_) fun hI16=>?_
   refine zan ?_
   refine br (fun c1=>?_) (fun c1=>?_)
   · refine zaa zbb ?_
     refine zab zbi (zar hA2) hx2_ fun v20 h20=>?_
     have hln21:=zad h20
     refine zae u22 h20 ?_
     refine zaW (by unfold I64;have:=zad h20;omega) ?_
     refine ⟨by unfold za1;rw [if_pos c1],Ext.refl w2_,?_⟩
     trivial
   refine zan ?_
   refine br (fun c2=>?_) (fun c2=>?_)
   · refine zaa zbW ?_
     refine zab zbi (zaH hA2) hx2_ fun v27 h27=>?_
     have hln28:=zad h27
     refine zae u22 h27 ?_
     refine zaW (by unfold I64;have:=zad h27;omega) ?_
     refine ⟨by unfold za1;rw [if_neg (by omega),if_neg (by omega),if_pos (by omega)],Ext.refl w2_,?_⟩
     trivial
   refine zan ?_
   refine br (fun c3=>?_) (fun c3=>?_)
   · refine zaa zbW ?_
     refine zab zbi (zaH hA2) hx2_ fun v27 h27=>?_
     have hln28:=zad h27
     refine zae u22 h27 ?_
     refine zaW (by unfold I64;have:=zad h27;omega) ?_
     refine ⟨by unfold za1;rw [if_neg (by omega),if_neg (by omega),if_pos (by omega)],Ext.refl w2_,?_⟩
     trivial
   refine zan ?_
   refine br (fun c4=>?_) (fun c4=>?_)
   · refine zaa zbm ?_
     refine zab zbi (zav hA2) hx2_ fun v34 h34=>?_
     have hln35:=zad h34
     refine zae u22 h34 ?_
     refine zaW (by unfold I64;have:=zad h34;omega) ?_
     refine ⟨by unfold za1;rw [if_neg (by omega),if_pos (by omega)],Ext.refl w2_,?_⟩
     trivial
   refine zan ?_
   refine br (fun c5=>?_) (fun c5=>?_)
   · refine zaa zbm ?_
     refine zab zbi (zav hA2) hx2_ fun v34 h34=>?_
     have hln35:=zad h34
     refine zae u22 h34 ?_
     refine zaW (by unfold I64;have:=zad h34;omega) ?_
     refine ⟨by unfold za1;rw [if_neg (by omega),if_pos (by omega)],Ext.refl w2_,?_⟩
     trivial
   refine ⟨by unfold za1;rw [if_neg (by omega),if_neg (by omega),if_neg (by omega)];rfl,Ext.refl w2_,?_⟩
   trivial
 rintro uj12 w3_ ⟨hu,hx3_,hinv⟩
 simp only [List.map_cons,List.map_nil,List.cons.injEq,and_true] at hu
 try rw [hu]
 try clear hu
 refine zaa za6 ?_
 refine zac ty3 (zat hA5) hx3_ fun hI38=>?_
 refine (l01In_ok ).mono ?_
 rintro _ w4_ ⟨hx4_,rfl⟩
 refine zak ?_
 refine br (fun c6=>?_) (fun c6=>?_)
 · refine ⟨(hx1_.trans (hx2_.trans (hx3_.trans hx4_))),?_⟩
   have:¬zcr c a (en c (zaz c j).toNat) (zb0 c (zaz c j)+1):=fun h=>c6 h.1
   simp only [this,decide_false]
 refine zaa zdJ ?_
 refine zac ty3 (zbH hA5) (hx3_.trans hx4_) fun hI43=>?_
 refine (l01In_ok ).mono ?_
 rintro _ w5_ ⟨hx5_,rfl⟩
 refine zak ?_
 refine br (fun c7=>?_) (fun c7=>?_)
 · refine ⟨(hx1_.trans (hx2_.trans (hx3_.trans (hx4_.trans hx5_)))),?_⟩
   have:¬zcr c a (en c (zaz c j).toNat) (zb0 c (zaz c j)+1):=fun h=>c7 (by have:=h.2.1;omega)
   simp only [this,decide_false]
 refine JOIN.mk (fun us w'=>us=[]∧Ext w5_ w'∧(if a.op=1∨a.op=2 then zaF 6 a.term=true∧(∀ s∈zaU a.term,s∈c.globals) else a.term=term0)) ?_ ?_
 · refine zaa za6 ?_
   refine zac ty3 (zat hA5) (hx3_.trans (hx4_.trans hx5_)) fun hI49=>?_
   refine zan ?_
   refine br (fun c8=>?_) (fun c8=>?_)
   · refine zaa zbG ?_
     refine zab zbq (zaJ hA5) (hx3_.trans (hx4_.trans hx5_)) fun v57 h57=>?_
     refine (zbN h57 (hx3_.trans (hx4_.trans hx5_))).mono ?_
     rintro _ w7_ ⟨hx7_,rfl⟩
     refine zbg ?_
     refine zej (fun c9=>?_) (fun c9=>?_)
     · refine ⟨(hx1_.trans (hx2_.trans (hx3_.trans (hx4_.trans (hx5_.trans hx7_))))),?_⟩
       have:¬zcr c a (en c (zaz c j).toNat) (zb0 c (zaz c j)+1):=fun h=>by have:=h.2.2.1;rw [if_pos (.inl c8)] at this;rw [this.1] at c9;cases c9
       simp only [this,decide_false]
     refine zaa zbG ?_
     refine zab zbq (zaJ hA5) (hx3_.trans (hx4_.trans (hx5_.trans hx7_))) fun v61 h61=>?_
     refine (zch h61 (hx3_.trans (hx4_.trans (hx5_.trans hx7_)))).mono ?_
     rintro r62 w8_ ⟨hx8_,h62⟩
     refine zaQ ((zaU a.term).length) (fun k us w'=>us=[.int .i64 (k:Int)]∧Ext w8_ w'∧(∀ s∈(zaU a.term).take k,s∈c.globals)) (0) (by omega) ⟨by simp,Ext.refl w8_,by simp⟩ ?_
     rintro k m19 uu19 w9_ hk19 ⟨hu,hx9_,hinv⟩
     simp only [List.map_cons,List.map_nil,List.cons.injEq,and_true] at hu
     try rw [hu]
     try clear hu
     have hln65:=zad h62
     refine zae u22 h62 ?_
     refine zah ?_
     refine br (fun c10=>?_) (fun c10=>?_)
     · have hx10_:=zaw w9_
       refine zaa zbb ?_
       refine zab zbi (zar hA2) (hx2_.trans (hx3_.trans (hx4_.trans (hx5_.trans (hx7_.trans (hx8_.trans (hx9_.trans hx10_))))))) fun v70 h70=>?_
       refine zaf u22 ty9 h62 (by omega) fun b73 o73 h73=>?_
       refine zai ty9 h73 (hx9_.trans hx10_) fun hS74=>?_
       refine (zbA h70 (hx2_.trans (hx3_.trans (hx4_.trans (hx5_.trans (hx7_.trans (hx8_.trans (hx9_.trans hx10_)))))))).mono ?_
       rintro _ w11_ ⟨hx11_,rfl⟩
       refine zah ?_
       refine br (fun c11=>?_) (fun c11=>?_)
       · refine ⟨(hx1_.trans (hx2_.trans (hx3_.trans (hx4_.trans (hx5_.trans (hx7_.trans (hx8_.trans (hx9_.trans (hx10_.trans hx11_))))))))),?_⟩
         have:¬zcr c a (en c (zaz c j).toNat) (zb0 c (zaz c j)+1):=fun h=>by
           have:=h.2.2.1;rw [if_pos (.inl c8)] at this
           have:=zcl.2 (this.2 _ (List.getElem_mem (n:=k) (by omega)));omega
         simp only [this,decide_false]
       refine zao (by omega) ?_
       refine ⟨m19-1,by omega,k+1,by omega,by simp,(hx9_.trans (hx10_.trans hx11_)),?_⟩
       intro s hs
       rw [List.take_succ_eq_append_getElem (by omega)] at hs
       rcases List.mem_append.1 hs with hs | hs
       · exact hinv s hs
       simp only [List.mem_cons,List.not_mem_nil,or_false] at hs
       subst hs
       exact zcl.1 (by omega)
     refine ⟨by simp,(hx7_.trans (hx8_.trans hx9_)),?_⟩
     rw [if_pos (.inl c8)]
     rw [List.take_of_length_le (by omega)] at hinv
     exact ⟨by simpa using c9,hinv⟩
   refine zaa za6 ?_
   refine zac ty3 (zat hA5) (hx3_.trans (hx4_.trans hx5_)) fun hI53=>?_
   refine zan ?_
   refine br (fun c12=>?_) (fun c12=>?_)
   · refine zaa zbG ?_
     refine zab zbq (zaJ hA5) (hx3_.trans (hx4_.trans hx5_)) fun v57 h57=>?_
     refine (zbN h57 (hx3_.trans (hx4_.trans hx5_))).mono ?_
     rintro _ w12_ ⟨hx12_,rfl⟩
     refine zbg ?_
     refine zej (fun c13=>?_) (fun c13=>?_)
     · refine ⟨(hx1_.trans (hx2_.trans (hx3_.trans (hx4_.trans (hx5_.trans hx12_))))),?_⟩
       have:¬zcr c a (en c (zaz c j).toNat) (zb0 c (zaz c j)+1):=fun h=>by have:=h.2.2.1;rw [if_pos (.inr c12)] at this;rw [this.1] at c13;cases c13
       simp only [this,decide_false]
     refine zaa zbG ?_
     refine zab zbq (zaJ hA5) (hx3_.trans (hx4_.trans (hx5_.trans hx12_))) fun v61 h61=>?_
     refine (zch h61 (hx3_.trans (hx4_.trans (hx5_.trans hx12_)))).mono ?_
     rintro r62 w13_ ⟨hx13_,h62⟩
     refine zaQ ((zaU a.term).length) (fun k us w'=>us=[.int .i64 (k:Int)]∧Ext w13_ w'∧(∀ s∈(zaU a.term).take k,s∈c.globals)) (0) (by omega) ⟨by simp,Ext.refl w13_,by simp⟩ ?_
     rintro k m19 uu19 w14_ hk19 ⟨hu,hx14_,hinv⟩
     simp only [List.map_cons,List.map_nil,List.cons.injEq,and_true] at hu
     try rw [hu]
     try clear hu
     have hln65:=zad h62
     refine zae u22 h62 ?_
     refine zah ?_
     refine br (fun c14=>?_) (fun c14=>?_)
     · have hx15_:=zaw w14_
       refine zaa zbb ?_
       refine zab zbi (zar hA2) (hx2_.trans (hx3_.trans (hx4_.trans (hx5_.trans (hx12_.trans (hx13_.trans (hx14_.trans hx15_))))))) fun v70 h70=>?_
       refine zaf u22 ty9 h62 (by omega) fun b73 o73 h73=>?_
       refine zai ty9 h73 (hx14_.trans hx15_) fun hS74=>?_
       refine (zbA h70 (hx2_.trans (hx3_.trans (hx4_.trans (hx5_.trans (hx12_.trans (hx13_.trans (hx14_.trans hx15_)))))))).mono ?_
       rintro _ w16_ ⟨hx16_,rfl⟩
       refine zah ?_
       refine br (fun c15=>?_) (fun c15=>?_)
       · refine ⟨(hx1_.trans (hx2_.trans (hx3_.trans (hx4_.trans (hx5_.trans (hx12_.trans (hx13_.trans (hx14_.trans (hx15_.trans hx16_))))))))),?_⟩
         have:¬zcr c a (en c (zaz c j).toNat) (zb0 c (zaz c j)+1):=fun h=>by
           have:=h.2.2.1;rw [if_pos (.inr c12)] at this
           have:=zcl.2 (this.2 _ (List.getElem_mem (n:=k) (by omega)));omega
         simp only [this,decide_false]
       refine zao (by omega) ?_
       refine ⟨m19-1,by omega,k+1,by omega,by simp,(hx14_.trans (hx15_.trans hx16_)),?_⟩
       intro s hs
       rw [List.take_succ_eq_append_getElem (by omega)] at hs
       rcases List.mem_append.1 hs with hs | hs
       · exact hinv s hs
       simp only [List.mem_cons,List.not_mem_nil,or_false] at hs
       subst hs
       exact zcl.1 (by omega)
     refine ⟨by simp,(hx12_.trans (hx13_.trans hx14_)),?_⟩
     rw [if_pos (.inr c12)]
     rw [List.take_of_length_le (by omega)] at hinv
     exact ⟨by simpa using c13,hinv⟩
   refine zaa zbG ?_
   refine zab zbq (zaJ hA5) (hx3_.trans (hx4_.trans hx5_)) fun v78 h78=>?_
   refine zgf (α:=DTerm) ziS zic (by kernel_rfl) rfl fun v79 h79=>?_
   refine (zeM h78 (hx3_.trans (hx4_.trans hx5_)) h79 (Ext.refl w5_) rfl).mono ?_
   rintro _ w17_ ⟨hx17_,rfl⟩
   refine zak ?_
   refine br (fun c16=>?_) (fun c16=>?_)
   · refine ⟨(hx1_.trans (hx2_.trans (hx3_.trans (hx4_.trans (hx5_.trans hx17_))))),?_⟩
     have:¬zcr c a (en c (zaz c j).toNat) (zb0 c (zaz c j)+1):=fun h=>by have:=h.2.2.1;rw [if_neg (by omega)] at this;exact c16 this
     simp only [this,decide_false]
   refine ⟨by simp,hx17_,?_⟩
   rw [if_neg (by omega)]
   exact Decidable.not_not.1 c16
 rintro uj25 w6_ ⟨hu,hx17_,hT⟩
 simp only [List.map_cons,List.map_nil,List.cons.injEq,and_true] at hu
 clear hu
 refine JOIN.mk (fun us w'=>us=[]∧Ext w6_ w'∧(a.op=2∨a.op=3)) ?_ ?_
 · refine zaa za6 ?_
   refine zac ty3 (zat hA5) (hx3_.trans (hx4_.trans (hx5_.trans hx17_))) fun hI83=>?_
   refine zaC ?_
   refine br (fun c17=>?_) (fun c17=>?_)
   · refine zaa za6 ?_
     refine zac ty3 (zat hA5) (hx3_.trans (hx4_.trans (hx5_.trans hx17_))) fun hI87=>?_
     refine zaC ?_
     refine br (fun c18=>?_) (fun c18=>?_)
     · refine zaa zcc ?_
       refine zac ty3 (zaX hA5) (hx3_.trans (hx4_.trans (hx5_.trans hx17_))) fun hI91=>?_
       refine zan ?_
       refine ⟨(hx1_.trans (hx2_.trans (hx3_.trans (hx4_.trans (hx5_.trans hx17_))))),?_⟩
       congr 1
       rw [decide_eq_decide]
       constructor
       · exact fun h=>⟨Decidable.not_not.1 c6,by omega,hT,by rw [if_neg (by omega)];exact h⟩
       intro h;have:=h.2.2.2;rw [if_neg (by omega)] at this;exact this
     refine ⟨by simp,Ext.refl w6_,?_⟩
     omega
   refine ⟨by simp,Ext.refl w6_,?_⟩
   omega
 rintro uj27 w18_ ⟨hu,hx18_,hop⟩
 simp only [List.map_cons,List.map_nil,List.cons.injEq,and_true] at hu
 clear hu
 refine zaL hV2 (hx2_.trans (hx3_.trans (hx4_.trans (hx5_.trans (hx17_.trans hx18_))))) ?_
 refine (zdP h0 (e0.trans (hx1_.trans (hx2_.trans (hx3_.trans (hx4_.trans (hx5_.trans (hx17_.trans hx18_)))))))).mono ?_
 rintro _ w19_ ⟨hx19_,rfl⟩
 have hx20_:=zaw w19_
 refine zaa zcc ?_
 refine zac ty3 (zaX hA5) (hx3_.trans (hx4_.trans (hx5_.trans (hx17_.trans (hx18_.trans (hx19_.trans hx20_)))))) fun hI97=>?_
 refine zaa zaI ?_
 refine zab zcj (zag hA2) (hx2_.trans (hx3_.trans (hx4_.trans (hx5_.trans (hx17_.trans (hx18_.trans (hx19_.trans hx20_))))))) fun v99 h99=>?_
 refine zbh u23 ty3 h99 (by omega) (by omega) fun b101 o101 h101=>?_
 refine zac ty3 h101 (hx2_.trans (hx3_.trans (hx4_.trans (hx5_.trans (hx17_.trans (hx18_.trans (hx19_.trans hx20_))))))) fun hI102=>?_
 refine zaL hV2 (hx2_.trans (hx3_.trans (hx4_.trans (hx5_.trans (hx17_.trans (hx18_.trans (hx19_.trans hx20_))))))) ?_
 refine (zeQ h0 (e0.trans (hx1_.trans (hx2_.trans (hx3_.trans (hx4_.trans (hx5_.trans (hx17_.trans (hx18_.trans (hx19_.trans hx20_))))))))) (by omega) (by omega) (by assumption)).mono ?_
 rintro _ w21_ ⟨hx21_,rfl⟩
 refine ⟨hx21_,?_⟩
 refine (l01In_ok ).mono ?_
 rintro _ w22_ ⟨hx22_,rfl⟩
 refine ⟨(hx1_.trans (hx2_.trans (hx3_.trans (hx4_.trans (hx5_.trans (hx17_.trans (hx18_.trans (hx19_.trans (hx20_.trans (hx21_.trans hx22_)))))))))),?_⟩
 congr 1
 rw [decide_eq_decide,zaZ]
 constructor
 · exact fun h=>⟨Decidable.not_not.1 c6,by omega,hT,by rw [if_pos hop];omega⟩
 intro h;have:=h.2.2.2;rw [if_pos hop] at this;omega
def CodeR (c:DCode):Prop:=NamesR c∧EntS c∧∀ j,j<c.ins.length→zcr c (zbB c j) (en c (zaz c j).toNat) (zb0 c (zaz c j)+1)
instance (c:DCode):Decidable (CodeR c):=by unfold CodeR;infer_instance
theorem EntS.nonneg {c:DCode} (h:EntS c):∀ i,i<c.entry.length→0≤en c i:=zcR h.2.2.1
theorem NamesR.procs8 {c:DCode} (h:NamesR c):c.procs.length≤8∧0<c.procs.length:=by
 have h1:=h.2.2.1
 simp only [Bool.and_eq_true,decide_eq_true_eq] at h1
 have h2:=List.length_pos_of_mem h.2.2.2.2.2.2
 omega
theorem zcS {c:DCode} {a:Int} (h0:en c 0≤a):∀ {n:Nat},0<n→0≤prc c a n
 | 1,_=>by rw [prc,if_pos h0];omega
 | n+2,_=>by
   rw [prc]
   split
   · omega
   exact zcS h0 (by omega)
theorem zee {c:DCode} (hn:NamesR c) (h:EntS c) {a:Int} (ha:0≤a):0≤zaz c a:=by
 have h1:=hn.procs8
 have h2:=h.1
 exact zcS (by have:=(h.2.2.1 0 (by omega)).1 rfl;omega) (by omega)
def F13 (a0:Value) (w:World) (R:VW):Prop:=
 oP (Instr.box 33 a0) w fun x1 w=>
 rL 33 x1 w fun x4=>
 cL 25 [x4] w fun x5 w=>
 rD (Op.unary .not x5) w fun x6=>
 BR x6
 (R (Value.bool false) w)
 (LOOPI [3] [(iV 0)] w fun u4 w next4=>
 rF 33 x1 4 w fun x8=>
 rL 31 x8 w fun x9=>
 rN 31 3 x9 w fun x10=>
 rC (u4 3) x10 w fun x11=>
 BR x11
 (rL 33 x1 w fun x14=>
 cL 26 [x14,(u4 3)] w fun x16 w=>
 rD (Op.unary .not x16) w fun x17=>
 BR x17
 (R (Value.bool false) w)
 (rA (u4 3) (iV 1) w fun x13=>
 next4 [x13] w))
 (R (Value.bool true) w))
def cfg13:Cfg:=⟨extL,[],[(4,262028,[3])],[],[],[],[]⟩
theorem F13_call {a0:Value} {w:World} {R:VW} (h:F13 a0 w R):cL 13 [a0] w R:=co (g:=cfg13) Tryd.func13 (by kernel_rfl) (by kernel_rfl) (by kernel_rfl) h
theorem zef {w:World} {v0:Value} {W0:World} {c:DCode}  (h0:Is W0 v0 c) (e0:Ext W0 w)  :
   CALL Tryd.prog 13 [v0] w fun r w'=>Ext w w'∧(r=.bool (decide (CodeR c))):=by
 refine F13_call ?_
 unfold F13
 refine zam zd3 rfl h0 e0 fun w1_ hx1_ hA1 hV1=>?_
 refine zaL hV1 (Ext.refl w1_) ?_
 refine (zfl h0 (e0.trans hx1_)).mono ?_
 rintro _ w2_ ⟨hx2_,rfl⟩
 skip
 refine zak ?_
 refine br (fun c1=>?_) (fun c1=>?_)
 · refine ⟨(hx1_.trans hx2_),?_⟩
   have:¬CodeR c:=fun h=>c1 ⟨h.1,h.2.1⟩
   simp only [this,decide_false]
 refine zaQ (c.ins.length) (fun k us w'=>us=[.int .i64 (k:Int)]∧Ext w2_ w'∧(∀ j,j<k→zcr c (zbB c j) (en c (zaz c j).toNat) (zb0 c (zaz c j)+1))) (0) (by omega) ⟨by simp,Ext.refl w2_,fun i h=>by omega⟩ ?_
 rintro k m4 uu4 w3_ hk4 ⟨hu,hx3_,hinv⟩
 simp only [List.map_cons,List.map_nil,List.cons.injEq,and_true] at hu
 try rw [hu]
 try clear hu
 replace c1:=Decidable.not_not.1 c1
 refine zaa za2 ?_
 refine zab zdH (zal hA1) (hx2_.trans hx3_) fun v9 h9=>?_
 have hln10:=zad h9
 refine zae u31 h9 ?_
 refine zah ?_
 refine br (fun c2=>?_) (fun c2=>?_)
 · refine zaL hV1 (hx2_.trans hx3_) ?_
   refine (zgA h0 (e0.trans (hx1_.trans (hx2_.trans hx3_))) (by omega) c1.2.nonneg (by have:=c1.1.procs8;have:=c1.2.1;omega) (zee c1.1 c1.2 (by omega))).mono ?_
   rintro _ w4_ ⟨hx4_,rfl⟩
   refine zak ?_
   refine br (fun c3=>?_) (fun c3=>?_)
   · refine ⟨(hx1_.trans (hx2_.trans (hx3_.trans hx4_))),?_⟩
     have:¬CodeR c:=fun h=>c3 (h.2.2 k (by omega))
     simp only [this,decide_false]
   refine zao (by omega) ?_
   refine ⟨m4-1,by omega,k+1,by omega,by simp,(hx3_.trans hx4_),?_⟩
   exact zcL hinv (Decidable.not_not.1 c3)
 refine ⟨(hx1_.trans (hx2_.trans hx3_)),?_⟩
 have:CodeR c:=⟨c1.1,c1.2,fun j hj=>hinv j (by omega)⟩
 simp only [this,decide_true]
def F29 (a0:Value) (w:World) (R:VW):Prop:=
 oP (Instr.box 33 a0) w fun x1 w=>
 rF 33 x1 0 w fun x3=>
 rL 22 x3 w fun x4=>
 cL 45 [x4,(iV 6)] w fun x5 w=>
 rD (Op.unary .not x5) w fun x6=>
 BR x6
 (R (Value.bool false) w)
 (rF 33 x1 1 w fun x8=>
 rL 22 x8 w fun x9=>
 cL 45 [x9,(iV 6)] w fun x10 w=>
 rD (Op.unary .not x10) w fun x11=>
 BR x11
 (R (Value.bool false) w)
 (rF 33 x1 2 w fun x14=>
 rL 22 x14 w fun x15=>
 cL 45 [x15,(iV 8)] w fun x16 w=>
 rD (Op.unary .not x16) w fun x17=>
 BR x17
 (R (Value.bool false) w)
 (rF 33 x1 0 w fun x19=>
 rL 22 x19 w fun x20=>
 cL 46 [x20] w fun x21 w=>
 BR x21
 (R (Value.bool false) w)
 (rF 33 x1 1 w fun x23=>
 rL 22 x23 w fun x24=>
 cL 46 [x24] w fun x25 w=>
 BR x25
 (R (Value.bool false) w)
 (rF 33 x1 2 w fun x28=>
 rL 22 x28 w fun x29=>
 cL 46 [x29] w fun x30 w=>
 BR x30
 (R (Value.bool false) w)
 (rF 33 x1 2 w fun x32=>
 rL 22 x32 w fun x33=>
 cL 47 [x33,(Value.string (ByteArray.mk #[109,97,105,110]))] w fun x34 w=>
 R x34 w))))))
def cfg29:Cfg:=⟨extL,[],[],[],[],[],[]⟩
theorem F29_call {a0:Value} {w:World} {R:VW} (h:F29 a0 w R):cL 29 [a0] w R:=co (g:=cfg29) Tryd.func29 (by kernel_rfl) (by kernel_rfl) (by kernel_rfl) h
theorem zeg {w:World} {v0:Value} {W0:World} {c:DCode}  (h0:Is W0 v0 c) (e0:Ext W0 w)  :
   CALL Tryd.prog 29 [v0] w fun r w'=>Ext w w'∧(r=.bool (decide (NamesR c))):=by
 refine F29_call ?_
 unfold F29
 refine zam zd3 rfl h0 e0 fun w1_ hx1_ hA1 hV1=>?_
 refine zaa zbb ?_
 refine zab zbi (zar hA1) (Ext.refl w1_) fun v4 h4=>?_
 refine (zcm h4 (Ext.refl w1_)).mono ?_
 rintro _ w2_ ⟨hx2_,rfl⟩
 refine zbg ?_
 refine zej (fun c1=>?_) (fun c1=>?_)
 · refine ⟨(hx1_.trans hx2_),?_⟩
   have:¬NamesR c:=fun h=>by rw [h.1] at c1;cases c1
   simp only [this,decide_false]
 refine zaa zbW ?_
 refine zab zbi (zaH hA1) hx2_ fun v9 h9=>?_
 refine (zcm h9 hx2_).mono ?_
 rintro _ w3_ ⟨hx3_,rfl⟩
 refine zbg ?_
 refine zej (fun c2=>?_) (fun c2=>?_)
 · refine ⟨(hx1_.trans (hx2_.trans hx3_)),?_⟩
   have:¬NamesR c:=fun h=>by rw [h.2.1] at c2;cases c2
   simp only [this,decide_false]
 refine zaa zbm ?_
 refine zab zbi (zav hA1) (hx2_.trans hx3_) fun v15 h15=>?_
 refine (zcm h15 (hx2_.trans hx3_)).mono ?_
 rintro _ w4_ ⟨hx4_,rfl⟩
 refine zbg ?_
 refine zej (fun c3=>?_) (fun c3=>?_)
 · refine ⟨(hx1_.trans (hx2_.trans (hx3_.trans hx4_))),?_⟩
   have:¬NamesR c:=fun h=>by rw [h.2.2.1] at c3;cases c3
   simp only [this,decide_false]
 refine zaa zbb ?_
 refine zab zbi (zar hA1) (hx2_.trans (hx3_.trans hx4_)) fun v20 h20=>?_
 refine (zco h20 (hx2_.trans (hx3_.trans hx4_))).mono ?_
 rintro _ w5_ ⟨hx5_,rfl⟩
 refine br (fun c4=>?_) (fun c4=>?_)
 · refine ⟨(hx1_.trans (hx2_.trans (hx3_.trans (hx4_.trans hx5_)))),?_⟩
   have:¬NamesR c:=fun h=>c4 h.2.2.2.1
   simp only [this,decide_false]
 refine zaa zbW ?_
 refine zab zbi (zaH hA1) (hx2_.trans (hx3_.trans (hx4_.trans hx5_))) fun v24 h24=>?_
 refine (zco h24 (hx2_.trans (hx3_.trans (hx4_.trans hx5_)))).mono ?_
 rintro _ w6_ ⟨hx6_,rfl⟩
 refine br (fun c5=>?_) (fun c5=>?_)
 · refine ⟨(hx1_.trans (hx2_.trans (hx3_.trans (hx4_.trans (hx5_.trans hx6_))))),?_⟩
   have:¬NamesR c:=fun h=>c5 h.2.2.2.2.1
   simp only [this,decide_false]
 refine zaa zbm ?_
 refine zab zbi (zav hA1) (hx2_.trans (hx3_.trans (hx4_.trans (hx5_.trans hx6_)))) fun v29 h29=>?_
 refine (zco h29 (hx2_.trans (hx3_.trans (hx4_.trans (hx5_.trans hx6_))))).mono ?_
 rintro _ w7_ ⟨hx7_,rfl⟩
 refine br (fun c6=>?_) (fun c6=>?_)
 · refine ⟨(hx1_.trans (hx2_.trans (hx3_.trans (hx4_.trans (hx5_.trans (hx6_.trans hx7_)))))),?_⟩
   have:¬NamesR c:=fun h=>c6 h.2.2.2.2.2.1
   simp only [this,decide_false]
 refine zaa zbm ?_
 refine zab zbi (zav hA1) (hx2_.trans (hx3_.trans (hx4_.trans (hx5_.trans (hx6_.trans hx7_))))) fun v33 h33=>?_
 refine (zaY h33 (hx2_.trans (hx3_.trans (hx4_.trans (hx5_.trans (hx6_.trans hx7_)))))).mono ?_
 rintro _ w8_ ⟨hx8_,rfl⟩
 refine ⟨(hx1_.trans (hx2_.trans (hx3_.trans (hx4_.trans (hx5_.trans (hx6_.trans (hx7_.trans hx8_))))))),?_⟩
 congr 1
 rw [decide_eq_decide]
 exact ⟨fun h=>⟨by simpa using c1,by simpa using c2,by simpa using c3,Decidable.not_not.1 c4,Decidable.not_not.1 c5,Decidable.not_not.1 c6,h⟩,fun h=>h.2.2.2.2.2.2⟩
def zeh (c:DCode):Nat→Nat
 | 0=>0
 | k+1=>zeh c k+if (zbB c k).op=9 then 1 else 0
theorem zgB (c:DCode):∀ k,zeh c k≤k
 | 0=>Nat.le_refl _
 | k+1=>by have:=zgB c k;rw [zeh];split<;>omega
def EntI (c:DCode):Prop:=c.ins.length≤1500∧c.entry.length=c.procs.length∧en c 0=0∧zeh c c.ins.length=c.entry.length ∧
 ∀ i,i<c.entry.length→en c i<zbr c i∧zbr c i≤c.ins.length∧(zbB c (zbr c i-1).toNat).op=9
instance (c:DCode):Decidable (EntI c):=by unfold EntI;infer_instance
theorem zcq {c:DCode} (h0:en c 0=0):∀ {q:Nat},q<c.entry.length→(∀ i,i<q→en c i<zbr c i)→0≤en c q
 | 0,_,_=>by omega
 | q+1,hq,h=>by
   have h1:=zcq h0 (q:=q) (by omega) fun i hi=>h i (by omega)
   have h2:=h q (by omega)
   unfold zbr at h2
   rw [if_pos hq] at h2
   omega
def F30 (a0:Value) (w:World) (R:VW):Prop:=
 oP (Instr.box 33 a0) w fun x1 w=>
 rF 33 x1 4 w fun x9=>
 rL 31 x9 w fun x10=>
 rN 31 3 x10 w fun x11=>
 rB .gtr 3 T0 U0 x11 (iV 1500) w fun x12=>
 BR x12
 (R (Value.bool false) w)
 (rF 33 x1 3 w fun x14=>
 rL 23 x14 w fun x15=>
 rN 23 3 x15 w fun x16=>
 rF 33 x1 2 w fun x17=>
 rL 22 x17 w fun x18=>
 rN 22 3 x18 w fun x19=>
 rB .neq 3 T0 T0 x16 x19 w fun x20=>
 BR x20
 (R (Value.bool false) w)
 (rF 33 x1 3 w fun x23=>
 rL 23 x23 w fun x24=>
 rX 23 x24 (iV 0) w fun x25=>
 rL 3 x25 w fun x26=>
 rB .neq 3 T0 U0 x26 (iV 0) w fun x27=>
 BR x27
 (R (Value.bool false) w)
 (rF 33 x1 4 w fun x29=>
 rL 31 x29 w fun x30=>
 rN 31 3 x30 w fun x31=>
 LOOPI [3,32] [(iV 0),(iV 0)] w fun u5 w next5=>
 rC (u5 32) x31 w fun x33=>
 BR x33
 (rX 31 x30 (u5 32) w fun x34=>
 rL 64 x34 w fun x35=>
 oP (Instr.alloc 64 true (.tuple #[])) w fun x5 w=>
 oS 64 x5 x35 w fun w=>
 rF 64 x5 0 w fun x36=>
 rL 3 x36 w fun x37=>
 rB .eql 3 T0 U0 x37 (iV 9) w fun x38=>
 BR x38
 (rA (u5 3) (iV 1) w fun x40=>
 rA (u5 32) (iV 1) w fun x41=>
 next5 [x40,x41] w)
 (rA (u5 32) (iV 1) w fun x41=>
 next5 [(u5 3),x41] w))
 (rF 33 x1 3 w fun x43=>
 rL 23 x43 w fun x44=>
 rN 23 3 x44 w fun x45=>
 rB .neq 3 T0 T0 (u5 3) x45 w fun x46=>
 BR x46
 (R (Value.bool false) w)
 (rF 33 x1 3 w fun x47=>
 rL 23 x47 w fun x48=>
 rN 23 3 x48 w fun x49=>
 LOOPI [50] [(iV 0)] w fun u13 w next13=>
 rC (u13 50) x49 w fun x51=>
 BR x51
 ((fun w=>rF 33 x1 3 w fun x53=>
 rL 23 x53 w fun x54=>
 rX 23 x54 (u13 50) w fun x56=>
 rL 3 x56 w fun x57=>
 rF 33 x1 4 w fun x58=>
 rL 31 x58 w fun x59=>
 rN 31 3 x59 w fun x60=>
 JOIN [8] (fun J18=>
 rA (u13 50) (iV 1) w fun x62=>
 rF 33 x1 3 w fun x63=>
 rL 23 x63 w fun x64=>
 rN 23 3 x64 w fun x65=>
 rC x62 x65 w fun x66=>
 BR x66
 (rF 33 x1 3 w fun x67=>
 rL 23 x67 w fun x68=>
 rA (u13 50) (iV 1) w fun x70=>
 rX 23 x68 x70 w fun x71=>
 rL 3 x71 w fun x72=>
 J18 [x72] w)
 (J18 [x60] w)) (fun u18 w=>
 rB .leq 3 T0 T0 (u18 8) x57 w fun x75=>
 BR x75
 (R (Value.bool false) w)
 (rF 33 x1 4 w fun x78=>
 rL 31 x78 w fun x79=>
 rN 31 3 x79 w fun x80=>
 rB .gtr 3 T0 T0 (u18 8) x80 w fun x81=>
 BR x81
 (R (Value.bool false) w)
 (rF 33 x1 4 w fun x84=>
 rL 31 x84 w fun x85=>
 rB .sub 3 T0 U0 (u18 8) (iV 1) w fun x87=>
 rX 31 x85 x87 w fun x88=>
 rF 64 x88 0 w fun x89=>
 rL 3 x89 w fun x90=>
 rB .neq 3 T0 U0 x90 (iV 9) w fun x91=>
 BR x91
 (R (Value.bool false) w)
 (rA (u13 50) (iV 1) w fun x93=>
 next13 [x93] w))))) (World.drew1 w))
 (R (Value.bool true) w))))))
def cfg30:Cfg:=⟨extL,[(18,9442427122730076733696,[8])],[(5,4393751543848,[3,32]),(13,19807040628564958498479145412,[50])],[(15,[0,1,2,3,4,5,6,7,8,9],0)],[],[],[]⟩
theorem F30_call {a0:Value} {w:World} {R:VW} (h:F30 a0 w R):cL 30 [a0] w R:=co (g:=cfg30) Tryd.func30 (by kernel_rfl) (by kernel_rfl) (by kernel_rfl) h
theorem zdt {w:World} {v0:Value} {W0:World} {c:DCode}  (h0:Is W0 v0 c) (e0:Ext W0 w) (hp:0<c.procs.length) :
   CALL Tryd.prog 30 [v0] w fun r w'=>Ext w w'∧(r=.bool (decide (EntI c))):=by
 refine F30_call ?_
 unfold F30
 refine zam zd3 rfl h0 e0 fun w1_ hx1_ hA1 hV1=>?_
 refine zaa za2 ?_
 refine zab zdH (zal hA1) (Ext.refl w1_) fun v10 h10=>?_
 have hln11:=zad h10
 refine zae u31 h10 ?_
 refine zcb ?_
 refine br (fun c1=>?_) (fun c1=>?_)
 · refine ⟨hx1_,?_⟩
   have:¬EntI c:=fun h=>by have:=h.1;omega
   simp only [this,decide_false]
 refine zaa zaI ?_
 refine zab zcj (zag hA1) (Ext.refl w1_) fun v15 h15=>?_
 have hln16:=zad h15
 refine zae u23 h15 ?_
 refine zaa zbm ?_
 refine zab zbi (zav hA1) (Ext.refl w1_) fun v18 h18=>?_
 have hln19:=zad h18
 refine zae u22 h18 ?_
 refine zaC ?_
 refine br (fun c2=>?_) (fun c2=>?_)
 · refine ⟨hx1_,?_⟩
   have:¬EntI c:=fun h=>by have:=h.2.1;omega
   simp only [this,decide_false]
 refine zaa zaI ?_
 refine zab zcj (zag hA1) (Ext.refl w1_) fun v24 h24=>?_
 refine zbh u23 ty3 h24 (by omega) (by omega) fun b25 o25 h25=>?_
 refine zac ty3 h25 (Ext.refl w1_) fun hI26=>?_
 refine zaC ?_
 refine br (fun c3=>?_) (fun c3=>?_)
 · refine ⟨hx1_,?_⟩
   rw [zaZ] at c3
   have:¬EntI c:=fun h=>c3 h.2.2.1
   simp only [this,decide_false]
 refine zaa za2 ?_
 refine zab zdH (zal hA1) (Ext.refl w1_) fun v30 h30=>?_
 have hln31:=zad h30
 refine zae u31 h30 ?_
 refine zaQ (c.ins.length) (fun k us w'=>us=[.int .i64 (zeh c k:Int),.int .i64 (k:Int)]∧Ext w1_ w'∧(True)) (0) (by omega) ⟨rfl,Ext.refl w1_,trivial⟩ ?_
 rintro k m5 uu5 w2_ hk5 ⟨hu,hx2_,hinv⟩
 obtain ⟨hu0,hu1⟩:=zhE hu;clear hu
 try rw [hu0]
 try rw [hu1]
 try clear hu0 hu1
 have hel:=zgB c k
 refine zah ?_
 refine br (fun c4=>?_) (fun c4=>?_)
 · refine zaf u31 zc1 h30 (by omega) fun b34 o34 h34=>?_
   refine zab zc1 h34 hx2_ fun v35 h35=>?_
   rw [zbp] at h35
   refine zdG zid rfl zc1 rfl h35 hx2_ fun w3_ hx3_ hA5 hV5=>?_
   refine zaa za6 ?_
   refine zac ty3 (zat hA5) (Ext.refl w3_) fun hI37=>?_
   refine zan ?_
   refine br (fun c5=>?_) (fun c5=>?_)
   · refine zao (by omega) ?_
     refine zao (by omega) ?_
     refine ⟨m5-1,by omega,k+1,by omega,by rw [zeh,if_pos c5],(hx2_.trans hx3_),?_⟩
     trivial
   refine zao (by omega) ?_
   refine ⟨m5-1,by omega,k+1,by omega,by rw [zeh,if_neg c5];rfl,(hx2_.trans hx3_),?_⟩
   trivial
 refine zaa zaI ?_
 refine zab zcj (zag hA1) hx2_ fun v44 h44=>?_
 have hln45:=zad h44
 refine zae u23 h44 ?_
 refine zaC ?_
 refine br (fun c6=>?_) (fun c6=>?_)
 · refine ⟨(hx1_.trans hx2_),?_⟩
   have:¬EntI c:=fun h=>c6 (by rw [show k=c.ins.length by omega,h.2.2.2.1])
   simp only [this,decide_false]
 refine zaa zaI ?_
 refine zab zcj (zag hA1) hx2_ fun v48 h48=>?_
 have hln49:=zad h48
 refine zae u23 h48 ?_
 refine zaQ (c.entry.length) (fun q us w'=>us=[.int .i64 (q:Int)]∧Ext w2_ w'∧(∀ i,i<q→en c i<zbr c i∧zbr c i≤c.ins.length∧(zbB c (zbr c i-1).toNat).op=9)) (0) (by omega) ⟨by simp,Ext.refl w2_,fun i h=>by omega⟩ ?_
 rintro q m13 uu13 w4_ hk13 ⟨hu,hx4_,hent⟩
 simp only [List.map_cons,List.map_nil,List.cons.injEq,and_true] at hu
 try rw [hu]
 try clear hu
 refine zah ?_
 refine br (fun c7=>?_) (fun c7=>?_)
 · have hx5_:=zaw w4_
   refine zaa zaI ?_
   refine zab zcj (zag hA1) (hx2_.trans (hx4_.trans hx5_)) fun v54 h54=>?_
   refine zaf u23 ty3 h54 (by omega) fun b56 o56 h56=>?_
   refine zac ty3 h56 (hx2_.trans (hx4_.trans hx5_)) fun hI57=>?_
   refine zaa za2 ?_
   refine zab zdH (zal hA1) (hx2_.trans (hx4_.trans hx5_)) fun v59 h59=>?_
   have hln60:=zad h59
   refine zae u31 h59 ?_
   refine JOIN.mk (fun us w'=>us=[.int .i64 (zbr c q)]∧Ext (World.drew1 w4_) w'∧(True)) ?_ ?_
   · refine zao (by omega) ?_
     refine zaa zaI ?_
     refine zab zcj (zag hA1) (hx2_.trans (hx4_.trans hx5_)) fun v64 h64=>?_
     have hln65:=zad h64
     refine zae u23 h64 ?_
     refine zah ?_
     refine br (fun c8=>?_) (fun c8=>?_)
     · refine zaa zaI ?_
       refine zab zcj (zag hA1) (hx2_.trans (hx4_.trans hx5_)) fun v68 h68=>?_
       refine zao (by omega) ?_
       refine zaf u23 ty3 h68 (by omega) fun b71 o71 h71=>?_
       refine zac ty3 h71 (hx2_.trans (hx4_.trans hx5_)) fun hI72=>?_
       refine ⟨by unfold zbr;rw [if_pos (by omega),zaZ],Ext.refl (World.drew1 w4_),?_⟩
       trivial
     refine ⟨by unfold zbr;rw [if_neg (by omega)],Ext.refl (World.drew1 w4_),?_⟩
     trivial
   rintro uj18 w6_ ⟨hu,hx6_,hinv⟩
   simp only [List.map_cons,List.map_nil,List.cons.injEq,and_true] at hu
   try rw [hu]
   try clear hu
   refine zca ?_
   refine br (fun c9=>?_) (fun c9=>?_)
   · refine ⟨(hx1_.trans (hx2_.trans (hx4_.trans (hx5_.trans hx6_)))),?_⟩
     rw [zaZ] at c9
     have:¬EntI c:=fun h=>by have:=(h.2.2.2.2 q (by omega)).1;omega
     simp only [this,decide_false]
   refine zaa za2 ?_
   refine zab zdH (zal hA1) (hx2_.trans (hx4_.trans (hx5_.trans hx6_))) fun v79 h79=>?_
   have hln80:=zad h79
   refine zae u31 h79 ?_
   refine zcb ?_
   refine br (fun c10=>?_) (fun c10=>?_)
   · refine ⟨(hx1_.trans (hx2_.trans (hx4_.trans (hx5_.trans hx6_)))),?_⟩
     have:¬EntI c:=fun h=>by have:=(h.2.2.2.2 q (by omega)).2.1;omega
     simp only [this,decide_false]
   refine zaa za2 ?_
   refine zab zdH (zal hA1) (hx2_.trans (hx4_.trans (hx5_.trans hx6_))) fun v85 h85=>?_
   rw [zaZ] at c3 c9
   have hq0:=zcq (Decidable.not_not.1 c3) (q:=q) (by omega) fun i hi=>(hent i hi).1
   refine zaW (by unfold I64;omega) ?_
   refine zbh u31 zc1 h85 (by omega) (by omega) fun b88 o88 h88=>?_
   refine zaa za6 ?_
   refine zac ty3 (zat h88) (hx2_.trans (hx4_.trans (hx5_.trans hx6_))) fun hI90=>?_
   refine zaC ?_
   refine br (fun c11=>?_) (fun c11=>?_)
   · refine ⟨(hx1_.trans (hx2_.trans (hx4_.trans (hx5_.trans hx6_)))),?_⟩
     rw [zbp] at c11
     have:¬EntI c:=fun h=>c11 (h.2.2.2.2 q (by omega)).2.2
     simp only [this,decide_false]
   refine zao (by omega) ?_
   refine ⟨m13-1,by omega,q+1,by omega,by simp,(hx4_.trans (hx5_.trans hx6_)),?_⟩
   rw [zbp] at c11
   exact zcL hent ⟨by omega,by omega,Decidable.not_not.1 c11⟩
 refine ⟨(hx1_.trans (hx2_.trans hx4_)),?_⟩
 rw [zaZ] at c3
 have:EntI c:=⟨by omega,by omega,Decidable.not_not.1 c3,by rw [show c.ins.length=k by omega];omega,fun i hi=>hent i (by omega)⟩
 simp only [this,decide_true]
def F48 (a0 a1:Value) (w:World) (R:VW):Prop:=
 oP (Instr.box 33 a0) w fun x2 w=>
 rB .eql 3 T0 U0 a1 (iV 1) w fun x7=>
 BR x7
 (rF 33 x2 0 w fun x8=>
 rL 22 x8 w fun x9=>
 rN 22 3 x9 w fun x10=>
 R x10 w)
 (rB .eql 3 T0 U0 a1 (iV 4) w fun x12=>
 BR x12
 (rF 33 x2 2 w fun x14=>
 rL 22 x14 w fun x15=>
 rN 22 3 x15 w fun x16=>
 R x16 w)
 (rB .eql 3 T0 U0 a1 (iV 5) w fun x13=>
 BR x13
 (rF 33 x2 2 w fun x14=>
 rL 22 x14 w fun x15=>
 rN 22 3 x15 w fun x16=>
 R x16 w)
 (rB .eql 3 T0 U0 a1 (iV 6) w fun x18=>
 BR x18
 (rF 33 x2 1 w fun x20=>
 rL 22 x20 w fun x21=>
 rN 22 3 x21 w fun x22=>
 R x22 w)
 (rB .eql 3 T0 U0 a1 (iV 7) w fun x19=>
 BR x19
 (rF 33 x2 1 w fun x20=>
 rL 22 x20 w fun x21=>
 rN 22 3 x21 w fun x22=>
 R x22 w)
 (R (iV 1) w)))))
def cfg48:Cfg:=⟨extL,[],[],[],[],[],[]⟩
theorem F48_call {a0 a1:Value} {w:World} {R:VW} (h:F48 a0 a1 w R):cL 48 [a0,a1] w R:=co (g:=cfg48) Tryd.func48 (by kernel_rfl) (by kernel_rfl) (by kernel_rfl) h
theorem zfT {w:World} {v0:Value} {W0:World} {c:DCode} {op:Int}  (h0:Is W0 v0 c) (e0:Ext W0 w)  :
   CALL Tryd.prog 48 [v0,.int .i64 op] w fun r w'=>Ext w w'∧(r=.int .i64 (za1 c op)):=by
 refine F48_call ?_
 unfold F48
 refine zam zd3 rfl h0 e0 fun w1_ hx1_ hA2 hV2=>?_
 refine zan ?_
 refine br (fun c1=>?_) (fun c1=>?_)
 · refine zaa zbb ?_
   refine zab zbi (zar hA2) (Ext.refl w1_) fun v9 h9=>?_
   have hln10:=zad h9
   refine zae u22 h9 ?_
   refine ⟨hx1_,?_⟩
   unfold za1;rw [if_pos c1]
 refine zan ?_
 refine br (fun c2=>?_) (fun c2=>?_)
 · refine zaa zbm ?_
   refine zab zbi (zav hA2) (Ext.refl w1_) fun v15 h15=>?_
   have hln16:=zad h15
   refine zae u22 h15 ?_
   refine ⟨hx1_,?_⟩
   unfold za1;rw [if_neg (by omega),if_pos (by omega)]
 refine zan ?_
 refine br (fun c3=>?_) (fun c3=>?_)
 · refine zaa zbm ?_
   refine zab zbi (zav hA2) (Ext.refl w1_) fun v15 h15=>?_
   have hln16:=zad h15
   refine zae u22 h15 ?_
   refine ⟨hx1_,?_⟩
   unfold za1;rw [if_neg (by omega),if_pos (by omega)]
 refine zan ?_
 refine br (fun c4=>?_) (fun c4=>?_)
 · refine zaa zbW ?_
   refine zab zbi (zaH hA2) (Ext.refl w1_) fun v21 h21=>?_
   have hln22:=zad h21
   refine zae u22 h21 ?_
   refine ⟨hx1_,?_⟩
   unfold za1;rw [if_neg (by omega),if_neg (by omega),if_pos (by omega)]
 refine zan ?_
 refine br (fun c5=>?_) (fun c5=>?_)
 · refine zaa zbW ?_
   refine zab zbi (zaH hA2) (Ext.refl w1_) fun v21 h21=>?_
   have hln22:=zad h21
   refine zae u22 h21 ?_
   refine ⟨hx1_,?_⟩
   unfold za1;rw [if_neg (by omega),if_neg (by omega),if_pos (by omega)]
 refine ⟨hx1_,?_⟩
 unfold za1;rw [if_neg (by omega),if_neg (by omega),if_neg (by omega)]
def F32 (a0 a1 a2 a3:Value) (w:World) (R:VW):Prop:=
 oP (Instr.box 33 a0) w fun x4 w=>
 oP (Instr.box 64 a1) w fun x5 w=>
 (fun w=>rF 64 x5 0 w fun x11=>
 rL 3 x11 w fun x12=>
 rB .lss 3 T0 U0 x12 (iV 1) w fun x13=>
 BR x13
 (R (Value.bool false) w)
 (rF 64 x5 0 w fun x15=>
 rL 3 x15 w fun x16=>
 rB .gtr 3 T0 U0 x16 (iV 9) w fun x17=>
 BR x17
 (R (Value.bool false) w)
 (rF 64 x5 1 w fun x20=>
 rL 3 x20 w fun x21=>
 rB .lss 3 T0 U0 x21 (iV 0) w fun x22=>
 BR x22
 (R (Value.bool false) w)
 (rF 64 x5 1 w fun x25=>
 rL 3 x25 w fun x26=>
 rL 33 x4 w fun x27=>
 rF 64 x5 0 w fun x28=>
 rL 3 x28 w fun x29=>
 (fun w_=>cL 48 [x27,x29] w_ fun x30 w=>
 Ext w_ w ∧
 rB .geq 3 T0 T0 x26 x30 w fun x31=>
 BR x31
 (R (Value.bool false) w)
 (JOIN [] (fun J14=>
 rF 64 x5 0 w fun x33=>
 rL 3 x33 w fun x34=>
 rB .eql 3 T0 U0 x34 (iV 1) w fun x35=>
 BR x35
 (rF 64 x5 2 w fun x41=>
 rL 62 x41 w fun x42=>
 cL 49 [x42] w fun x43 w=>
 rD (Op.unary .not x43) w fun x44=>
 BR x44
 (R (Value.bool false) w)
 (rF 64 x5 2 w fun x45=>
 rL 62 x45 w fun x46=>
 cL 50 [x46] w fun x47 w=>
 rN 22 3 x47 w fun x48=>
 LOOPI [49] [(iV 0)] w fun u7 w next7=>
 rC (u7 49) x48 w fun x50=>
 BR x50
 (rX 22 x47 (u7 49) w fun x51=>
 rL 9 x51 w fun x52=>
 rF 33 x4 0 w fun x53=>
 rL 22 x53 w fun x54=>
 cL 47 [x54,x52] w fun x56 w=>
 rD (Op.unary .not x56) w fun x57=>
 BR x57
 (R (Value.bool false) w)
 (rA (u7 49) (iV 1) w fun x58=>
 next7 [x58] w))
 (J14 [] w)))
 (rF 64 x5 0 w fun x37=>
 rL 3 x37 w fun x38=>
 rB .eql 3 T0 U0 x38 (iV 2) w fun x39=>
 BR x39
 (rF 64 x5 2 w fun x41=>
 rL 62 x41 w fun x42=>
 cL 49 [x42] w fun x43 w=>
 rD (Op.unary .not x43) w fun x44=>
 BR x44
 (R (Value.bool false) w)
 (rF 64 x5 2 w fun x45=>
 rL 62 x45 w fun x46=>
 cL 50 [x46] w fun x47 w=>
 rN 22 3 x47 w fun x48=>
 LOOPI [49] [(iV 0)] w fun u7 w next7=>
 rC (u7 49) x48 w fun x50=>
 BR x50
 (rX 22 x47 (u7 49) w fun x51=>
 rL 9 x51 w fun x52=>
 rF 33 x4 0 w fun x53=>
 rL 22 x53 w fun x54=>
 cL 47 [x54,x52] w fun x56 w=>
 rD (Op.unary .not x56) w fun x57=>
 BR x57
 (R (Value.bool false) w)
 (rA (u7 49) (iV 1) w fun x58=>
 next7 [x58] w))
 (J14 [] w)))
 (rF 64 x5 2 w fun x59=>
 rL 62 x59 w fun x60=>
 cL 51 [x60] w fun x61 w=>
 rD (Op.unary .not x61) w fun x62=>
 BR x62
 (R (Value.bool false) w)
 (J14 [] w)))) (fun u14 w=>
 rF 64 x5 0 w fun x63=>
 rL 3 x63 w fun x64=>
 rB .eql 3 T0 U0 x64 (iV 2) w fun x65=>
 BR x65
 (rF 64 x5 3 w fun x71=>
 rL 3 x71 w fun x72=>
 rB .geq 3 T0 T0 x72 a2 w fun x74=>
 BR x74
 (rF 64 x5 3 w fun x76=>
 rL 3 x76 w fun x77=>
 rC x77 a3 w fun x79=>
 R x79 w)
 (R (Value.bool false) w))
 (rF 64 x5 0 w fun x67=>
 rL 3 x67 w fun x68=>
 rB .eql 3 T0 U0 x68 (iV 3) w fun x69=>
 BR x69
 (rF 64 x5 3 w fun x71=>
 rL 3 x71 w fun x72=>
 rB .geq 3 T0 T0 x72 a2 w fun x74=>
 BR x74
 (rF 64 x5 3 w fun x76=>
 rL 3 x76 w fun x77=>
 rC x77 a3 w fun x79=>
 R x79 w)
 (R (Value.bool false) w))
 (rF 64 x5 3 w fun x81=>
 rL 3 x81 w fun x82=>
 rB .eql 3 T0 U0 x82 (iV 0) w fun x83=>
 R x83 w))))) w)))) (World.drew1 w)
def cfg32:Cfg:=⟨extL,[(14,9223372028264842496,[])],[(7,575897802350003456,[49])],[(1,[0,1,2,3,4,5,6,7,8,9,10,11,12,13,14,15,16,17,18,19,20,21],524288)],[],[],[]⟩
theorem F32_call {a0 a1 a2 a3:Value} {w:World} {R:VW} (h:F32 a0 a1 a2 a3 w R):cL 32 [a0,a1,a2,a3] w R:=co (g:=cfg32) Tryd.func32 (by kernel_rfl) (by kernel_rfl) (by kernel_rfl) h
theorem zfm {w:World} {v0:Value} {W0:World} {c:DCode} {v1:Value} {W1:World} {a:DIns} {b:Int} {e:Int}  (h0:Is W0 v0 c) (e0:Ext W0 w) (h1:Is W1 v1 a) (e1:Ext W1 w)  :
   CALL Tryd.prog 32 [v0,v1,.int .i64 b,.int .i64 e] w fun r w'=>Ext w w'∧(r=.bool (decide (zcr c a b e))):=by
 refine F32_call ?_
 unfold F32
 refine zam zd3 rfl h0 e0 fun w1_ hx1_ hA4 hV4=>?_
 refine zam zc1 rfl h1 (e1.trans hx1_) fun w2_ hx2_ hA5 hV5=>?_
 have hx3_:=zaw w2_
 refine zaa za6 ?_
 refine zac ty3 (zat hA5) hx3_ fun hI12=>?_
 refine zah ?_
 refine br (fun c1=>?_) (fun c1=>?_)
 · refine ⟨(hx1_.trans (hx2_.trans hx3_)),?_⟩
   have:¬zcr c a b e:=fun h=>by have:=h.1;omega
   simp only [this,decide_false]
 refine zaa za6 ?_
 refine zac ty3 (zat hA5) hx3_ fun hI16=>?_
 refine zcb ?_
 refine br (fun c2=>?_) (fun c2=>?_)
 · refine ⟨(hx1_.trans (hx2_.trans hx3_)),?_⟩
   have:¬zcr c a b e:=fun h=>by have:=h.1;omega
   simp only [this,decide_false]
 refine zaa zdJ ?_
 refine zac ty3 (zbH hA5) hx3_ fun hI21=>?_
 refine zah ?_
 refine br (fun c3=>?_) (fun c3=>?_)
 · refine ⟨(hx1_.trans (hx2_.trans hx3_)),?_⟩
   have:¬zcr c a b e:=fun h=>by have:=h.2.1;omega
   simp only [this,decide_false]
 refine zaa zdJ ?_
 refine zac ty3 (zbH hA5) hx3_ fun hI26=>?_
 refine zaL hV4 (hx2_.trans hx3_) ?_
 refine zaa za6 ?_
 refine zac ty3 (zat hA5) hx3_ fun hI29=>?_
 refine (zfT h0 (e0.trans (hx1_.trans (hx2_.trans hx3_)))).mono ?_
 rintro _ w4_ ⟨hx4_,rfl⟩
 refine ⟨hx4_,?_⟩
 refine zbf ?_
 refine br (fun c4=>?_) (fun c4=>?_)
 · refine ⟨(hx1_.trans (hx2_.trans (hx3_.trans hx4_))),?_⟩
   have:¬zcr c a b e:=fun h=>by have:=h.2.1;omega
   simp only [this,decide_false]
 refine JOIN.mk (fun us w'=>us=[]∧Ext w4_ w'∧(if a.op=1∨a.op=2 then zaF 6 a.term=true∧(∀ s∈zaU a.term,s∈c.globals) else a.term=term0)) ?_ ?_
 · refine zaa za6 ?_
   refine zac ty3 (zat hA5) (hx3_.trans hx4_) fun hI34=>?_
   refine zan ?_
   refine br (fun c5=>?_) (fun c5=>?_)
   · refine zaa zbG ?_
     refine zab zbq (zaJ hA5) (hx3_.trans hx4_) fun v42 h42=>?_
     refine (zbM h42 (hx3_.trans hx4_)).mono ?_
     rintro _ w6_ ⟨hx6_,rfl⟩
     refine zbg ?_
     refine zej (fun c6=>?_) (fun c6=>?_)
     · refine ⟨(hx1_.trans (hx2_.trans (hx3_.trans (hx4_.trans hx6_)))),?_⟩
       have:¬zcr c a b e:=fun h=>by have:=h.2.2.1;rw [if_pos (.inl c5)] at this;rw [this.1] at c6;cases c6
       simp only [this,decide_false]
     refine zaa zbG ?_
     refine zab zbq (zaJ hA5) (hx3_.trans (hx4_.trans hx6_)) fun v46 h46=>?_
     refine (zcg h46 (hx3_.trans (hx4_.trans hx6_))).mono ?_
     rintro r47 w7_ ⟨hx7_,h47⟩
     have hln48:=zad h47
     refine zae u22 h47 ?_
     refine zaQ ((zaU a.term).length) (fun k us w'=>us=[.int .i64 (k:Int)]∧Ext w7_ w'∧(∀ s∈(zaU a.term).take k,s∈c.globals)) (0) (by omega) ⟨by simp,Ext.refl w7_,by simp⟩ ?_
     rintro k m7 uu7 w8_ hk7 ⟨hu,hx8_,hinv⟩
     simp only [List.map_cons,List.map_nil,List.cons.injEq,and_true] at hu
     try rw [hu]
     try clear hu
     refine zah ?_
     refine br (fun c7=>?_) (fun c7=>?_)
     · refine zaf u22 ty9 h47 (by omega) fun b51 o51 h51=>?_
       refine zai ty9 h51 hx8_ fun hS52=>?_
       refine zaa zbb ?_
       refine zab zbi (zar hA4) (hx2_.trans (hx3_.trans (hx4_.trans (hx6_.trans (hx7_.trans hx8_))))) fun v54 h54=>?_
       refine (zaY h54 (hx2_.trans (hx3_.trans (hx4_.trans (hx6_.trans (hx7_.trans hx8_)))))).mono ?_
       rintro _ w9_ ⟨hx9_,rfl⟩
       refine zak ?_
       refine br (fun c8=>?_) (fun c8=>?_)
       · refine ⟨(hx1_.trans (hx2_.trans (hx3_.trans (hx4_.trans (hx6_.trans (hx7_.trans (hx8_.trans hx9_))))))),?_⟩
         have:¬zcr c a b e:=fun h=>by
           have:=h.2.2.1;rw [if_pos (.inl c5)] at this
           exact c8 (this.2 _ (List.getElem_mem (n:=k) (by omega)))
         simp only [this,decide_false]
       refine zao (by omega) ?_
       refine ⟨m7-1,by omega,k+1,by omega,by simp,(hx8_.trans hx9_),?_⟩
       intro s hs
       rw [List.take_succ_eq_append_getElem (by omega)] at hs
       rcases List.mem_append.1 hs with hs | hs
       · exact hinv s hs
       simp only [List.mem_cons,List.not_mem_nil,or_false] at hs
       subst hs
       exact Decidable.not_not.1 c8
     refine ⟨by simp,(hx6_.trans (hx7_.trans hx8_)),?_⟩
     rw [if_pos (.inl c5)]
     rw [List.take_of_length_le (by omega)] at hinv
     exact ⟨by simpa using c6,hinv⟩
   refine zaa za6 ?_
   refine zac ty3 (zat hA5) (hx3_.trans hx4_) fun hI38=>?_
   refine zan ?_
   refine br (fun c9=>?_) (fun c9=>?_)
   · refine zaa zbG ?_
     refine zab zbq (zaJ hA5) (hx3_.trans hx4_) fun v42 h42=>?_
     refine (zbM h42 (hx3_.trans hx4_)).mono ?_
     rintro _ w10_ ⟨hx10_,rfl⟩
     refine zbg ?_
     refine zej (fun c10=>?_) (fun c10=>?_)
     · refine ⟨(hx1_.trans (hx2_.trans (hx3_.trans (hx4_.trans hx10_)))),?_⟩
       have:¬zcr c a b e:=fun h=>by have:=h.2.2.1;rw [if_pos (.inr c9)] at this;rw [this.1] at c10;cases c10
       simp only [this,decide_false]
     refine zaa zbG ?_
     refine zab zbq (zaJ hA5) (hx3_.trans (hx4_.trans hx10_)) fun v46 h46=>?_
     refine (zcg h46 (hx3_.trans (hx4_.trans hx10_))).mono ?_
     rintro r47 w11_ ⟨hx11_,h47⟩
     have hln48:=zad h47
     refine zae u22 h47 ?_
     refine zaQ ((zaU a.term).length) (fun k us w'=>us=[.int .i64 (k:Int)]∧Ext w11_ w'∧(∀ s∈(zaU a.term).take k,s∈c.globals)) (0) (by omega) ⟨by simp,Ext.refl w11_,by simp⟩ ?_
     rintro k m7 uu7 w12_ hk7 ⟨hu,hx12_,hinv⟩
     simp only [List.map_cons,List.map_nil,List.cons.injEq,and_true] at hu
     try rw [hu]
     try clear hu
     refine zah ?_
     refine br (fun c11=>?_) (fun c11=>?_)
     · refine zaf u22 ty9 h47 (by omega) fun b51 o51 h51=>?_
       refine zai ty9 h51 hx12_ fun hS52=>?_
       refine zaa zbb ?_
       refine zab zbi (zar hA4) (hx2_.trans (hx3_.trans (hx4_.trans (hx10_.trans (hx11_.trans hx12_))))) fun v54 h54=>?_
       refine (zaY h54 (hx2_.trans (hx3_.trans (hx4_.trans (hx10_.trans (hx11_.trans hx12_)))))).mono ?_
       rintro _ w13_ ⟨hx13_,rfl⟩
       refine zak ?_
       refine br (fun c12=>?_) (fun c12=>?_)
       · refine ⟨(hx1_.trans (hx2_.trans (hx3_.trans (hx4_.trans (hx10_.trans (hx11_.trans (hx12_.trans hx13_))))))),?_⟩
         have:¬zcr c a b e:=fun h=>by
           have:=h.2.2.1;rw [if_pos (.inr c9)] at this
           exact c12 (this.2 _ (List.getElem_mem (n:=k) (by omega)))
         simp only [this,decide_false]
       refine zao (by omega) ?_
       refine ⟨m7-1,by omega,k+1,by omega,by simp,(hx12_.trans hx13_),?_⟩
       intro s hs
       rw [List.take_succ_eq_append_getElem (by omega)] at hs
       rcases List.mem_append.1 hs with hs | hs
       · exact hinv s hs
       simp only [List.mem_cons,List.not_mem_nil,or_false] at hs
       subst hs
       exact Decidable.not_not.1 c12
     refine ⟨by simp,(hx10_.trans (hx11_.trans hx12_)),?_⟩
     rw [if_pos (.inr c9)]
     rw [List.take_of_length_le (by omega)] at hinv
     exact ⟨by simpa using c10,hinv⟩
   refine zaa zbG ?_
   refine zab zbq (zaJ hA5) (hx3_.trans hx4_) fun v60 h60=>?_
   refine (zd9 h60 (hx3_.trans hx4_)).mono ?_
   rintro _ w14_ ⟨hx14_,rfl⟩
   refine zak ?_
   refine br (fun c13=>?_) (fun c13=>?_)
   · refine ⟨(hx1_.trans (hx2_.trans (hx3_.trans (hx4_.trans hx14_)))),?_⟩
     have:¬zcr c a b e:=fun h=>by have:=h.2.2.1;rw [if_neg (by omega)] at this;exact c13 this
     simp only [this,decide_false]
   refine ⟨by simp,hx14_,?_⟩
   rw [if_neg (by omega)]
   exact Decidable.not_not.1 c13
 rintro uj14 w5_ ⟨hu,hx14_,hT⟩
 simp only [List.map_cons,List.map_nil,List.cons.injEq,and_true] at hu
 clear hu
 refine zaa za6 ?_
 refine zac ty3 (zat hA5) (hx3_.trans (hx4_.trans hx14_)) fun hI64=>?_
 refine zan ?_
 refine br (fun c14=>?_) (fun c14=>?_)
 · refine zaa zcc ?_
   refine zac ty3 (zaX hA5) (hx3_.trans (hx4_.trans hx14_)) fun hI72=>?_
   refine zbf ?_
   refine br (fun c15=>?_) (fun c15=>?_)
   · refine zaa zcc ?_
     refine zac ty3 (zaX hA5) (hx3_.trans (hx4_.trans hx14_)) fun hI77=>?_
     refine zah ?_
     refine ⟨(hx1_.trans (hx2_.trans (hx3_.trans (hx4_.trans hx14_)))),?_⟩
     first
       | (have no:¬zcr c a b e:=fun h=>by
           have h4:=h.2.2.2;rw [if_pos (by omega)] at h4;omega
          simp only [no,decide_false]
          done)
       | (congr 1
          rw [decide_eq_decide]
          constructor
          · exact fun h=>⟨by omega,by omega,hT,by first | (rw [if_pos (by omega)];omega) | (rw [if_neg (by omega)];omega)⟩
          intro h
          have h4:=h.2.2.2
          first | (rw [if_pos (by omega)] at h4;omega) | (rw [if_neg (by omega)] at h4;omega))
   refine ⟨(hx1_.trans (hx2_.trans (hx3_.trans (hx4_.trans hx14_)))),?_⟩
   first
     | (have no:¬zcr c a b e:=fun h=>by
         have h4:=h.2.2.2;rw [if_pos (by omega)] at h4;omega
        simp only [no,decide_false]
        done)
     | (congr 1
        rw [decide_eq_decide]
        constructor
        · exact fun h=>⟨by omega,by omega,hT,by first | (rw [if_pos (by omega)];omega) | (rw [if_neg (by omega)];omega)⟩
        intro h
        have h4:=h.2.2.2
        first | (rw [if_pos (by omega)] at h4;omega) | (rw [if_neg (by omega)] at h4;omega))
 refine zaa za6 ?_
 refine zac ty3 (zat hA5) (hx3_.trans (hx4_.trans hx14_)) fun hI68=>?_
 refine zan ?_
 refine br (fun c16=>?_) (fun c16=>?_)
 · refine zaa zcc ?_
   refine zac ty3 (zaX hA5) (hx3_.trans (hx4_.trans hx14_)) fun hI72=>?_
   refine zbf ?_
   refine br (fun c17=>?_) (fun c17=>?_)
   · refine zaa zcc ?_
     refine zac ty3 (zaX hA5) (hx3_.trans (hx4_.trans hx14_)) fun hI77=>?_
     refine zah ?_
     refine ⟨(hx1_.trans (hx2_.trans (hx3_.trans (hx4_.trans hx14_)))),?_⟩
     first
       | (have no:¬zcr c a b e:=fun h=>by
           have h4:=h.2.2.2;rw [if_pos (by omega)] at h4;omega
          simp only [no,decide_false]
          done)
       | (congr 1
          rw [decide_eq_decide]
          constructor
          · exact fun h=>⟨by omega,by omega,hT,by first | (rw [if_pos (by omega)];omega) | (rw [if_neg (by omega)];omega)⟩
          intro h
          have h4:=h.2.2.2
          first | (rw [if_pos (by omega)] at h4;omega) | (rw [if_neg (by omega)] at h4;omega))
   refine ⟨(hx1_.trans (hx2_.trans (hx3_.trans (hx4_.trans hx14_)))),?_⟩
   first
     | (have no:¬zcr c a b e:=fun h=>by
         have h4:=h.2.2.2;rw [if_pos (by omega)] at h4;omega
        simp only [no,decide_false]
        done)
     | (congr 1
        rw [decide_eq_decide]
        constructor
        · exact fun h=>⟨by omega,by omega,hT,by first | (rw [if_pos (by omega)];omega) | (rw [if_neg (by omega)];omega)⟩
        intro h
        have h4:=h.2.2.2
        first | (rw [if_pos (by omega)] at h4;omega) | (rw [if_neg (by omega)] at h4;omega))
 refine zaa zcc ?_
 refine zac ty3 (zaX hA5) (hx3_.trans (hx4_.trans hx14_)) fun hI82=>?_
 refine zan ?_
 refine ⟨(hx1_.trans (hx2_.trans (hx3_.trans (hx4_.trans hx14_)))),?_⟩
 first
   | (have no:¬zcr c a b e:=fun h=>by
       have h4:=h.2.2.2;rw [if_pos (by omega)] at h4;omega
      simp only [no,decide_false]
      done)
   | (congr 1
      rw [decide_eq_decide]
      constructor
      · exact fun h=>⟨by omega,by omega,hT,by first | (rw [if_pos (by omega)];omega) | (rw [if_neg (by omega)];omega)⟩
      intro h
      have h4:=h.2.2.2
      first | (rw [if_pos (by omega)] at h4;omega) | (rw [if_neg (by omega)] at h4;omega))
def F31 (a0 a1:Value) (w:World) (R:VW):Prop:=
 oP (Instr.box 33 a0) w fun x2 w=>
 rA a1 (iV 1) w fun x6=>
 rF 33 x2 3 w fun x7=>
 rL 23 x7 w fun x8=>
 rN 23 3 x8 w fun x9=>
 rC x6 x9 w fun x10=>
 BR x10
 (rF 33 x2 3 w fun x11=>
 rL 23 x11 w fun x12=>
 rA a1 (iV 1) w fun x14=>
 rX 23 x12 x14 w fun x15=>
 rL 3 x15 w fun x16=>
 R x16 w)
 (rF 33 x2 4 w fun x17=>
 rL 31 x17 w fun x18=>
 rN 31 3 x18 w fun x19=>
 R x19 w)
def cfg31:Cfg:=⟨extL,[],[],[],[],[],[]⟩
theorem F31_call {a0 a1:Value} {w:World} {R:VW} (h:F31 a0 a1 w R):cL 31 [a0,a1] w R:=co (g:=cfg31) Tryd.func31 (by kernel_rfl) (by kernel_rfl) (by kernel_rfl) h
theorem zeR {w:World} {v0:Value} {W0:World} {c:DCode} {i:Nat}  (h0:Is W0 v0 c) (e0:Ext W0 w) (hi:i<1000000000000) :
   CALL Tryd.prog 31 [v0,.int .i64 (i:Int)] w fun r w'=>Ext w w'∧(r=.int .i64 (zbr c i)):=by
 refine F31_call ?_
 unfold F31
 refine zam zd3 rfl h0 e0 fun w1_ hx1_ hA2 hV2=>?_
 refine zao (by omega) ?_
 refine zaa zaI ?_
 refine zab zcj (zag hA2) (Ext.refl w1_) fun v8 h8=>?_
 have hln9:=zad h8
 refine zae u23 h8 ?_
 refine zah ?_
 refine br (fun c1=>?_) (fun c1=>?_)
 · refine zaa zaI ?_
   refine zab zcj (zag hA2) (Ext.refl w1_) fun v12 h12=>?_
   refine zao (by omega) ?_
   refine zaf u23 ty3 h12 (by omega) fun b15 o15 h15=>?_
   refine zac ty3 h15 (Ext.refl w1_) fun hI16=>?_
   refine ⟨hx1_,?_⟩
   unfold zbr;rw [if_pos (by omega),zaZ]
 refine zaa za2 ?_
 refine zab zdH (zal hA2) (Ext.refl w1_) fun v18 h18=>?_
 have hln19:=zad h18
 refine zae u31 h18 ?_
 refine ⟨hx1_,?_⟩
 unfold zbr;rw [if_neg (by omega)]
structure EntF (c:DCode):Prop where
 len:c.entry.length=c.procs.length
 ins:c.ins.length≤1500
 zero:en c 0=0
 lt:∀ i,i<c.entry.length→en c i<zbr c i∧zbr c i≤c.ins.length
theorem EntF.nonneg {c:DCode} (h:EntF c) {i:Nat} (hi:i<c.entry.length):0≤en c i:=zcq h.zero hi fun j hj=>(h.lt j (by omega)).1
theorem EntF.step {c:DCode} (h:EntF c) {i:Nat} (hi:i+1<c.entry.length):zbr c i=en c (i+1):=by unfold zbr;rw [if_pos hi]
theorem EntF.last {c:DCode} (h:EntF c) {i:Nat} (hi:i+1=c.entry.length):zbr c i=c.ins.length:=by unfold zbr;rw [if_neg (by omega)]
theorem EntF.mono {c:DCode} (h:EntF c):∀ {i j:Nat},i<j→j<c.entry.length→zbr c i≤en c j
 | i,j+1,hij,hj=>by
   by_cases e:i=j
   · subst e;rw [h.step hj];exact Int.le_refl _
   have h1:=h.mono (i:=i) (j:=j) (by omega) (by omega)
   have h2:=(h.lt j (by omega)).1
   rw [h.step hj] at h2
   omega
theorem EntF.proc {c:DCode} (h:EntF c) {i:Nat} {a:Int} (hi:i<c.entry.length) (h1:en c i≤a) (h2:a<zbr c i):zaz c a=i:=by
 unfold zaz
 rw [zc7 (m:=i+1) (by omega) fun j hj1 hj2=>by have:=h.mono (i:=i) (j:=j) (by omega) hj2;omega]
 rw [prc,if_pos h1]
theorem EntF.find {c:DCode} (h:EntF c) (hp:0<c.procs.length) {a:Int} (h0:0≤a) (h1:a<c.ins.length):∃ i,i<c.entry.length∧en c i≤a∧a<zbr c i∧zaz c a=i:=by
 have hlen:=h.len
 have h2:0≤zaz c a:=zcS (by rw [h.zero];exact h0) (by omega)
 have h3:=(zcJ (c:=c) (a:=a)).2
 have key:∀ n,n≤c.entry.length→(∀ j,n≤j→j<c.entry.length→a<en c j)→0<n→∃ i,i<n∧en c i≤a∧a<zbr c i:=by
   intro n
   induction n with
   | zero=>intro _ _ h;omega
   | succ n ih=>
     intro hn hj _
     by_cases hle:en c n≤a
     · refine ⟨n,by omega,hle,?_⟩
       by_cases hl:n+1<c.entry.length
       · rw [h.step hl];exact hj (n+1) (by omega) hl
       rw [h.last (by omega)];exact h1
     by_cases h0n:n=0
     · subst h0n;rw [h.zero] at hle;omega
     obtain ⟨i,hi,hx⟩:=ih (by omega) (fun j hj1 hj2=>by
       by_cases e:j=n
       · subst e;omega
       exact hj j (by omega) hj2) (by omega)
     exact ⟨i,by omega,hx⟩
 obtain ⟨i,hi,hx,hy⟩:=key c.entry.length (Nat.le_refl _) (fun j hj1 hj2=>by omega) (by omega)
 exact ⟨i,hi,hx,hy,h.proc hi hx hy⟩
theorem EntS.f {c:DCode} (h:EntS c) (hp:0<c.procs.length):EntF c:=by
 obtain ⟨h1,h2,h3,h4⟩:=h
 refine ⟨h1,h2,(h3 0 (by omega)).1 rfl,fun i hi=>?_⟩
 unfold zbr
 split
 · rename_i hl
   have:=h3 (i+1) hl
   have h5:=this.2.1 (by omega)
   simp only [Nat.add_sub_cancel] at h5
   exact ⟨h5,by omega⟩
 exact ⟨(h3 i hi).2.2,Int.le_refl _⟩
theorem EntI.f {c:DCode} (h:EntI c):EntF c:=⟨h.2.1,h.1,h.2.2.1,fun i hi=>⟨(h.2.2.2.2 i hi).1,(h.2.2.2.2 i hi).2.1⟩⟩
theorem zgC (c:DCode) (a:Nat):∀ (d:Nat),zeh c a≤zeh c (a+d)∧(zeh c (a+d)=zeh c a↔∀ j,a≤j→j<a+d→¬(zbB c j).op=9)
 | 0=>⟨Nat.le_refl _,⟨fun _ j h1 h2=>by omega,fun _=>rfl⟩⟩
 | d+1=>by
   obtain ⟨h1,h2⟩:=zgC c a d
   rw [←Nat.add_assoc,zeh]
   refine ⟨by omega,?_⟩
   split
   · rename_i h9
     exact ⟨fun h=>by omega,fun h=>absurd h9 (h (a+d) (by omega) (by omega))⟩
   rename_i h9
   rw [Nat.add_zero,h2]
   constructor
   · intro h j hj1 hj2
     by_cases e:j=a+d
     · subst e;exact h9
     exact h j hj1 (by omega)
   exact fun h j hj1 hj2=>h j hj1 (by omega)
def eb (c:DCode) (n:Nat):Nat:=if n=0 then 0 else (zbr c (n-1)).toNat
theorem EntF.eb_en {c:DCode} (h:EntF c) {n:Nat} (hn:n<c.entry.length):(eb c n:Int)=en c n:=by
 unfold eb
 split
 · rename_i h0;subst h0;rw [h.zero];rfl
 have h1:=h.nonneg hn
 have h2:zbr c (n-1)=en c n:=by
   have:=h.step (i:=n-1) (by omega)
   rwa [show n-1+1=n by omega] at this
 rw [h2];omega
theorem EntF.eb_succ {c:DCode} (h:EntF c) {n:Nat} (hn:n<c.entry.length):(eb c (n+1):Int)=zbr c n:=by
 unfold eb
 rw [if_neg (by omega),Nat.add_sub_cancel]
 have:=(h.lt n hn).1
 have:=h.nonneg hn
 omega
theorem zcT {c:DCode} (h:EntF c) (he:∀ i,i<c.entry.length→(zbB c (zbr c i-1).toNat).op=9):∀ n,n≤c.entry.length →
   n≤zeh c (eb c n)∧(zeh c (eb c n)=n↔∀ j:Nat,j<eb c n→(zbB c j).op=9→∃ i,i<n∧zbr c i=j+1)
 | 0,_=>⟨Nat.zero_le _,⟨fun _ j hj=>by simp [eb] at hj,fun _=>rfl⟩⟩
 | n+1,hn=>by
   obtain ⟨h1,h2⟩:=zcT h he n (by omega)
   have ha:=h.eb_en (n:=n) (by omega)
   have hb:=h.eb_succ (n:=n) (by omega)
   have hlt:=(h.lt n (by omega)).1
   have h9:=he n (by omega)
   have e9:(zbr c n-1).toNat=eb c (n+1)-1:=by omega
   rw [e9] at h9
   obtain ⟨d,hd⟩:∃ d,eb c (n+1)=eb c n+d+1:=⟨eb c (n+1)-eb c n-1,by omega⟩
   have hd':eb c (n+1)-1=eb c n+d:=by omega
   rw [hd'] at h9
   obtain ⟨h3,h4⟩:=zgC c (eb c n) d
   rw [hd,zeh,if_pos h9]
   refine ⟨by omega,?_⟩
   have hsplit:zeh c (eb c n+d)+1=n+1↔(zeh c (eb c n)=n∧zeh c (eb c n+d)=zeh c (eb c n)):=by omega
   rw [hsplit,h2,h4]
   constructor
   · rintro ⟨p1,p2⟩ j hj hj9
     by_cases hja:j<eb c n
     · obtain ⟨i,hi,hx⟩:=p1 j hja hj9
       exact ⟨i,by omega,hx⟩
     by_cases hje:j=eb c n+d
     · exact ⟨n,by omega,by omega⟩
     exact absurd hj9 (p2 j (by omega) (by omega))
   intro p
   constructor
   · intro j hj hj9
     obtain ⟨i,hi,hx⟩:=p j (by omega) hj9
     by_cases hin:i=n
     · subst hin;omega
     exact ⟨i,by omega,hx⟩
   intro j hj1 hj2 hj9
   obtain ⟨i,hi,hx⟩:=p j (by omega) hj9
   by_cases hin:i=n
   · subst hin;omega
   have:=h.mono (i:=i) (j:=n) (by omega) (by omega)
   omega
theorem zgD {c:DCode} (hp:0<c.procs.length):EntI c↔EntS c:=by
 constructor
 · intro h
   have hf:=h.f
   obtain ⟨_,_,_,hc,hall⟩:=h
   have hlen:=hf.len
   have he:∀ i,i<c.entry.length→(zbB c (zbr c i-1).toNat).op=9:=fun i hi=>(hall i hi).2.2
   obtain ⟨_,h2⟩:=zcT hf he c.entry.length (Nat.le_refl _)
   have hb:eb c c.entry.length=c.ins.length:=by
     have:=hf.eb_succ (n:=c.entry.length-1) (by omega)
     rw [hf.last (by omega),show c.entry.length-1+1=c.entry.length by omega] at this
     omega
   rw [hb] at h2
   have h3:=h2.1 hc
   refine ⟨hf.len,hf.ins,fun i hi=>⟨fun _=>hf.zero,fun h0=>?_,?_⟩,fun j hj=>?_⟩
   · have h4:=(hf.lt (i-1) (by omega)).1
     have h5:=hf.step (i:=i-1) (by omega)
     rw [show i-1+1=i by omega] at h5
     omega
   · have:=hf.lt i hi;omega
   obtain ⟨i,hi,hx,hy,hpr⟩:=hf.find hp (a:=j) (by omega) (by omega)
   rw [hpr,zcK]
   constructor
   · intro h9
     obtain ⟨i',hi',hx'⟩:=h3 j hj h9
     have:=hf.lt i' hi'
     have hpr':=hf.proc (a:=j) hi' (by omega) (by omega)
     have:i'=i:=by omega
     subst this
     omega
   intro h9
   have:=he i hi
   rwa [show (zbr c i-1).toNat=j by omega] at this
 intro h
 have hf:=h.f hp
 have hlen:=hf.len
 have h4:=h.2.2.2
 have he:∀ i,i<c.entry.length→(zbB c (zbr c i-1).toNat).op=9:=fun i hi=>by
   have h1:=hf.lt i hi
   have h0:=hf.nonneg hi
   have:=(h4 (zbr c i-1).toNat (by omega)).2
   refine this ?_
   rw [hf.proc (i:=i) hi (by omega) (by omega),zcK]
   omega
 obtain ⟨_,h2⟩:=zcT hf he c.entry.length (Nat.le_refl _)
 have hb:eb c c.entry.length=c.ins.length:=by
   have:=hf.eb_succ (n:=c.entry.length-1) (by omega)
   rw [hf.last (by omega),show c.entry.length-1+1=c.entry.length by omega] at this
   omega
 rw [hb] at h2
 refine ⟨hf.ins,hf.len,hf.zero,h2.2 fun j hj h9=>?_,fun i hi=>⟨(hf.lt i hi).1,(hf.lt i hi).2,he i hi⟩⟩
 obtain ⟨i,hi,hx,hy,hpr⟩:=hf.find hp (a:=j) (by omega) (by omega)
 have:=(h4 j hj).1 h9
 rw [hpr,zcK] at this
 exact ⟨i,hi,by omega⟩
theorem zeS {c:DCode} (hn:NamesR c) (he:EntI c):CodeR c↔∀ i,i<c.entry.length→∀ j:Nat,en c i≤j→(j:Int)<zbr c i→zcr c (zbB c j) (en c i) (zbr c i):=by
 have hf:=he.f
 have hp:=hn.procs8.2
 constructor
 · intro h i hi j h1 h2
   have h3:=hf.lt i hi
   have:=h.2.2 j (by omega)
   rw [hf.proc hi h1 h2,zcK,Int.toNat_natCast] at this
   rwa [Int.sub_add_cancel] at this
 intro h
 refine ⟨hn,(zgD hp).1 he,fun j hj=>?_⟩
 obtain ⟨i,hi,hx,hy,hpr⟩:=hf.find hp (a:=j) (by omega) (by omega)
 rw [hpr,zcK,Int.toNat_natCast,Int.sub_add_cancel]
 exact h i hi j hx hy
def F19 (a0:Value) (w:World) (R:VW):Prop:=
 oP (Instr.box 33 a0) w fun x1 w=>
 rL 33 x1 w fun x8=>
 cL 29 [x8] w fun x9 w=>
 rD (Op.unary .not x9) w fun x10=>
 BR x10
 (R (Value.bool false) w)
 (rL 33 x1 w fun x12=>
 cL 30 [x12] w fun x13 w=>
 rD (Op.unary .not x13) w fun x14=>
 BR x14
 (R (Value.bool false) w)
 (rF 33 x1 3 w fun x16=>
 rL 23 x16 w fun x17=>
 rN 23 3 x17 w fun x18=>
 LOOPI [19] [(iV 0)] w fun u4 w next4=>
 rC (u4 19) x18 w fun x20=>
 BR x20
 (rX 23 x17 (u4 19) w fun x22=>
 rL 3 x22 w fun x23=>
 rL 33 x1 w fun x24=>
 cL 31 [x24,(u4 19)] w fun x26 w=>
 rF 33 x1 4 w fun x27=>
 rL 31 x27 w fun x28=>
 rD (Instr.sliceAt 31 x28 (some x23) (some x26) none) w fun x31=>
 rN 31 3 x31 w fun x32=>
 LOOPI [33] [(iV 0)] w fun u8 w next8=>
 rC (u8 33) x32 w fun x34=>
 BR x34
 (rX 31 x31 (u8 33) w fun x35=>
 rL 64 x35 w fun x36=>
 oP (Instr.alloc 64 true (.tuple #[])) w fun x7 w=>
 oS 64 x7 x36 w fun w=>
 rL 33 x1 w fun x37=>
 rL 64 x7 w fun x38=>
 cL 32 [x37,x38,x23,x26] w fun x41 w=>
 rD (Op.unary .not x41) w fun x42=>
 BR x42
 (R (Value.bool false) w)
 (rA (u8 33) (iV 1) w fun x43=>
 next8 [x43] w))
 (rA (u4 19) (iV 1) w fun x44=>
 next4 [x44] w))
 (R (Value.bool true) w)))
def cfg19:Cfg:=⟨extL,[],[(4,35184371564732,[19]),(8,17583596109956,[33])],[],[],[],[]⟩
theorem F19_call {a0:Value} {w:World} {R:VW} (h:F19 a0 w R):cL 19 [a0] w R:=co (g:=cfg19) Tryd.func19 (by kernel_rfl) (by kernel_rfl) (by kernel_rfl) h
theorem zei {w:World} {v0:Value} {W0:World} {c:DCode}  (h0:Is W0 v0 c) (e0:Ext W0 w)  :
   CALL Tryd.prog 19 [v0] w fun r w'=>Ext w w'∧(r=.bool (decide (CodeR c))):=by
 refine F19_call ?_
 unfold F19
 refine zam zd3 rfl h0 e0 fun w1_ hx1_ hA1 hV1=>?_
 refine zaL hV1 (Ext.refl w1_) ?_
 refine (zeg h0 (e0.trans hx1_)).mono ?_
 rintro _ w2_ ⟨hx2_,rfl⟩
 refine zak ?_
 refine br (fun c1=>?_) (fun c1=>?_)
 · refine ⟨(hx1_.trans hx2_),?_⟩
   have:¬CodeR c:=fun h=>c1 h.1
   simp only [this,decide_false]
 refine zaL hV1 hx2_ ?_
 refine (zdt h0 (e0.trans (hx1_.trans hx2_)) (Decidable.not_not.1 c1).procs8.2).mono ?_
 rintro _ w3_ ⟨hx3_,rfl⟩
 refine zak ?_
 refine br (fun c2=>?_) (fun c2=>?_)
 · refine ⟨(hx1_.trans (hx2_.trans hx3_)),?_⟩
   have:¬CodeR c:=fun h=>c2 ((zgD h.1.procs8.2).2 h.2.1)
   simp only [this,decide_false]
 refine zaa zaI ?_
 refine zab zcj (zag hA1) (hx2_.trans hx3_) fun v17 h17=>?_
 have hln18:=zad h17
 refine zae u23 h17 ?_
 refine zaQ (c.entry.length) (fun q us w'=>us=[.int .i64 (q:Int)]∧Ext w3_ w'∧(∀ i,i<q→∀ j:Nat,en c i≤j→(j:Int)<zbr c i→zcr c (zbB c j) (en c i) (zbr c i))) (0) (by omega) ⟨by simp,Ext.refl w3_,fun i h=>by omega⟩ ?_
 rintro q m4 uu4 w4_ hk4 ⟨hu,hx4_,hent⟩
 simp only [List.map_cons,List.map_nil,List.cons.injEq,and_true] at hu
 try rw [hu]
 try clear hu
 replace c1:=Decidable.not_not.1 c1;replace c2:=Decidable.not_not.1 c2;have hln4:=zad h17
 refine zah ?_
 refine br (fun c3=>?_) (fun c3=>?_)
 · refine zaf u23 ty3 h17 (by omega) fun b22 o22 h22=>?_
   refine zac ty3 h22 (hx2_.trans (hx3_.trans hx4_)) fun hI23=>?_
   rw [zaZ]
   have h8:=c1.procs8
   have hlq:=c2.f.lt q (by omega)
   have hnq:=c2.f.nonneg (i:=q) (by omega)
   have hlen:=c2.f.len
   refine zaL hV1 (hx2_.trans (hx3_.trans hx4_)) ?_
   refine (zeR h0 (e0.trans (hx1_.trans (hx2_.trans (hx3_.trans hx4_)))) (by omega)).mono ?_
   rintro _ w5_ ⟨hx5_,rfl⟩
   refine zaa za2 ?_
   refine zab zdH (zal hA1) (hx2_.trans (hx3_.trans (hx4_.trans hx5_))) fun v28 h28=>?_
   refine zd6 u31 zc1 h28 (by omega) (by omega) (by omega) fun v31 h31=>?_
   have hln32:=zad h31
   refine zae u31 h31 ?_
   refine zaQ ((zbr c q).toNat-(en c q).toNat) (fun k us w'=>us=[.int .i64 (k:Int)]∧Ext w5_ w'∧(∀ j:Nat,en c q≤j→(j:Int)<en c q+k→zcr c (zbB c j) (en c q) (zbr c q))) (0) (by omega) ⟨by simp,Ext.refl w5_,fun j h1 h2=>by omega⟩ ?_
   rintro k m8 uu8 w6_ hk8 ⟨hu,hx6_,hinv⟩
   simp only [List.map_cons,List.map_nil,List.cons.injEq,and_true] at hu
   try rw [hu]
   try clear hu
   have hl31:((c.ins.take (zbr c q).toNat).drop (en c q).toNat).length=(zbr c q).toNat-(en c q).toNat:=by rw [List.length_drop,List.length_take];omega
   refine zah ?_
   refine br (fun c4=>?_) (fun c4=>?_)
   · refine zaf u31 zc1 h31 (by omega) fun b35 o35 h35=>?_
     refine zab zc1 h35 (hx2_.trans (hx3_.trans (hx4_.trans (hx5_.trans hx6_)))) fun v36 h36=>?_
     rw [List.getElem_drop,List.getElem_take,zbp] at h36
     refine zdG zid rfl zc1 rfl h36 (hx2_.trans (hx3_.trans (hx4_.trans (hx5_.trans hx6_)))) fun w7_ hx7_ hA7 hV7=>?_
     refine zaL hV1 (hx2_.trans (hx3_.trans (hx4_.trans (hx5_.trans (hx6_.trans hx7_))))) ?_
     refine zaL hV7 (Ext.refl w7_) ?_
     refine (zfm h0 (e0.trans (hx1_.trans (hx2_.trans (hx3_.trans (hx4_.trans (hx5_.trans (hx6_.trans hx7_))))))) h36 (hx2_.trans (hx3_.trans (hx4_.trans (hx5_.trans (hx6_.trans hx7_)))))).mono ?_
     rintro _ w8_ ⟨hx8_,rfl⟩
     refine zak ?_
     refine br (fun c5=>?_) (fun c5=>?_)
     · refine ⟨(hx1_.trans (hx2_.trans (hx3_.trans (hx4_.trans (hx5_.trans (hx6_.trans (hx7_.trans hx8_))))))),?_⟩
       have:¬CodeR c:=fun h=>c5 ((zeS c1 c2).1 h q (by omega) _ (by omega) (by omega))
       simp only [this,decide_false]
     refine zao (by omega) ?_
     refine ⟨m8-1,by omega,k+1,by omega,by simp,(hx6_.trans (hx7_.trans hx8_)),?_⟩
     intro j h1 h2
     by_cases hj:j=(en c q).toNat+k
     · subst hj;exact Decidable.not_not.1 c5
     exact hinv j h1 (by omega)
   refine zao (by omega) ?_
   refine ⟨m4-1,by omega,q+1,by omega,by simp,(hx4_.trans (hx5_.trans hx6_)),?_⟩
   intro i hi j h1 h2
   by_cases hiq:i=q
   · subst hiq;exact hinv j h1 (by omega)
   exact hent i (by omega) j h1 h2
 refine ⟨(hx1_.trans (hx2_.trans (hx3_.trans hx4_))),?_⟩
 have:CodeR c:=(zeS c1 c2).2 fun i hi=>hent i (by omega)
 simp only [this,decide_true]
theorem CodeR.f {c:DCode} (h:CodeR c):EntF c:=h.2.1.f h.1.procs8.2
def st (l:List Int) (i:Nat):Int:=l.getD i 0
def zgE (c:DCode) (l:List Int):Prop:=l.length≤8∧(∀ i,i<l.length→0≤st l i∧st l i<c.ins.length) ∧
 ∀ i,i<l.length-1→(zbB c (st l i).toNat).op=4∧zaz c (st l (i+1))=(zbB c (st l i).toNat).arg
instance (c:DCode) (l:List Int):Decidable (zgE c l):=by unfold zgE;infer_instance
def zhv (c:DCode) (s:DState):Prop:=s.vars.length=c.globals.length∧s.owner.length=c.locks.length∧(1≤s.stacks.length∧s.stacks.length≤6)∧(∀ v∈s.vars,0≤v∧v≤999) ∧
 (∀ o∈s.owner,-1≤o∧o<s.stacks.length)∧∀ l∈s.stacks,zgE c l
instance (c:DCode) (s:DState):Decidable (zhv c s):=by unfold zhv;infer_instance
theorem zgF {s:ByteArray} (h:zaB s=true):s.size≤12:=by
 rcases Nat.lt_or_ge 12 s.size with h' | h'
 · simp [zaB,zdk h'] at h
 exact h'
theorem NamesR.global_size {c:DCode} (h:NamesR c) {i:Nat} (hi:i<c.globals.length):c.globals[i].size≤12:=by
 have h1:=h.1
 simp only [Bool.and_eq_true,List.all_eq_true] at h1
 exact zgF (h1.2 _ (List.getElem_mem hi))
theorem zfG {α:Type} {l:List α} {i:Nat} {d:α} (h:i<l.length):l.getD i d=l[i]:=by rw [List.getD_eq_getElem?_getD,List.getElem?_eq_getElem h];rfl
def zhw:ByteArray:=ByteArray.mk #[32]
def ziB:ByteArray:=ByteArray.mk #[10]
def zij (c:DCode) (part:List Int):Prop:=CodeR c∧part≠[]∧part.length≤6∧∀ i∈part,0≤i∧i<c.locks.length
instance (c:DCode) (part:List Int):Decidable (zij c part):=by unfold zij;infer_instance
def F8 (a0 a1:Value) (w:World) (R:VW):Prop:=
 oP (Instr.box 33 a0) w fun x2 w=>
 oP (Instr.box 35 a1) w fun x3 w=>
 rF 35 x3 0 w fun x5=>
 rL 3 x5 w fun x6=>
 rB .lss 3 T0 U0 x6 (iV 0) w fun x7=>
 BR x7
 (R (Value.string (ByteArray.mk #[])) w)
 (rF 35 x3 0 w fun x9=>
 rL 3 x9 w fun x10=>
 rF 33 x2 0 w fun x11=>
 rL 22 x11 w fun x12=>
 rN 22 3 x12 w fun x13=>
 rB .geq 3 T0 T0 x10 x13 w fun x14=>
 BR x14
 (R (Value.string (ByteArray.mk #[])) w)
 (rL 33 x2 w fun x17=>
 cL 19 [x17] w fun x18 w=>
 rD (Op.unary .not x18) w fun x19=>
 BR x19
 (R (Value.string (ByteArray.mk #[])) w)
 ((fun w=>rF 33 x2 0 w fun x21=>
 rL 22 x21 w fun x22=>
 rF 35 x3 0 w fun x23=>
 rL 3 x23 w fun x24=>
 rX 22 x22 x24 w fun x25=>
 rL 9 x25 w fun x26=>
 rB .add 9 U0 T0 (Value.string (ByteArray.mk #[114,97,99,101,32])) x26 w fun x27=>
 rB .add 9 T0 U0 x27 (Value.string (ByteArray.mk #[32])) w fun x28=>
 rF 35 x3 1 w fun x29=>
 rL 3 x29 w fun x30=>
 rF 35 x3 2 w fun x34=>
 rL 3 x34 w fun x35=>
 (fun w_=>cL 20 [x30] w_ fun x31 w=>
 Ext w_ w ∧
 rB .add 9 T0 T0 x28 x31 w fun x32=>
 rB .add 9 T0 U0 x32 (Value.string (ByteArray.mk #[32])) w fun x33=>
 (fun w_=>cL 20 [x35] w_ fun x36 w=>
 Ext w_ w ∧
 rB .add 9 T0 T0 x33 x36 w fun x37=>
 rB .add 9 T0 U0 x37 (Value.string (ByteArray.mk #[10])) w fun x38=>
 R x38 w) w) w) (World.drew1 w))))
def cfg8:Cfg:=⟨extL,[],[],[(3,[0,1,2,3,4,5,6,7,8,9,13,14,10,11,12,15,16,17,18],33792)],[],[],[]⟩
theorem F8_call {a0 a1:Value} {w:World} {R:VW} (h:F8 a0 a1 w R):cL 8 [a0,a1] w R:=co (g:=cfg8) Tryd.func8 (by kernel_rfl) (by kernel_rfl) (by kernel_rfl) h
def F5 (a0 a1:Value) (w:World) (R:VW):Prop:=
 oP (Instr.box 33 a0) w fun x2 w=>
 oP (Instr.box 35 a1) w fun x3 w=>
 rL 33 x2 w fun x5=>
 cL 13 [x5] w fun x6 w=>
 rD (Op.unary .not x6) w fun x7=>
 BR x7
 (R (Value.string (ByteArray.mk #[])) w)
 (rF 35 x3 0 w fun x9=>
 rL 3 x9 w fun x10=>
 rF 33 x2 0 w fun x11=>
 rL 22 x11 w fun x12=>
 rN 22 3 x12 w fun x13=>
 rB .sub 3 T0 U0 x13 (iV 1) w fun x14=>
 cL 14 [x10,(iV 0),x14] w fun x15 w=>
 rD (Op.unary .not x15) w fun x16=>
 BR x16
 (R (Value.string (ByteArray.mk #[])) w)
 ((fun w=>rF 33 x2 0 w fun x18=>
 rL 22 x18 w fun x19=>
 rF 35 x3 0 w fun x20=>
 rL 3 x20 w fun x21=>
 rX 22 x19 x21 w fun x22=>
 rL 9 x22 w fun x23=>
 rB .add 9 U0 T0 (Value.string (ByteArray.mk #[114,97,99,101,32])) x23 w fun x24=>
 rB .add 9 T0 U0 x24 (Value.string (ByteArray.mk #[32])) w fun x25=>
 rF 35 x3 1 w fun x26=>
 rL 3 x26 w fun x27=>
 rF 35 x3 2 w fun x31=>
 rL 3 x31 w fun x32=>
 (fun w_=>cL 15 [x27] w_ fun x28 w=>
 Ext w_ w ∧
 rB .add 9 T0 T0 x25 x28 w fun x29=>
 rB .add 9 T0 U0 x29 (Value.string (ByteArray.mk #[32])) w fun x30=>
 (fun w_=>cL 15 [x32] w_ fun x33 w=>
 Ext w_ w ∧
 rB .add 9 T0 T0 x30 x33 w fun x34=>
 rB .add 9 T0 U0 x34 (Value.string (ByteArray.mk #[10])) w fun x35=>
 R x35 w) w) w) (World.drew1 w)))
def cfg5:Cfg:=⟨extL,[],[],[(3,[0,1,2,3,4,5,6,7,8,9,13,14,10,11,12,15,16,17,18],33792)],[],[],[]⟩
theorem F5_call {a0 a1:Value} {w:World} {R:VW} (h:F5 a0 a1 w R):cL 5 [a0,a1] w R:=co (g:=cfg5) Tryd.func5 (by kernel_rfl) (by kernel_rfl) (by kernel_rfl) h
open Rep (rep)
def ziC:ByteArray:=ByteArray.mk #[114,97,99,101,32]
def zfn (c:DCode) (x:DRace):Prop:=CodeR c∧0≤x.g∧x.g<c.globals.length
instance (c:DCode) (x:DRace):Decidable (zfn c x):=by unfold zfn;infer_instance
def zhQ (c:DCode) (x:DRace):ByteArray:=ziC++c.globals.getD x.g.toNat ByteArray.empty++zhw++zgX x.a++zhw++zgX x.b++ziB
def zbx (c:DCode) (x:DRace):ByteArray:=if zfn c x then zhQ c x else ByteArray.empty
theorem zdu {w W0 W1:World} {v0 v1:Value} {c:DCode} {x:DRace} (h0:Is W0 v0 c) (e0:Ext W0 w) (h1:Is W1 v1 x) (e1:Ext W1 w) (hT:PowT w) :
   CALL Tryd.prog 8 [v0,v1] w fun r w'=>Ext w w'∧r=.string (zbx c x):=by
 refine F8_call ?_
 unfold F8
 refine zes h0 e0 fun wa hxa hA=>?_
 refine zes h1 (e1.trans hxa) fun wb hxb hB=>?_
 have hAb:=hA.ext hxb
 have hxw:=hxa.trans hxb
 refine zaa zdI ?_
 refine zac ty3 (zbk hB) (Ext.refl _) fun _=>?_
 refine zah ?_
 have hno:¬zfn c x→∀ w9,Ext wb w9→Ext w w9∧Value.string (ByteArray.mk #[])=.string (zbx c x):=fun h w9 hx9=>⟨hxw.trans hx9,by unfold zbx;rw [if_neg h];rfl⟩
 refine br (fun hl=>hno (fun h=>by have:=h.2.1;omega) _ (Ext.refl _)) (fun hg0=>?_)
 refine zaa zdI ?_
 refine zac ty3 (zbk hB) (Ext.refl _) fun _=>?_
 refine zaa zbb ?_
 refine zab zbi (zar hAb) (Ext.refl _) fun v12 h12=>?_
 refine zae u22 h12 ?_
 refine zbf ?_
 refine br (fun hl=>hno (fun h=>by have:=h.2.2;omega) _ (Ext.refl _)) (fun hg1=>?_)
 refine zab zd3 hAb (Ext.refl _) fun v17 h17=>?_
 refine (zei h17 (Ext.refl _)).mono ?_
 rintro _ w2 ⟨hx2,rfl⟩
 refine zak ?_
 refine br (fun hn=>hno (fun h=>hn h.1) _ hx2) (fun hy=>?_)
 have hc:=Decidable.not_not.1 hy
 have hlr:zfn c x:=⟨hc,by omega,by omega⟩
 have hxd:=zaw w2
 generalize World.drew1 w2=w3 at *
 have hxb3:=hx2.trans hxd
 obtain ⟨i,hi⟩:∃ i:Nat,x.g=(i:Int):=⟨x.g.toNat,by omega⟩
 have hil:i<c.globals.length:=by omega
 refine zaa zbb ?_
 refine zab zbi (zar hAb) hxb3 fun v22 h22=>?_
 refine zaa zdI ?_
 refine zac ty3 (zbk hB) hxb3 fun _=>?_
 rw [hi]
 refine zaf u22 ty9 h22 hil fun b3 o3 hA3=>?_
 refine zai ty9 hA3 hxb3 fun _=>?_
 have hsz:=hc.1.global_size hil
 have h5:(ByteArray.mk #[114,97,99,101,32]).size=5:=rfl
 have h1':(ByteArray.mk #[32]).size=1:=rfl
 have h1n:(ByteArray.mk #[10]).size=1:=rfl
 refine za7 (by omega) ?_
 refine za7 (by simp only [ByteArray.size_append];omega) ?_
 refine zaa zf8 ?_
 refine zac ty3 (zcP hB) hxb3 fun hIa=>?_
 refine zaa zf9 ?_
 refine zac ty3 (zcQ hB) hxb3 fun hIb=>?_
 have hda:=zc4 x.a hIa
 have hdb:=zc4 x.b hIb
 have hxw3:=hxw.trans hxb3
 refine (zcd hT hxw3 hIa).mono ?_
 rintro _ w4 ⟨hx4,rfl⟩
 refine ⟨hx4,?_⟩
 refine za7 (by simp only [ByteArray.size_append];omega) ?_
 refine za7 (by simp only [ByteArray.size_append];omega) ?_
 refine (zcd hT (hxw3.trans hx4) hIb).mono ?_
 rintro _ w5 ⟨hx5,rfl⟩
 refine ⟨hx5,?_⟩
 refine za7 (by simp only [ByteArray.size_append];omega) ?_
 refine za7 (by simp only [ByteArray.size_append];omega) ?_
 refine ⟨(hxw3.trans hx4).trans hx5,?_⟩
 unfold zbx zhQ
 rw [if_pos hlr,hi,Int.toNat_natCast,zfG hil]
 rfl
theorem zdv {w W0 W1:World} {v0 v1:Value} {c:DCode} {x:DRace} (h0:Is W0 v0 c) (e0:Ext W0 w) (h1:Is W1 v1 x) (e1:Ext W1 w) :
   CALL Tryd.prog 5 [v0,v1] w fun r w'=>Ext w w'∧r=.string (zbx c x):=by
 refine F5_call ?_
 unfold F5
 refine zes h0 e0 fun wa hxa hA=>?_
 refine zes h1 (e1.trans hxa) fun wb hxb hB=>?_
 have hAb:=hA.ext hxb
 have hxw:=hxa.trans hxb
 have hno:¬zfn c x→∀ w9,Ext wb w9→Ext w w9∧Value.string (ByteArray.mk #[])=.string (zbx c x):=fun h w9 hx9=>⟨hxw.trans hx9,by unfold zbx;rw [if_neg h];rfl⟩
 refine zab zd3 hAb (Ext.refl _) fun v5 h5=>?_
 refine (zef h5 (Ext.refl _)).mono ?_
 rintro _ w2 ⟨hx2,rfl⟩
 refine zak ?_
 refine br (fun hn=>hno (fun h=>hn h.1) _ hx2) (fun hy=>?_)
 have hc:=Decidable.not_not.1 hy
 refine zaa zdI ?_
 refine zac ty3 (zbk hB) hx2 fun _=>?_
 refine zaa zbb ?_
 refine zab zbi (zar hAb) hx2 fun v12 h12=>?_
 refine zae u22 h12 ?_
 have hlen:=zad h12
 refine zaW (by unfold I64;omega) ?_
 refine l01In_ok.mono ?_
 rintro _ w3 ⟨hx3,rfl⟩
 refine zak ?_
 refine br (fun hn=>hno (fun h=>hn ⟨h.2.1,by have:=h.2.2;omega⟩) _ (hx2.trans hx3)) (fun hy2=>?_)
 have hr:=Decidable.not_not.1 hy2
 have hlr:zfn c x:=⟨hc,hr.1,by omega⟩
 have hxd:=zaw w3
 generalize World.drew1 w3=w4 at *
 have hxb3:=(hx2.trans hx3).trans hxd
 obtain ⟨i,hi⟩:∃ i:Nat,x.g=(i:Int):=⟨x.g.toNat,by omega⟩
 have hil:i<c.globals.length:=by omega
 refine zaa zbb ?_
 refine zab zbi (zar hAb) hxb3 fun v22 h22=>?_
 refine zaa zdI ?_
 refine zac ty3 (zbk hB) hxb3 fun _=>?_
 rw [hi]
 refine zaf u22 ty9 h22 hil fun b3 o3 hA3=>?_
 refine zai ty9 hA3 hxb3 fun _=>?_
 have hsz:=hc.1.global_size hil
 have h5:(ByteArray.mk #[114,97,99,101,32]).size=5:=rfl
 have h1':(ByteArray.mk #[32]).size=1:=rfl
 have h1n:(ByteArray.mk #[10]).size=1:=rfl
 refine za7 (by omega) ?_
 refine za7 (by simp only [ByteArray.size_append];omega) ?_
 refine zaa zf8 ?_
 refine zac ty3 (zcP hB) hxb3 fun hIa=>?_
 refine zaa zf9 ?_
 refine zac ty3 (zcQ hB) hxb3 fun hIb=>?_
 have hda:=zc4 x.a hIa
 have hdb:=zc4 x.b hIb
 have hxw3:=hxw.trans hxb3
 refine (zce hIa).mono ?_
 rintro _ w5 ⟨hx5,rfl⟩
 refine ⟨hx5,?_⟩
 refine za7 (by simp only [ByteArray.size_append];omega) ?_
 refine za7 (by simp only [ByteArray.size_append];omega) ?_
 refine (zce hIb).mono ?_
 rintro _ w6 ⟨hx6,rfl⟩
 refine ⟨hx6,?_⟩
 refine za7 (by simp only [ByteArray.size_append];omega) ?_
 refine za7 (by simp only [ByteArray.size_append];omega) ?_
 refine ⟨(hxw3.trans hx5).trans hx6,?_⟩
 unfold zbx zhQ
 rw [if_pos hlr,hi,Int.toNat_natCast,zfG hil]
 rfl
theorem zgG {c:DCode} {n m:Int} (hm:m≤1048576) (h:-1≤n∧n≤m∧(0≤n→n+zfg c≤m)) (hc:¬n<0):zfg c≤1048576:=by
 have:=h.2.2 (by omega);omega
theorem zeT {w W:World} {v:Value} {x:DRace} (h:Is W v x) (hx:Ext W w) :
   CALL Tryd.prog 7 [v] w fun r w'=>Ext w w'∧Is w' r x:=
 (zgk h hx).mono fun r w' ⟨h1,h2,h3,h4,h5⟩=>⟨h1,ze4.2 ⟨h2,h3,h4,h5⟩⟩
def F3 (a0 a1:Value) (w:World) (R:VW):Prop:=
 oP (Instr.box 26 a0) w fun x2 w=>
 oP (Instr.box 28 a1) w fun x3 w=>
 rL 26 x2 w fun x9=>
 cL 4 [x9,(iV 1048576)] w fun x11 w=>
 rB .lss 3 T0 U0 x11 (iV 0) w fun x13=>
 BR x13
 (R (Value.bool true) w)
 ((fun w=>rL 26 x2 w fun x14=>
 rL 28 x3 w fun x16=>
 (fun w_=>cL 6 [x14] w_ fun x15 w=>
 Ext w_ w ∧
 cL 7 [x16] w fun x17 w=>
 cL 5 [x15,x17] w fun x18 w=>
 rL 26 x2 w fun x19=>
 cL 6 [x19] w fun x20 w=>
 oP (Instr.alloc 33 true (.tuple #[])) w fun x7 w=>
 oS 33 x7 x20 w fun w=>
 (fun w=>rL 33 x7 w fun x21=>
 rL 28 x3 w fun x22=>
 (fun w_=>cL 7 [x22] w_ fun x23 w=>
 Ext w_ w ∧
 cL 8 [x21,x23] w fun x24 w=>
 rB .neq 9 T0 T0 x24 x18 w fun x27=>
 BR x27
 (R (Value.bool false) w)
 ((fun w=>rL 33 x7 w fun x28=>
 rL 26 x2 w fun x29=>
 (fun w_=>cL 6 [x29] w_ fun x30 w=>
 Ext w_ w ∧
 cL 9 [x28,x30] w fun x31 w=>
 rD (Op.unary .not x31) w fun x32=>
 BR x32
 (R (Value.bool false) w)
 (R (Value.bool true) w)) w) (World.drew1 w))) w) (World.drew1 w)) w) (World.drew1 w))
def cfg3:Cfg:=⟨extL,[],[],[(5,[0,2,1,3,4,5],2),(7,[0,1,2,3,4],4),(10,[0,1,2,3,4],4)],[],[],[]⟩
theorem F3_call {a0 a1:Value} {w:World} {R:VW} (h:F3 a0 a1 w R):cL 3 [a0,a1] w R:=co (g:=cfg3) Tryd.func3 (by kernel_rfl) (by kernel_rfl) (by kernel_rfl) h
theorem zfo {w:World} {v0:Value} {W0:World} {c:DCode} {v1:Value} {W1:World} {x:DRace}  (h0:Is W0 v0 c) (e0:Ext W0 w) (h1:Is W1 v1 x) (e1:Ext W1 w) (hT:PowT w) :
   CALL Tryd.prog 3 [v0,v1] w fun r w'=>Ext w w'∧(r=.bool true):=by
 refine F3_call ?_
 unfold F3
 refine zam ziv rfl h0 e0 fun w1_ hx1_ hA2 hV2=>?_
 refine zam ziP rfl h1 (e1.trans hx1_) fun w2_ hx2_ hA3 hV3=>?_
 refine zaL hV2 hx2_ ?_
 refine (zgu h0 (e0.trans (hx1_.trans hx2_)) (by omega) (by omega)).mono ?_
 rintro _ w3_ ⟨hx3_,n11,rfl,hn11⟩
 refine zah ?_
 refine br (fun c1=>?_) (fun c1=>?_)
 · refine ⟨(hx1_.trans (hx2_.trans hx3_)),?_⟩
   first | rfl | contradiction | (exfalso;omega)
 have hx4_:=zaw w3_
 have hcd:=zgG (by omega) hn11 c1
 refine zaL hV2 (hx2_.trans (hx3_.trans hx4_)) ?_
 refine zaL hV3 (hx3_.trans hx4_) ?_
 refine (zds (h0.ext (e0.trans (hx1_.trans (hx2_.trans (hx3_.trans hx4_))))) (by omega)).mono ?_
 rintro r15 w5_ ⟨hx5_,o15⟩
 refine ⟨hx5_,?_⟩
 refine (zeT h1 (e1.trans (hx1_.trans (hx2_.trans (hx3_.trans (hx4_.trans hx5_)))))).mono ?_
 rintro r17 w6_ ⟨hx6_,h17⟩
 refine (zdv o15.is hx6_ h17 (Ext.refl w6_)).mono ?_
 rintro _ w7_ ⟨hx7_,rfl⟩
 refine zaL hV2 (hx2_.trans (hx3_.trans (hx4_.trans (hx5_.trans (hx6_.trans hx7_))))) ?_
 refine (zds (h0.ext (e0.trans (hx1_.trans (hx2_.trans (hx3_.trans (hx4_.trans (hx5_.trans (hx6_.trans hx7_)))))))) (by omega)).mono ?_
 rintro r20 w8_ ⟨hx8_,o20⟩
 refine zdG ziw rfl zd3 rfl o20.is (Ext.refl w8_) fun w9_ hx9_ hA7 hV7=>?_
 have hx10_:=zaw w9_
 refine zaL hV7 hx10_ ?_
 refine zaL hV3 (hx3_.trans (hx4_.trans (hx5_.trans (hx6_.trans (hx7_.trans (hx8_.trans (hx9_.trans hx10_))))))) ?_
 refine (zeT h1 (e1.trans (hx1_.trans (hx2_.trans (hx3_.trans (hx4_.trans (hx5_.trans (hx6_.trans (hx7_.trans (hx8_.trans (hx9_.trans hx10_))))))))))).mono ?_
 rintro r23 w11_ ⟨hx11_,h23⟩
 refine ⟨hx11_,?_⟩
 have hT24:PowT w11_:=hT.ext ((hx1_.trans (hx2_.trans (hx3_.trans (hx4_.trans (hx5_.trans (hx6_.trans (hx7_.trans (hx8_.trans (hx9_.trans (hx10_.trans hx11_)))))))))))
 refine (zdu o20.is (hx9_.trans (hx10_.trans hx11_)) h23 (Ext.refl w11_) (by assumption)).mono ?_
 rintro _ w12_ ⟨hx12_,rfl⟩
 refine zcN ?_
 refine br (fun c2=>?_) (fun c2=>?_)
 · refine ⟨(hx1_.trans (hx2_.trans (hx3_.trans (hx4_.trans (hx5_.trans (hx6_.trans (hx7_.trans (hx8_.trans (hx9_.trans (hx10_.trans (hx11_.trans hx12_))))))))))),?_⟩
   first | rfl | contradiction | (exfalso;omega)
 have hx13_:=zaw w12_
 refine zaL hV7 (hx10_.trans (hx11_.trans (hx12_.trans hx13_))) ?_
 refine zaL hV2 (hx2_.trans (hx3_.trans (hx4_.trans (hx5_.trans (hx6_.trans (hx7_.trans (hx8_.trans (hx9_.trans (hx10_.trans (hx11_.trans (hx12_.trans hx13_))))))))))) ?_
 refine (zds (h0.ext (e0.trans (hx1_.trans (hx2_.trans (hx3_.trans (hx4_.trans (hx5_.trans (hx6_.trans (hx7_.trans (hx8_.trans (hx9_.trans (hx10_.trans (hx11_.trans (hx12_.trans hx13_)))))))))))))) (by omega)).mono ?_
 rintro r30 w14_ ⟨hx14_,o30⟩
 refine ⟨hx14_,?_⟩
 refine (zgx o20.is (hx9_.trans (hx10_.trans (hx11_.trans (hx12_.trans (hx13_.trans hx14_))))) o30.is (Ext.refl w14_)).mono ?_
 rintro _ w15_ ⟨hx15_,rfl⟩
 refine zak ?_
 refine br (fun c3=>?_) (fun c3=>?_)
 · refine ⟨(hx1_.trans (hx2_.trans (hx3_.trans (hx4_.trans (hx5_.trans (hx6_.trans (hx7_.trans (hx8_.trans (hx9_.trans (hx10_.trans (hx11_.trans (hx12_.trans (hx13_.trans (hx14_.trans hx15_)))))))))))))),?_⟩
   first | rfl | contradiction | (exfalso;omega)
 refine ⟨(hx1_.trans (hx2_.trans (hx3_.trans (hx4_.trans (hx5_.trans (hx6_.trans (hx7_.trans (hx8_.trans (hx9_.trans (hx10_.trans (hx11_.trans (hx12_.trans (hx13_.trans (hx14_.trans hx15_)))))))))))))),?_⟩
 first | rfl | contradiction | (exfalso;omega)
theorem zik:∀ n,zbj Tryd.prog 28 DRace n:=fun n=>
 zdh (g:=fun p=>⟨p.1,p.2.1,p.2.2⟩) (fun _=>rfl) (zbd (α:=Int×Int×Int) ziI (by kernel_rfl)
   (fun n=>.cons rfl (by kernel_rfl) (za8 u3 n) (.cons rfl (by kernel_rfl) (za8 u3 n) (.one rfl (by kernel_rfl) (za8 u3 n)))) n)
theorem zgH:∀ n,zbj Tryd.prog 54 DTerm n∧zbj Tryd.prog 52 (List DTerm) n
 | 0=>⟨zb5,zb5⟩
 | n + 1 => ⟨zgo (zcX (α := Int × Int × ByteArray × List DTerm) ziQ (by kernel_rfl)
     (.cons rfl (by kernel_rfl) (za8 u3 n) (.cons rfl (by kernel_rfl) (za8 u3 n) (.cons rfl (by kernel_rfl) (zew u9 n) (.one rfl (by kernel_rfl) (zgH n).2))))),
   zdg u52 (by kernel_rfl) (zgH n).1⟩
theorem zgI:∀ n,zbj Tryd.prog 22 (List ByteArray) n:=zbo u22 (by kernel_rfl) (zew u9)
theorem ziD:∀ n,zbj Tryd.prog 56 DIns n:=fun n=>
 zdh (g:=fun p=>⟨p.1,p.2.1,p.2.2.1,p.2.2.2⟩) (fun _=>rfl) (zbd (α:=Int×Int×DTerm×Int) ziR (by kernel_rfl)
   (fun n=>.cons rfl (by kernel_rfl) (za8 u3 n) (.cons rfl (by kernel_rfl) (za8 u3 n) (.cons rfl (by kernel_rfl) (zgH n).1 (.one rfl (by kernel_rfl) (za8 u3 n))))) n)
theorem zil:∀ n,zbj Tryd.prog 24 (List DIns) n:=zbo u24 (by kernel_rfl) ziD
theorem zhR:∀ n,zbj Tryd.prog 23 (List Int) n:=zbo u23 (by kernel_rfl) (za8 u3)
theorem zim:∀ n,zbj Tryd.prog 26 DCode n:=fun n=>
 zdh (g:=fun p=>⟨p.1,p.2.1,p.2.2.1,p.2.2.2.1,p.2.2.2.2⟩) (fun _=>rfl) (zbd (α:=List ByteArray×List ByteArray×List ByteArray×List Int×List DIns) ziH (by kernel_rfl)
   (fun n=>.cons rfl (by kernel_rfl) (zgI n) (.cons rfl (by kernel_rfl) (zgI n) (.cons rfl (by kernel_rfl) (zgI n) (.cons rfl (by kernel_rfl) (zhR n) (.one rfl (by kernel_rfl) (zil n)))))) n)
end Go.Proofs.YtifonhplnmpgaaaDoor
namespace Go.Proofs.YtifonhplnmpgaaaDoor.fnExactRaceLine
open Go.ChangeShapes Go.WideShapes Go.ChangeAt Go.RowKit Go.Sh
theorem own:ownKnob Tryd.prog.godebug=none:=by kernel_rfl
theorem zgJ:laidOutB Tryd.prog=true:=by kernel_rfl
theorem ziU:Tryd.prog.globalNamed "internal/strconv.uint64pow10" = some 0:=by kernel_rfl
theorem zg7:(Tryd.prog.globals[0]?).map (·.type)=some 96:=by kernel_rfl
theorem cellsT:Tryd.prog.cellsOf 96=20:=by kernel_rfl
theorem zin:Tryd.prog.cellsOf 89=1:=by kernel_rfl
theorem pow {W:World} (h:laidMetH Tryd.prog Rows.fnExactRaceLineRow.laid W):PowT W:=
 Lib.tabIs_of_head (zs:=Lib.pow10Tab) (rest:=[]) ziU zg7 Tryd.underlying96 Tryd.underlying89 zin cellsT (laidMet.tail (laidMet.tail h))
set_option maxRecDepth 100000 in
theorem zg8 (H:Type) (enc:TypeId×Value→H) (W:World) (base:Nat) (args:Array Value) (ds gs:List (DataW H)) (before:List MemPlace)
    (hval0:∀ (j:Nat) t v,Tryd.f3.params[j]?=some t→args[j]?=some v→Value.okWide Tryd.prog W .any base t v)
    (hW:DataW.Whole enc Tryd.prog Tryd.f3.params.toList Rows.fnExactRaceLineSpec.vars false W args.toList ds gs before) (hL:laidMetH Tryd.prog Rows.fnExactRaceLineRow.laid W) :
    Calls Tryd.prog 3 args W fun e W'=>∃ v,e=.returned v∧Rows.fnExactRaceLineSpec.post enc Tryd.prog Tryd.f3 false true false false W args v W':=by
  have hval:=hval0
  have hW':=hW
  obtain ⟨p,q,hA0,hV,rfl,hfz,hnd⟩:=hW
  have hA:DataW.TrodAll enc Tryd.prog W 0 (fun _=>true) true Tryd.f3.params.toList args.toList ds p:=hA0
  rw [Tryd.params3] at hA hval
  obtain ⟨v0,vs0,d0,ds0,p0,q0,hargs,rfl,rfl,h0,r0⟩:=trodAll_cons hA
  obtain ⟨v1,vs1,d1,ds1,p1,q1,rfl,rfl,rfl,h1,r1⟩:=trodAll_cons r0
  obtain ⟨rfl,rfl,rfl⟩:=trodAll_nil r1
  obtain rfl:args=#[v0,v1]:=by cases args;simp_all
  obtain ⟨rfl,rfl⟩:=trodVars_none hV
  have lt0:∀ x∈p0,x.block<W.heap.size:=by obtain ⟨m,hm⟩:=h0;exact DataW.trod_lt m _ _ _ hm
  obtain ⟨x0,i0⟩:=zcY (α:=DCode) ziH rfl zim (hval 0 26 v0 rfl rfl) h0
  have lt1:∀ x∈p1,x.block<W.heap.size:=by obtain ⟨m,hm⟩:=h1;exact DataW.trod_lt m _ _ _ hm
  obtain ⟨x1,i1⟩:=zcY (α:=DRace) ziI rfl zik (hval 1 28 v1 rfl rfl) h1
  clear hA0 hval0
  obtain ⟨hcall⟩:=zfo i0 (Ext.refl W) i1 (Ext.refl W) (pow hL)
  refine hcall.mono fun e W' ⟨v,he,bel,hv⟩=>?_
  subst he hv
  exact ⟨_,rfl,_,_,_,[],_,[],hW',trodAll_mk1 (shut_bool Tryd.underlying4 _),(trodAll_cons_mk (Below.trod zgJ (by kernel_rfl) (of_decide_eq_true (by kernel_rfl)) h0 bel lt0) (trodAll_cons_mk (Below.trod zgJ (by kernel_rfl) (of_decide_eq_true (by kernel_rfl)) h1 bel lt1) trodAll_mk0)),rfl,bel.frame _,fun h=>by cases h⟩
def zio:DataW Unit→Array Value
 | .agg l=>(l.map fun d=>match d with | .lit (.int k z)=>Value.int k z | _=>undef).toArray
 | _=>#[]
def ziE (d:DataW Unit):Obj→Obj
 | .cells _ t frozen=>.cells (zio d) t frozen
 | o=>o
noncomputable def zdw (os:Os):World:=
 { World.holding Tryd.prog os ⟨#[],#[],[]⟩ with heap:=(((World.holding Tryd.prog os ⟨#[],#[],[]⟩).heap.modify 0 (ziE Rows.laid_internal_strconv_uint64pow10)).modify 1 (ziE Rows.laid_math_bits_deBruijn32tab)).modify 2 (ziE Rows.laid_math_bits_deBruijn64tab) }
theorem zg9 (os:Os):laidMet Tryd.prog Rows.fnExactRaceLineRow.laid ((zdw os).forCall (fun _ _=>0) ⟨#[],#[.agg #[.slice none 0 0,.slice none 0 0,.slice none 0 0,.slice none 0 0,.slice none 0 0],.agg #[.int .i64 0,.int .i64 0,.int .i64 0]],[]⟩).memory:=
 laidMet_of_run' 8 (by kernel_rfl) (by kernel_rfl)
theorem reads (os:Os) {H:Type} (enc:TypeId×Value→H):∃ places,DataW.whole enc Tryd.prog ((zdw os).forCall (fun _ _=>0) ⟨#[],#[.agg #[.slice none 0 0,.slice none 0 0,.slice none 0 0,.slice none 0 0,.slice none 0 0],.agg #[.int .i64 0,.int .i64 0,.int .i64 0]],[]⟩).memory Tryd.f3.params.toList Rows.fnExactRaceLineSpec.vars false (#[.agg #[.slice none 0 0,.slice none 0 0,.slice none 0 0,.slice none 0 0,.slice none 0 0],.agg #[.int .i64 0,.int .i64 0,.int .i64 0]]:Array Value).toList 8=some ([.agg [.nil,.nil,.nil,.nil,.nil],.agg [.lit (.int .i64 0),.lit (.int .i64 0),.lit (.int .i64 0)]],[],places):=
 ⟨[],by kernel_rfl⟩
set_option maxRecDepth 100000 in
theorem zip (os:Os) (started:os.Started) (H:Type) (enc:TypeId×Value→H) (F:Stop.Interp) :
    ReturnsInHanded {} Tryd.checked os 3 .any ((OpenSpec.ofChange Rows.fnExactRaceLineSpec).preRow enc Tryd.prog Tryd.f3 Rows.fnExactRaceLineRow.domain false Rows.fnExactRaceLineRow.laid) (((OpenSpec.ofChange Rows.fnExactRaceLineSpec).at F).post enc Tryd.prog Tryd.f3 false true false false):=by
  obtain ⟨places,hx⟩:=reads os enc
  refine returnsInHanded_of_row (C:=Tryd.checked) (s:=OpenSpec.ofChange Rows.fnExactRaceLineSpec) own started (by kernel_rfl) Tryd.func3
    (witness_row_at (enc:=enc) (C:=Tryd.checked) false (zdw os) #[.agg #[.slice none 0 0,.slice none 0 0,.slice none 0 0,.slice none 0 0,.slice none 0 0],.agg #[.int .i64 0,.int .i64 0,.int .i64 0]] rfl (by kernel_rfl) (by kernel_rfl) (by kernel_rfl)
      (OpenSpec.preRow_of_cond 8 hx (by kernel_rfl) (fun k hk=>by cases hk) (by kernel_rfl) (zg9 os))) ?_
  intro W base args ds gs before hval hW _ _ _ hL _ _
  exact zg8 H enc W base args ds gs before hval hW hL
theorem ziV:Rows.FnExactRaceLineSaid:=
 OpenClaim.holds_of_cond 3 Tryd.f3 rfl rfl rfl rfl rfl rfl rfl ⟨rfl,rfl,rfl,rfl,rfl⟩ rfl rfl rfl rfl rfl (by kernel_rfl) Tryd.func3 (by kernel_rfl)
   (of_decide_eq_true (by kernel_rfl)) (by unfold Func.isWrapper;first | (rw [if_pos (by decide +kernel)];kernel_rfl) | (rw [if_neg (by decide +kernel)];exact ⟨rfl,rfl⟩))
   (fun os started H enc _ F=>by rw [OpenClaim.pre_eq_preRow];exact zip os started H enc F)
theorem ziF (f:FuncId) (fn:Func) (hf:Tryd.pinned.checked.prog.funcNamed "loop.example/g00966/laws.FnExactRaceLine" = some f) (hfn:Tryd.pinned.checked.prog.funcs[f]?=some fn) :
   false=Tryd.pinned.checked.prog.looks []∧∀ (j:Nat) t,fn.params[j]?=some t→Tryd.pinned.checked.prog.wantsStandIn t=false:=by
 obtain rfl:f=3:=Option.some.inj ((show Tryd.prog.funcNamed "loop.example/g00966/laws.FnExactRaceLine" = some 3 by kernel_rfl).symm.trans hf) |>.symm
 obtain rfl:fn=Tryd.f3:=(Option.some.inj (Tryd.func3.symm.trans hfn)).symm
 refine ⟨by kernel_rfl,fun j t ht=>?_⟩
 rw [Tryd.params3] at ht
 have hm:=Array.mem_of_getElem? ht
 have hm:t=26∨t=28:=by simpa using hm
 rcases hm with rfl | rfl
 · exact (show Tryd.prog.wantsStandIn 26=false by kernel_rfl)
 exact (show Tryd.prog.wantsStandIn 28=false by kernel_rfl)
theorem proved:Rows.FnExactRaceLineCardSaid:=
 Claim7.holds_tied_plain_at .later [] _ _ _ _ ziV (fun _ h=>by cases h) (by kernel_rfl) (fun _ h=>by cases h) fnExactRaceLine_row_tie rfl ⟨rfl,rfl⟩ (by kernel_rfl) rfl ziF (by kernel_rfl)
end Go.Proofs.YtifonhplnmpgaaaDoor.fnExactRaceLine
