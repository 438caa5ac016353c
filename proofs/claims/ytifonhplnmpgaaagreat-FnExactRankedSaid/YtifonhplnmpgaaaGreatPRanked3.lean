/-
  Parts of the proof, put together by program.
-/
import Derived.Test.YtifonhplnmpgaaaGreatPRanked2
set_option linter.unusedVariables false
set_option linter.unusedSimpArgs false
set_option linter.unusedSectionVars false
namespace Go.Proofs.YtifonhplnmpgaaaGreat
open Go Go.Sh Go.Proofs
open Rep (rep)
def zbe:Nat→DTerm→Bool
 | n,.mk k num s ks=>
   if k=1 then decide (0≤num∧num≤1000000000)&&decide (s=ByteArray.mk #[])&&decide ((ks.length:Int)=0)
   else if k=2 then decide (num=0)&&zbb s&&decide ((ks.length:Int)=0)
   else decide (3≤k∧k≤9)&&decide (num=0)&&decide (s=ByteArray.mk #[])&&decide ((ks.length:Int)=if k=8 then 1 else 2) &&
     (match n with | 0=>false | m+1=>ks.all (zbe m))
theorem zc5 {n:Nat} {t:DTerm} (h:t.kind=1):zbe n t=(decide (0≤t.num∧t.num≤1000000000)&&decide (t.name=ByteArray.mk #[])&&decide ((t.kids.length:Int)=0)):=by
 obtain ⟨k,num,s,ks⟩:=t
 have:k=1:=h
 unfold zbe;rw [if_pos this];rfl
theorem zee {n:Nat} {t:DTerm} (h:t.kind=2):zbe n t=(decide (t.num=0)&&zbb t.name&&decide ((t.kids.length:Int)=0)):=by
 obtain ⟨k,num,s,ks⟩:=t
 have:k=2:=h
 unfold zbe;rw [if_neg (by omega),if_pos this];rfl
theorem zaZ {n:Nat} {t:DTerm} (h1:¬t.kind=1) (h2:¬t.kind=2):zbe n t =
   (decide (3≤t.kind∧t.kind≤9)&&decide (t.num=0)&&decide (t.name=ByteArray.mk #[])&&decide ((t.kids.length:Int)=if t.kind=8 then 1 else 2)&&(match n with | 0=>false | m+1=>t.kids.all (zbe m))):=by
 obtain ⟨k,num,s,ks⟩:=t
 have h1:¬k=1:=h1
 have h2:¬k=2:=h2
 unfold zbe;rw [if_neg h1,if_neg h2];rfl
theorem zfK {α:Type} {p:α→Bool} {l:List α} {k:Nat} (hk:k<l.length) (h:(l.take k).all p=true) (hp:p l[k]=true):(l.take (k+1)).all p=true:=by
 rw [List.take_succ_eq_append_getElem hk,List.all_append,h];simp [hp]
theorem ze2 {α:Type} {p:α→Bool} {l:List α} {k:Nat} (hk:k<l.length) (hp:p l[k]=false):l.all p=false:=by
 rw [List.all_eq_false];exact ⟨_,List.getElem_mem hk,by simp [hp]⟩
theorem zfL {α:Type} {p:α→Bool} {l:List α} {k:Nat} (hk:l.length≤k) (h:(l.take k).all p=true):l.all p=true:=by
 rwa [List.take_of_length_le hk] at h
def zqx (f:Nat) (n:Nat):Prop:=∀ {w W:World} {v:Value} {t:DTerm} {d:Int},Is W v t→Ext W w→d=(n:Int) →
 CALL Tryz.prog f [v,.int .i64 d] w fun r w'=>Ext w w'∧r=.bool (zbe n t)
def F223 (a0 a1:Value) (w:World) (R:VW):Prop:=
 oP (Instr.box 109 a0) w fun x2 w=>
 JOIN [] (fun J18=>
 rF 109 x2 0 w fun x7=>
 rL 3 x7 w fun x8=>
 rB .eql 3 T0 U0 x8 (iV 1) w fun x10=>
 BR x10
 (rF 109 x2 1 w fun x11=>
 rL 3 x11 w fun x12=>
 rB .geq 3 T0 U0 x12 (iV 0) w fun x13=>
 BR x13
 (rF 109 x2 1 w fun x15=>
 rL 3 x15 w fun x16=>
 rB .leq 3 T0 U0 x16 (iV 1000000000) w fun x17=>
 BR x17
 (rF 109 x2 2 w fun x20=>
 rL 9 x20 w fun x21=>
 rB .eql 9 T0 U0 x21 (Value.string (ByteArray.mk #[])) w fun x22=>
 BR x22
 (rF 109 x2 3 w fun x25=>
 rL 107 x25 w fun x26=>
 rN 107 3 x26 w fun x27=>
 rB .eql 3 T0 U0 x27 (iV 0) w fun x28=>
 R x28 w)
 (R (Value.bool false) w))
 (R (Value.bool false) w))
 (R (Value.bool false) w))
 (rB .eql 3 T0 U0 x8 (iV 2) w fun x31=>
 BR x31
 (rF 109 x2 1 w fun x32=>
 rL 3 x32 w fun x33=>
 rB .eql 3 T0 U0 x33 (iV 0) w fun x34=>
 BR x34
 (rF 109 x2 2 w fun x36=>
 rL 9 x36 w fun x37=>
 cL 222 [x37] w fun x38 w=>
 BR x38
 (rF 109 x2 3 w fun x41=>
 rL 107 x41 w fun x42=>
 rN 107 3 x42 w fun x43=>
 rB .eql 3 T0 U0 x43 (iV 0) w fun x44=>
 R x44 w)
 (R (Value.bool false) w))
 (R (Value.bool false) w))
 (rB .eql 3 T0 U0 x8 (iV 3) w fun x47=>
 BR x47
 (rF 109 x2 3 w fun x53=>
 rL 107 x53 w fun x54=>
 rN 107 3 x54 w fun x55=>
 rB .neq 3 T0 U0 x55 (iV 2) w fun x56=>
 BR x56
 (R (Value.bool false) w)
 (J18 [] w))
 (rB .eql 3 T0 U0 x8 (iV 4) w fun x48=>
 BR x48
 (rF 109 x2 3 w fun x53=>
 rL 107 x53 w fun x54=>
 rN 107 3 x54 w fun x55=>
 rB .neq 3 T0 U0 x55 (iV 2) w fun x56=>
 BR x56
 (R (Value.bool false) w)
 (J18 [] w))
 (rB .eql 3 T0 U0 x8 (iV 5) w fun x49=>
 BR x49
 (rF 109 x2 3 w fun x53=>
 rL 107 x53 w fun x54=>
 rN 107 3 x54 w fun x55=>
 rB .neq 3 T0 U0 x55 (iV 2) w fun x56=>
 BR x56
 (R (Value.bool false) w)
 (J18 [] w))
 (rB .eql 3 T0 U0 x8 (iV 6) w fun x50=>
 BR x50
 (rF 109 x2 3 w fun x53=>
 rL 107 x53 w fun x54=>
 rN 107 3 x54 w fun x55=>
 rB .neq 3 T0 U0 x55 (iV 2) w fun x56=>
 BR x56
 (R (Value.bool false) w)
 (J18 [] w))
 (rB .eql 3 T0 U0 x8 (iV 7) w fun x51=>
 BR x51
 (rF 109 x2 3 w fun x53=>
 rL 107 x53 w fun x54=>
 rN 107 3 x54 w fun x55=>
 rB .neq 3 T0 U0 x55 (iV 2) w fun x56=>
 BR x56
 (R (Value.bool false) w)
 (J18 [] w))
 (rB .eql 3 T0 U0 x8 (iV 9) w fun x52=>
 BR x52
 (rF 109 x2 3 w fun x53=>
 rL 107 x53 w fun x54=>
 rN 107 3 x54 w fun x55=>
 rB .neq 3 T0 U0 x55 (iV 2) w fun x56=>
 BR x56
 (R (Value.bool false) w)
 (J18 [] w))
 (rB .eql 3 T0 U0 x8 (iV 8) w fun x58=>
 BR x58
 (rF 109 x2 3 w fun x59=>
 rL 107 x59 w fun x60=>
 rN 107 3 x60 w fun x61=>
 rB .neq 3 T0 U0 x61 (iV 1) w fun x62=>
 BR x62
 (R (Value.bool false) w)
 (J18 [] w))
 (R (Value.bool false) w)))))))))) (fun u18 w=>
 rF 109 x2 1 w fun x63=>
 rL 3 x63 w fun x64=>
 rB .neq 3 T0 U0 x64 (iV 0) w fun x65=>
 BR x65
 (R (Value.bool false) w)
 (rF 109 x2 2 w fun x67=>
 rL 9 x67 w fun x68=>
 rB .neq 9 T0 U0 x68 (Value.string (ByteArray.mk #[])) w fun x69=>
 BR x69
 (R (Value.bool false) w)
 (rB .eql 3 T0 U0 a1 (iV 0) w fun x73=>
 BR x73
 (R (Value.bool false) w)
 (rF 109 x2 3 w fun x75=>
 rL 107 x75 w fun x76=>
 rN 107 3 x76 w fun x77=>
 LOOPI [78] [(iV 0)] w fun u21 w next21=>
 rC (u21 78) x77 w fun x79=>
 BR x79
 (rX 107 x76 (u21 78) w fun x80=>
 rL 109 x80 w fun x81=>
 oP (Instr.alloc 109 true (.tuple #[])) w fun x6 w=>
 oS 109 x6 x81 w fun w=>
 rL 109 x6 w fun x82=>
 rB .sub 3 T0 U0 a1 (iV 1) w fun x84=>
 cL 223 [x82,x84] w fun x85 w=>
 rD (Op.unary .not x85) w fun x86=>
 BR x86
 (R (Value.bool false) w)
 (rA (u21 78) (iV 1) w fun x87=>
 next21 [x87] w))
 (R (Value.bool true) w)))))
def cfg223:Cfg:=⟨extL,[(18,9223372036854775696,[])],[(21,309182778366441411431104592,[78])],[],[],[],[]⟩
theorem F223_call {a0 a1:Value} {w:World} {R:VW} (h:F223 a0 a1 w R):cL 223 [a0,a1] w R:=co (g:=cfg223) Tryz.func223 (by kernel_rfl) (by kernel_rfl) (by kernel_rfl) h
theorem zhT {w:World} {v0:Value} {W0:World} {t:DTerm} {d:Int} {n:Nat} (h0:Is W0 v0 t) (e0:Ext W0 w) (hd:d=(n:Int)) (ih:∀ m,m+1=n→zqx 223 m) (hn:n≤6) :
   CALL Tryz.prog 223 [v0,.int .i64 d] w fun r w'=>Ext w w'∧(r=.bool (zbe n t)):=by
 refine F223_call ?_
 unfold F223
 refine zax za3 rfl h0 e0 fun w1_ hx1_ hA2 hV2=>?_
 refine JOIN.mk (fun us w'=>us=[]∧Ext w1_ w'∧(3≤t.kind∧t.kind≤9∧(t.kids.length:Int)=(if t.kind=8 then 1 else 2))) ?_ ?_
 · refine zaa zcb ?_
   refine zad ty3 (zbj hA2) (Ext.refl w1_) fun hI8=>?_
   refine zao ?_
   refine br (fun c1=>?_) (fun c1=>?_)
   · refine zaa zbW ?_
     refine zad ty3 (za7 hA2) (Ext.refl w1_) fun hI12=>?_
     refine zbY ?_
     refine br (fun c2=>?_) (fun c2=>?_)
     · refine zaa zbW ?_
       refine zad ty3 (za7 hA2) (Ext.refl w1_) fun hI16=>?_
       refine zdM ?_
       refine br (fun c3=>?_) (fun c3=>?_)
       · refine zaa zbL ?_
         refine zav ty9 (zaP hA2) (Ext.refl w1_) fun hS21=>?_
         refine zaH ?_
         refine br (fun c4=>?_) (fun c4=>?_)
         · refine zaa zaV ?_
           refine zab zcn (zau hA2) (Ext.refl w1_) fun v26 h26=>?_
           have hln27:=zai h26
           refine zae zdI h26 ?_
           refine zao ?_
           refine ⟨hx1_,?_⟩
           rw [zc5 c1];simp only [c2,c3,c4,and_self,decide_true,Bool.true_and]
         refine ⟨hx1_,?_⟩
         rw [zc5 c1];simp only [c4,decide_false,Bool.and_false,Bool.false_and]
       refine ⟨hx1_,?_⟩
       rw [zc5 c1];simp only [c3,and_false,decide_false,Bool.false_and]
     refine ⟨hx1_,?_⟩
     rw [zc5 c1];simp only [c2,false_and,decide_false,Bool.false_and]
   refine zao ?_
   refine br (fun c5=>?_) (fun c5=>?_)
   · refine zaa zbW ?_
     refine zad ty3 (za7 hA2) (Ext.refl w1_) fun hI33=>?_
     refine zao ?_
     refine br (fun c6=>?_) (fun c6=>?_)
     · refine zaa zbL ?_
       refine zav ty9 (zaP hA2) (Ext.refl w1_) fun hS37=>?_
       refine (ze1 ).mono ?_
       rintro _ w3_ ⟨hx3_,rfl⟩
       refine zb8 (fun c7=>?_) (fun c7=>?_)
       · refine zaa zaV ?_
         refine zab zcn (zau hA2) hx3_ fun v42 h42=>?_
         have hln43:=zai h42
         refine zae zdI h42 ?_
         refine zao ?_
         refine ⟨(hx1_.trans hx3_),?_⟩
         rw [zee c5];simp only [c6,c7,decide_true,Bool.true_and]
       refine ⟨(hx1_.trans hx3_),?_⟩
       rw [zee c5];simp only [c6,c7,decide_true,Bool.true_and,Bool.false_and]
     refine ⟨hx1_,?_⟩
     rw [zee c5];simp only [c6,decide_false,Bool.false_and]
   refine zao ?_
   refine br (fun c8=>?_) (fun c8=>?_)
   · refine zaa zaV ?_
     refine zab zcn (zau hA2) (Ext.refl w1_) fun v54 h54=>?_
     have hln55:=zai h54
     refine zae zdI h54 ?_
     refine zaI ?_
     refine br (fun c9=>?_) (fun c9=>?_)
     · refine ⟨hx1_,?_⟩
       rw [zaZ c1 c5];simp [show ¬t.kind=8 by omega,show ¬(t.kids.length:Int)=2 from c9]
     refine ⟨by simp,Ext.refl w1_,?_⟩
     split<;>omega
   refine zao ?_
   refine br (fun c10=>?_) (fun c10=>?_)
   · refine zaa zaV ?_
     refine zab zcn (zau hA2) (Ext.refl w1_) fun v54 h54=>?_
     have hln55:=zai h54
     refine zae zdI h54 ?_
     refine zaI ?_
     refine br (fun c11=>?_) (fun c11=>?_)
     · refine ⟨hx1_,?_⟩
       rw [zaZ c1 c5];simp [show ¬t.kind=8 by omega,show ¬(t.kids.length:Int)=2 from c11]
     refine ⟨by simp,Ext.refl w1_,?_⟩
     split<;>omega
   refine zao ?_
   refine br (fun c12=>?_) (fun c12=>?_)
   · refine zaa zaV ?_
     refine zab zcn (zau hA2) (Ext.refl w1_) fun v54 h54=>?_
     have hln55:=zai h54
     refine zae zdI h54 ?_
     refine zaI ?_
     refine br (fun c13=>?_) (fun c13=>?_)
     · refine ⟨hx1_,?_⟩
       rw [zaZ c1 c5];simp [show ¬t.kind=8 by omega,show ¬(t.kids.length:Int)=2 from c13]
     refine ⟨by simp,Ext.refl w1_,?_⟩
     split<;>omega
   refine zao ?_
   refine br (fun c14=>?_) (fun c14=>?_)
   · refine zaa zaV ?_
     refine zab zcn (zau hA2) (Ext.refl w1_) fun v54 h54=>?_
     have hln55:=zai h54
     refine zae zdI h54 ?_
     refine zaI ?_
     refine br (fun c15=>?_) (fun c15=>?_)
     · refine ⟨hx1_,?_⟩
       rw [zaZ c1 c5];simp [show ¬t.kind=8 by omega,show ¬(t.kids.length:Int)=2 from c15]
     refine ⟨by simp,Ext.refl w1_,?_⟩
     split<;>omega
   refine zao ?_
   refine br (fun c16=>?_) (fun c16=>?_)
   · refine zaa zaV ?_
     refine zab zcn (zau hA2) (Ext.refl w1_) fun v54 h54=>?_
     have hln55:=zai h54
     refine zae zdI h54 ?_
     refine zaI ?_
     refine br (fun c17=>?_) (fun c17=>?_)
     · refine ⟨hx1_,?_⟩
       rw [zaZ c1 c5];simp [show ¬t.kind=8 by omega,show ¬(t.kids.length:Int)=2 from c17]
     refine ⟨by simp,Ext.refl w1_,?_⟩
     split<;>omega
   refine zao ?_
   refine br (fun c18=>?_) (fun c18=>?_)
   · refine zaa zaV ?_
     refine zab zcn (zau hA2) (Ext.refl w1_) fun v54 h54=>?_
     have hln55:=zai h54
     refine zae zdI h54 ?_
     refine zaI ?_
     refine br (fun c19=>?_) (fun c19=>?_)
     · refine ⟨hx1_,?_⟩
       rw [zaZ c1 c5];simp [show ¬t.kind=8 by omega,show ¬(t.kids.length:Int)=2 from c19]
     refine ⟨by simp,Ext.refl w1_,?_⟩
     split<;>omega
   refine zao ?_
   refine br (fun c20=>?_) (fun c20=>?_)
   · refine zaa zaV ?_
     refine zab zcn (zau hA2) (Ext.refl w1_) fun v60 h60=>?_
     have hln61:=zai h60
     refine zae zdI h60 ?_
     refine zaI ?_
     refine br (fun c21=>?_) (fun c21=>?_)
     · refine ⟨hx1_,?_⟩
       rw [zaZ c1 c5];simp [c20,show ¬(t.kids.length:Int)=1 from c21]
     refine ⟨by simp,Ext.refl w1_,?_⟩
     split<;>omega
   refine ⟨hx1_,?_⟩
   rw [zaZ c1 c5];simp [show ¬(3≤t.kind∧t.kind≤9) by omega]
 rintro uj18 w2_ ⟨hu,hx3_,hk1,hk2,hk3⟩
 simp only [List.map_cons,List.map_nil,List.cons.injEq,and_true] at hu
 clear hu
 refine zaa zbW ?_
 refine zad ty3 (za7 hA2) hx3_ fun hI64=>?_
 refine zaI ?_
 refine br (fun c22=>?_) (fun c22=>?_)
 · refine ⟨(hx1_.trans hx3_),?_⟩
   rw [zaZ (by omega) (by omega)];simp [c22]
 refine zaa zbL ?_
 refine zav ty9 (zaP hA2) hx3_ fun hS68=>?_
 refine zfZ ?_
 refine br (fun c23=>?_) (fun c23=>?_)
 · refine ⟨(hx1_.trans hx3_),?_⟩
   rw [zaZ (by omega) (by omega)];simp [c23]
 refine zao ?_
 refine br (fun c24=>?_) (fun c24=>?_)
 · refine ⟨(hx1_.trans hx3_),?_⟩
   rw [zaZ (by omega) (by omega)];simp [show n=0 by omega]
 refine zaa zaV ?_
 refine zab zcn (zau hA2) hx3_ fun v76 h76=>?_
 have hln77:=zai h76
 refine zae zdI h76 ?_
 refine zaq (t.kids.length) (fun k us w'=>us=[.int .i64 (k:Int)]∧Ext w2_ w'∧((t.kids.take k).all (zbe (n-1))=true)) (0) (by omega) ⟨by simp,Ext.refl w2_,by simp⟩ ?_
 rintro k m21 uu21 w4_ hk21 ⟨hu,hx4_,hinv⟩
 simp only [List.map_cons,List.map_nil,List.cons.injEq,and_true] at hu
 try rw [hu]
 try clear hu
 refine zah ?_
 refine br (fun c25=>?_) (fun c25=>?_)
 · refine zac zdI za3 h76 (by omega) fun b80 o80 h80=>?_
   refine zab za3 h80 (hx3_.trans hx4_) fun v81 h81=>?_
   refine zct zl9 rfl za3 rfl h81 (hx3_.trans hx4_) fun w5_ hx5_ hA6 hV6=>?_
   refine zbd hV6 (Ext.refl w5_) ?_
   refine za9 (by unfold I64;omega) ?_
   refine (ih (n-1) (by omega) h81 (hx3_.trans (hx4_.trans hx5_)) (by omega)).mono ?_
   rintro _ w6_ ⟨hx6_,rfl⟩
   refine zaW ?_
   refine zb8 (fun c26=>?_) (fun c26=>?_)
   · refine ⟨(hx1_.trans (hx3_.trans (hx4_.trans (hx5_.trans hx6_)))),?_⟩
     rw [zaZ (by omega) (by omega)]
     obtain ⟨m,rfl⟩:∃ m,n=m+1:=⟨n-1,by omega⟩
     rw [Bool.not_eq_true',Nat.add_sub_cancel] at c26
     simp only [ze2 (by omega) c26,Bool.and_false]
   have hln:=zai h76
   refine zaf (by omega) ?_
   refine ⟨m21-1,by omega,k+1,by omega,by simp,(hx4_.trans (hx5_.trans hx6_)),?_⟩
   exact zfK (by omega) hinv (by simpa using c26)
 refine ⟨(hx1_.trans (hx3_.trans hx4_)),?_⟩
 rw [zaZ (by omega) (by omega)]
 obtain ⟨m,rfl⟩:∃ m,n=m+1:=⟨n-1,by omega⟩
 rw [Nat.add_sub_cancel] at hinv
 simp only [show 3≤t.kind∧t.kind≤9 from ⟨hk1,hk2⟩,Decidable.not_not.1 c22,Decidable.not_not.1 c23,hk3,zfL (by omega) hinv,and_self,decide_true,Bool.and_self]
theorem zgo:∀ (n:Nat),n≤6→zqx 223 n
 | n,hn=>by intro h e hd;exact zhT h e hd (fun m hm=>zgo m (by omega)) hn
def F184 (a0:Value) (w:World) (R:VW):Prop:=
 oP (Instr.box 109 a0) w fun x1 w=>
 rL 109 x1 w fun x3=>
 cL 223 [x3,(iV 6)] w fun x4 w=>
 R x4 w
def cfg184:Cfg:=⟨extL,[],[],[],[],[],[]⟩
theorem F184_call {a0:Value} {w:World} {R:VW} (h:F184 a0 w R):cL 184 [a0] w R:=co (g:=cfg184) Tryz.func184 (by kernel_rfl) (by kernel_rfl) (by kernel_rfl) h
theorem zdB {w:World} {v0:Value} {W0:World} {t:DTerm}  (h0:Is W0 v0 t) (e0:Ext W0 w)  :
   CALL Tryz.prog 184 [v0] w fun r w'=>Ext w w'∧(r=.bool (zbe 6 t)):=by
 refine F184_call ?_
 unfold F184
 refine zax za3 rfl h0 e0 fun w1_ hx1_ hA1 hV1=>?_
 refine zbd hV1 (Ext.refl w1_) ?_
 refine ((zgo 6 (by omega)) h0 (e0.trans hx1_) rfl).mono ?_
 rintro _ w2_ ⟨hx2_,rfl⟩
 refine ⟨(hx1_.trans hx2_),?_⟩
 rfl
def F174 (a0 a1:Value) (w:World) (R:VW):Prop:=
 oP (Instr.box 109 a0) w fun x2 w=>
 rF 109 x2 0 w fun x7=>
 rL 3 x7 w fun x8=>
 rB .eql 3 T0 U0 x8 (iV 1) w fun x10=>
 BR x10
 (rF 109 x2 1 w fun x11=>
 rL 3 x11 w fun x12=>
 cL 125 [x12,(iV 0),(iV 1000000000)] w fun x13 w=>
 BR x13
 (rF 109 x2 2 w fun x15=>
 rL 9 x15 w fun x16=>
 rB .eql 9 T0 U0 x16 (Value.string (ByteArray.mk #[])) w fun x17=>
 BR x17
 (rF 109 x2 3 w fun x20=>
 rL 107 x20 w fun x21=>
 rN 107 3 x21 w fun x22=>
 rB .eql 3 T0 U0 x22 (iV 0) w fun x23=>
 R x23 w)
 (R (Value.bool false) w))
 (R (Value.bool false) w))
 (rB .eql 3 T0 U0 x8 (iV 2) w fun x26=>
 BR x26
 (rF 109 x2 1 w fun x27=>
 rL 3 x27 w fun x28=>
 rB .eql 3 T0 U0 x28 (iV 0) w fun x29=>
 BR x29
 (rF 109 x2 2 w fun x31=>
 rL 9 x31 w fun x32=>
 cL 173 [x32] w fun x33 w=>
 BR x33
 (rF 109 x2 3 w fun x36=>
 rL 107 x36 w fun x37=>
 rN 107 3 x37 w fun x38=>
 rB .eql 3 T0 U0 x38 (iV 0) w fun x39=>
 R x39 w)
 (R (Value.bool false) w))
 (R (Value.bool false) w))
 (JOIN [5] (fun J9=>
 rF 109 x2 0 w fun x41=>
 rL 3 x41 w fun x42=>
 rB .eql 3 T0 U0 x42 (iV 8) w fun x43=>
 BR x43
 (J9 [(iV 1)] w)
 (J9 [(iV 2)] w)) (fun u9 w=>
 rF 109 x2 0 w fun x44=>
 rL 3 x44 w fun x45=>
 cL 125 [x45,(iV 3),(iV 9)] w fun x46 w=>
 rD (Op.unary .not x46) w fun x47=>
 BR x47
 (R (Value.bool false) w)
 (rF 109 x2 1 w fun x49=>
 rL 3 x49 w fun x50=>
 rB .neq 3 T0 U0 x50 (iV 0) w fun x51=>
 BR x51
 (R (Value.bool false) w)
 (rF 109 x2 2 w fun x54=>
 rL 9 x54 w fun x55=>
 rB .neq 9 T0 U0 x55 (Value.string (ByteArray.mk #[])) w fun x56=>
 BR x56
 (R (Value.bool false) w)
 (rF 109 x2 3 w fun x59=>
 rL 107 x59 w fun x60=>
 rN 107 3 x60 w fun x61=>
 rB .neq 3 T0 T0 x61 (u9 5) w fun x63=>
 BR x63
 (R (Value.bool false) w)
 (rB .eql 3 T0 U0 a1 (iV 0) w fun x67=>
 BR x67
 (R (Value.bool false) w)
 (LOOPI [6] [(iV 0)] w fun u12 w next12=>
 rF 109 x2 3 w fun x70=>
 rL 107 x70 w fun x71=>
 rN 107 3 x71 w fun x72=>
 rC (u12 6) x72 w fun x73=>
 BR x73
 (rF 109 x2 3 w fun x76=>
 rL 107 x76 w fun x77=>
 rX 107 x77 (u12 6) w fun x79=>
 rL 109 x79 w fun x80=>
 rB .sub 3 T0 U0 a1 (iV 1) w fun x82=>
 cL 174 [x80,x82] w fun x83 w=>
 rD (Op.unary .not x83) w fun x84=>
 BR x84
 (R (Value.bool false) w)
 (rA (u12 6) (iV 1) w fun x75=>
 next12 [x75] w))
 (R (Value.bool true) w)))))))))
def cfg174:Cfg:=⟨extL,[(9,15393162788896,[5])],[(12,38685035931857774884946000,[6])],[],[],[],[]⟩
theorem F174_call {a0 a1:Value} {w:World} {R:VW} (h:F174 a0 a1 w R):cL 174 [a0,a1] w R:=co (g:=cfg174) Tryz.func174 (by kernel_rfl) (by kernel_rfl) (by kernel_rfl) h
theorem zhU {w:World} {v0:Value} {W0:World} {t:DTerm} {d:Int} {n:Nat} (h0:Is W0 v0 t) (e0:Ext W0 w) (hd:d=(n:Int)) (ih:∀ m,m+1=n→zqx 174 m) (hn:n≤6) :
   CALL Tryz.prog 174 [v0,.int .i64 d] w fun r w'=>Ext w w'∧(r=.bool (zbe n t)):=by
 refine F174_call ?_
 unfold F174
 refine zax za3 rfl h0 e0 fun w1_ hx1_ hA2 hV2=>?_
 refine zaa zcb ?_
 refine zad ty3 (zbj hA2) (Ext.refl w1_) fun hI8=>?_
 refine zao ?_
 refine br (fun c1=>?_) (fun c1=>?_)
 · refine zaa zbW ?_
   refine zad ty3 (za7 hA2) (Ext.refl w1_) fun hI12=>?_
   refine (l01In_ok ).mono ?_
   rintro _ w2_ ⟨hx2_,rfl⟩
   refine br (fun c2=>?_) (fun c2=>?_)
   · refine zaa zbL ?_
     refine zav ty9 (zaP hA2) hx2_ fun hS16=>?_
     refine zaH ?_
     refine br (fun c3=>?_) (fun c3=>?_)
     · refine zaa zaV ?_
       refine zab zcn (zau hA2) hx2_ fun v21 h21=>?_
       have hln22:=zai h21
       refine zae zdI h21 ?_
       refine zao ?_
       refine ⟨(hx1_.trans hx2_),?_⟩
       rw [zc5 c1];simp only [c2,c3,and_self,decide_true,Bool.true_and]
     refine ⟨(hx1_.trans hx2_),?_⟩
     rw [zc5 c1];simp only [c3,decide_false,Bool.and_false,Bool.false_and]
   refine ⟨(hx1_.trans hx2_),?_⟩
   rw [zc5 c1];simp only [c2,decide_false,Bool.false_and]
 refine zao ?_
 refine br (fun c4=>?_) (fun c4=>?_)
 · refine zaa zbW ?_
   refine zad ty3 (za7 hA2) (Ext.refl w1_) fun hI28=>?_
   refine zao ?_
   refine br (fun c5=>?_) (fun c5=>?_)
   · refine zaa zbL ?_
     refine zav ty9 (zaP hA2) (Ext.refl w1_) fun hS32=>?_
     refine (ze0 ).mono ?_
     rintro _ w3_ ⟨hx3_,rfl⟩
     refine zb8 (fun c6=>?_) (fun c6=>?_)
     · refine zaa zaV ?_
       refine zab zcn (zau hA2) hx3_ fun v37 h37=>?_
       have hln38:=zai h37
       refine zae zdI h37 ?_
       refine zao ?_
       refine ⟨(hx1_.trans hx3_),?_⟩
       rw [zee c4];simp only [c5,c6,decide_true,Bool.true_and]
     refine ⟨(hx1_.trans hx3_),?_⟩
     rw [zee c4];simp only [c5,c6,decide_true,Bool.true_and,Bool.false_and]
   refine ⟨hx1_,?_⟩
   rw [zee c4];simp only [c5,decide_false,Bool.false_and]
 refine JOIN.mk (fun us w'=>us=[.int .i64 (if t.kind=8 then 1 else 2)]∧Ext w1_ w'∧(True)) ?_ ?_
 · refine zaa zcb ?_
   refine zad ty3 (zbj hA2) (Ext.refl w1_) fun hI42=>?_
   refine zao ?_
   refine br (fun c7=>?_) (fun c7=>?_)
   · refine ⟨by rw [if_pos c7],Ext.refl w1_,?_⟩
     trivial
   refine ⟨by rw [if_neg c7],Ext.refl w1_,?_⟩
   trivial
 rintro uj9 w4_ ⟨hu,hx4_,hinv⟩
 simp only [List.map_cons,List.map_nil,List.cons.injEq,and_true] at hu
 try rw [hu]
 try clear hu
 refine zaa zcb ?_
 refine zad ty3 (zbj hA2) hx4_ fun hI45=>?_
 refine (l01In_ok ).mono ?_
 rintro _ w5_ ⟨hx5_,rfl⟩
 refine zar ?_
 refine br (fun c8=>?_) (fun c8=>?_)
 · refine ⟨(hx1_.trans (hx4_.trans hx5_)),?_⟩
   rw [zaZ c1 c4];simp only [c8,decide_false,Bool.false_and]
 refine zaa zbW ?_
 refine zad ty3 (za7 hA2) (hx4_.trans hx5_) fun hI50=>?_
 refine zaI ?_
 refine br (fun c9=>?_) (fun c9=>?_)
 · refine ⟨(hx1_.trans (hx4_.trans hx5_)),?_⟩
   rw [zaZ c1 c4];simp only [show ¬t.num=0 from c9,decide_false,Bool.false_and,Bool.and_false]
 refine zaa zbL ?_
 refine zav ty9 (zaP hA2) (hx4_.trans hx5_) fun hS55=>?_
 refine zfZ ?_
 refine br (fun c10=>?_) (fun c10=>?_)
 · refine ⟨(hx1_.trans (hx4_.trans hx5_)),?_⟩
   rw [zaZ c1 c4];simp only [show ¬t.name=_ from c10,decide_false,Bool.false_and,Bool.and_false]
 refine zaa zaV ?_
 refine zab zcn (zau hA2) (hx4_.trans hx5_) fun v60 h60=>?_
 have hln61:=zai h60
 refine zae zdI h60 ?_
 refine zaI ?_
 refine br (fun c11=>?_) (fun c11=>?_)
 · refine ⟨(hx1_.trans (hx4_.trans hx5_)),?_⟩
   rw [zaZ c1 c4];simp only [show ¬(t.kids.length:Int)=_ from c11,decide_false,Bool.false_and,Bool.and_false]
 refine zao ?_
 refine br (fun c12=>?_) (fun c12=>?_)
 · refine ⟨(hx1_.trans (hx4_.trans hx5_)),?_⟩
   rw [zaZ c1 c4];simp [show n=0 by omega]
 refine zaq (t.kids.length) (fun k us w'=>us=[.int .i64 (k:Int)]∧Ext w5_ w'∧((t.kids.take k).all (zbe (n-1))=true)) (0) (by omega) ⟨by simp,Ext.refl w5_,by simp⟩ ?_
 rintro k m12 uu12 w6_ hk12 ⟨hu,hx6_,hinv⟩
 simp only [List.map_cons,List.map_nil,List.cons.injEq,and_true] at hu
 try rw [hu]
 try clear hu
 refine zaa zaV ?_
 refine zab zcn (zau hA2) (hx4_.trans (hx5_.trans hx6_)) fun v71 h71=>?_
 have hln72:=zai h71
 refine zae zdI h71 ?_
 refine zah ?_
 refine br (fun c13=>?_) (fun c13=>?_)
 · refine zaa zaV ?_
   refine zab zcn (zau hA2) (hx4_.trans (hx5_.trans hx6_)) fun v77 h77=>?_
   refine zac zdI za3 h77 (by omega) fun b79 o79 h79=>?_
   refine zab za3 h79 (hx4_.trans (hx5_.trans hx6_)) fun v80 h80=>?_
   refine za9 (by unfold I64;omega) ?_
   refine (ih (n-1) (by omega) h80 (hx4_.trans (hx5_.trans hx6_)) (by omega)).mono ?_
   rintro _ w7_ ⟨hx7_,rfl⟩
   refine zaW ?_
   refine zb8 (fun c14=>?_) (fun c14=>?_)
   · refine ⟨(hx1_.trans (hx4_.trans (hx5_.trans (hx6_.trans hx7_)))),?_⟩
     rw [zaZ c1 c4]
     obtain ⟨m,rfl⟩:∃ m,n=m+1:=⟨n-1,by omega⟩
     rw [Bool.not_eq_true',Nat.add_sub_cancel] at c14
     simp only [ze2 (by omega) c14,Bool.and_false]
   have hln:=zai h71
   refine zaf (by omega) ?_
   refine ⟨m12-1,by omega,k+1,by omega,by simp,(hx6_.trans hx7_),?_⟩
   exact zfK (by omega) hinv (by simpa using c14)
 refine ⟨(hx1_.trans (hx4_.trans (hx5_.trans hx6_))),?_⟩
 rw [zaZ c1 c4]
 obtain ⟨m,rfl⟩:∃ m,n=m+1:=⟨n-1,by omega⟩
 rw [Nat.add_sub_cancel] at hinv
 simp only [Decidable.not_not.1 c8,Decidable.not_not.1 c9,Decidable.not_not.1 c10,Decidable.not_not.1 c11,zfL (by omega) hinv,and_self,decide_true,Bool.and_self]
theorem zgp:∀ (n:Nat),n≤6→zqx 174 n
 | n,hn=>by intro h e hd;exact zhU h e hd (fun m hm=>zgp m (by omega)) hn
def F126 (a0:Value) (w:World) (R:VW):Prop:=
 oP (Instr.box 109 a0) w fun x1 w=>
 rL 109 x1 w fun x3=>
 cL 174 [x3,(iV 6)] w fun x4 w=>
 R x4 w
def cfg126:Cfg:=⟨extL,[],[],[],[],[],[]⟩
theorem F126_call {a0:Value} {w:World} {R:VW} (h:F126 a0 w R):cL 126 [a0] w R:=co (g:=cfg126) Tryz.func126 (by kernel_rfl) (by kernel_rfl) (by kernel_rfl) h
theorem zdC {w:World} {v0:Value} {W0:World} {t:DTerm}  (h0:Is W0 v0 t) (e0:Ext W0 w)  :
   CALL Tryz.prog 126 [v0] w fun r w'=>Ext w w'∧(r=.bool (zbe 6 t)):=by
 refine F126_call ?_
 unfold F126
 refine zax za3 rfl h0 e0 fun w1_ hx1_ hA1 hV1=>?_
 refine zbd hV1 (Ext.refl w1_) ?_
 refine ((zgp 6 (by omega)) h0 (e0.trans hx1_) rfl).mono ?_
 rintro _ w2_ ⟨hx2_,rfl⟩
 refine ⟨(hx1_.trans hx2_),?_⟩
 rfl
def term0:DTerm:=.mk 0 0 (ByteArray.mk #[]) []
def F185 (a0:Value) (w:World) (R:VW):Prop:=
 oP (Instr.box 109 a0) w fun x1 w=>
 rF 109 x1 0 w fun x3=>
 rL 3 x3 w fun x4=>
 rB .eql 3 T0 U0 x4 (iV 0) w fun x5=>
 BR x5
 (rF 109 x1 1 w fun x7=>
 rL 3 x7 w fun x8=>
 rB .eql 3 T0 U0 x8 (iV 0) w fun x9=>
 BR x9
 (rF 109 x1 2 w fun x12=>
 rL 9 x12 w fun x13=>
 rB .eql 9 T0 U0 x13 (Value.string (ByteArray.mk #[])) w fun x14=>
 BR x14
 (rF 109 x1 3 w fun x17=>
 rL 107 x17 w fun x18=>
 rN 107 3 x18 w fun x19=>
 rB .eql 3 T0 U0 x19 (iV 0) w fun x20=>
 R x20 w)
 (R (Value.bool false) w))
 (R (Value.bool false) w))
 (R (Value.bool false) w)
def cfg185:Cfg:=⟨extL,[],[],[],[],[],[]⟩
theorem F185_call {a0:Value} {w:World} {R:VW} (h:F185 a0 w R):cL 185 [a0] w R:=co (g:=cfg185) Tryz.func185 (by kernel_rfl) (by kernel_rfl) (by kernel_rfl) h
theorem zhV {w:World} {v0:Value} {W0:World} {t:DTerm}  (h0:Is W0 v0 t) (e0:Ext W0 w)  :
   CALL Tryz.prog 185 [v0] w fun r w'=>Ext w w'∧(r=.bool (decide (t=term0))):=by
 refine F185_call ?_
 unfold F185
 refine zax za3 rfl h0 e0 fun w1_ hx1_ hA1 hV1=>?_
 refine zaa zcb ?_
 refine zad ty3 (zbj hA1) (Ext.refl w1_) fun hI4=>?_
 refine zao ?_
 refine br (fun c1=>?_) (fun c1=>?_)
 · refine zaa zbW ?_
   refine zad ty3 (za7 hA1) (Ext.refl w1_) fun hI8=>?_
   refine zao ?_
   refine br (fun c2=>?_) (fun c2=>?_)
   · refine zaa zbL ?_
     refine zav ty9 (zaP hA1) (Ext.refl w1_) fun hS13=>?_
     refine zaH ?_
     refine br (fun c3=>?_) (fun c3=>?_)
     · refine zaa zaV ?_
       refine zab zcn (zau hA1) (Ext.refl w1_) fun v18 h18=>?_
       have hln19:=zai h18
       refine zae zdI h18 ?_
       refine zao ?_
       refine ⟨hx1_,?_⟩
       congr 1
       rw [decide_eq_decide,DTerm.ext_iff]
       exact ⟨fun h=>⟨c1,c2,c3,List.eq_nil_of_length_eq_zero (by omega)⟩,fun h=>by rw [h.2.2.2];rfl⟩
     refine ⟨hx1_,?_⟩
     have:t≠term0:=fun e=>c3 (by rw [e];rfl)
     simp [this]
   refine ⟨hx1_,?_⟩
   have:t≠term0:=fun e=>c2 (by rw [e];rfl)
   simp [this]
 refine ⟨hx1_,?_⟩
 have:t≠term0:=fun e=>c1 (by rw [e];rfl)
 simp [this]
def F128 (a0 a1:Value) (w:World) (R:VW):Prop:=
 oP (Instr.box 109 a0) w fun x2 w=>
 oP (Instr.box 109 a1) w fun x3 w=>
 rF 109 x2 0 w fun x6=>
 rL 3 x6 w fun x7=>
 rF 109 x3 0 w fun x8=>
 rL 3 x8 w fun x9=>
 rB .neq 3 T0 T0 x7 x9 w fun x10=>
 BR x10
 (R (Value.bool false) w)
 (rF 109 x2 1 w fun x12=>
 rL 3 x12 w fun x13=>
 rF 109 x3 1 w fun x14=>
 rL 3 x14 w fun x15=>
 rB .neq 3 T0 T0 x13 x15 w fun x16=>
 BR x16
 (R (Value.bool false) w)
 (rF 109 x2 2 w fun x19=>
 rL 9 x19 w fun x20=>
 rF 109 x3 2 w fun x21=>
 rL 9 x21 w fun x22=>
 rB .neq 9 T0 T0 x20 x22 w fun x23=>
 BR x23
 (R (Value.bool false) w)
 (rF 109 x2 3 w fun x26=>
 rL 107 x26 w fun x27=>
 rN 107 3 x27 w fun x28=>
 rF 109 x3 3 w fun x29=>
 rL 107 x29 w fun x30=>
 rN 107 3 x30 w fun x31=>
 rB .neq 3 T0 T0 x28 x31 w fun x32=>
 BR x32
 (R (Value.bool false) w)
 (LOOPI [5] [(iV 0)] w fun u4 w next4=>
 rF 109 x2 3 w fun x35=>
 rL 107 x35 w fun x36=>
 rN 107 3 x36 w fun x37=>
 rC (u4 5) x37 w fun x38=>
 BR x38
 ((fun w=>rF 109 x2 3 w fun x41=>
 rL 107 x41 w fun x42=>
 rX 107 x42 (u4 5) w fun x44=>
 rL 109 x44 w fun x45=>
 rF 109 x3 3 w fun x46=>
 rL 107 x46 w fun x47=>
 rX 107 x47 (u4 5) w fun x49=>
 rL 109 x49 w fun x50=>
 cL 128 [x45,x50] w fun x51 w=>
 rD (Op.unary .not x51) w fun x52=>
 BR x52
 (R (Value.bool false) w)
 (rA (u4 5) (iV 1) w fun x40=>
 next4 [x40] w)) (World.drew1 w))
 (R (Value.bool true) w)))))
def cfg128:Cfg:=⟨extL,[],[(4,9007182074871856,[5])],[(6,[0,1,2,3,4,5,6,7,8,9,10,11],0)],[],[],[]⟩
theorem F128_call {a0 a1:Value} {w:World} {R:VW} (h:F128 a0 a1 w R):cL 128 [a0,a1] w R:=co (g:=cfg128) Tryz.func128 (by kernel_rfl) (by kernel_rfl) (by kernel_rfl) h
theorem ziY {w:World} {v0:Value} {W0:World} {t:DTerm} {v1:Value} {W1:World} {t2:DTerm}  (h0:Is W0 v0 t) (e0:Ext W0 w) (h1:Is W1 v1 t2) (e1:Ext W1 w) (ht:t2=term0) :
   CALL Tryz.prog 128 [v0,v1] w fun r w'=>Ext w w'∧(r=.bool (decide (t=term0))):=by
 refine F128_call ?_
 unfold F128
 subst ht
 refine zax za3 rfl h0 e0 fun w1_ hx1_ hA2 hV2=>?_
 refine zax za3 rfl h1 (e1.trans hx1_) fun w2_ hx2_ hA3 hV3=>?_
 refine zaa zcb ?_
 refine zad ty3 (zbj hA2) hx2_ fun hI7=>?_
 refine zaa zcb ?_
 refine zad ty3 (zbj hA3) (Ext.refl w2_) fun hI9=>?_
 refine zaI ?_
 refine br (fun c1=>?_) (fun c1=>?_)
 · refine ⟨(hx1_.trans hx2_),?_⟩
   have:t≠term0:=fun e=>c1 (by rw [e])
   simp [this]
 refine zaa zbW ?_
 refine zad ty3 (za7 hA2) hx2_ fun hI13=>?_
 refine zaa zbW ?_
 refine zad ty3 (za7 hA3) (Ext.refl w2_) fun hI15=>?_
 refine zaI ?_
 refine br (fun c2=>?_) (fun c2=>?_)
 · refine ⟨(hx1_.trans hx2_),?_⟩
   have:t≠term0:=fun e=>c2 (by rw [e])
   simp [this]
 refine zaa zbL ?_
 refine zav ty9 (zaP hA2) hx2_ fun hS20=>?_
 refine zaa zbL ?_
 refine zav ty9 (zaP hA3) (Ext.refl w2_) fun hS22=>?_
 refine zfZ ?_
 refine br (fun c3=>?_) (fun c3=>?_)
 · refine ⟨(hx1_.trans hx2_),?_⟩
   have:t≠term0:=fun e=>c3 (by rw [e])
   simp [this]
 refine zaa zaV ?_
 refine zab zcn (zau hA2) hx2_ fun v27 h27=>?_
 have hln28:=zai h27
 refine zae zdI h27 ?_
 refine zaa zaV ?_
 refine zab zcn (zau hA3) (Ext.refl w2_) fun v30 h30=>?_
 have hln31:=zai h30
 refine zae zdI h30 ?_
 refine zaI ?_
 refine br (fun c4=>?_) (fun c4=>?_)
 · refine ⟨(hx1_.trans hx2_),?_⟩
   have:t≠term0:=fun e=>c4 (by rw [e])
   simp [this]
 refine zaq (0) (fun k us w'=>us=[.int .i64 (k:Int)]∧Ext w2_ w'∧(True)) (0) (by omega) ⟨by simp,Ext.refl w2_,trivial⟩ ?_
 rintro k m4 uu4 w3_ hk4 ⟨hu,hx3_,hinv⟩
 simp only [List.map_cons,List.map_nil,List.cons.injEq,and_true] at hu
 try rw [hu]
 try clear hu
 refine zaa zaV ?_
 refine zab zcn (zau hA2) (hx2_.trans hx3_) fun v36 h36=>?_
 have hln37:=zai h36
 refine zae zdI h36 ?_
 refine zah ?_
 refine br (fun c5=>?_) (fun c5=>?_)
 · have hx4_:=zan w3_
   exact absurd c5 (by have:(term0.kids.length:Int)=0:=rfl;omega)
 refine ⟨(hx1_.trans (hx2_.trans hx3_)),?_⟩
 have:t=term0:=DTerm.ext_iff.2 ⟨Decidable.not_not.1 c1,Decidable.not_not.1 c2,Decidable.not_not.1 c3,List.eq_nil_of_length_eq_zero (by have:(term0.kids.length:Int)=0:=rfl;omega)⟩
 simp [this]
def plc (s:ByteArray):List ByteArray→Int
 | []=>-1
 | x :: l=>if x=s then 0 else if plc s l<0 then -1 else plc s l+1
theorem zkR {s:ByteArray} {l:List ByteArray} (h:s∉l):plc s l=-1:=by
 induction l with
 | nil=>rfl
 | cons x l ih=>
   simp only [List.mem_cons,not_or] at h
   rw [plc,if_neg (fun e=>h.1 e.symm),ih h.2];rfl
theorem zmw {s:ByteArray}:∀ {l:List ByteArray} {k:Nat} (hk:k<l.length),s∉l.take k→l[k]=s→plc s l=k
 | x :: l,0,_,_,h=>by simp only [List.getElem_cons_zero] at h;rw [plc,if_pos h];rfl
 | x :: l,k+1,hk,hn,h=>by
   simp only [List.take_succ_cons,List.mem_cons,not_or] at hn
   have ih:=zmw (by simpa using hk) hn.2 (by simpa using h)
   rw [plc,if_neg (fun e=>hn.1 e.symm),ih,if_neg (by omega)]
   omega
theorem zqj {s:ByteArray} {l:List ByteArray}:-1≤plc s l∧plc s l<l.length:=by
 induction l with
 | nil=>simp [plc]
 | cons x l ih=>
   rw [plc]
   split
   · simp only [List.length_cons];omega
   split<;>simp only [List.length_cons]<;>omega
theorem zdW {s:ByteArray} {l:List ByteArray}:0≤plc s l↔s∈l:=by
 induction l with
 | nil=>simp [plc]
 | cons x l ih=>
   rw [plc]
   split
   · rename_i h;simp [h]
   rename_i h
   rw [List.mem_cons,←ih]
   have:¬s=x:=fun e=>h e.symm
   simp only [this,false_or]
   split<;>omega
theorem zcp {l:List ByteArray} {k:Nat} {y:ByteArray} (hk:k<l.length) (h:y∉l.take k) (c:¬l[k]=y):y∉l.take (k+1):=by
 rw [List.take_succ_eq_append_getElem hk]
 simp only [List.mem_append,List.mem_cons,List.not_mem_nil,or_false,not_or]
 exact ⟨h,fun e=>c e.symm⟩
def F123 (a0 a1:Value) (w:World) (R:VW):Prop:=
 LOOPI [5] [(iV 0)] w fun u2 w next2=>
 rN 22 3 a0 w fun x8=>
 rC (u2 5) x8 w fun x9=>
 BR x9
 (rX 22 a0 (u2 5) w fun x14=>
 rL 9 x14 w fun x15=>
 rB .eql 9 T0 T0 x15 a1 w fun x17=>
 BR x17
 (R (u2 5) w)
 (rA (u2 5) (iV 1) w fun x11=>
 next2 [x11] w))
 (R (iV (-1)) w)
def cfg123:Cfg:=⟨extL,[],[(2,524272,[5])],[],[],[],[]⟩
theorem F123_call {a0 a1:Value} {w:World} {R:VW} (h:F123 a0 a1 w R):cL 123 [a0,a1] w R:=co (g:=cfg123) Tryz.func123 (by kernel_rfl) (by kernel_rfl) (by kernel_rfl) h
theorem zcq {w:World} {v0:Value} {W0:World} {l:(List ByteArray)} {s:ByteArray}  (h0:Is W0 v0 l) (e0:Ext W0 w)  :
   CALL Tryz.prog 123 [v0,.string s] w fun r w'=>Ext w w'∧(r=.int .i64 (plc s l)):=by
 refine F123_call ?_
 unfold F123
 refine zaq (l.length) (fun k us w'=>us=[.int .i64 (k:Int)]∧Ext w w'∧(s∉l.take k)) (0) (by omega) ⟨by simp,Ext.refl w,by simp⟩ ?_
 rintro k m2 uu2 w1_ hk2 ⟨hu,hx1_,hinv⟩
 simp only [List.map_cons,List.map_nil,List.cons.injEq,and_true] at hu
 try rw [hu]
 try clear hu
 have hln8:=zai h0
 refine zae u22 h0 ?_
 refine zah ?_
 refine br (fun c1=>?_) (fun c1=>?_)
 · refine zac u22 ty9 h0 (by omega) fun b14 o14 h14=>?_
   refine zav ty9 h14 (e0.trans hx1_) fun hS15=>?_
   refine zaH ?_
   refine br (fun c2=>?_) (fun c2=>?_)
   · refine ⟨hx1_,?_⟩
     rw [zmw (by omega) hinv c2]
   refine zaf (by omega) ?_
   refine ⟨m2-1,by omega,k+1,by omega,by simp,hx1_,?_⟩
   exact zcp (by omega) hinv c2
 refine ⟨hx1_,?_⟩
 rw [List.take_of_length_le (by omega)] at hinv
 rw [zkR hinv]
def F186 (a0 a1:Value) (w:World) (R:VW):Prop:=
 rN 22 3 a0 w fun x7=>
 LOOPI [8] [(iV 0)] w fun u2 w next2=>
 rC (u2 8) x7 w fun x9=>
 BR x9
 (rX 22 a0 (u2 8) w fun x14=>
 rL 9 x14 w fun x15=>
 rB .eql 9 T0 T0 a1 x15 w fun x16=>
 BR x16
 (R (u2 8) w)
 (rA (u2 8) (iV 1) w fun x18=>
 next2 [x18] w))
 (R (iV (-1)) w)
def cfg186:Cfg:=⟨extL,[],[(2,524080,[8])],[],[],[],[]⟩
theorem F186_call {a0 a1:Value} {w:World} {R:VW} (h:F186 a0 a1 w R):cL 186 [a0,a1] w R:=co (g:=cfg186) Tryz.func186 (by kernel_rfl) (by kernel_rfl) (by kernel_rfl) h
theorem zgq {w:World} {v0:Value} {W0:World} {l:(List ByteArray)} {s:ByteArray}  (h0:Is W0 v0 l) (e0:Ext W0 w)  :
   CALL Tryz.prog 186 [v0,.string s] w fun r w'=>Ext w w'∧(r=.int .i64 (plc s l)):=by
 refine F186_call ?_
 unfold F186
 have hln7:=zai h0
 refine zae u22 h0 ?_
 refine zaq (l.length) (fun k us w'=>us=[.int .i64 (k:Int)]∧Ext w w'∧(s∉l.take k)) (0) (by omega) ⟨by simp,Ext.refl w,by simp⟩ ?_
 rintro k m2 uu2 w1_ hk2 ⟨hu,hx1_,hinv⟩
 simp only [List.map_cons,List.map_nil,List.cons.injEq,and_true] at hu
 try rw [hu]
 try clear hu
 refine zah ?_
 refine br (fun c1=>?_) (fun c1=>?_)
 · refine zac u22 ty9 h0 (by omega) fun b14 o14 h14=>?_
   refine zav ty9 h14 (e0.trans hx1_) fun hS15=>?_
   refine zaH ?_
   refine br (fun c2=>?_) (fun c2=>?_)
   · refine ⟨hx1_,?_⟩
     rw [zmw (by omega) hinv c2.symm]
   refine zaf (by omega) ?_
   refine ⟨m2-1,by omega,k+1,by omega,by simp,hx1_,?_⟩
   exact zcp (by omega) hinv (fun e=>c2 e.symm)
 refine ⟨hx1_,?_⟩
 rw [List.take_of_length_le (by omega)] at hinv
 rw [zkR hinv]
def F169 (a0 a1:Value) (w:World) (R:VW):Prop:=
 cL 186 [a0,a1] w fun x7 w=>
 rB .geq 3 T0 U0 x7 (iV 0) w fun x8=>
 R x8 w
def cfg169:Cfg:=⟨extL,[],[],[],[],[],[]⟩
theorem F169_call {a0 a1:Value} {w:World} {R:VW} (h:F169 a0 a1 w R):cL 169 [a0,a1] w R:=co (g:=cfg169) Tryz.func169 (by kernel_rfl) (by kernel_rfl) (by kernel_rfl) h
theorem zbT {w:World} {v0:Value} {W0:World} {l:(List ByteArray)} {s:ByteArray}  (h0:Is W0 v0 l) (e0:Ext W0 w)  :
   CALL Tryz.prog 169 [v0,.string s] w fun r w'=>Ext w w'∧(r=.bool (decide (s∈l))):=by
 refine F169_call ?_
 unfold F169
 refine (zgq h0 e0).mono ?_
 rintro _ w1_ ⟨hx1_,rfl⟩
 refine zbY ?_
 refine ⟨hx1_,?_⟩
 simp [zdW]
def F155 (a0 a1:Value) (w:World) (R:VW):Prop:=
 LOOPI [5] [(iV 0)] w fun u2 w next2=>
 rN 22 3 a0 w fun x8=>
 rC (u2 5) x8 w fun x9=>
 BR x9
 (rX 22 a0 (u2 5) w fun x14=>
 rL 9 x14 w fun x15=>
 rB .eql 9 T0 T0 x15 a1 w fun x17=>
 BR x17
 (R (Value.bool true) w)
 (rA (u2 5) (iV 1) w fun x11=>
 next2 [x11] w))
 (R (Value.bool false) w)
def cfg155:Cfg:=⟨extL,[],[(2,262128,[5])],[],[],[],[]⟩
theorem F155_call {a0 a1:Value} {w:World} {R:VW} (h:F155 a0 a1 w R):cL 155 [a0,a1] w R:=co (g:=cfg155) Tryz.func155 (by kernel_rfl) (by kernel_rfl) (by kernel_rfl) h
theorem zmx {w:World} {v0:Value} {W0:World} {l:(List ByteArray)} {s:ByteArray}  (h0:Is W0 v0 l) (e0:Ext W0 w)  :
   CALL Tryz.prog 155 [v0,.string s] w fun r w'=>Ext w w'∧(r=.bool (decide (s∈l))):=by
 refine F155_call ?_
 unfold F155
 refine zaq (l.length) (fun k us w'=>us=[.int .i64 (k:Int)]∧Ext w w'∧(s∉l.take k)) (0) (by omega) ⟨by simp,Ext.refl w,by simp⟩ ?_
 rintro k m2 uu2 w1_ hk2 ⟨hu,hx1_,hinv⟩
 simp only [List.map_cons,List.map_nil,List.cons.injEq,and_true] at hu
 try rw [hu]
 try clear hu
 have hln8:=zai h0
 refine zae u22 h0 ?_
 refine zah ?_
 refine br (fun c1=>?_) (fun c1=>?_)
 · refine zac u22 ty9 h0 (by omega) fun b14 o14 h14=>?_
   refine zav ty9 h14 (e0.trans hx1_) fun hS15=>?_
   refine zaH ?_
   refine br (fun c2=>?_) (fun c2=>?_)
   · refine ⟨hx1_,?_⟩
     have:s∈l:=c2▸List.getElem_mem _
     simp [this]
   refine zaf (by omega) ?_
   refine ⟨m2-1,by omega,k+1,by omega,by simp,hx1_,?_⟩
   exact zcp (by omega) hinv c2
 refine ⟨hx1_,?_⟩
 rw [List.take_of_length_le (by omega)] at hinv
 simp [hinv]
def F181 (a0 a1:Value) (w:World) (R:VW):Prop:=
 rN 22 3 a0 w fun x8=>
 rB .gtr 3 T0 T0 x8 a1 w fun x10=>
 BR x10
 (R (Value.bool false) w)
 (rN 22 3 a0 w fun x12=>
 LOOPI [13] [(iV 0)] w fun u4 w next4=>
 rC (u4 13) x12 w fun x14=>
 BR x14
 (rX 22 a0 (u4 13) w fun x15=>
 rL 9 x15 w fun x16=>
 cL 222 [x16] w fun x18 w=>
 rD (Op.unary .not x18) w fun x19=>
 BR x19
 (R (Value.bool false) w)
 (rA (u4 13) (iV 1) w fun x20=>
 next4 [x20] w))
 (R (Value.bool true) w))
def cfg181:Cfg:=⟨extL,[],[(4,2089040,[13])],[],[],[],[]⟩
theorem F181_call {a0 a1:Value} {w:World} {R:VW} (h:F181 a0 a1 w R):cL 181 [a0,a1] w R:=co (g:=cfg181) Tryz.func181 (by kernel_rfl) (by kernel_rfl) (by kernel_rfl) h
theorem zeA {w:World} {v0:Value} {W0:World} {l:(List ByteArray)} {m:Int}  (h0:Is W0 v0 l) (e0:Ext W0 w)  :
   CALL Tryz.prog 181 [v0,.int .i64 m] w fun r w'=>Ext w w'∧(r=.bool (decide ((l.length:Int)≤m)&&l.all zbb)):=by
 refine F181_call ?_
 unfold F181
 have hln8:=zai h0
 refine zae u22 h0 ?_
 refine zb9 ?_
 refine br (fun c1=>?_) (fun c1=>?_)
 · refine ⟨Ext.refl w,?_⟩
   simp [show ¬(l.length:Int)≤m by omega]
 have hln12:=zai h0
 refine zae u22 h0 ?_
 refine zaq (l.length) (fun k us w'=>us=[.int .i64 (k:Int)]∧Ext w w'∧((l.take k).all zbb=true)) (0) (by omega) ⟨by simp,Ext.refl w,by simp⟩ ?_
 rintro k m4 uu4 w1_ hk4 ⟨hu,hx1_,hinv⟩
 simp only [List.map_cons,List.map_nil,List.cons.injEq,and_true] at hu
 try rw [hu]
 try clear hu
 refine zah ?_
 refine br (fun c2=>?_) (fun c2=>?_)
 · refine zac u22 ty9 h0 (by omega) fun b15 o15 h15=>?_
   refine zav ty9 h15 (e0.trans hx1_) fun hS16=>?_
   refine (ze1 ).mono ?_
   rintro _ w2_ ⟨hx2_,rfl⟩
   refine zaW ?_
   refine zb8 (fun c3=>?_) (fun c3=>?_)
   · refine ⟨(hx1_.trans hx2_),?_⟩
     simp only [ze2 (p:=zbb) (l:=l) (k:=k) (by omega) (by simpa using c3),Bool.and_false]
   have hln:=zai h0
   refine zaf (by omega) ?_
   refine ⟨m4-1,by omega,k+1,by omega,by simp,(hx1_.trans hx2_),?_⟩
   exact zfK (by omega) hinv (by simpa using c3)
 refine ⟨hx1_,?_⟩
 simp [zfL (p:=zbb) (l:=l) (by omega) hinv,show (l.length:Int)≤m by omega]
def F121 (a0 a1:Value) (w:World) (R:VW):Prop:=
 rN 22 3 a0 w fun x7=>
 rB .gtr 3 T0 T0 x7 a1 w fun x9=>
 BR x9
 (R (Value.bool false) w)
 (LOOPI [5] [(iV 0)] w fun u4 w next4=>
 rN 22 3 a0 w fun x12=>
 rC (u4 5) x12 w fun x13=>
 BR x13
 (rX 22 a0 (u4 5) w fun x18=>
 rL 9 x18 w fun x19=>
 cL 173 [x19] w fun x20 w=>
 rD (Op.unary .not x20) w fun x21=>
 BR x21
 (R (Value.bool false) w)
 (rA (u4 5) (iV 1) w fun x15=>
 next4 [x15] w))
 (R (Value.bool true) w))
def cfg121:Cfg:=⟨extL,[],[(4,4193328,[5])],[],[],[],[]⟩
theorem F121_call {a0 a1:Value} {w:World} {R:VW} (h:F121 a0 a1 w R):cL 121 [a0,a1] w R:=co (g:=cfg121) Tryz.func121 (by kernel_rfl) (by kernel_rfl) (by kernel_rfl) h
theorem zeB {w:World} {v0:Value} {W0:World} {l:(List ByteArray)} {m:Int}  (h0:Is W0 v0 l) (e0:Ext W0 w)  :
   CALL Tryz.prog 121 [v0,.int .i64 m] w fun r w'=>Ext w w'∧(r=.bool (decide ((l.length:Int)≤m)&&l.all zbb)):=by
 refine F121_call ?_
 unfold F121
 have hln7:=zai h0
 refine zae u22 h0 ?_
 refine zb9 ?_
 refine br (fun c1=>?_) (fun c1=>?_)
 · refine ⟨Ext.refl w,?_⟩
   simp [show ¬(l.length:Int)≤m by omega]
 refine zaq (l.length) (fun k us w'=>us=[.int .i64 (k:Int)]∧Ext w w'∧((l.take k).all zbb=true)) (0) (by omega) ⟨by simp,Ext.refl w,by simp⟩ ?_
 rintro k m4 uu4 w1_ hk4 ⟨hu,hx1_,hinv⟩
 simp only [List.map_cons,List.map_nil,List.cons.injEq,and_true] at hu
 try rw [hu]
 try clear hu
 have hln12:=zai h0
 refine zae u22 h0 ?_
 refine zah ?_
 refine br (fun c2=>?_) (fun c2=>?_)
 · refine zac u22 ty9 h0 (by omega) fun b18 o18 h18=>?_
   refine zav ty9 h18 (e0.trans hx1_) fun hS19=>?_
   refine (ze0 ).mono ?_
   rintro _ w2_ ⟨hx2_,rfl⟩
   refine zaW ?_
   refine zb8 (fun c3=>?_) (fun c3=>?_)
   · refine ⟨(hx1_.trans hx2_),?_⟩
     simp only [ze2 (p:=zbb) (l:=l) (k:=k) (by omega) (by simpa using c3),Bool.and_false]
   refine zaf (by omega) ?_
   refine ⟨m4-1,by omega,k+1,by omega,by simp,(hx1_.trans hx2_),?_⟩
   exact zfK (by omega) hinv (by simpa using c3)
 refine ⟨hx1_,?_⟩
 simp [zfL (p:=zbb) (l:=l) (by omega) hinv,show (l.length:Int)≤m by omega]
instance decNodup:∀ (l:List ByteArray),Decidable l.Nodup
 | []=>isTrue List.nodup_nil
 | x :: l=>match decMemBA x l,decNodup l with
   | isFalse h,isTrue h'=>isTrue (List.nodup_cons.2 ⟨h,h'⟩)
   | isTrue h,_=>isFalse fun e=>(List.nodup_cons.1 e).1 h
   | _,isFalse h=>isFalse fun e=>h (List.nodup_cons.1 e).2
theorem zqk {l:List ByteArray} {k:Nat} (hk:k<l.length) (h:l[k]∈l.drop (k+1)):¬l.Nodup:=fun hn=>by
 have e:l=l.take k++(l[k] :: l.drop (k+1)):=by simp
 rw [e,List.nodup_append] at hn
 exact (List.nodup_cons.1 hn.2.1).1 h
theorem zpq {l:List ByteArray} {k:Nat} (hk:k<l.length) (h:l[k]∈l.take k):¬l.Nodup:=fun hn=>by
 have e:l=l.take k++(l[k] :: l.drop (k+1)):=by simp
 rw [e,List.nodup_append] at hn
 exact hn.2.2 _ h _ List.mem_cons_self rfl
theorem zgr {l:List ByteArray} {k:Nat} (hk:k<l.length) (h:(l.take k).Nodup) (c:l[k]∉l.take k):(l.take (k+1)).Nodup:=by
 rw [List.take_succ_eq_append_getElem hk,List.nodup_append]
 refine ⟨h,by simp,fun a ha b hb e=>?_⟩
 simp only [List.mem_cons,List.not_mem_nil,or_false] at hb
 subst e;subst hb
 exact c ha
theorem zeq:∀ {l:List ByteArray},(∀ (k:Nat) (hk:k<l.length),l[k]∉l.drop (k+1))→l.Nodup
 | [],_=>List.nodup_nil
 | x :: l,h=>List.nodup_cons.2 ⟨h 0 (by simp),zeq fun k hk=>h (k+1) (by simpa using hk)⟩
def F182 (a0:Value) (w:World) (R:VW):Prop:=
 rN 22 3 a0 w fun x6=>
 LOOPI [7] [(iV 0)] w fun u2 w next2=>
 rC (u2 7) x6 w fun x8=>
 BR x8
 (rX 22 a0 (u2 7) w fun x10=>
 rL 9 x10 w fun x11=>
 rA (u2 7) (iV 1) w fun x14=>
 rD (Instr.sliceAt 22 a0 (some x14) none none) w fun x15=>
 cL 169 [x15,x11] w fun x17 w=>
 BR x17
 (R (Value.bool true) w)
 (rA (u2 7) (iV 1) w fun x18=>
 next2 [x18] w))
 (R (Value.bool false) w)
def cfg182:Cfg:=⟨extL,[],[(2,524188,[7])],[],[],[],[]⟩
theorem F182_call {a0:Value} {w:World} {R:VW} (h:F182 a0 w R):cL 182 [a0] w R:=co (g:=cfg182) Tryz.func182 (by kernel_rfl) (by kernel_rfl) (by kernel_rfl) h
theorem zeC {w:World} {v0:Value} {W0:World} {l:(List ByteArray)}  (h0:Is W0 v0 l) (e0:Ext W0 w)  :
   CALL Tryz.prog 182 [v0] w fun r w'=>Ext w w'∧(r=.bool (decide (¬l.Nodup))):=by
 refine F182_call ?_
 unfold F182
 have hln6:=zai h0
 refine zae u22 h0 ?_
 refine zaq (l.length) (fun k us w'=>us=[.int .i64 (k:Int)]∧Ext w w'∧(∀ (j:Nat) (hj:j<l.length),j<k→l[j]∉l.drop (j+1))) (0) (by omega) ⟨by simp,Ext.refl w,fun j hj h=>by omega⟩ ?_
 rintro k m2 uu2 w1_ hk2 ⟨hu,hx1_,hinv⟩
 simp only [List.map_cons,List.map_nil,List.cons.injEq,and_true] at hu
 try rw [hu]
 try clear hu
 have hln:=zai h0
 refine zah ?_
 refine br (fun c1=>?_) (fun c1=>?_)
 · refine zac u22 ty9 h0 (by omega) fun b10 o10 h10=>?_
   refine zav ty9 h10 (e0.trans hx1_) fun hS11=>?_
   refine zaf (by omega) ?_
   refine zhy u22 ty9 h0 (by omega) (by omega) fun v15 h15=>?_
   refine (zbT h15 (e0.trans hx1_)).mono ?_
   rintro _ w2_ ⟨hx2_,rfl⟩
   refine br (fun c2=>?_) (fun c2=>?_)
   · refine ⟨(hx1_.trans hx2_),?_⟩
     simp [zqk (by omega) c2]
   refine zaf (by omega) ?_
   refine ⟨m2-1,by omega,k+1,by omega,by simp,(hx1_.trans hx2_),?_⟩
   intro j hj hjk
   by_cases h:j=k
   · subst h;exact c2
   exact hinv j hj (by omega)
 refine ⟨hx1_,?_⟩
 simp [zeq fun j hj=>hinv j hj (by omega)]
def F122 (a0:Value) (w:World) (R:VW):Prop:=
 LOOPI [3] [(iV 0)] w fun u2 w next2=>
 rN 22 3 a0 w fun x6=>
 rC (u2 3) x6 w fun x7=>
 BR x7
 ((fun w=>rD (Instr.sliceAt 22 a0 none (some (u2 3)) none) w fun x12=>
 rX 22 a0 (u2 3) w fun x15=>
 rL 9 x15 w fun x16=>
 cL 155 [x12,x16] w fun x17 w=>
 BR x17
 (R (Value.bool true) w)
 (rA (u2 3) (iV 1) w fun x9=>
 next2 [x9] w)) (World.drew1 w))
 (R (Value.bool false) w)
def cfg122:Cfg:=⟨extL,[],[(2,262140,[3])],[(4,[0,1,2,3,4,5,6,7],0)],[],[],[]⟩
theorem F122_call {a0:Value} {w:World} {R:VW} (h:F122 a0 w R):cL 122 [a0] w R:=co (g:=cfg122) Tryz.func122 (by kernel_rfl) (by kernel_rfl) (by kernel_rfl) h
theorem zeD {w:World} {v0:Value} {W0:World} {l:(List ByteArray)}  (h0:Is W0 v0 l) (e0:Ext W0 w)  :
   CALL Tryz.prog 122 [v0] w fun r w'=>Ext w w'∧(r=.bool (decide (¬l.Nodup))):=by
 refine F122_call ?_
 unfold F122
 refine zaq (l.length) (fun k us w'=>us=[.int .i64 (k:Int)]∧Ext w w'∧((l.take k).Nodup)) (0) (by omega) ⟨by simp,Ext.refl w,by simp⟩ ?_
 rintro k m2 uu2 w1_ hk2 ⟨hu,hx1_,hinv⟩
 simp only [List.map_cons,List.map_nil,List.cons.injEq,and_true] at hu
 try rw [hu]
 try clear hu
 have hln:=zai h0
 have hln6:=zai h0
 refine zae u22 h0 ?_
 refine zah ?_
 refine br (fun c1=>?_) (fun c1=>?_)
 · have hx2_:=zan w1_
   refine zjR u22 ty9 h0 (by omega) (by omega) fun v12 h12=>?_
   refine zac u22 ty9 h0 (by omega) fun b15 o15 h15=>?_
   refine zav ty9 h15 (e0.trans (hx1_.trans hx2_)) fun hS16=>?_
   refine (zmx h12 (e0.trans (hx1_.trans hx2_))).mono ?_
   rintro _ w3_ ⟨hx3_,rfl⟩
   refine br (fun c2=>?_) (fun c2=>?_)
   · refine ⟨(hx1_.trans (hx2_.trans hx3_)),?_⟩
     simp [zpq (by omega) c2]
   refine zaf (by omega) ?_
   refine ⟨m2-1,by omega,k+1,by omega,by simp,(hx1_.trans (hx2_.trans hx3_)),?_⟩
   exact zgr (by omega) hinv c2
 refine ⟨hx1_,?_⟩
 rw [List.take_of_length_le (by omega)] at hinv
 simp [hinv]
def F250 (a0 a1:Value) (w:World) (R:VW):Prop:=
 cL 169 [a0,a1] w fun x7 w=>
 BR x7
 (R a0 w)
 (oP (Instr.buildSlice 22 1 #[(0,a1)]) w fun x11 w=>
 oP (Builtin.append_ #[22,22] 22 [a0,x11].toArray) w fun x12 w=>
 R x12 w)
def cfg250:Cfg:=⟨extL,[],[],[],[],[],[]⟩
theorem F250_call {a0 a1:Value} {w:World} {R:VW} (h:F250 a0 a1 w R):cL 250 [a0,a1] w R:=co (g:=cfg250) Tryz.func250 (by kernel_rfl) (by kernel_rfl) (by kernel_rfl) h
def F220 (a0 a1:Value) (w:World) (R:VW):Prop:=
 oP (Instr.box 109 a1) w fun x3 w=>
 rF 109 x3 0 w fun x7=>
 rL 3 x7 w fun x8=>
 rB .eql 3 T0 U0 x8 (iV 2) w fun x9=>
 BR x9
 (rF 109 x3 2 w fun x11=>
 rL 9 x11 w fun x12=>
 cL 250 [a0,x12] w fun x13 w=>
 R x13 w)
 (rF 109 x3 3 w fun x14=>
 rL 107 x14 w fun x15=>
 rN 107 3 x15 w fun x16=>
 LOOPI [0,17] [a0,(iV 0)] w fun u4 w next4=>
 rC (u4 17) x16 w fun x18=>
 BR x18
 (rX 107 x15 (u4 17) w fun x19=>
 rL 109 x19 w fun x20=>
 oP (Instr.alloc 109 true (.tuple #[])) w fun x6 w=>
 oS 109 x6 x20 w fun w=>
 rL 109 x6 w fun x22=>
 cL 220 [(u4 0),x22] w fun x23 w=>
 rA (u4 17) (iV 1) w fun x24=>
 next4 [x23,x24] w)
 (R (u4 0) w))
def cfg220:Cfg:=⟨extL,[],[(4,33423425,[0,17])],[],[],[],[]⟩
theorem F220_call {a0 a1:Value} {w:World} {R:VW} (h:F220 a0 a1 w R):cL 220 [a0,a1] w R:=co (g:=cfg220) Tryz.func220 (by kernel_rfl) (by kernel_rfl) (by kernel_rfl) h
def F175 (a0 a1:Value) (w:World) (R:VW):Prop:=
 oP (Instr.box 109 a0) w fun x2 w=>
 rF 109 x2 0 w fun x7=>
 rL 3 x7 w fun x8=>
 rB .eql 3 T0 U0 x8 (iV 2) w fun x9=>
 BR x9
 (LOOPI [5] [(iV 0)] w fun u3 w next3=>
 rN 22 3 a1 w fun x12=>
 rC (u3 5) x12 w fun x13=>
 BR x13
 ((fun w=>rX 22 a1 (u3 5) w fun x18=>
 rL 9 x18 w fun x19=>
 rF 109 x2 2 w fun x20=>
 rL 9 x20 w fun x21=>
 rB .eql 9 T0 T0 x19 x21 w fun x22=>
 BR x22
 (R a1 w)
 (rA (u3 5) (iV 1) w fun x15=>
 next3 [x15] w)) (World.drew1 w))
 (rF 109 x2 2 w fun x25=>
 rL 9 x25 w fun x26=>
 oP (Instr.buildSlice 22 1 #[(0,x26)]) w fun x27 w=>
 oP (Builtin.append_ #[22,22] 22 [a1,x27].toArray) w fun x28 w=>
 R x28 w))
 (LOOPI [1,6] [a1,(iV 0)] w fun u9 w next9=>
 rF 109 x2 3 w fun x30=>
 rL 107 x30 w fun x31=>
 rN 107 3 x31 w fun x32=>
 rC (u9 6) x32 w fun x33=>
 BR x33
 (rF 109 x2 3 w fun x36=>
 rL 107 x36 w fun x37=>
 rX 107 x37 (u9 6) w fun x39=>
 rL 109 x39 w fun x40=>
 cL 175 [x40,(u9 1)] w fun x42 w=>
 rA (u9 6) (iV 1) w fun x35=>
 next9 [x42,x35] w)
 (R (u9 1) w))
def cfg175:Cfg:=⟨extL,[],[(3,16776240,[5]),(9,8795556151362,[1,6])],[(5,[0,1,2,3,4,5,6],0)],[],[],[]⟩
theorem F175_call {a0 a1:Value} {w:World} {R:VW} (h:F175 a0 a1 w R):cL 175 [a0,a1] w R:=co (g:=cfg175) Tryz.func175 (by kernel_rfl) (by kernel_rfl) (by kernel_rfl) h
def F168 (a0:Value) (w:World) (R:VW):Prop:=
 oP (Instr.box 109 a0) w fun x1 w=>
 rL 109 x1 w fun x3=>
 cL 184 [x3] w fun x4 w=>
 rD (Op.unary .not x4) w fun x5=>
 BR x5
 (R (Value.slice none 0 0) w)
 (rL 109 x1 w fun x6=>
 cL 220 [(Value.slice none 0 0),x6] w fun x7 w=>
 R x7 w)
def cfg168:Cfg:=⟨extL,[],[],[],[],[],[]⟩
theorem F168_call {a0:Value} {w:World} {R:VW} (h:F168 a0 w R):cL 168 [a0] w R:=co (g:=cfg168) Tryz.func168 (by kernel_rfl) (by kernel_rfl) (by kernel_rfl) h
def F127 (a0:Value) (w:World) (R:VW):Prop:=
 oP (Instr.box 109 a0) w fun x1 w=>
 rL 109 x1 w fun x3=>
 cL 126 [x3] w fun x4 w=>
 rD (Op.unary .not x4) w fun x5=>
 BR x5
 (oP (Instr.buildSlice 22 0 #[]) w fun x6 w=>
 R x6 w)
 (rL 109 x1 w fun x7=>
 oP (Instr.buildSlice 22 0 #[]) w fun x8 w=>
 cL 175 [x7,x8] w fun x9 w=>
 R x9 w)
def cfg127:Cfg:=⟨extL,[],[],[],[],[],[]⟩
theorem F127_call {a0:Value} {w:World} {R:VW} (h:F127 a0 w R):cL 127 [a0] w R:=co (g:=cfg127) Tryz.func127 (by kernel_rfl) (by kernel_rfl) (by kernel_rfl) h
def znx (l:List ByteArray) (s:ByteArray):List ByteArray:=if s∈l then l else l++[s]
theorem zn4 (l:List ByteArray) (s:ByteArray):(znx l s).length≤l.length+1:=by unfold znx;split<;>simp
def readsT:Nat→DTerm→List ByteArray→List ByteArray
 | n,t,l=>if t.kind=2 then znx l t.name else match n with | 0=>l | m+1=>t.kids.foldl (fun l k=>readsT m k l) l
theorem zef (n:Nat) (t:DTerm) (l:List ByteArray):readsT n t l=if t.kind=2 then znx l t.name else match n with | 0=>l | m+1=>t.kids.foldl (fun l k=>readsT m k l) l:=readsT.eq_def n t l
theorem zhe {α β:Type} (f:β→α→β) (b:β) {l:List α} {k:Nat} (hk:k<l.length):(l.take (k+1)).foldl f b=f ((l.take k).foldl f b) l[k]:=by
 rw [List.take_succ_eq_append_getElem hk,List.foldl_append];rfl
theorem zgs {n:Nat} {t:DTerm} (h:zbe n t=true) (h2:¬t.kind=2):t.kids=[]∨∃ m,n=m+1∧t.kids.length≤2∧∀ k∈t.kids,zbe m k=true:=by
 by_cases h1:t.kind=1
 · rw [zc5 h1] at h
   simp only [Bool.and_eq_true,decide_eq_true_eq] at h
   exact .inl (List.eq_nil_of_length_eq_zero (by omega))
 rw [zaZ h1 h2] at h
 simp only [Bool.and_eq_true,decide_eq_true_eq] at h
 obtain ⟨⟨_,h3⟩,h4⟩:=h
 cases n with
 | zero=>simp at h4
 | succ m=>
   refine .inr ⟨m,rfl,?_,fun k hk=>List.all_eq_true.1 h4 k hk⟩
   split at h3<;>omega
theorem zhf:∀ (n:Nat) (t:DTerm) (l:List ByteArray),zbe n t=true→(readsT n t l).length≤l.length+2^n
 | n,t,l,h=>by
   rw [zef]
   have hp:1≤2^n:=Nat.one_le_two_pow
   split
   · have:=zn4 l t.name;omega
   rename_i h2
   rcases zgs h h2 with hk | ⟨m,rfl,hk,hall⟩
   · cases n with
     | zero=>simp
     | succ m=>simp [hk]
   show (t.kids.foldl (fun l k=>readsT m k l) l).length≤_
   have key:∀ (ks:List DTerm) (l:List ByteArray),(∀ k∈ks,zbe m k=true)→(ks.foldl (fun l k=>readsT m k l) l).length≤l.length+ks.length*2^m:=by
     intro ks
     induction ks with
     | nil=>intro l _;simp
     | cons k ks ih=>
       intro l hks
       rw [List.foldl_cons,List.length_cons,Nat.add_mul,Nat.one_mul]
       have h1:=ih (readsT m k l) fun x hx=>hks x (by simp [hx])
       have h2:=zhf m k l (hks k (by simp))
       omega
   have h1:=key t.kids l hall
   have h2:t.kids.length*2^m≤2*2^m:=Nat.mul_le_mul_right _ hk
   rw [Nat.pow_succ];omega
theorem zkS {w:World} {v:Value} {l:List ByteArray} {F:List Nat} {s:ByteArray} {ty:TypeId} {K:Value→World→Prop} (hr:RowF F 9 w v l) (hn:F.Nodup) (hs:s.size≤maxLen) (hl:l.length≤1000000)
   (k:∀ v' w',Chg F w w'→(∃ F',RowF F' 9 w' v' (l++[s])∧F'.Nodup∧∀ b∈F',b∈F∨w.heap.size≤b)→K v' w') :
   OP Tryz.prog (Instr.buildSlice 22 1 #[(0,.string s)]) w fun x w1=>OP Tryz.prog (Builtin.append_ #[22,22] ty [v,x].toArray) w1 K:=by
 refine zeW (α:=ByteArray) (x:=s) (F:=[]) u22 ty9 z9 (by decide) ⟨⟨_,⟨rfl,rfl,hs⟩,rfl⟩,List.nodup_nil,Wr.nil _⟩ fun w1 hx1 hm1=>?_
 obtain ⟨a,cap,Fi,xs,he,h1,h2,hc,h4⟩:=zdd hm1.is
 have hFi:=Cells.flat (xs:=xs) hc
 subst hFi
 refine zeR (α:=ByteArray) (m:=[s]) u22 ty9 zc9 (hr.ext hx1) hn he hc (.inr ?_) (Wr.nil _) (by simpa using hn) (by simp only [List.length_cons,List.length_nil,zam];omega) (by simp only [List.length_cons,List.length_nil];omega) fun v' w' F' hch hfull hr' hn' hs'=>?_
 · rcases h4 with h4 | ⟨b,o,ha,hra,_⟩
   · simp at h4
   exact ⟨b,o,ha,hra⟩
 have hown:∀ c∈v.ownBlock.toList,c∈F:=fun c hc=>by
   obtain ⟨xs,Fi,_,_,rfl,_⟩:=hr
   simp only [List.mem_append];exact .inl hc
 refine k v' w' ((Ext.chg F hx1).trans (hch.mono hown)) ⟨F',hr',hn',fun b hb=>?_⟩
 rcases hs' b hb with h | h | h
 · exact .inl h
 · simp at h
 exact .inr (Nat.le_trans hx1.size h)
theorem zlw {w:World} {v:Value} {l:List ByteArray} {F:List Nat} {s:ByteArray} (hr:RowF F 9 w v l) (hn:F.Nodup) (hs:s.size≤maxLen) (hl:l.length≤1000000) :
   CALL Tryz.prog 250 [v,.string s] w fun r w'=>Chg F w w'∧∃ F',RowF F' 9 w' r (znx l s)∧F'.Nodup∧∀ b∈F',b∈F∨w.heap.size≤b:=by
 refine F250_call ?_
 unfold F250
 refine (zbT hr.own.is (Ext.refl w)).mono ?_
 rintro _ w1 ⟨hx1,rfl⟩
 refine br (fun c1=>?_) (fun c1=>?_)
 · exact ⟨Ext.chg F hx1,F,by unfold znx;rw [if_pos c1];exact hr.ext hx1,hn,fun b hb=>.inl hb⟩
 refine zkS (hr.ext hx1) hn hs hl fun v' w' hc ⟨F',h1,h2,h3⟩=>⟨(Ext.chg F hx1).trans hc,F',by unfold znx;rw [if_neg c1];exact h1,h2,fun b hb=>?_⟩
 rcases h3 b hb with h | h
 · exact .inl h
 exact .inr (Nat.le_trans hx1.size h)
def zhW (F:List Nat) (w:World) (l:List ByteArray) (r:Value) (w':World):Prop:=Chg F w w'∧∃ F',RowF F' 9 w' r l∧F'.Nodup∧∀ b∈F',b∈F∨w.heap.size≤b
def zqJ (n:Nat):Prop:=∀ {w W:World} {v u:Value} {t:DTerm} {l:List ByteArray} {F:List Nat},Is W v t→Ext W w→RowF F 9 w u l→F.Nodup→(∀ b∈F,W.heap.size≤b)→zbe n t=true→l.length+2^n≤1000 →
 CALL Tryz.prog 220 [u,v] w (zhW F w (readsT n t l))
def zqK (n:Nat):Prop:=∀ {w W:World} {v u:Value} {t:DTerm} {l:List ByteArray} {F:List Nat},Is W v t→Ext W w→RowF F 9 w u l→F.Nodup→(∀ b∈F,W.heap.size≤b)→zbe n t=true→l.length+2^n≤1000 →
 CALL Tryz.prog 175 [v,u] w (zhW F w (readsT n t l))
theorem zhX {n:Nat} {t:DTerm} {l:List ByteArray} (h:t.kind=2):readsT n t l=znx l t.name:=by rw [zef,if_pos h]
theorem zgt {n:Nat} {t:DTerm} {l:List ByteArray} (h:zbe n t=true) (h2:¬t.kind=2) (hl:l.length+2^n≤1000) :
   ∃ m,(t.kids=[]∨n=m+1)∧readsT n t l=t.kids.foldl (fun l k=>readsT m k l) l∧(∀ k∈t.kids,zbe m k=true)∧∀ k,k<t.kids.length→((t.kids.take k).foldl (fun l k=>readsT m k l) l).length+2^m≤1000:=by
 rcases zgs h h2 with hk | ⟨m,rfl,hk,hall⟩
 · refine ⟨0,.inl hk,?_,by simp [hk],by simp [hk]⟩
   rw [zef,if_neg h2,hk]
   cases n<;>rfl
 refine ⟨m,.inr rfl,by rw [zef,if_neg h2],hall,fun k hkl=>?_⟩
 rw [Nat.pow_succ] at hl
 have key:∀ (ks:List DTerm) (l:List ByteArray),(∀ k∈ks,zbe m k=true)→(ks.foldl (fun l k=>readsT m k l) l).length≤l.length+ks.length*2^m:=by
   intro ks
   induction ks with
   | nil=>intro l _;simp
   | cons k ks ih=>
     intro l hks
     rw [List.foldl_cons,List.length_cons,Nat.add_mul,Nat.one_mul]
     have h1:=ih (readsT m k l) fun x hx=>hks x (by simp [hx])
     have h2:=zhf m k l (hks k (by simp))
     omega
 have h1:=key (t.kids.take k) l fun x hx=>hall x (List.mem_of_mem_take hx)
 have h3:(t.kids.take k).length≤1:=by simp;omega
 have h4:(t.kids.take k).length*2^m≤1*2^m:=Nat.mul_le_mul_right _ h3
 omega
theorem zkT {W w:World} {b o:Nat} {t:DTerm} (h:AtB W w b o t):AtB W w b (o+3) t.kids:=by
 have h':AtB W w b o t.tup:=by obtain ⟨F,cs,hr,ha⟩:=h;exact ⟨F,cs,zez.1 hr,ha⟩
 exact h'.snd.snd.snd
theorem zhY {n:Nat} (ih:∀ m,m+1=n→zqJ m):zqJ n:=by
 intro w W v u t l F h e hr hn hF ht hl
 refine F220_call ?_
 unfold F220
 refine zax za3 rfl h e fun w1 hx1 hA hV=>?_
 refine zaa zcb ?_
 refine zad ty3 (zbj hA) (Ext.refl w1) fun _=>?_
 refine zao ?_
 refine br (fun c1=>?_) (fun c1=>?_)
 · refine zaa zbL ?_
   refine zav ty9 (zaP hA) (Ext.refl w1) fun hS=>?_
   have hp:1≤2^n:=Nat.one_le_two_pow
   refine (zlw (hr.ext hx1) hn hS (by omega)).mono ?_
   rintro r w2 ⟨hc,F',h1,h2,h3⟩
   refine ⟨(Ext.chg F hx1).trans hc,F',by rw [zhX c1];exact h1,h2,fun b hb=>?_⟩
   rcases h3 b hb with h | h
   · exact .inl h
   exact .inr (Nat.le_trans hx1.size h)
 obtain ⟨m,hm,he,hks,hlen⟩:=zgt ht c1 hl
 refine zaa zaV ?_
 refine ziz zcn (zkT (zey h hV rfl)) (e.trans hx1) (Ext.refl w1) fun v15 h15=>?_
 refine zae zdI h15 ?_
 have hll:=zai h15
 refine zaq t.kids.length (fun k us w'=>∃ q,us=[q,.int .i64 (k:Int)]∧zhW F w ((t.kids.take k).foldl (fun l k=>readsT m k l) l) q w') 0 (Nat.zero_le _) ⟨u,rfl,Ext.chg F hx1,F,by simpa using hr.ext hx1,hn,fun b hb=>.inl hb⟩ ?_
 rintro k mm uu w2 hkm ⟨q,hu,hc2,F2,hr2,hn2,hs2⟩
 obtain ⟨hu0,hu1⟩:=zcO hu
 try rw [hu0]
 try rw [hu1]
 have hF2:∀ b∈F2,W.heap.size≤b:=fun b hb=>by
   rcases hs2 b hb with h | h
   · exact hF b h
   exact Nat.le_trans e.size h
 have hxW:Ext W w2:=e.chg_trans hc2 hF
 refine zah ?_
 refine br (fun c2=>?_) (fun c2=>?_)
 · have hk:k<t.kids.length:=by omega
   obtain ⟨m',rfl⟩:∃ m',n=m'+1:=by
     rcases hm with h | h
     · rw [h] at hk;simp at hk
     exact ⟨m,h⟩
   have hmm:m'=m:=by
     rcases hm with h | h
     · rw [h] at hk;simp at hk
     omega
   subst hmm
   refine zac zdI za3 h15 hk fun b o hA2=>?_
   refine zab za3 hA2 hxW fun v20 h20=>?_
   refine zct zl9 rfl za3 rfl h20 hxW fun w3 hx3 hA3 hV3=>?_
   refine zbd hV3 (Ext.refl w3) ?_
   refine (ih m' rfl h20 (hxW.trans hx3) (hr2.ext hx3) hn2 hF2 (hks _ (List.getElem_mem hk)) (hlen k hk)).mono ?_
   rintro r w4 ⟨hc4,F4,hr4,hn4,hs4⟩
   refine zaf (by omega) ?_
   refine ⟨mm-1,by omega,k+1,by omega,r,rfl,?_⟩
   refine ⟨?_,F4,by rw [zhe _ _ hk];exact hr4,hn4,fun b hb=>?_⟩
   · -- the blocks of F alone have turned
     refine ⟨hc4.os.trans (hx3.os.trans hc2.os),hc4.tape.trans (hx3.tape.trans hc2.tape),hc4.output.trans (hx3.output.trans hc2.output),Nat.le_trans hc2.size (Nat.le_trans hx3.size hc4.size),fun b hb hbF=>?_⟩
     have hb2:b<w2.heap.size:=Nat.lt_of_lt_of_le hb hc2.size
     have hbF2:b∉F2:=fun hm=>by
       rcases hs2 b hm with h | h
       · exact hbF h
       omega
     rw [hc4.block b (Nat.lt_of_lt_of_le hb2 hx3.size) hbF2,hx3.heap hb2,hc2.block b hb hbF]
   rcases hs4 b hb with h | h
   · exact hs2 b h
   have:=hx3.size;have:=hc2.size;exact .inr (by omega)
 rw [List.take_of_length_le (by omega),←he] at hr2
 exact ⟨hc2,F2,hr2,hn2,hs2⟩
theorem zgu:∀ n,zqJ n
  | n=>zhY fun m hm=>zgu m
termination_by n=>n
decreasing_by omega
theorem zhZ {n:Nat} (ih:∀ m,m+1=n→zqK m):zqK n:=by
 intro w W v u t l F h e hr hn hF ht hl
 refine F175_call ?_
 unfold F175
 have hlen:=zai hr.own.is
 have hp:1≤2^n:=Nat.one_le_two_pow
 refine zax za3 rfl h e fun w1 hx1 hA hV=>?_
 have hg1:w.heap.size<w1.heap.size:=hV.lt
 have hgF:w.heap.size∉F:=fun hm=>by have:=hr.lt _ hm;omega
 refine zaa zcb ?_
 refine zad ty3 (zbj hA) (Ext.refl w1) fun _=>?_
 refine zao ?_
 refine br (fun c1=>?_) (fun c1=>?_)
 · have hr1:=hr.ext hx1
   refine zaq l.length (fun k us w'=>us=[.int .i64 (k:Int)]∧Ext w1 w'∧t.name∉l.take k) 0 (Nat.zero_le _) ⟨rfl,Ext.refl w1,by simp⟩ ?_
   rintro k mm uu w2 hkm ⟨hu,hx2,hinv⟩
   simp only [List.map_cons,List.map_nil,List.cons.injEq,and_true] at hu
   rw [hu]
   refine zae u22 hr1.own.is ?_
   refine zah ?_
   refine br (fun c2=>?_) (fun c2=>?_)
   · have hk:k<l.length:=by omega
     have hx3:=hx2.trans (zan w2)
     refine zac u22 ty9 hr1.own.is hk fun b o hA2=>?_
     refine zav ty9 hA2 hx3 fun _=>?_
     refine zaa zbL ?_
     refine zav ty9 (zaP hA) hx3 fun _=>?_
     refine zaH ?_
     refine br (fun c3=>?_) (fun c3=>?_)
     · have hm:t.name∈l:=c3▸List.getElem_mem hk
       refine ⟨Ext.chg F (hx1.trans hx3),F,?_,hn,fun b hb=>.inl hb⟩
       rw [zhX c1,znx,if_pos hm]
       exact hr1.ext hx3
     refine zaf (by omega) ?_
     exact ⟨mm-1,by omega,k+1,by omega,rfl,hx3,zcp hk hinv c3⟩
   rw [List.take_of_length_le (by omega)] at hinv
   have hx3:=hx2.trans (zan w2)
   first
     | refine zaa zbL ?_
     | skip
   refine zav ty9 (zaP hA) hx2 fun hS=>?_
   refine zkS (hr1.ext hx2) hn hS (by omega) fun v' w' hc ⟨F',h1,h2,h3⟩=>?_
   refine ⟨(Ext.chg F (hx1.trans hx2)).trans hc,F',by rw [zhX c1,znx,if_neg hinv];exact h1,h2,fun b hb=>?_⟩
   rcases h3 b hb with h | h
   · exact .inl h
   exact .inr (Nat.le_trans (hx1.trans hx2).size h)
 obtain ⟨m,hm,he,hks,hlen⟩:=zgt ht c1 hl
 refine zaq t.kids.length (fun k us w'=>∃ q,us=[q,.int .i64 (k:Int)]∧zhW F w1 ((t.kids.take k).foldl (fun l k=>readsT m k l) l) q w') 0 (Nat.zero_le _) ⟨u,rfl,Chg.refl F w1,F,by simpa using hr.ext hx1,hn,fun b hb=>.inl hb⟩ ?_
 rintro k mm uu w2 hkm ⟨q,hu,hc2,F2,hr2,hn2,hs2⟩
 obtain ⟨hu0,hu1⟩:=zcO hu
 try rw [hu0]
 try rw [hu1]
 have hF2:∀ b∈F2,W.heap.size≤b:=fun b hb=>by
   rcases hs2 b hb with h | h
   · exact hF b h
   have:=e.size;have:=hx1.size;omega
 have hxW:Ext W w2:=(e.trans hx1).chg_trans hc2 hF
 have hB2:AtB W w2 w.heap.size 0 t:=(zey h hV rfl).keep (hc2.block _ hg1 hgF)
 have hA2:=hB2.at hxW
 refine zaa zaV ?_
 refine zab zcn (zau hA2) (Ext.refl w2) fun v31 h31=>?_
 refine zae zdI h31 ?_
 have hll:=zai h31
 refine zah ?_
 refine br (fun c2=>?_) (fun c2=>?_)
 · have hk:k<t.kids.length:=by omega
   obtain ⟨m',rfl⟩:∃ m',n=m'+1:=by
     rcases hm with h | h
     · rw [h] at hk;simp at hk
     exact ⟨m,h⟩
   have hmm:m'=m:=by
     rcases hm with h | h
     · rw [h] at hk;simp at hk
     omega
   subst hmm
   refine zaa zaV ?_
   refine ziz zcn (zkT hB2) hxW (Ext.refl w2) fun v37 h37=>?_
   refine zac zdI za3 h37 hk fun b o hA3=>?_
   refine zab za3 hA3 hxW fun v40 h40=>?_
   refine (ih m' rfl h40 hxW hr2 hn2 hF2 (hks _ (List.getElem_mem hk)) (hlen k hk)).mono ?_
   rintro r w4 ⟨hc4,F4,hr4,hn4,hs4⟩
   refine zaf (by omega) ?_
   refine ⟨mm-1,by omega,k+1,by omega,r,rfl,?_⟩
   refine ⟨?_,F4,by rw [zhe _ _ hk];exact hr4,hn4,fun b hb=>?_⟩
   · refine ⟨hc4.os.trans hc2.os,hc4.tape.trans hc2.tape,hc4.output.trans hc2.output,Nat.le_trans hc2.size hc4.size,fun b hb hbF=>?_⟩
     have hb2:b<w2.heap.size:=Nat.lt_of_lt_of_le hb hc2.size
     have hbF2:b∉F2:=fun hm=>by
       rcases hs2 b hm with h | h
       · exact hbF h
       omega
     rw [hc4.block b hb2 hbF2,hc2.block b hb hbF]
   rcases hs4 b hb with h | h
   · exact hs2 b h
   have:=hc2.size;exact .inr (by omega)
 rw [List.take_of_length_le (by omega),←he] at hr2
 refine ⟨(Ext.chg F hx1).trans hc2,F2,hr2,hn2,fun b hb=>?_⟩
 rcases hs2 b hb with h | h
 · exact .inl h
 exact .inr (Nat.le_trans hx1.size h)
theorem zgv:∀ n,zqK n
  | n=>zhZ fun m hm=>zgv m
termination_by n=>n
decreasing_by omega
def zbQ (t:DTerm):List ByteArray:=if zbe 6 t=true then readsT 6 t [] else []
theorem zn5 {α:Type} [Rep α] (e:TypeId) (w:World):RowF (α:=α) [] e w (.slice none 0 0) []:=⟨[],[],⟨by simp,.inl ⟨rfl,rfl⟩⟩,⟨rfl,rfl⟩,rfl,Wr.nil _⟩
theorem zer {w W:World} {v:Value} {t:DTerm} (h:Is W v t) (e:Ext W w):CALL Tryz.prog 168 [v] w fun r w'=>Ext w w'∧Is w' r (zbQ t):=by
 refine F168_call ?_
 unfold F168
 refine zax za3 rfl h e fun w1 hx1 hA hV=>?_
 refine zbd hV (Ext.refl w1) ?_
 refine (zdB h (e.trans hx1)).mono ?_
 rintro _ w2 ⟨hx2,rfl⟩
 refine zaW ?_
 refine zb8 (fun c=>?_) (fun c=>?_)
 · refine ⟨hx1.trans hx2,?_⟩
   unfold zbQ
   rw [if_neg (by simpa using c)]
   exact zp9 rfl
 have c:zbe 6 t=true:=by simpa using c
 refine zbd hV hx2 ?_
 refine (zgu 6 h ((e.trans hx1).trans hx2) (zn5 _ _) List.nodup_nil (by simp) c (by decide)).mono ?_
 rintro r w3 ⟨hc,F',hr,hn,hs⟩
 refine ⟨(hx1.trans hx2).trans (Chg.ext hc),?_⟩
 unfold zbQ
 rw [if_pos c]
 exact hr.own.is
theorem zes {w W:World} {v:Value} {t:DTerm} (h:Is W v t) (e:Ext W w):CALL Tryz.prog 127 [v] w fun r w'=>Ext w w'∧Is w' r (zbQ t):=by
 refine F127_call ?_
 unfold F127
 refine zax za3 rfl h e fun w1 hx1 hA hV=>?_
 refine zbd hV (Ext.refl w1) ?_
 refine (zdC h (e.trans hx1)).mono ?_
 rintro _ w2 ⟨hx2,rfl⟩
 refine zaW ?_
 refine zb8 (fun c=>?_) (fun c=>?_)
 · refine zf0 (α:=ByteArray) u22 ty9 fun a w3 hx3 hr3=>?_
   refine ⟨(hx1.trans hx2).trans hx3,?_⟩
   unfold zbQ
   rw [if_neg (by simpa using c)]
   exact hr3.is
 have c:zbe 6 t=true:=by simpa using c
 refine zbd hV hx2 ?_
 refine zf0 (α:=ByteArray) u22 ty9 fun a w3 hx3 hr3=>?_
 obtain ⟨F,hr,hn,hl⟩:=hr3
 have hx13:=(hx1.trans hx2)
 refine (zgv 6 h ((e.trans hx13).trans hx3) hr hn (fun b hb=>Nat.le_trans (e.trans hx13).size (hl b hb)) c (by decide)).mono ?_
 rintro r w4 ⟨hc,F',hr',hn',hs'⟩
 refine ⟨(hx13.trans hx3).chg_trans hc (fun b hb=>Nat.le_trans hx13.size (hl b hb)),?_⟩
 unfold zbQ
 rw [if_pos c]
 exact hr'.own.is
def F39 (a0:Value) (w:World) (R:VW):Prop:=
 rN 22 3 a0 w fun x6=>
 oP (Instr.makeSlice 22 x6 x6) w fun x7 w=>
 LOOPI [4] [(iV 0)] w fun u3 w next3=>
 rN 22 3 a0 w fun x10=>
 rC (u3 4) x10 w fun x11=>
 BR x11
 (rX 22 a0 (u3 4) w fun x18=>
 rL 9 x18 w fun x19=>
 rX 22 x7 (u3 4) w fun x20=>
 oS 9 x20 x19 w fun w=>
 rA (u3 4) (iV 1) w fun x13=>
 next3 [x13] w)
 (R x7 w)
def cfg39:Cfg:=⟨extL,[],[(3,2096912,[4])],[],[],[],[]⟩
theorem F39_call {a0:Value} {w:World} {R:VW} (h:F39 a0 w R):cL 39 [a0] w R:=co (g:=cfg39) Tryz.func39 (by kernel_rfl) (by kernel_rfl) (by kernel_rfl) h
def F180 (a0:Value) (w:World) (R:VW):Prop:=
 rN 91 3 a0 w fun x6=>
 oP (Instr.makeSlice 107 x6 x6) w fun x7 w=>
 LOOPI [4] [(iV 0)] w fun u3 w next3=>
 rN 91 3 a0 w fun x10=>
 rC (u3 4) x10 w fun x11=>
 BR x11
 (rX 91 a0 (u3 4) w fun x18=>
 rL 93 x18 w fun x19=>
 cL 131 [x19] w fun x20 w=>
 rX 107 x7 (u3 4) w fun x21=>
 oS 109 x21 x20 w fun w=>
 rA (u3 4) (iV 1) w fun x13=>
 next3 [x13] w)
 (R x7 w)
def cfg180:Cfg:=⟨extL,[],[(3,4194064,[4])],[],[],[],[]⟩
theorem F180_call {a0:Value} {w:World} {R:VW} (h:F180 a0 w R):cL 180 [a0] w R:=co (g:=cfg180) Tryz.func180 (by kernel_rfl) (by kernel_rfl) (by kernel_rfl) h
def F41 (a0:Value) (w:World) (R:VW):Prop:=
 rN 24 3 a0 w fun x6=>
 oP (Instr.makeSlice 30 x6 x6) w fun x7 w=>
 LOOPI [4] [(iV 0)] w fun u3 w next3=>
 rN 24 3 a0 w fun x10=>
 rC (u3 4) x10 w fun x11=>
 BR x11
 (rX 24 a0 (u3 4) w fun x18=>
 rL 95 x18 w fun x19=>
 cL 76 [x19] w fun x20 w=>
 rX 30 x7 (u3 4) w fun x21=>
 oS 111 x21 x20 w fun w=>
 rA (u3 4) (iV 1) w fun x13=>
 next3 [x13] w)
 (R x7 w)
def cfg41:Cfg:=⟨extL,[],[(3,4194064,[4])],[],[],[],[]⟩
theorem F41_call {a0:Value} {w:World} {R:VW} (h:F41 a0 w R):cL 41 [a0] w R:=co (g:=cfg41) Tryz.func41 (by kernel_rfl) (by kernel_rfl) (by kernel_rfl) h
def zpr (l:List ByteArray):Nat:=l.length+sm ByteArray.size l
mutual
def wT:DTerm→Nat
  | .mk _ _ s ks=>s.size+wTs ks
def wTs:List DTerm→Nat
  | []=>0
  | t :: r=>1+wT t+wTs r
end
theorem zmy (l:List DTerm):wTs l=l.length+sm wT l:=by
 induction l with
 | nil=>simp [wTs,sm]
 | cons t l ih=>rw [wTs,ih];simp [sm];omega
theorem zn6 (t:DTerm):wT t=t.name.size+wTs t.kids:=by cases t;rw [wT];rfl
def zoR (l:List DIns):Nat:=l.length+sm (fun i=>wT i.term) l
def zh0 (c:DCode):Nat:=zpr c.globals+zpr c.locks+zpr c.procs+c.entry.length+zoR c.ins
def F32 (a0 a1:Value) (w:World) (R:VW):Prop:=
 rN 22 3 a0 w fun x8=>
 rB .sub 3 T0 T0 a1 x8 w fun x9=>
 rB .lss 3 T0 U0 x9 (iV 0) w fun x11=>
 BR x11
 (R (iV (-1)) w)
 (LOOPI [1,5] [x9,(iV 0)] w fun u5 w next5=>
 rN 22 3 a0 w fun x14=>
 rC (u5 5) x14 w fun x15=>
 BR x15
 (rX 22 a0 (u5 5) w fun x21=>
 rL 9 x21 w fun x22=>
 rN 9 3 x22 w fun x23=>
 rB .sub 3 T0 T0 (u5 1) x23 w fun x24=>
 rB .lss 3 T0 U0 x24 (iV 0) w fun x26=>
 BR x26
 (R (iV (-1)) w)
 (rA (u5 5) (iV 1) w fun x17=>
 next5 [x24,x17] w))
 (R (u5 1) w))
def cfg32:Cfg:=⟨extL,[],[(5,134213682,[1,5])],[],[],[],[]⟩
theorem F32_call {a0 a1:Value} {w:World} {R:VW} (h:F32 a0 a1 w R):cL 32 [a0,a1] w R:=co (g:=cfg32) Tryz.func32 (by kernel_rfl) (by kernel_rfl) (by kernel_rfl) h
theorem zdX {w:World} {v0:Value} {W0:World} {l:(List ByteArray)} {left:Int}  (h0:Is W0 v0 l) (e0:Ext W0 w) (hl0:-1≤left) (hl1:left≤1048576) :
   CALL Tryz.prog 32 [v0,.int .i64 left] w fun r w'=>Ext w w'∧(∃ n:Int,r=.int .i64 n∧-1≤n∧n≤left∧(0≤n→n+zpr l≤left)):=by
 refine F32_call ?_
 unfold F32
 have hl:=zai h0
 have hln8:=zai h0
 refine zae u22 h0 ?_
 refine za9 (by unfold I64;omega) ?_
 refine zah ?_
 refine br (fun c1=>?_) (fun c1=>?_)
 · refine ⟨Ext.refl w,?_⟩
   exact ⟨-1,rfl,by omega,by omega,by omega⟩
 refine zaq (l.length) (fun k us w'=>∃ q:Int,us=[.int .i64 q,.int .i64 (k:Int)]∧Ext w w'∧(0≤q∧q+l.length+sm ByteArray.size (l.take k)=left)) (0) (by omega) ⟨left-l.length,by simp,Ext.refl w,by omega,by simp [sm]⟩ ?_
 rintro k m5 uu5 w1_ hk5 ⟨q,hu,hx1_,hq0,hq1⟩
 obtain ⟨hu0,hu1⟩:=zcO hu
 try rw [hu0]
 try rw [hu1]
 try clear hu0 hu1
 have hln14:=zai h0
 refine zae u22 h0 ?_
 refine zah ?_
 refine br (fun c2=>?_) (fun c2=>?_)
 · refine zac u22 ty9 h0 (by omega) fun b21 o21 h21=>?_
   refine zav ty9 h21 (e0.trans hx1_) fun hS22=>?_
   refine zdN u9 ?_
   rw [zam] at hS22
   refine za9 (by unfold I64;omega) ?_
   refine zah ?_
   refine br (fun c3=>?_) (fun c3=>?_)
   · refine ⟨hx1_,?_⟩
     exact ⟨-1,rfl,by omega,by omega,by omega⟩
   refine zaf (by omega) ?_
   refine ⟨m5-1,by omega,k+1,by omega,_,rfl,hx1_,?_⟩
   refine ⟨by omega,?_⟩
   rw [zf8 _ (by omega)]
   omega
 refine ⟨hx1_,?_⟩
 rw [List.take_of_length_le (by omega)] at hq1
 exact ⟨q,rfl,by omega,by omega,fun _=>by unfold zpr;omega⟩
def zoS (t:DTerm):Prop:=∀ {w W:World} {v:Value} {left:Int},Is W v t→Ext W w→-1≤left→left≤1048576 →
 CALL Tryz.prog 120 [v,.int .i64 left] w fun r w'=>Ext w w'∧∃ n:Int,r=.int .i64 n∧-1≤n∧n≤left∧(0≤n→n+wT t≤left)
def zps (t:List DTerm):Prop:=∀ {w W:World} {v:Value} {left:Int},Is W v t→Ext W w→-1≤left→left≤1048576 →
 CALL Tryz.prog 172 [v,.int .i64 left] w fun r w'=>Ext w w'∧∃ n:Int,r=.int .i64 n∧-1≤n∧n≤left∧(0≤n→n+wTs t≤left)
def F172 (a0 a1:Value) (w:World) (R:VW):Prop:=
 rN 91 3 a0 w fun x8=>
 rB .sub 3 T0 T0 a1 x8 w fun x9=>
 rB .lss 3 T0 U0 x9 (iV 0) w fun x11=>
 BR x11
 (R (iV (-1)) w)
 (LOOPI [1,5] [x9,(iV 0)] w fun u5 w next5=>
 rN 91 3 a0 w fun x14=>
 rC (u5 5) x14 w fun x15=>
 BR x15
 (rX 91 a0 (u5 5) w fun x20=>
 rL 93 x20 w fun x21=>
 cL 120 [x21,(u5 1)] w fun x23 w=>
 rB .lss 3 T0 U0 x23 (iV 0) w fun x25=>
 BR x25
 (R (iV (-1)) w)
 (rA (u5 5) (iV 1) w fun x17=>
 next5 [x23,x17] w))
 (R (u5 1) w))
def cfg172:Cfg:=⟨extL,[],[(5,67104818,[1,5])],[],[],[],[]⟩
theorem F172_call {a0 a1:Value} {w:World} {R:VW} (h:F172 a0 a1 w R):cL 172 [a0,a1] w R:=co (g:=cfg172) Tryz.func172 (by kernel_rfl) (by kernel_rfl) (by kernel_rfl) h
theorem ziZ {w:World} {v0:Value} {W0:World} {l:(List DTerm)} {left:Int}  (h0:Is W0 v0 l) (e0:Ext W0 w) (ih:∀ t∈l,zoS t) (hl0:-1≤left) (hl1:left≤1048576) :
   CALL Tryz.prog 172 [v0,.int .i64 left] w fun r w'=>Ext w w'∧(∃ n:Int,r=.int .i64 n∧-1≤n∧n≤left∧(0≤n→n+wTs l≤left)):=by
 refine F172_call ?_
 unfold F172
 have hl:=zai h0
 have hln8:=zai h0
 refine zae u91 h0 ?_
 refine za9 (by unfold I64;omega) ?_
 refine zah ?_
 refine br (fun c1=>?_) (fun c1=>?_)
 · refine ⟨Ext.refl w,?_⟩
   exact ⟨-1,rfl,by omega,by omega,by omega⟩
 refine zaq (l.length) (fun k us w'=>∃ q:Int,us=[.int .i64 q,.int .i64 (k:Int)]∧Ext w w'∧(0≤q∧q+l.length+sm wT (l.take k)≤left)) (0) (by omega) ⟨left-l.length,by simp,Ext.refl w,by omega,by simp [sm]⟩ ?_
 rintro k m5 uu5 w1_ hk5 ⟨q,hu,hx1_,hq0,hq1⟩
 obtain ⟨hu0,hu1⟩:=zcO hu
 try rw [hu0]
 try rw [hu1]
 try clear hu0 hu1
 have hln14:=zai h0
 refine zae u91 h0 ?_
 refine zah ?_
 refine br (fun c2=>?_) (fun c2=>?_)
 · refine zac u91 zoK h0 (by omega) fun b20 o20 h20=>?_
   refine zab zoK h20 (e0.trans hx1_) fun v21 h21=>?_
   refine (ih _ (List.getElem_mem _) h21 (e0.trans hx1_) (by omega) (by omega)).mono ?_
   rintro _ w2_ ⟨hx2_,n23,rfl,hn23⟩
   refine zah ?_
   refine br (fun c3=>?_) (fun c3=>?_)
   · refine ⟨(hx1_.trans hx2_),?_⟩
     exact ⟨-1,rfl,by omega,by omega,by omega⟩
   refine zaf (by omega) ?_
   refine ⟨m5-1,by omega,k+1,by omega,_,rfl,(hx1_.trans hx2_),?_⟩
   refine ⟨by omega,?_⟩
   rw [zf8 _ (by omega)]
   have:=hn23.2.2 (by omega)
   omega
 refine ⟨hx1_,?_⟩
 rw [List.take_of_length_le (by omega)] at hq1
 exact ⟨q,rfl,by omega,by omega,fun _=>by rw [zmy];omega⟩
def F120 (a0 a1:Value) (w:World) (R:VW):Prop:=
 oP (Instr.box 93 a0) w fun x2 w=>
 rF 93 x2 2 w fun x6=>
 rL 9 x6 w fun x7=>
 rN 9 3 x7 w fun x8=>
 rB .sub 3 T0 T0 a1 x8 w fun x9=>
 rB .lss 3 T0 U0 x9 (iV 0) w fun x11=>
 BR x11
 (R (iV (-1)) w)
 (rF 93 x2 3 w fun x12=>
 rL 91 x12 w fun x13=>
 cL 172 [x13,x9] w fun x15 w=>
 rB .lss 3 T0 U0 x15 (iV 0) w fun x17=>
 BR x17
 (R (iV (-1)) w)
 (R x15 w))
def cfg120:Cfg:=⟨extL,[],[],[],[],[],[]⟩
theorem F120_call {a0 a1:Value} {w:World} {R:VW} (h:F120 a0 a1 w R):cL 120 [a0,a1] w R:=co (g:=cfg120) Tryz.func120 (by kernel_rfl) (by kernel_rfl) (by kernel_rfl) h
theorem zjZ {w:World} {v0:Value} {W0:World} {t:DTerm} {left:Int}  (h0:Is W0 v0 t) (e0:Ext W0 w) (ih:zps t.kids) (hl0:-1≤left) (hl1:left≤1048576) :
   CALL Tryz.prog 120 [v0,.int .i64 left] w fun r w'=>Ext w w'∧(∃ n:Int,r=.int .i64 n∧-1≤n∧n≤left∧(0≤n→n+wT t≤left)):=by
 refine F120_call ?_
 unfold F120
 refine zax zoK rfl h0 e0 fun w1_ hx1_ hA2 hV2=>?_
 refine zaa zoL ?_
 refine zav ty9 (zaP hA2) (Ext.refl w1_) fun hS7=>?_
 refine zdN u9 ?_
 rw [zam] at hS7
 refine za9 (by unfold I64;omega) ?_
 refine zah ?_
 refine br (fun c1=>?_) (fun c1=>?_)
 · refine ⟨hx1_,?_⟩
   exact ⟨-1,rfl,by omega,by omega,by omega⟩
 refine zaa zoM ?_
 refine zab zqS (zau hA2) (Ext.refl w1_) fun v13 h13=>?_
 refine (ih h13 (Ext.refl w1_) (by omega) (by omega)).mono ?_
 rintro _ w2_ ⟨hx2_,n15,rfl,hn15⟩
 refine zah ?_
 refine br (fun c2=>?_) (fun c2=>?_)
 · refine ⟨(hx1_.trans hx2_),?_⟩
   exact ⟨-1,rfl,by omega,by omega,by omega⟩
 refine ⟨(hx1_.trans hx2_),?_⟩
 refine ⟨n15,rfl,by omega,by omega,fun h=>?_⟩
 have:=hn15.2.2 (by omega)
 rw [zn6];omega
theorem zmz (t:DTerm):zoS t:=DTerm.ind (fun t ih {w W v left} h e h0 h1=>zjZ h e (fun {w W v left} h e h0 h1=>ziZ h e ih h0 h1) h0 h1) t
def F69 (a0 a1:Value) (w:World) (R:VW):Prop:=
 oP (Instr.box 95 a0) w fun x2 w=>
 rF 95 x2 2 w fun x5=>
 rL 93 x5 w fun x6=>
 cL 120 [x6,a1] w fun x8 w=>
 rB .lss 3 T0 U0 x8 (iV 0) w fun x10=>
 BR x10
 (R (iV (-1)) w)
 (R x8 w)
def cfg69:Cfg:=⟨extL,[],[],[],[],[],[]⟩
theorem F69_call {a0 a1:Value} {w:World} {R:VW} (h:F69 a0 a1 w R):cL 69 [a0,a1] w R:=co (g:=cfg69) Tryz.func69 (by kernel_rfl) (by kernel_rfl) (by kernel_rfl) h
theorem zn7 {w:World} {v0:Value} {W0:World} {i:DIns} {left:Int}  (h0:Is W0 v0 i) (e0:Ext W0 w) (hl0:-1≤left) (hl1:left≤1048576) :
   CALL Tryz.prog 69 [v0,.int .i64 left] w fun r w'=>Ext w w'∧(∃ n:Int,r=.int .i64 n∧-1≤n∧n≤left∧(0≤n→n+wT i.term≤left)):=by
 refine F69_call ?_
 unfold F69
 refine zax zpY rfl h0 e0 fun w1_ hx1_ hA2 hV2=>?_
 refine zaa zoN ?_
 refine zab zoK (zbm hA2) (Ext.refl w1_) fun v6 h6=>?_
 refine ((zmz _) h6 (Ext.refl w1_) (by omega) (by omega)).mono ?_
 rintro _ w2_ ⟨hx2_,n8,rfl,hn8⟩
 refine zah ?_
 refine br (fun c1=>?_) (fun c1=>?_)
 · refine ⟨(hx1_.trans hx2_),?_⟩
   exact ⟨-1,rfl,by omega,by omega,by omega⟩
 refine ⟨(hx1_.trans hx2_),?_⟩
 exact ⟨n8,rfl,by omega,by omega,hn8.2.2⟩
def F34 (a0 a1:Value) (w:World) (R:VW):Prop:=
 rN 24 3 a0 w fun x8=>
 rB .sub 3 T0 T0 a1 x8 w fun x9=>
 rB .lss 3 T0 U0 x9 (iV 0) w fun x11=>
 BR x11
 (R (iV (-1)) w)
 (LOOPI [1,5] [x9,(iV 0)] w fun u5 w next5=>
 rN 24 3 a0 w fun x14=>
 rC (u5 5) x14 w fun x15=>
 BR x15
 (rX 24 a0 (u5 5) w fun x20=>
 rL 95 x20 w fun x21=>
 cL 69 [x21,(u5 1)] w fun x23 w=>
 rB .lss 3 T0 U0 x23 (iV 0) w fun x25=>
 BR x25
 (R (iV (-1)) w)
 (rA (u5 5) (iV 1) w fun x17=>
 next5 [x23,x17] w))
 (R (u5 1) w))
def cfg34:Cfg:=⟨extL,[],[(5,67104818,[1,5])],[],[],[],[]⟩
theorem F34_call {a0 a1:Value} {w:World} {R:VW} (h:F34 a0 a1 w R):cL 34 [a0,a1] w R:=co (g:=cfg34) Tryz.func34 (by kernel_rfl) (by kernel_rfl) (by kernel_rfl) h
theorem zmA {w:World} {v0:Value} {W0:World} {l:(List DIns)} {left:Int}  (h0:Is W0 v0 l) (e0:Ext W0 w) (hl0:-1≤left) (hl1:left≤1048576) :
   CALL Tryz.prog 34 [v0,.int .i64 left] w fun r w'=>Ext w w'∧(∃ n:Int,r=.int .i64 n∧-1≤n∧n≤left∧(0≤n→n+zoR l≤left)):=by
 refine F34_call ?_
 unfold F34
 have hl:=zai h0
 have hln8:=zai h0
 refine zae u24 h0 ?_
 refine za9 (by unfold I64;omega) ?_
 refine zah ?_
 refine br (fun c1=>?_) (fun c1=>?_)
 · refine ⟨Ext.refl w,?_⟩
   exact ⟨-1,rfl,by omega,by omega,by omega⟩
 refine zaq (l.length) (fun k us w'=>∃ q:Int,us=[.int .i64 q,.int .i64 (k:Int)]∧Ext w w'∧(0≤q∧q+l.length+sm (fun i=>wT i.term) (l.take k)≤left)) (0) (by omega) ⟨left-l.length,by simp,Ext.refl w,by omega,by simp [sm]⟩ ?_
 rintro k m5 uu5 w1_ hk5 ⟨q,hu,hx1_,hq0,hq1⟩
 obtain ⟨hu0,hu1⟩:=zcO hu
 try rw [hu0]
 try rw [hu1]
 try clear hu0 hu1
 have hln14:=zai h0
 refine zae u24 h0 ?_
 refine zah ?_
 refine br (fun c2=>?_) (fun c2=>?_)
 · refine zac u24 zpY h0 (by omega) fun b20 o20 h20=>?_
   refine zab zpY h20 (e0.trans hx1_) fun v21 h21=>?_
   refine (zn7 h21 (e0.trans hx1_) (by omega) (by omega)).mono ?_
   rintro _ w2_ ⟨hx2_,n23,rfl,hn23⟩
   refine zah ?_
   refine br (fun c3=>?_) (fun c3=>?_)
   · refine ⟨(hx1_.trans hx2_),?_⟩
     exact ⟨-1,rfl,by omega,by omega,by omega⟩
   refine zaf (by omega) ?_
   refine ⟨m5-1,by omega,k+1,by omega,_,rfl,(hx1_.trans hx2_),?_⟩
   refine ⟨by omega,?_⟩
   rw [zf8 _ (by omega)]
   have:=hn23.2.2 (by omega)
   omega
 refine ⟨hx1_,?_⟩
 rw [List.take_of_length_le (by omega)] at hq1
 exact ⟨q,rfl,by omega,by omega,fun _=>by unfold zoR;omega⟩
def F7 (a0 a1:Value) (w:World) (R:VW):Prop:=
 oP (Instr.box 26 a0) w fun x2 w=>
 rF 26 x2 0 w fun x5=>
 rL 22 x5 w fun x6=>
 cL 32 [x6,a1] w fun x8 w=>
 rB .lss 3 T0 U0 x8 (iV 0) w fun x10=>
 BR x10
 (R (iV (-1)) w)
 (rF 26 x2 1 w fun x11=>
 rL 22 x11 w fun x12=>
 cL 32 [x12,x8] w fun x14 w=>
 rB .lss 3 T0 U0 x14 (iV 0) w fun x16=>
 BR x16
 (R (iV (-1)) w)
 (rF 26 x2 2 w fun x17=>
 rL 22 x17 w fun x18=>
 cL 32 [x18,x14] w fun x20 w=>
 rB .lss 3 T0 U0 x20 (iV 0) w fun x22=>
 BR x22
 (R (iV (-1)) w)
 (rF 26 x2 3 w fun x23=>
 rL 23 x23 w fun x24=>
 cL 33 [x24,x20] w fun x26 w=>
 rB .lss 3 T0 U0 x26 (iV 0) w fun x28=>
 BR x28
 (R (iV (-1)) w)
 (rF 26 x2 4 w fun x29=>
 rL 24 x29 w fun x30=>
 cL 34 [x30,x26] w fun x32 w=>
 rB .lss 3 T0 U0 x32 (iV 0) w fun x34=>
 BR x34
 (R (iV (-1)) w)
 (R x32 w)))))
def cfg7:Cfg:=⟨extL,[],[],[],[],[],[]⟩
theorem F7_call {a0 a1:Value} {w:World} {R:VW} (h:F7 a0 a1 w R):cL 7 [a0,a1] w R:=co (g:=cfg7) Tryz.func7 (by kernel_rfl) (by kernel_rfl) (by kernel_rfl) h
theorem zmB {w:World} {v0:Value} {W0:World} {c:DCode} {left:Int}  (h0:Is W0 v0 c) (e0:Ext W0 w) (hl0:-1≤left) (hl1:left≤1048576) :
   CALL Tryz.prog 7 [v0,.int .i64 left] w fun r w'=>Ext w w'∧(∃ n:Int,r=.int .i64 n∧-1≤n∧n≤left∧(0≤n→n+zh0 c≤left)):=by
 refine F7_call ?_
 unfold F7
 refine zax zqD rfl h0 e0 fun w1_ hx1_ hA2 hV2=>?_
 refine zaa zoF ?_
 refine zab zb1 (za2 hA2) (Ext.refl w1_) fun v6 h6=>?_
 refine (zdX h6 (Ext.refl w1_) (by omega) (by omega)).mono ?_
 rintro _ w2_ ⟨hx2_,n8,rfl,hn8⟩
 refine zah ?_
 refine br (fun c1=>?_) (fun c1=>?_)
 · refine ⟨(hx1_.trans hx2_),?_⟩
   exact ⟨-1,rfl,by omega,by omega,by omega⟩
 refine zaa zoG ?_
 refine zab zb1 (zaB hA2) hx2_ fun v12 h12=>?_
 refine (zdX h12 hx2_ (by omega) (by omega)).mono ?_
 rintro _ w3_ ⟨hx3_,n14,rfl,hn14⟩
 refine zah ?_
 refine br (fun c2=>?_) (fun c2=>?_)
 · refine ⟨(hx1_.trans (hx2_.trans hx3_)),?_⟩
   exact ⟨-1,rfl,by omega,by omega,by omega⟩
 refine zaa zoH ?_
 refine zab zb1 (zaw hA2) (hx2_.trans hx3_) fun v18 h18=>?_
 refine (zdX h18 (hx2_.trans hx3_) (by omega) (by omega)).mono ?_
 rintro _ w4_ ⟨hx4_,n20,rfl,hn20⟩
 refine zah ?_
 refine br (fun c3=>?_) (fun c3=>?_)
 · refine ⟨(hx1_.trans (hx2_.trans (hx3_.trans hx4_))),?_⟩
   exact ⟨-1,rfl,by omega,by omega,by omega⟩
 refine zaa zoI ?_
 refine zab zbv (zal hA2) (hx2_.trans (hx3_.trans hx4_)) fun v24 h24=>?_
 refine (zmc h24 (hx2_.trans (hx3_.trans hx4_)) (by omega) (by omega)).mono ?_
 rintro _ w5_ ⟨hx5_,n26,rfl,hn26⟩
 refine zah ?_
 refine br (fun c4=>?_) (fun c4=>?_)
 · refine ⟨(hx1_.trans (hx2_.trans (hx3_.trans (hx4_.trans hx5_)))),?_⟩
   exact ⟨-1,rfl,by omega,by omega,by omega⟩
 refine zaa zoJ ?_
 refine zab zqQ (zak hA2) (hx2_.trans (hx3_.trans (hx4_.trans hx5_))) fun v30 h30=>?_
 refine (zmA h30 (hx2_.trans (hx3_.trans (hx4_.trans hx5_))) (by omega) (by omega)).mono ?_
 rintro _ w6_ ⟨hx6_,n32,rfl,hn32⟩
 refine zah ?_
 refine br (fun c5=>?_) (fun c5=>?_)
 · refine ⟨(hx1_.trans (hx2_.trans (hx3_.trans (hx4_.trans (hx5_.trans hx6_))))),?_⟩
   exact ⟨-1,rfl,by omega,by omega,by omega⟩
 refine ⟨(hx1_.trans (hx2_.trans (hx3_.trans (hx4_.trans (hx5_.trans hx6_))))),?_⟩
 refine ⟨n32,rfl,by omega,by omega,fun _=>?_⟩
 have h1:=hn8.2.2 (by omega)
 have h2:=hn14.2.2 (by omega)
 have h3:=hn20.2.2 (by omega)
 have h4:=hn26.2.2 (by omega)
 have h5:=hn32.2.2 (by omega)
 unfold zh0
 omega
def F47 (a0 a1:Value) (w:World) (R:VW):Prop:=
 rN 22 3 a0 w fun x7=>
 rN 22 3 a1 w fun x9=>
 rB .neq 3 T0 T0 x7 x9 w fun x10=>
 BR x10
 (R (Value.bool false) w)
 (LOOPI [5] [(iV 0)] w fun u4 w next4=>
 rN 22 3 a0 w fun x13=>
 rC (u4 5) x13 w fun x14=>
 BR x14
 ((fun w=>rX 22 a0 (u4 5) w fun x19=>
 rL 9 x19 w fun x20=>
 rX 22 a1 (u4 5) w fun x23=>
 rL 9 x23 w fun x24=>
 rB .neq 9 T0 T0 x20 x24 w fun x25=>
 BR x25
 (R (Value.bool false) w)
 (rA (u4 5) (iV 1) w fun x16=>
 next4 [x16] w)) (World.drew1 w))
 (R (Value.bool true) w))
def cfg47:Cfg:=⟨extL,[],[(4,67106864,[5])],[(6,[0,1,2,3,4,5,6,7,8],0)],[],[],[]⟩
theorem F47_call {a0 a1:Value} {w:World} {R:VW} (h:F47 a0 a1 w R):cL 47 [a0,a1] w R:=co (g:=cfg47) Tryz.func47 (by kernel_rfl) (by kernel_rfl) (by kernel_rfl) h
theorem zdY {w:World} {v0:Value} {W0:World} {l1:(List ByteArray)} {v1:Value} {W1:World} {l2:(List ByteArray)}  (h0:Is W0 v0 l1) (e0:Ext W0 w) (h1:Is W1 v1 l2) (e1:Ext W1 w)  :
   CALL Tryz.prog 47 [v0,v1] w fun r w'=>Ext w w'∧(r=.bool (decide (l1=l2))):=by
 refine F47_call ?_
 unfold F47
 have hl1:=zai h0
 have hln7:=zai h0
 refine zae u22 h0 ?_
 have hln9:=zai h1
 refine zae u22 h1 ?_
 refine zaI ?_
 refine br (fun c1=>?_) (fun c1=>?_)
 · refine ⟨Ext.refl w,?_⟩
   have:l1≠l2:=fun e=>c1 (by rw [e])
   simp [this]
 refine zaq (l1.length) (fun k us w'=>us=[.int .i64 (k:Int)]∧Ext w w'∧(l1.take k=l2.take k)) (0) (by omega) ⟨by simp,Ext.refl w,by simp⟩ ?_
 rintro k m4 uu4 w1_ hk4 ⟨hu,hx1_,hinv⟩
 simp only [List.map_cons,List.map_nil,List.cons.injEq,and_true] at hu
 try rw [hu]
 try clear hu
 have hln13:=zai h0
 refine zae u22 h0 ?_
 refine zah ?_
 refine br (fun c2=>?_) (fun c2=>?_)
 · have hx2_:=zan w1_
   refine zac u22 ty9 h0 (by omega) fun b19 o19 h19=>?_
   refine zav ty9 h19 (e0.trans (hx1_.trans hx2_)) fun hS20=>?_
   refine zac u22 ty9 h1 (by omega) fun b23 o23 h23=>?_
   refine zav ty9 h23 (e1.trans (hx1_.trans hx2_)) fun hS24=>?_
   refine zfZ ?_
   refine br (fun c3=>?_) (fun c3=>?_)
   · refine ⟨(hx1_.trans hx2_),?_⟩
     have:l1≠l2:=fun e=>c3 (by subst e;rfl)
     simp [this]
   refine zaf (by omega) ?_
   refine ⟨m4-1,by omega,k+1,by omega,by simp,(hx1_.trans hx2_),?_⟩
   rw [List.take_succ_eq_append_getElem (by omega),List.take_succ_eq_append_getElem (by omega),hinv,Decidable.not_not.1 c3]
 refine ⟨hx1_,?_⟩
 rw [List.take_of_length_le (by omega),List.take_of_length_le (by omega)] at hinv
 simp [hinv]
def zoT (t:DTerm):Prop:=∀ {w W W':World} {v v':Value} {t':DTerm},Is W v t→Ext W w→Is W' v' t'→Ext W' w →
 CALL Tryz.prog 148 [v,v'] w fun r w'=>Ext w w'∧r=.bool (decide (t=t'))
def zpt (t:List DTerm):Prop:=∀ {w W W':World} {v v':Value} {t':List DTerm},Is W v t→Ext W w→Is W' v' t'→Ext W' w →
 CALL Tryz.prog 206 [v,v'] w fun r w'=>Ext w w'∧r=.bool (decide (t=t'))
def F206 (a0 a1:Value) (w:World) (R:VW):Prop:=
 rN 107 3 a0 w fun x7=>
 rN 107 3 a1 w fun x9=>
 rB .neq 3 T0 T0 x7 x9 w fun x10=>
 BR x10
 (R (Value.bool false) w)
 (LOOPI [5] [(iV 0)] w fun u4 w next4=>
 rN 107 3 a0 w fun x13=>
 rC (u4 5) x13 w fun x14=>
 BR x14
 ((fun w=>rX 107 a0 (u4 5) w fun x19=>
 rL 109 x19 w fun x20=>
 rX 107 a1 (u4 5) w fun x23=>
 rL 109 x23 w fun x24=>
 cL 148 [x20,x24] w fun x25 w=>
 rD (Op.unary .not x25) w fun x26=>
 BR x26
 (R (Value.bool false) w)
 (rA (u4 5) (iV 1) w fun x16=>
 next4 [x16] w)) (World.drew1 w))
 (R (Value.bool true) w))
def cfg206:Cfg:=⟨extL,[],[(4,134215728,[5])],[(6,[0,1,2,3,4,5,6,7,8,9],0)],[],[],[]⟩
theorem F206_call {a0 a1:Value} {w:World} {R:VW} (h:F206 a0 a1 w R):cL 206 [a0,a1] w R:=co (g:=cfg206) Tryz.func206 (by kernel_rfl) (by kernel_rfl) (by kernel_rfl) h
theorem zi0 {w:World} {v0:Value} {W0:World} {l1:(List DTerm)} {v1:Value} {W1:World} {l2:(List DTerm)}  (h0:Is W0 v0 l1) (e0:Ext W0 w) (h1:Is W1 v1 l2) (e1:Ext W1 w) (ih:∀ t∈l1,zoT t) :
   CALL Tryz.prog 206 [v0,v1] w fun r w'=>Ext w w'∧(r=.bool (decide (l1=l2))):=by
 refine F206_call ?_
 unfold F206
 have hl1:=zai h0
 have hln7:=zai h0
 refine zae zdI h0 ?_
 have hln9:=zai h1
 refine zae zdI h1 ?_
 refine zaI ?_
 refine br (fun c1=>?_) (fun c1=>?_)
 · refine ⟨Ext.refl w,?_⟩
   have:l1≠l2:=fun e=>c1 (by rw [e])
   simp [this]
 refine zaq (l1.length) (fun k us w'=>us=[.int .i64 (k:Int)]∧Ext w w'∧(l1.take k=l2.take k)) (0) (by omega) ⟨by simp,Ext.refl w,by simp⟩ ?_
 rintro k m4 uu4 w1_ hk4 ⟨hu,hx1_,hinv⟩
 simp only [List.map_cons,List.map_nil,List.cons.injEq,and_true] at hu
 try rw [hu]
 try clear hu
 have hln13:=zai h0
 refine zae zdI h0 ?_
 refine zah ?_
 refine br (fun c2=>?_) (fun c2=>?_)
 · have hx2_:=zan w1_
   refine zac zdI za3 h0 (by omega) fun b19 o19 h19=>?_
   refine zab za3 h19 (e0.trans (hx1_.trans hx2_)) fun v20 h20=>?_
   refine zac zdI za3 h1 (by omega) fun b23 o23 h23=>?_
   refine zab za3 h23 (e1.trans (hx1_.trans hx2_)) fun v24 h24=>?_
   refine (ih _ (List.getElem_mem _) h20 (e0.trans (hx1_.trans hx2_)) h24 (e1.trans (hx1_.trans hx2_))).mono ?_
   rintro _ w3_ ⟨hx3_,rfl⟩
   refine zar ?_
   refine br (fun c3=>?_) (fun c3=>?_)
   · refine ⟨(hx1_.trans (hx2_.trans hx3_)),?_⟩
     have:l1≠l2:=fun e=>c3 (by subst e;rfl)
     simp [this]
   refine zaf (by omega) ?_
   refine ⟨m4-1,by omega,k+1,by omega,by simp,(hx1_.trans (hx2_.trans hx3_)),?_⟩
   rw [List.take_succ_eq_append_getElem (by omega),List.take_succ_eq_append_getElem (by omega),hinv,Decidable.not_not.1 c3]
 refine ⟨hx1_,?_⟩
 rw [List.take_of_length_le (by omega),List.take_of_length_le (by omega)] at hinv
 simp [hinv]
def F148 (a0 a1:Value) (w:World) (R:VW):Prop:=
 oP (Instr.box 109 a0) w fun x2 w=>
 oP (Instr.box 109 a1) w fun x3 w=>
 rF 109 x2 0 w fun x5=>
 rL 3 x5 w fun x6=>
 rF 109 x3 0 w fun x7=>
 rL 3 x7 w fun x8=>
 rB .neq 3 T0 T0 x6 x8 w fun x9=>
 BR x9
 (R (Value.bool false) w)
 (rF 109 x2 1 w fun x10=>
 rL 3 x10 w fun x11=>
 rF 109 x3 1 w fun x12=>
 rL 3 x12 w fun x13=>
 rB .neq 3 T0 T0 x11 x13 w fun x14=>
 BR x14
 (R (Value.bool false) w)
 (rF 109 x2 2 w fun x15=>
 rL 9 x15 w fun x16=>
 rF 109 x3 2 w fun x17=>
 rL 9 x17 w fun x18=>
 rB .neq 9 T0 T0 x16 x18 w fun x19=>
 BR x19
 (R (Value.bool false) w)
 (rF 109 x2 3 w fun x20=>
 rL 107 x20 w fun x21=>
 rF 109 x3 3 w fun x22=>
 rL 107 x22 w fun x23=>
 cL 206 [x21,x23] w fun x24 w=>
 rD (Op.unary .not x24) w fun x25=>
 BR x25
 (R (Value.bool false) w)
 (R (Value.bool true) w))))
def cfg148:Cfg:=⟨extL,[],[],[],[],[],[]⟩
theorem F148_call {a0 a1:Value} {w:World} {R:VW} (h:F148 a0 a1 w R):cL 148 [a0,a1] w R:=co (g:=cfg148) Tryz.func148 (by kernel_rfl) (by kernel_rfl) (by kernel_rfl) h
theorem zj0 {w:World} {v0:Value} {W0:World} {t1:DTerm} {v1:Value} {W1:World} {t2:DTerm}  (h0:Is W0 v0 t1) (e0:Ext W0 w) (h1:Is W1 v1 t2) (e1:Ext W1 w) (ih:zpt t1.kids) :
   CALL Tryz.prog 148 [v0,v1] w fun r w'=>Ext w w'∧(r=.bool (decide (t1=t2))):=by
 refine F148_call ?_
 unfold F148
 refine zax za3 rfl h0 e0 fun w1_ hx1_ hA2 hV2=>?_
 refine zax za3 rfl h1 (e1.trans hx1_) fun w2_ hx2_ hA3 hV3=>?_
 refine zaa zcb ?_
 refine zad ty3 (zbj hA2) hx2_ fun hI6=>?_
 refine zaa zcb ?_
 refine zad ty3 (zbj hA3) (Ext.refl w2_) fun hI8=>?_
 refine zaI ?_
 refine br (fun c1=>?_) (fun c1=>?_)
 · refine ⟨(hx1_.trans hx2_),?_⟩
   have:t1≠t2:=fun e=>c1 (by rw [e])
   simp [this]
 refine zaa zbW ?_
 refine zad ty3 (za7 hA2) hx2_ fun hI11=>?_
 refine zaa zbW ?_
 refine zad ty3 (za7 hA3) (Ext.refl w2_) fun hI13=>?_
 refine zaI ?_
 refine br (fun c2=>?_) (fun c2=>?_)
 · refine ⟨(hx1_.trans hx2_),?_⟩
   have:t1≠t2:=fun e=>c2 (by rw [e])
   simp [this]
 refine zaa zbL ?_
 refine zav ty9 (zaP hA2) hx2_ fun hS16=>?_
 refine zaa zbL ?_
 refine zav ty9 (zaP hA3) (Ext.refl w2_) fun hS18=>?_
 refine zfZ ?_
 refine br (fun c3=>?_) (fun c3=>?_)
 · refine ⟨(hx1_.trans hx2_),?_⟩
   have:t1≠t2:=fun e=>c3 (by rw [e])
   simp [this]
 refine zaa zaV ?_
 refine zab zcn (zau hA2) hx2_ fun v21 h21=>?_
 refine zaa zaV ?_
 refine zab zcn (zau hA3) (Ext.refl w2_) fun v23 h23=>?_
 refine (ih h21 hx2_ h23 (Ext.refl w2_)).mono ?_
 rintro _ w3_ ⟨hx3_,rfl⟩
 refine zar ?_
 refine br (fun c4=>?_) (fun c4=>?_)
 · refine ⟨(hx1_.trans (hx2_.trans hx3_)),?_⟩
   have:t1≠t2:=fun e=>c4 (by rw [e])
   simp [this]
 refine ⟨(hx1_.trans (hx2_.trans hx3_)),?_⟩
 have:t1=t2:=DTerm.ext_iff.2 ⟨Decidable.not_not.1 c1,Decidable.not_not.1 c2,Decidable.not_not.1 c3,Decidable.not_not.1 c4⟩
 simp [this]
theorem zmC (t:DTerm):zoT t:=DTerm.ind (fun t ih {_ _ _ _ _ _} h e h' e'=>zj0 h e h' e' (fun {_ _ _ _ _ _} h e h' e'=>zi0 h e h' e' ih)) t
def F91 (a0 a1:Value) (w:World) (R:VW):Prop:=
 oP (Instr.box 111 a0) w fun x2 w=>
 oP (Instr.box 111 a1) w fun x3 w=>
 rF 111 x2 0 w fun x5=>
 rL 3 x5 w fun x6=>
 rF 111 x3 0 w fun x7=>
 rL 3 x7 w fun x8=>
 rB .neq 3 T0 T0 x6 x8 w fun x9=>
 BR x9
 (R (Value.bool false) w)
 (rF 111 x2 1 w fun x10=>
 rL 3 x10 w fun x11=>
 rF 111 x3 1 w fun x12=>
 rL 3 x12 w fun x13=>
 rB .neq 3 T0 T0 x11 x13 w fun x14=>
 BR x14
 (R (Value.bool false) w)
 (rF 111 x2 2 w fun x15=>
 rL 109 x15 w fun x16=>
 rF 111 x3 2 w fun x17=>
 rL 109 x17 w fun x18=>
 cL 148 [x16,x18] w fun x19 w=>
 rD (Op.unary .not x19) w fun x20=>
 BR x20
 (R (Value.bool false) w)
 (rF 111 x2 3 w fun x21=>
 rL 3 x21 w fun x22=>
 rF 111 x3 3 w fun x23=>
 rL 3 x23 w fun x24=>
 rB .neq 3 T0 T0 x22 x24 w fun x25=>
 BR x25
 (R (Value.bool false) w)
 (R (Value.bool true) w))))
def cfg91:Cfg:=⟨extL,[],[],[],[],[],[]⟩
theorem F91_call {a0 a1:Value} {w:World} {R:VW} (h:F91 a0 a1 w R):cL 91 [a0,a1] w R:=co (g:=cfg91) Tryz.func91 (by kernel_rfl) (by kernel_rfl) (by kernel_rfl) h
theorem zn8 {w:World} {v0:Value} {W0:World} {t1:DIns} {v1:Value} {W1:World} {t2:DIns}  (h0:Is W0 v0 t1) (e0:Ext W0 w) (h1:Is W1 v1 t2) (e1:Ext W1 w)  :
   CALL Tryz.prog 91 [v0,v1] w fun r w'=>Ext w w'∧(r=.bool (decide (t1=t2))):=by
 refine F91_call ?_
 unfold F91
 refine zax zaR rfl h0 e0 fun w1_ hx1_ hA2 hV2=>?_
 refine zax zaR rfl h1 (e1.trans hx1_) fun w2_ hx2_ hA3 hV3=>?_
 refine zaa zaL ?_
 refine zad ty3 (zat hA2) hx2_ fun hI6=>?_
 refine zaa zaL ?_
 refine zad ty3 (zat hA3) (Ext.refl w2_) fun hI8=>?_
 refine zaI ?_
 refine br (fun c1=>?_) (fun c1=>?_)
 · refine ⟨(hx1_.trans hx2_),?_⟩
   have:t1≠t2:=fun e=>c1 (by rw [e])
   simp [this]
 refine zaa zbi ?_
 refine zad ty3 (zaJ hA2) hx2_ fun hI11=>?_
 refine zaa zbi ?_
 refine zad ty3 (zaJ hA3) (Ext.refl w2_) fun hI13=>?_
 refine zaI ?_
 refine br (fun c2=>?_) (fun c2=>?_)
 · refine ⟨(hx1_.trans hx2_),?_⟩
   have:t1≠t2:=fun e=>c2 (by rw [e])
   simp [this]
 refine zaa zbM ?_
 refine zab za3 (zbm hA2) hx2_ fun v16 h16=>?_
 refine zaa zbM ?_
 refine zab za3 (zbm hA3) (Ext.refl w2_) fun v18 h18=>?_
 refine ((zmC _) h16 hx2_ h18 (Ext.refl w2_)).mono ?_
 rintro _ w3_ ⟨hx3_,rfl⟩
 refine zar ?_
 refine br (fun c3=>?_) (fun c3=>?_)
 · refine ⟨(hx1_.trans (hx2_.trans hx3_)),?_⟩
   have:t1≠t2:=fun e=>c3 (by rw [e])
   simp [this]
 refine zaa zbN ?_
 refine zad ty3 (za4 hA2) (hx2_.trans hx3_) fun hI22=>?_
 refine zaa zbN ?_
 refine zad ty3 (za4 hA3) hx3_ fun hI24=>?_
 refine zaI ?_
 refine br (fun c4=>?_) (fun c4=>?_)
 · refine ⟨(hx1_.trans (hx2_.trans hx3_)),?_⟩
   have:t1≠t2:=fun e=>c4 (by rw [e])
   simp [this]
 refine ⟨(hx1_.trans (hx2_.trans hx3_)),?_⟩
 have:t1=t2:=DIns.ext_iff.2 ⟨Decidable.not_not.1 c1,Decidable.not_not.1 c2,Decidable.not_not.1 c3,Decidable.not_not.1 c4⟩
 simp [this]
def F48 (a0 a1:Value) (w:World) (R:VW):Prop:=
 rN 30 3 a0 w fun x7=>
 rN 30 3 a1 w fun x9=>
 rB .neq 3 T0 T0 x7 x9 w fun x10=>
 BR x10
 (R (Value.bool false) w)
 (LOOPI [5] [(iV 0)] w fun u4 w next4=>
 rN 30 3 a0 w fun x13=>
 rC (u4 5) x13 w fun x14=>
 BR x14
 ((fun w=>rX 30 a0 (u4 5) w fun x19=>
 rL 111 x19 w fun x20=>
 rX 30 a1 (u4 5) w fun x23=>
 rL 111 x23 w fun x24=>
 cL 91 [x20,x24] w fun x25 w=>
 rD (Op.unary .not x25) w fun x26=>
 BR x26
 (R (Value.bool false) w)
 (rA (u4 5) (iV 1) w fun x16=>
 next4 [x16] w)) (World.drew1 w))
 (R (Value.bool true) w))
def cfg48:Cfg:=⟨extL,[],[(4,134215728,[5])],[(6,[0,1,2,3,4,5,6,7,8,9],0)],[],[],[]⟩
theorem F48_call {a0 a1:Value} {w:World} {R:VW} (h:F48 a0 a1 w R):cL 48 [a0,a1] w R:=co (g:=cfg48) Tryz.func48 (by kernel_rfl) (by kernel_rfl) (by kernel_rfl) h
theorem zmD {w:World} {v0:Value} {W0:World} {l1:(List DIns)} {v1:Value} {W1:World} {l2:(List DIns)}  (h0:Is W0 v0 l1) (e0:Ext W0 w) (h1:Is W1 v1 l2) (e1:Ext W1 w)  :
   CALL Tryz.prog 48 [v0,v1] w fun r w'=>Ext w w'∧(r=.bool (decide (l1=l2))):=by
 refine F48_call ?_
 unfold F48
 have hl1:=zai h0
 have hln7:=zai h0
 refine zae u30 h0 ?_
 have hln9:=zai h1
 refine zae u30 h1 ?_
 refine zaI ?_
 refine br (fun c1=>?_) (fun c1=>?_)
 · refine ⟨Ext.refl w,?_⟩
   have:l1≠l2:=fun e=>c1 (by rw [e])
   simp [this]
 refine zaq (l1.length) (fun k us w'=>us=[.int .i64 (k:Int)]∧Ext w w'∧(l1.take k=l2.take k)) (0) (by omega) ⟨by simp,Ext.refl w,by simp⟩ ?_
 rintro k m4 uu4 w1_ hk4 ⟨hu,hx1_,hinv⟩
 simp only [List.map_cons,List.map_nil,List.cons.injEq,and_true] at hu
 try rw [hu]
 try clear hu
 have hln13:=zai h0
 refine zae u30 h0 ?_
 refine zah ?_
 refine br (fun c2=>?_) (fun c2=>?_)
 · have hx2_:=zan w1_
   refine zac u30 zaR h0 (by omega) fun b19 o19 h19=>?_
   refine zab zaR h19 (e0.trans (hx1_.trans hx2_)) fun v20 h20=>?_
   refine zac u30 zaR h1 (by omega) fun b23 o23 h23=>?_
   refine zab zaR h23 (e1.trans (hx1_.trans hx2_)) fun v24 h24=>?_
   refine (zn8 h20 (e0.trans (hx1_.trans hx2_)) h24 (e1.trans (hx1_.trans hx2_))).mono ?_
   rintro _ w3_ ⟨hx3_,rfl⟩
   refine zar ?_
   refine br (fun c3=>?_) (fun c3=>?_)
   · refine ⟨(hx1_.trans (hx2_.trans hx3_)),?_⟩
     have:l1≠l2:=fun e=>c3 (by subst e;rfl)
     simp [this]
   refine zaf (by omega) ?_
   refine ⟨m4-1,by omega,k+1,by omega,by simp,(hx1_.trans (hx2_.trans hx3_)),?_⟩
   rw [List.take_succ_eq_append_getElem (by omega),List.take_succ_eq_append_getElem (by omega),hinv,Decidable.not_not.1 c3]
 refine ⟨hx1_,?_⟩
 rw [List.take_of_length_le (by omega),List.take_of_length_le (by omega)] at hinv
 simp [hinv]
def F12 (a0 a1:Value) (w:World) (R:VW):Prop:=
 oP (Instr.box 32 a0) w fun x2 w=>
 oP (Instr.box 32 a1) w fun x3 w=>
 rF 32 x2 0 w fun x5=>
 rL 22 x5 w fun x6=>
 rF 32 x3 0 w fun x7=>
 rL 22 x7 w fun x8=>
 cL 47 [x6,x8] w fun x9 w=>
 rD (Op.unary .not x9) w fun x10=>
 BR x10
 (R (Value.bool false) w)
 (rF 32 x2 1 w fun x11=>
 rL 22 x11 w fun x12=>
 rF 32 x3 1 w fun x13=>
 rL 22 x13 w fun x14=>
 cL 47 [x12,x14] w fun x15 w=>
 rD (Op.unary .not x15) w fun x16=>
 BR x16
 (R (Value.bool false) w)
 (rF 32 x2 2 w fun x17=>
 rL 22 x17 w fun x18=>
 rF 32 x3 2 w fun x19=>
 rL 22 x19 w fun x20=>
 cL 47 [x18,x20] w fun x21 w=>
 rD (Op.unary .not x21) w fun x22=>
 BR x22
 (R (Value.bool false) w)
 (rF 32 x2 3 w fun x23=>
 rL 23 x23 w fun x24=>
 rF 32 x3 3 w fun x25=>
 rL 23 x25 w fun x26=>
 cL 11 [x24,x26] w fun x27 w=>
 rD (Op.unary .not x27) w fun x28=>
 BR x28
 (R (Value.bool false) w)
 (rF 32 x2 4 w fun x29=>
 rL 30 x29 w fun x30=>
 rF 32 x3 4 w fun x31=>
 rL 30 x31 w fun x32=>
 cL 48 [x30,x32] w fun x33 w=>
 rD (Op.unary .not x33) w fun x34=>
 BR x34
 (R (Value.bool false) w)
 (R (Value.bool true) w)))))
def cfg12:Cfg:=⟨extL,[],[],[],[],[],[]⟩
theorem F12_call {a0 a1:Value} {w:World} {R:VW} (h:F12 a0 a1 w R):cL 12 [a0,a1] w R:=co (g:=cfg12) Tryz.func12 (by kernel_rfl) (by kernel_rfl) (by kernel_rfl) h
theorem zmE {w:World} {v0:Value} {W0:World} {t1:DCode} {v1:Value} {W1:World} {t2:DCode}  (h0:Is W0 v0 t1) (e0:Ext W0 w) (h1:Is W1 v1 t2) (e1:Ext W1 w)  :
   CALL Tryz.prog 12 [v0,v1] w fun r w'=>Ext w w'∧(r=.bool (decide (t1=t2))):=by
 refine F12_call ?_
 unfold F12
 refine zax zdh rfl h0 e0 fun w1_ hx1_ hA2 hV2=>?_
 refine zax zdh rfl h1 (e1.trans hx1_) fun w2_ hx2_ hA3 hV3=>?_
 refine zaa zc4 ?_
 refine zab zb1 (za2 hA2) hx2_ fun v6 h6=>?_
 refine zaa zc4 ?_
 refine zab zb1 (za2 hA3) (Ext.refl w2_) fun v8 h8=>?_
 refine (zdY h6 hx2_ h8 (Ext.refl w2_)).mono ?_
 rintro _ w3_ ⟨hx3_,rfl⟩
 refine zar ?_
 refine br (fun c1=>?_) (fun c1=>?_)
 · refine ⟨(hx1_.trans (hx2_.trans hx3_)),?_⟩
   have:t1≠t2:=fun e=>c1 (by rw [e])
   simp [this]
 refine zaa zb2 ?_
 refine zab zb1 (zaB hA2) (hx2_.trans hx3_) fun v12 h12=>?_
 refine zaa zb2 ?_
 refine zab zb1 (zaB hA3) hx3_ fun v14 h14=>?_
 refine (zdY h12 (hx2_.trans hx3_) h14 hx3_).mono ?_
 rintro _ w4_ ⟨hx4_,rfl⟩
 refine zar ?_
 refine br (fun c2=>?_) (fun c2=>?_)
 · refine ⟨(hx1_.trans (hx2_.trans (hx3_.trans hx4_))),?_⟩
   have:t1≠t2:=fun e=>c2 (by rw [e])
   simp [this]
 refine zaa zbS ?_
 refine zab zb1 (zaw hA2) (hx2_.trans (hx3_.trans hx4_)) fun v18 h18=>?_
 refine zaa zbS ?_
 refine zab zb1 (zaw hA3) (hx3_.trans hx4_) fun v20 h20=>?_
 refine (zdY h18 (hx2_.trans (hx3_.trans hx4_)) h20 (hx3_.trans hx4_)).mono ?_
 rintro _ w5_ ⟨hx5_,rfl⟩
 refine zar ?_
 refine br (fun c3=>?_) (fun c3=>?_)
 · refine ⟨(hx1_.trans (hx2_.trans (hx3_.trans (hx4_.trans hx5_)))),?_⟩
   have:t1≠t2:=fun e=>c3 (by rw [e])
   simp [this]
 refine zaa zaO ?_
 refine zab zbv (zal hA2) (hx2_.trans (hx3_.trans (hx4_.trans hx5_))) fun v24 h24=>?_
 refine zaa zaO ?_
 refine zab zbv (zal hA3) (hx3_.trans (hx4_.trans hx5_)) fun v26 h26=>?_
 refine (zea h24 (hx2_.trans (hx3_.trans (hx4_.trans hx5_))) h26 (hx3_.trans (hx4_.trans hx5_))).mono ?_
 rintro _ w6_ ⟨hx6_,rfl⟩
 refine zar ?_
 refine br (fun c4=>?_) (fun c4=>?_)
 · refine ⟨(hx1_.trans (hx2_.trans (hx3_.trans (hx4_.trans (hx5_.trans hx6_))))),?_⟩
   have:t1≠t2:=fun e=>c4 (by rw [e])
   simp [this]
 refine zaa zaK ?_
 refine zab zdn (zak hA2) (hx2_.trans (hx3_.trans (hx4_.trans (hx5_.trans hx6_)))) fun v30 h30=>?_
 refine zaa zaK ?_
 refine zab zdn (zak hA3) (hx3_.trans (hx4_.trans (hx5_.trans hx6_))) fun v32 h32=>?_
 refine (zmD h30 (hx2_.trans (hx3_.trans (hx4_.trans (hx5_.trans hx6_)))) h32 (hx3_.trans (hx4_.trans (hx5_.trans hx6_)))).mono ?_
 rintro _ w7_ ⟨hx7_,rfl⟩
 refine zar ?_
 refine br (fun c5=>?_) (fun c5=>?_)
 · refine ⟨(hx1_.trans (hx2_.trans (hx3_.trans (hx4_.trans (hx5_.trans (hx6_.trans hx7_)))))),?_⟩
   have:t1≠t2:=fun e=>c5 (by rw [e])
   simp [this]
 refine ⟨(hx1_.trans (hx2_.trans (hx3_.trans (hx4_.trans (hx5_.trans (hx6_.trans hx7_)))))),?_⟩
 have:t1=t2:=DCode.ext_iff.2 ⟨Decidable.not_not.1 c1,Decidable.not_not.1 c2,Decidable.not_not.1 c3,Decidable.not_not.1 c4,Decidable.not_not.1 c5⟩
 simp [this]
theorem zdZ {w:World} {v:Value} {l:List ByteArray} (h:Is w v l) (hn:l.length≤1048576) :
   CALL Tryz.prog 39 [v] w fun r w'=>Ext w w'∧Own w.heap.size w' r l:=by
 refine F39_call ?_
 unfold F39
 refine zae u22 h ?_
 refine zhz (α:=ByteArray) u22 ty9 z9 (by omega) (by omega) fun w1 hx1 hf=>?_
 refine zaq l.length (fun k us w'=>us=[.int .i64 (k:Int)]∧Ext w w'∧Fill w.heap.size 9 l.length [] w' (l.take k)) 0 (Nat.zero_le _) ⟨rfl,hx1,by simpa using hf⟩ ?_
 rintro k m u w2 hkm ⟨hu,hx2,hf2⟩
 simp only [List.map_cons,List.map_nil,List.cons.injEq,and_true] at hu
 rw [hu]
 refine zae u22 h ?_
 refine zah ?_
 refine br (fun hlt=>?_) (fun hge=>?_)
 · have hk:k<l.length:=by omega
   refine zac u22 ty9 h hk fun b o hA=>?_
   refine zav ty9 hA hx2 fun hI=>?_
   refine zcL u22 ty9 hk ?_
   refine zfH (α:=ByteArray) ty9 hf2 (by simp [Rep.size];omega) (by simp;omega) (⟨⟨_,⟨rfl,rfl,hI⟩,rfl⟩,List.nodup_nil,Wr.nil _⟩:Mine [] w2 _ l[k]) (by simp) fun w3 hc3 hf3=>?_
   refine zaf (by have:=zai h;omega) ?_
   refine ⟨m-1,by omega,k+1,by omega,rfl,hx2.chg_trans hc3 (by simp),?_⟩
   rw [List.take_succ_eq_append_getElem hk]
   simpa using hf3
 have hk:k=l.length:=by omega
 subst hk
 rw [List.take_length] at hf2
 exact ⟨hx2,_,hf2.own rfl (by rw [zam];omega),by simp⟩
def zoU (t:DTerm):Prop:=∀ {w:World} {v:Value},Is w v t→wT t≤1048576 →
 CALL Tryz.prog 131 [v] w fun r w'=>Ext w w'∧Own w.heap.size w' r t
def zpu (l:List DTerm):Prop:=∀ {w:World} {v:Value},Is w v l→wTs l≤1048576 →
 CALL Tryz.prog 180 [v] w fun r w'=>Ext w w'∧Own w.heap.size w' r l
theorem zhg {α:Type} [Rep α] {g e n lo:Nat} {Fi F1:List Nat} {w w':World} {l:List α} {v:Value} {x:α} (hf:Fill g e n Fi w l) (hm:Mine F1 w' v x) (hl:∀ b∈F1,w.heap.size≤b):(F1++(g :: Fi)).Nodup:=by
 rw [List.nodup_append]
 refine ⟨hm.nodup,by obtain ⟨_,_,_,_,_,hn,_⟩:=hf;exact hn,fun a ha c hc e=>?_⟩
 subst e
 have:=hl a ha
 have:=hf.lt a hc
 omega
theorem zi1 {w:World} {v:Value} {l:List DTerm} (ih:∀ t∈l,zoU t) (h:Is w v l) (hn:wTs l≤1048576) :
   CALL Tryz.prog 180 [v] w fun r w'=>Ext w w'∧Own w.heap.size w' r l:=by
 rw [zmy] at hn
 refine F180_call ?_
 unfold F180
 refine zae u91 h ?_
 refine zhz (α:=DTerm) zdI za3 zq7 (by omega) (by omega) fun w1 hx1 hf=>?_
 refine zaq l.length (fun k us w'=>us=[.int .i64 (k:Int)]∧Ext w w'∧∃ Fi,Fill w.heap.size 109 l.length Fi w' (l.take k)∧∀ b∈Fi,w.heap.size≤b) 0 (Nat.zero_le _) ⟨rfl,hx1,[],by simpa using hf,by simp⟩ ?_
 rintro k m u w2 hkm ⟨hu,hx2,Fi,hf2,hFl⟩
 simp only [List.map_cons,List.map_nil,List.cons.injEq,and_true] at hu
 rw [hu]
 refine zae u91 h ?_
 refine zah ?_
 refine br (fun hlt=>?_) (fun hge=>?_)
 · have hk:k<l.length:=by omega
   refine zac u91 zoK h hk fun b o hA=>?_
   refine zab zoK hA hx2 fun v19 h19=>?_
   refine (ih _ (List.getElem_mem hk) (h19.ext hx2) (by have:=zoO wT (List.getElem_mem hk);omega)).mono ?_
   rintro r20 w3 ⟨hx3,F20,hm20,hl20⟩
   refine zcL zdI za3 hk ?_
   refine zfH (α:=DTerm) za3 (hf2.ext hx3) (by simp [Rep.size];omega) (by simp;omega) hm20 (zhg (lo:=0) hf2 hm20 hl20) fun w4 hc4 hf4=>?_
   refine zaf (by have:=zai h;omega) ?_
   refine ⟨m-1,by omega,k+1,by omega,rfl,(hx2.trans hx3).chg_trans hc4 (by simp),Fi++F20,?_,?_⟩
   · rw [List.take_succ_eq_append_getElem hk]
     exact hf4
   intro b hb
   rcases List.mem_append.1 hb with hb | hb
   · exact hFl b hb
   exact Nat.le_trans hx2.size (hl20 b hb)
 have hk:k=l.length:=by omega
 subst hk
 rw [List.take_length] at hf2
 exact ⟨hx2,_,hf2.own rfl (by rw [zam];omega),by simpa using hFl⟩
def F131 (a0:Value) (w:World) (R:VW):Prop:=
 oP (Instr.box 93 a0) w fun x1 w=>
 oP (Instr.alloc 109 true (.tuple #[])) w fun x2 w=>
 oP (Instr.alloc 109 true (.tuple #[])) w fun x3 w=>
 rF 93 x1 0 w fun x4=>
 rL 3 x4 w fun x5=>
 rF 109 x3 0 w fun x6=>
 oS 3 x6 x5 w fun w=>
 rF 93 x1 1 w fun x7=>
 rL 3 x7 w fun x8=>
 rF 109 x3 1 w fun x9=>
 oS 3 x9 x8 w fun w=>
 rF 93 x1 2 w fun x10=>
 rL 9 x10 w fun x11=>
 rF 109 x3 2 w fun x12=>
 oS 9 x12 x11 w fun w=>
 rF 93 x1 3 w fun x13=>
 rL 91 x13 w fun x14=>
 cL 180 [x14] w fun x15 w=>
 rF 109 x3 3 w fun x16=>
 oS 107 x16 x15 w fun w=>
 rL 109 x3 w fun x17=>
 oS 109 x2 x17 w fun w=>
 rD (zev 109 x2) w fun r2=>R r2 w
def cfg131:Cfg:=⟨extL,[],[],[],[],[],[]⟩
theorem F131_call {a0:Value} {w:World} {R:VW} (h:F131 a0 w R):cL 131 [a0] w R:=co (g:=cfg131) Tryz.func131 (by kernel_rfl) (by kernel_rfl) (by kernel_rfl) h
theorem zj1 {w:World} {v0:Value} {W0:World} {t:DTerm}  (h0:Is W0 v0 t) (e0:Ext W0 w) (ih:zpu t.kids) (hn:wT t≤1048576) :
   CALL Tryz.prog 131 [v0] w fun r w'=>Ext w w'∧(Own w.heap.size w' r t):=by
 refine F131_call ?_
 unfold F131
 have hn':wTs t.kids≤1048576:=by rw [zn6] at hn;omega
 have hs_e0:=e0.size
 refine zax zoK rfl h0 e0 fun w1_ hx1_ hA1 hV1=>?_
 have hs_hx1_:=hx1_.size
 refine zfh (α:=DTerm) zl9 fun w2_ hx2_ hv2=>?_
 have hg2:=hv2.lt
 have hs_hx2_:=hx2_.size
 refine zfh (α:=DTerm) zl9 fun w3_ hx3_ hv3=>?_
 have hg3:=hv3.lt
 have hs_hx3_:=hx3_.size
 refine zaa zqc ?_
 refine zad ty3 (zbj hA1) (hx2_.trans hx3_) fun hI5=>?_
 refine zaa zcb ?_
 obtain ⟨Fv4,hO4,hF4⟩:=(hv3.ext (Ext.refl w3_))
 obtain ⟨Gv4,hL4⟩:=zdS (Lens.var hO4)
 refine zbR ty3 hL4 hF4 (ownI_int (lo:=w3_.heap.size) (hi:=w3_.heap.size) (by first | assumption | (unfold I64 at *;omega))) (by omega) (by omega) fun w4_ hc4_ hv4_=>?_
 have hv3_s4:=hv4_ (w3_.heap.size) (by omega) (by omega) (w3_.heap.size) (by omega) (by omega)
 clear hv4_ hL4 hO4 hF4
 have hs_hc4_:=hc4_.size
 have hv2_c4:=(hv2.ext hx3_).chg hc4_ (by omega) (by omega)
 refine zaa zqd ?_
 refine zad ty3 (za7 hA1) (Ext.chgI (hx2_.trans hx3_) hc4_ (by omega)) fun hI8=>?_
 refine zaa zbW ?_
 obtain ⟨Fv5,hO5,hF5⟩:=(hv3_s4.ext (Ext.refl w4_))
 obtain ⟨Gv5,hL5⟩:=zdT (Lens.var hO5)
 refine zbR ty3 hL5 hF5 (ownI_int (lo:=w4_.heap.size) (hi:=w4_.heap.size) (by first | assumption | (unfold I64 at *;omega))) (by omega) (by omega) fun w5_ hc5_ hv5_=>?_
 have hv3_s5:=hv5_ (w3_.heap.size) (by omega) (by omega) (w4_.heap.size) (by omega) (by omega)
 clear hv5_ hL5 hO5 hF5
 have hs_hc5_:=hc5_.size
 have hv2_c5:=(hv2_c4.ext (Ext.refl w4_)).chg hc5_ (by omega) (by omega)
 refine zaa zoL ?_
 refine zav ty9 (zaP hA1) (Ext.chgI (Ext.chgI (hx2_.trans hx3_) hc4_ (by omega)) hc5_ (by omega)) fun hS11=>?_
 refine zaa zbL ?_
 obtain ⟨Fv6,hO6,hF6⟩:=(hv3_s5.ext (Ext.refl w5_))
 obtain ⟨Gv6,hL6⟩:=zdU (Lens.var hO6)
 refine zbR ty9 hL6 hF6 (znL (lo:=w5_.heap.size) (hi:=w5_.heap.size) (by first | assumption | (rw [zam];omega) | (simp [zam];omega))) (by omega) (by omega) fun w6_ hc6_ hv6_=>?_
 have hv3_s6:=hv6_ (w3_.heap.size) (by omega) (by omega) (w5_.heap.size) (by omega) (by omega)
 clear hv6_ hL6 hO6 hF6
 have hs_hc6_:=hc6_.size
 have hv2_c6:=(hv2_c5.ext (Ext.refl w5_)).chg hc6_ (by omega) (by omega)
 refine zaa zoM ?_
 refine zab zqS (zau hA1) (Ext.chgI (Ext.chgI (Ext.chgI (hx2_.trans hx3_) hc4_ (by omega)) hc5_ (by omega)) hc6_ (by omega)) fun v14 h14=>?_
 refine (ih (h14.ext (Ext.chgI (Ext.chgI (Ext.chgI (hx2_.trans hx3_) hc4_ (by omega)) hc5_ (by omega)) hc6_ (by omega))) (by omega)).mono ?_
 rintro r15 w7_ ⟨hx7_,o15⟩
 have o15:=o15.toI
 have hs_hx7_:=hx7_.size
 refine zaa zaV ?_
 obtain ⟨Fv8,hO8,hF8⟩:=(hv3_s6.ext hx7_)
 obtain ⟨Gv8,hL8⟩:=zdV (Lens.var hO8)
 refine zbR zcn hL8 hF8 (o15.ext (Ext.refl w7_)) (by omega) (by omega) fun w8_ hc8_ hv8_=>?_
 have hv3_s8:=hv8_ (w3_.heap.size) (by omega) (by omega) (w7_.heap.size) (by omega) (by omega)
 clear hv8_ hL8 hO8 hF8
 have hs_hc8_:=hc8_.size
 have hv2_c8:=(hv2_c6.ext hx7_).chg hc8_ (by omega) (by omega)
 have o15_c8:=(o15.ext (Ext.refl w7_)).chg hc8_ (by omega)
 refine zjK za3 hv3_s8 (Ext.refl w8_) fun v17 o17=>?_
 refine zhE za3 (hv2_c8.ext (Ext.refl w8_)) (o17.ext (Ext.refl w8_)) (by omega) fun w9_ hc9_ hv2_s9=>?_
 have hs_hc9_:=hc9_.size
 have hv3_s8_c9:=(hv3_s8.ext (Ext.refl w8_)).chg hc9_ (by omega) (by omega)
 have o15_c9:=(o15_c8.ext (Ext.refl w8_)).chg hc9_ (by omega)
 have o17_c9:=(o17.ext (Ext.refl w8_)).chg hc9_ (by omega)
 refine zhD za3 hv2_s9 (Ext.refl w9_) fun r2 hr2=>?_
 replace hr2:=hr2.ext (Ext.refl w9_)
 refine ⟨(Ext.chgI (Ext.chgI ((Ext.chgI (Ext.chgI (Ext.chgI ((hx1_.trans hx2_).trans hx3_) hc4_ (by omega)) hc5_ (by omega)) hc6_ (by omega)).trans hx7_) hc8_ (by omega)) hc9_ (by omega)),?_⟩
 have:=(hr2.mono (lo':=w.heap.size) (by omega) (Nat.le_refl _)).own
 cases t
 exact this
theorem zmF (t:DTerm):zoU t:=DTerm.ind (fun t ih {w v} h hn=>zj1 h (Ext.refl w) (fun {_ _} h hn=>zi1 ih h hn) hn) t
def F76 (a0:Value) (w:World) (R:VW):Prop:=
 oP (Instr.box 95 a0) w fun x1 w=>
 oP (Instr.alloc 111 true (.tuple #[])) w fun x2 w=>
 oP (Instr.alloc 111 true (.tuple #[])) w fun x3 w=>
 rF 95 x1 0 w fun x4=>
 rL 3 x4 w fun x5=>
 rF 111 x3 0 w fun x6=>
 oS 3 x6 x5 w fun w=>
 rF 95 x1 1 w fun x7=>
 rL 3 x7 w fun x8=>
 rF 111 x3 1 w fun x9=>
 oS 3 x9 x8 w fun w=>
 rF 95 x1 2 w fun x10=>
 rL 93 x10 w fun x11=>
 cL 131 [x11] w fun x12 w=>
 rF 111 x3 2 w fun x13=>
 oS 109 x13 x12 w fun w=>
 rF 95 x1 3 w fun x14=>
 rL 3 x14 w fun x15=>
 rF 111 x3 3 w fun x16=>
 oS 3 x16 x15 w fun w=>
 rL 111 x3 w fun x17=>
 oS 111 x2 x17 w fun w=>
 rD (zev 111 x2) w fun r2=>R r2 w
def cfg76:Cfg:=⟨extL,[],[],[],[],[],[]⟩
theorem F76_call {a0:Value} {w:World} {R:VW} (h:F76 a0 w R):cL 76 [a0] w R:=co (g:=cfg76) Tryz.func76 (by kernel_rfl) (by kernel_rfl) (by kernel_rfl) h
theorem zn9 {w:World} {v0:Value} {W0:World} {t:DIns}  (h0:Is W0 v0 t) (e0:Ext W0 w) (hn:wT t.term≤1048576) :
   CALL Tryz.prog 76 [v0] w fun r w'=>Ext w w'∧(Own w.heap.size w' r t):=by
 refine F76_call ?_
 unfold F76
 have hs_e0:=e0.size
 refine zax zpY rfl h0 e0 fun w1_ hx1_ hA1 hV1=>?_
 have hs_hx1_:=hx1_.size
 refine zfh (α:=DIns) zfD fun w2_ hx2_ hv2=>?_
 have hg2:=hv2.lt
 have hs_hx2_:=hx2_.size
 refine zfh (α:=DIns) zfD fun w3_ hx3_ hv3=>?_
 have hg3:=hv3.lt
 have hs_hx3_:=hx3_.size
 refine zaa zqe ?_
 refine zad ty3 (zat hA1) (hx2_.trans hx3_) fun hI5=>?_
 refine zaa zaL ?_
 obtain ⟨Fv4,hO4,hF4⟩:=(hv3.ext (Ext.refl w3_))
 obtain ⟨Gv4,hL4⟩:=zgk (Lens.var hO4)
 refine zbR ty3 hL4 hF4 (ownI_int (lo:=w3_.heap.size) (hi:=w3_.heap.size) (by first | assumption | (unfold I64 at *;omega))) (by omega) (by omega) fun w4_ hc4_ hv4_=>?_
 have hv3_s4:=hv4_ (w3_.heap.size) (by omega) (by omega) (w3_.heap.size) (by omega) (by omega)
 clear hv4_ hL4 hO4 hF4
 have hs_hc4_:=hc4_.size
 have hv2_c4:=(hv2.ext hx3_).chg hc4_ (by omega) (by omega)
 refine zaa zqf ?_
 refine zad ty3 (zaJ hA1) (Ext.chgI (hx2_.trans hx3_) hc4_ (by omega)) fun hI8=>?_
 refine zaa zbi ?_
 obtain ⟨Fv5,hO5,hF5⟩:=(hv3_s4.ext (Ext.refl w4_))
 obtain ⟨Gv5,hL5⟩:=zgl (Lens.var hO5)
 refine zbR ty3 hL5 hF5 (ownI_int (lo:=w4_.heap.size) (hi:=w4_.heap.size) (by first | assumption | (unfold I64 at *;omega))) (by omega) (by omega) fun w5_ hc5_ hv5_=>?_
 have hv3_s5:=hv5_ (w3_.heap.size) (by omega) (by omega) (w4_.heap.size) (by omega) (by omega)
 clear hv5_ hL5 hO5 hF5
 have hs_hc5_:=hc5_.size
 have hv2_c5:=(hv2_c4.ext (Ext.refl w4_)).chg hc5_ (by omega) (by omega)
 refine zaa zoN ?_
 refine zab zoK (zbm hA1) (Ext.chgI (Ext.chgI (hx2_.trans hx3_) hc4_ (by omega)) hc5_ (by omega)) fun v11 h11=>?_
 refine ((zmF _) (h11.ext (Ext.chgI (Ext.chgI (hx2_.trans hx3_) hc4_ (by omega)) hc5_ (by omega))) (by assumption)).mono ?_
 rintro r12 w6_ ⟨hx6_,o12⟩
 have o12:=o12.toI
 have hs_hx6_:=hx6_.size
 refine zaa zbM ?_
 obtain ⟨Fv7,hO7,hF7⟩:=(hv3_s5.ext hx6_)
 obtain ⟨Gv7,hL7⟩:=zcT (Lens.var hO7)
 refine zbR za3 hL7 hF7 (o12.ext (Ext.refl w6_)) (by omega) (by omega) fun w7_ hc7_ hv7_=>?_
 have hv3_s7:=hv7_ (w3_.heap.size) (by omega) (by omega) (w6_.heap.size) (by omega) (by omega)
 clear hv7_ hL7 hO7 hF7
 have hs_hc7_:=hc7_.size
 have hv2_c7:=(hv2_c5.ext hx6_).chg hc7_ (by omega) (by omega)
 have o12_c7:=(o12.ext (Ext.refl w6_)).chg hc7_ (by omega)
 refine zaa zqg ?_
 refine zad ty3 (za4 hA1) (Ext.chgI ((Ext.chgI (Ext.chgI (hx2_.trans hx3_) hc4_ (by omega)) hc5_ (by omega)).trans hx6_) hc7_ (by omega)) fun hI15=>?_
 refine zaa zbN ?_
 obtain ⟨Fv8,hO8,hF8⟩:=(hv3_s7.ext (Ext.refl w7_))
 obtain ⟨Gv8,hL8⟩:=zgm (Lens.var hO8)
 refine zbR ty3 hL8 hF8 (ownI_int (lo:=w7_.heap.size) (hi:=w7_.heap.size) (by first | assumption | (unfold I64 at *;omega))) (by omega) (by omega) fun w8_ hc8_ hv8_=>?_
 have hv3_s8:=hv8_ (w3_.heap.size) (by omega) (by omega) (w7_.heap.size) (by omega) (by omega)
 clear hv8_ hL8 hO8 hF8
 have hs_hc8_:=hc8_.size
 have hv2_c8:=(hv2_c7.ext (Ext.refl w7_)).chg hc8_ (by omega) (by omega)
 have o12_c8:=(o12_c7.ext (Ext.refl w7_)).chg hc8_ (by omega)
 refine zjK zaR hv3_s8 (Ext.refl w8_) fun v17 o17=>?_
 refine zhE zaR (hv2_c8.ext (Ext.refl w8_)) (o17.ext (Ext.refl w8_)) (by omega) fun w9_ hc9_ hv2_s9=>?_
 have hs_hc9_:=hc9_.size
 have hv3_s8_c9:=(hv3_s8.ext (Ext.refl w8_)).chg hc9_ (by omega) (by omega)
 have o12_c9:=(o12_c8.ext (Ext.refl w8_)).chg hc9_ (by omega)
 have o17_c9:=(o17.ext (Ext.refl w8_)).chg hc9_ (by omega)
 refine zhD zaR hv2_s9 (Ext.refl w9_) fun r2 hr2=>?_
 replace hr2:=hr2.ext (Ext.refl w9_)
 refine ⟨(Ext.chgI (Ext.chgI (Ext.chgI ((Ext.chgI (Ext.chgI ((hx1_.trans hx2_).trans hx3_) hc4_ (by omega)) hc5_ (by omega)).trans hx6_) hc7_ (by omega)) hc8_ (by omega)) hc9_ (by omega)),?_⟩
 exact (hr2.mono (lo':=w.heap.size) (by omega) (Nat.le_refl _)).own
theorem zmG {w:World} {v:Value} {l:List DIns} (h:Is w v l) (hn:zoR l≤1048576) :
   CALL Tryz.prog 41 [v] w fun r w'=>Ext w w'∧Own w.heap.size w' r l:=by
 unfold zoR at hn
 refine F41_call ?_
 unfold F41
 refine zae u24 h ?_
 refine zhz (α:=DIns) u30 zaR zq8 (by omega) (by omega) fun w1 hx1 hf=>?_
 refine zaq l.length (fun k us w'=>us=[.int .i64 (k:Int)]∧Ext w w'∧∃ Fi,Fill w.heap.size 111 l.length Fi w' (l.take k)∧∀ b∈Fi,w.heap.size≤b) 0 (Nat.zero_le _) ⟨rfl,hx1,[],by simpa using hf,by simp⟩ ?_
 rintro k m u w2 hkm ⟨hu,hx2,Fi,hf2,hFl⟩
 simp only [List.map_cons,List.map_nil,List.cons.injEq,and_true] at hu
 rw [hu]
 refine zae u24 h ?_
 refine zah ?_
 refine br (fun hlt=>?_) (fun hge=>?_)
 · have hk:k<l.length:=by omega
   refine zac u24 zpY h hk fun b o hA=>?_
   refine zab zpY hA hx2 fun v19 h19=>?_
   refine (zn9 h19 hx2 (by have:=zoO (fun i:DIns=>wT i.term) (List.getElem_mem hk);omega)).mono ?_
   rintro r20 w3 ⟨hx3,F20,hm20,hl20⟩
   refine zcL u30 zaR hk ?_
   refine zfH (α:=DIns) zaR (hf2.ext hx3) (by simp [Rep.size];omega) (by simp;omega) hm20 (zhg (lo:=0) hf2 hm20 hl20) fun w4 hc4 hf4=>?_
   refine zaf (by have:=zai h;omega) ?_
   refine ⟨m-1,by omega,k+1,by omega,rfl,(hx2.trans hx3).chg_trans hc4 (by simp),Fi++F20,?_,?_⟩
   · rw [List.take_succ_eq_append_getElem hk]
     exact hf4
   intro b hb
   rcases List.mem_append.1 hb with hb | hb
   · exact hFl b hb
   exact Nat.le_trans hx2.size (hl20 b hb)
 have hk:k=l.length:=by omega
 subst hk
 rw [List.take_length] at hf2
 exact ⟨hx2,_,hf2.own rfl (by rw [zam];omega),by simpa using hFl⟩
def F9 (a0:Value) (w:World) (R:VW):Prop:=
 oP (Instr.box 26 a0) w fun x1 w=>
 oP (Instr.alloc 32 true (.tuple #[])) w fun x2 w=>
 oP (Instr.alloc 32 true (.tuple #[])) w fun x3 w=>
 rF 26 x1 0 w fun x4=>
 rL 22 x4 w fun x5=>
 cL 39 [x5] w fun x6 w=>
 rF 32 x3 0 w fun x7=>
 oS 22 x7 x6 w fun w=>
 rF 26 x1 1 w fun x8=>
 rL 22 x8 w fun x9=>
 cL 39 [x9] w fun x10 w=>
 rF 32 x3 1 w fun x11=>
 oS 22 x11 x10 w fun w=>
 rF 26 x1 2 w fun x12=>
 rL 22 x12 w fun x13=>
 cL 39 [x13] w fun x14 w=>
 rF 32 x3 2 w fun x15=>
 oS 22 x15 x14 w fun w=>
 rF 26 x1 3 w fun x16=>
 rL 23 x16 w fun x17=>
 cL 40 [x17] w fun x18 w=>
 rF 32 x3 3 w fun x19=>
 oS 23 x19 x18 w fun w=>
 rF 26 x1 4 w fun x20=>
 rL 24 x20 w fun x21=>
 cL 41 [x21] w fun x22 w=>
 rF 32 x3 4 w fun x23=>
 oS 30 x23 x22 w fun w=>
 rL 32 x3 w fun x24=>
 oS 32 x2 x24 w fun w=>
 rD (zev 32 x2) w fun r2=>R r2 w
def cfg9:Cfg:=⟨extL,[],[],[],[],[],[]⟩
theorem F9_call {a0:Value} {w:World} {R:VW} (h:F9 a0 w R):cL 9 [a0] w R:=co (g:=cfg9) Tryz.func9 (by kernel_rfl) (by kernel_rfl) (by kernel_rfl) h
theorem zj2 {w:World} {v0:Value} {W0:World} {t:DCode}  (h0:Is W0 v0 t) (e0:Ext W0 w) (hn:zh0 t≤1048576) :
   CALL Tryz.prog 9 [v0] w fun r w'=>Ext w w'∧(Own w.heap.size w' r t):=by
 refine F9_call ?_
 unfold F9
 unfold zh0 zpr at hn
 have hs_e0:=e0.size
 refine zax zqD rfl h0 e0 fun w1_ hx1_ hA1 hV1=>?_
 have hs_hx1_:=hx1_.size
 refine zfh (α:=DCode) zqE fun w2_ hx2_ hv2=>?_
 have hg2:=hv2.lt
 have hs_hx2_:=hx2_.size
 refine zfh (α:=DCode) zqE fun w3_ hx3_ hv3=>?_
 have hg3:=hv3.lt
 have hs_hx3_:=hx3_.size
 refine zaa zoF ?_
 refine zab zb1 (za2 hA1) (hx2_.trans hx3_) fun v5 h5=>?_
 refine (zdZ (h5.ext (hx2_.trans hx3_)) (by omega)).mono ?_
 rintro r6 w4_ ⟨hx4_,o6⟩
 have o6:=o6.toI
 have hs_hx4_:=hx4_.size
 refine zaa zc4 ?_
 obtain ⟨Fv5,hO5,hF5⟩:=(hv3.ext hx4_)
 obtain ⟨Gv5,hL5⟩:=ziQ (Lens.var hO5)
 refine zbR zb1 hL5 hF5 (o6.ext (Ext.refl w4_)) (by omega) (by omega) fun w5_ hc5_ hv5_=>?_
 have hv3_s5:=hv5_ (w3_.heap.size) (by omega) (by omega) (w4_.heap.size) (by omega) (by omega)
 clear hv5_ hL5 hO5 hF5
 have hs_hc5_:=hc5_.size
 have hv2_c5:=(hv2.ext (hx3_.trans hx4_)).chg hc5_ (by omega) (by omega)
 have o6_c5:=(o6.ext (Ext.refl w4_)).chg hc5_ (by omega)
 refine zaa zoG ?_
 refine zab zb1 (zaB hA1) (Ext.chgI ((hx2_.trans hx3_).trans hx4_) hc5_ (by omega)) fun v9 h9=>?_
 refine (zdZ (h9.ext (Ext.chgI ((hx2_.trans hx3_).trans hx4_) hc5_ (by omega))) (by omega)).mono ?_
 rintro r10 w6_ ⟨hx6_,o10⟩
 have o10:=o10.toI
 have hs_hx6_:=hx6_.size
 refine zaa zb2 ?_
 obtain ⟨Fv7,hO7,hF7⟩:=(hv3_s5.ext hx6_)
 obtain ⟨Gv7,hL7⟩:=ziR (Lens.var hO7)
 refine zbR zb1 hL7 hF7 (o10.ext (Ext.refl w6_)) (by omega) (by omega) fun w7_ hc7_ hv7_=>?_
 have hv3_s7:=hv7_ (w3_.heap.size) (by omega) (by omega) (w6_.heap.size) (by omega) (by omega)
 clear hv7_ hL7 hO7 hF7
 have hs_hc7_:=hc7_.size
 have hv2_c7:=(hv2_c5.ext hx6_).chg hc7_ (by omega) (by omega)
 have o6_c7:=(o6_c5.ext hx6_).chg hc7_ (by omega)
 have o10_c7:=(o10.ext (Ext.refl w6_)).chg hc7_ (by omega)
 refine zaa zoH ?_
 refine zab zb1 (zaw hA1) (Ext.chgI ((Ext.chgI ((hx2_.trans hx3_).trans hx4_) hc5_ (by omega)).trans hx6_) hc7_ (by omega)) fun v13 h13=>?_
 refine (zdZ (h13.ext (Ext.chgI ((Ext.chgI ((hx2_.trans hx3_).trans hx4_) hc5_ (by omega)).trans hx6_) hc7_ (by omega))) (by omega)).mono ?_
 rintro r14 w8_ ⟨hx8_,o14⟩
 have o14:=o14.toI
 have hs_hx8_:=hx8_.size
 refine zaa zbS ?_
 obtain ⟨Fv9,hO9,hF9⟩:=(hv3_s7.ext hx8_)
 obtain ⟨Gv9,hL9⟩:=ziS (Lens.var hO9)
 refine zbR zb1 hL9 hF9 (o14.ext (Ext.refl w8_)) (by omega) (by omega) fun w9_ hc9_ hv9_=>?_
 have hv3_s9:=hv9_ (w3_.heap.size) (by omega) (by omega) (w8_.heap.size) (by omega) (by omega)
 clear hv9_ hL9 hO9 hF9
 have hs_hc9_:=hc9_.size
 have hv2_c9:=(hv2_c7.ext hx8_).chg hc9_ (by omega) (by omega)
 have o6_c9:=(o6_c7.ext hx8_).chg hc9_ (by omega)
 have o10_c9:=(o10_c7.ext hx8_).chg hc9_ (by omega)
 have o14_c9:=(o14.ext (Ext.refl w8_)).chg hc9_ (by omega)
 refine zaa zoI ?_
 refine zab zbv (zal hA1) (Ext.chgI ((Ext.chgI ((Ext.chgI ((hx2_.trans hx3_).trans hx4_) hc5_ (by omega)).trans hx6_) hc7_ (by omega)).trans hx8_) hc9_ (by omega)) fun v17 h17=>?_
 refine (zl6 (h17.ext (Ext.chgI ((Ext.chgI ((Ext.chgI ((hx2_.trans hx3_).trans hx4_) hc5_ (by omega)).trans hx6_) hc7_ (by omega)).trans hx8_) hc9_ (by omega))) (by omega)).mono ?_
 rintro r18 w10_ ⟨hx10_,o18⟩
 have o18:=o18.toI
 have hs_hx10_:=hx10_.size
 refine zaa zaO ?_
 obtain ⟨Fv11,hO11,hF11⟩:=(hv3_s9.ext hx10_)
 obtain ⟨Gv11,hL11⟩:=ziT (Lens.var hO11)
 refine zbR zbv hL11 hF11 (o18.ext (Ext.refl w10_)) (by omega) (by omega) fun w11_ hc11_ hv11_=>?_
 have hv3_s11:=hv11_ (w3_.heap.size) (by omega) (by omega) (w10_.heap.size) (by omega) (by omega)
 clear hv11_ hL11 hO11 hF11
 have hs_hc11_:=hc11_.size
 have hv2_c11:=(hv2_c9.ext hx10_).chg hc11_ (by omega) (by omega)
 have o6_c11:=(o6_c9.ext hx10_).chg hc11_ (by omega)
 have o10_c11:=(o10_c9.ext hx10_).chg hc11_ (by omega)
 have o14_c11:=(o14_c9.ext hx10_).chg hc11_ (by omega)
 have o18_c11:=(o18.ext (Ext.refl w10_)).chg hc11_ (by omega)
 refine zaa zoJ ?_
 refine zab zqQ (zak hA1) (Ext.chgI ((Ext.chgI ((Ext.chgI ((Ext.chgI ((hx2_.trans hx3_).trans hx4_) hc5_ (by omega)).trans hx6_) hc7_ (by omega)).trans hx8_) hc9_ (by omega)).trans hx10_) hc11_ (by omega)) fun v21 h21=>?_
 refine (zmG (h21.ext (Ext.chgI ((Ext.chgI ((Ext.chgI ((Ext.chgI ((hx2_.trans hx3_).trans hx4_) hc5_ (by omega)).trans hx6_) hc7_ (by omega)).trans hx8_) hc9_ (by omega)).trans hx10_) hc11_ (by omega))) (by omega)).mono ?_
 rintro r22 w12_ ⟨hx12_,o22⟩
 have o22:=o22.toI
 have hs_hx12_:=hx12_.size
 refine zaa zaK ?_
 obtain ⟨Fv13,hO13,hF13⟩:=(hv3_s11.ext hx12_)
 obtain ⟨Gv13,hL13⟩:=ziU (Lens.var hO13)
 refine zbR zdn hL13 hF13 (o22.ext (Ext.refl w12_)) (by omega) (by omega) fun w13_ hc13_ hv13_=>?_
 have hv3_s13:=hv13_ (w3_.heap.size) (by omega) (by omega) (w12_.heap.size) (by omega) (by omega)
 clear hv13_ hL13 hO13 hF13
 have hs_hc13_:=hc13_.size
 have hv2_c13:=(hv2_c11.ext hx12_).chg hc13_ (by omega) (by omega)
 have o6_c13:=(o6_c11.ext hx12_).chg hc13_ (by omega)
 have o10_c13:=(o10_c11.ext hx12_).chg hc13_ (by omega)
 have o14_c13:=(o14_c11.ext hx12_).chg hc13_ (by omega)
 have o18_c13:=(o18_c11.ext hx12_).chg hc13_ (by omega)
 have o22_c13:=(o22.ext (Ext.refl w12_)).chg hc13_ (by omega)
 refine zjK zdh hv3_s13 (Ext.refl w13_) fun v24 o24=>?_
 refine zhE zdh (hv2_c13.ext (Ext.refl w13_)) (o24.ext (Ext.refl w13_)) (by omega) fun w14_ hc14_ hv2_s14=>?_
 have hs_hc14_:=hc14_.size
 have hv3_s13_c14:=(hv3_s13.ext (Ext.refl w13_)).chg hc14_ (by omega) (by omega)
 have o6_c14:=(o6_c13.ext (Ext.refl w13_)).chg hc14_ (by omega)
 have o10_c14:=(o10_c13.ext (Ext.refl w13_)).chg hc14_ (by omega)
 have o14_c14:=(o14_c13.ext (Ext.refl w13_)).chg hc14_ (by omega)
 have o18_c14:=(o18_c13.ext (Ext.refl w13_)).chg hc14_ (by omega)
 have o22_c14:=(o22_c13.ext (Ext.refl w13_)).chg hc14_ (by omega)
 have o24_c14:=(o24.ext (Ext.refl w13_)).chg hc14_ (by omega)
 refine zhD zdh hv2_s14 (Ext.refl w14_) fun r2 hr2=>?_
 replace hr2:=hr2.ext (Ext.refl w14_)
 refine ⟨(Ext.chgI (Ext.chgI ((Ext.chgI ((Ext.chgI ((Ext.chgI ((Ext.chgI (((hx1_.trans hx2_).trans hx3_).trans hx4_) hc5_ (by omega)).trans hx6_) hc7_ (by omega)).trans hx8_) hc9_ (by omega)).trans hx10_) hc11_ (by omega)).trans hx12_) hc13_ (by omega)) hc14_ (by omega)),?_⟩
 exact (hr2.mono (lo':=w.heap.size) (by omega) (Nat.le_refl _)).own
theorem ze3 {w:World} {v:Value} {t:DCode} (h:Is w v t) (hn:zh0 t≤1048576):CALL Tryz.prog 9 [v] w fun r w'=>Ext w w'∧Own w.heap.size w' r t:=zj2 h (Ext.refl w) hn
end Go.Proofs.YtifonhplnmpgaaaGreat
