/-
  Parts of the proof, put together by program.
-/
import Derived.Test.YtbnjpfjjmhodnaaGreatDoorPReportOf6
set_option linter.unusedVariables false
set_option linter.unusedSimpArgs false
set_option linter.unusedSectionVars false
namespace Go.Proofs.YtbnjpfjjmhodnaaGreatDoor
open Go Go.Sh Go.Proofs
open Rep (rep)
def F76 (a0 a1:Value) (w:World) (R:VW):Prop:=
 oP (Instr.box 31 a0) w fun x2 w=>
 rL 31 x2 w fun x9=>
 cL 130 [x9] w fun x10 w=>
 rL 31 x2 w fun x11=>
 cL 132 [x11,a1] w fun x13 w=>
 rB .eql 3 T0 T0 a1 x10 w fun x16=>
 BR x16
 (rN 23 3 x13 w fun x18=>
 rB .eql 3 T0 U0 x18 (iV 0) w fun x19=>
 R x19 w)
 ((fun w=>rN 23 3 x13 w fun x21=>
 rB .neq 3 T0 U0 x21 (iV 1) w fun x22=>
 BR x22
 (R (Value.bool false) w)
 (rL 31 x2 w fun x24=>
 rX 23 x13 (iV 0) w fun x26=>
 rL 3 x26 w fun x27=>
 (fun w_=>cL 36 [x24,x27] w_ fun x28 w=>
 Ext w_ w ∧
 rB .neq 3 T0 T0 x28 x10 w fun x30=>
 BR x30
 (R (Value.bool false) w)
 (rL 31 x2 w fun x33=>
 rX 23 x13 (iV 0) w fun x35=>
 rL 3 x35 w fun x36=>
 rX 23 x13 (iV 0) w fun x39=>
 rL 3 x39 w fun x40=>
 (fun w_=>cL 133 [x33,x36] w_ fun x37 w=>
 Ext w_ w ∧
 rX 82 x37 x40 w fun x41=>
 rL 4 x41 w fun x42=>
 BR x42
 (R (Value.bool false) w)
 (rL 31 x2 w fun x45=>
 cL 76 [x45,x10] w fun x47 w=>
 rD (Op.unary .not x47) w fun x48=>
 BR x48
 (R (Value.bool false) w)
 (rL 31 x2 w fun x50=>
 cL 123 [x50] w fun x51 w=>
 LOOPI [8] [(iV 0)] w fun u9 w next9=>
 rF 31 x2 2 w fun x53=>
 rL 22 x53 w fun x54=>
 rN 22 3 x54 w fun x55=>
 rC (u9 8) x55 w fun x56=>
 BR x56
 (rX 82 x51 (u9 8) w fun x61=>
 rL 4 x61 w fun x62=>
 BR x62
 (rL 31 x2 w fun x64=>
 cL 131 [x64,(u9 8),(iV 4)] w fun x66 w=>
 cL 134 [x66,x10] w fun x68 w=>
 BR x68
 (R (Value.bool false) w)
 (rA (u9 8) (iV 1) w fun x58=>
 next9 [x58] w))
 (rA (u9 8) (iV 1) w fun x58=>
 next9 [x58] w))
 (R (Value.bool true) w)))) w)) w)) (World.drew1 w))
def cfg76:Cfg:=⟨extL,[],[(9,1180587117117783933200,[8])],[(5,[0,1,2,3,4,5,6,7,9,8,10,11,12,13,14,15,16,18,19,20,17,21,22,23,24,25,26,27,28,29],131328)],[],[],[]⟩
theorem F76_call {a0 a1:Value} {w:World} {R:VW} (h:F76 a0 a1 w R):cL 76 [a0,a1] w R:=co (g:=cfg76) Tryz.func76 (by kernel_rfl) (by kernel_rfl) (by kernel_rfl) h
def F96 (a0:Value) (w:World) (R:VW):Prop:=
 NIL a0 <|
 rF 97 a0 5 w fun x8=>
 rL 3 x8 w fun x9=>
 cL 107 [x9] w fun x10 w=>
 rN 23 3 x10 w fun x11=>
 LOOPI [3,12] [(iV 0),(iV 0)] w fun u3 w next3=>
 rC (u3 12) x11 w fun x13=>
 BR x13
 (rX 23 x10 (u3 12) w fun x14=>
 rL 3 x14 w fun x15=>
 cL 152 [a0,x15] w fun x18 w=>
 BR x18
 (rD (convert 3 139 x15) w fun x21=>
 rB .shl 3 U0 T0 (iV 1) x21 w fun x22=>
 rB .or 3 T0 T0 (u3 3) x22 w fun x23=>
 rA (u3 12) (iV 1) w fun x24=>
 next3 [x23,x24] w)
 (rA (u3 12) (iV 1) w fun x24=>
 next3 [(u3 3),x24] w))
 (R (u3 3) w)
def cfg96:Cfg:=⟨extL,[],[(3,33550376,[3,12])],[],[],[],[]⟩
theorem F96_call {a0:Value} {w:World} {R:VW} (h:F96 a0 w R):cL 96 [a0] w R:=co (g:=cfg96) Tryz.func96 (by kernel_rfl) (by kernel_rfl) (by kernel_rfl) h
def F95 (a0 a1:Value) (w:World) (R:VW):Prop:=
 NIL a0 <|
 rF 97 a0 0 w fun x10=>
 rL 31 x10 w fun x11=>
 cL 149 [x11,a1] w fun x13 w=>
 rD (Op.unary .not x13) w fun x14=>
 BR x14
 (R (iV 0) w)
 (NIL a0 <|
 rF 97 a0 1 w fun x18=>
 rL 82 x18 w fun x19=>
 rX 82 x19 a1 w fun x21=>
 rL 4 x21 w fun x22=>
 rD (Op.unary .not x22) w fun x23=>
 BR x23
 (R (iV 0) w)
 (NIL a0 <|
 rF 97 a0 5 w fun x27=>
 rL 3 x27 w fun x28=>
 cL 107 [x28] w fun x29 w=>
 rN 23 3 x29 w fun x30=>
 LOOPI [5,31] [(iV 0),(iV 0)] w fun u5 w next5=>
 rC (u5 31) x30 w fun x32=>
 BR x32
 (rX 23 x29 (u5 31) w fun x33=>
 rL 3 x33 w fun x34=>
 (fun w=>NIL a0 <|
 rF 97 a0 4 w fun x37=>
 rL 23 x37 w fun x38=>
 rX 23 x38 x34 w fun x40=>
 rL 3 x40 w fun x41=>
 NIL a0 <|
 rF 97 a0 0 w fun x44=>
 rL 31 x44 w fun x45=>
 (fun w_=>cL 151 [x45,a1] w_ fun x47 w=>
 Ext w_ w ∧
 cL 150 [x41,x47] w fun x48 w=>
 BR x48
 (rD (convert 3 139 x34) w fun x51=>
 rB .shl 3 U0 T0 (iV 1) x51 w fun x52=>
 rB .or 3 T0 T0 (u5 5) x52 w fun x53=>
 rA (u5 31) (iV 1) w fun x54=>
 next5 [x53,x54] w)
 (rA (u5 31) (iV 1) w fun x54=>
 next5 [(u5 5),x54] w)) w) (World.drew1 w))
 (R (u5 5) w)))
def cfg95:Cfg:=⟨extL,[],[(5,36028794871480480,[5,31])],[(7,[0,1,2,3,4,5,6,7,8,9,10,11,12,13],4096)],[],[],[]⟩
theorem F95_call {a0 a1:Value} {w:World} {R:VW} (h:F95 a0 a1 w R):cL 95 [a0,a1] w R:=co (g:=cfg95) Tryz.func95 (by kernel_rfl) (by kernel_rfl) (by kernel_rfl) h
open Rep (rep)
theorem zgG {w W0:World} {v0:Value} {c:DCode} (h0:Is W0 v0 c) (e0:Ext W0 w) (hc:CodeR c) :
   CALL Tryz.prog 76 [v0,.int .i64 (zb0 c:Nat)] w fun v w'=>Ext w w'∧v=.bool (decide (zdp c (zb0 c))):=by
 refine F76_call ?_
 unfold F76
 have hml:=zdn hc
 refine zbr h0 e0 fun w1 hx1 hA=>?_
 refine zac zbt hA (Ext.refl _) fun v9 h9=>?_
 refine (zfq h9 (Ext.refl _)).mono ?_
 rintro _ w2 ⟨hx2,rfl⟩
 rw [hml.1]
 refine zac zbt hA hx2 fun v11 h11=>?_
 refine (zhp (r:=zb0 c) h11 hx2 hc).mono ?_
 rintro v13 w3 ⟨hx3,ho3⟩
 refine zao ?_
 refine br (fun _=>?_) (fun h=>absurd rfl h)
 refine zag u23 ho3.is ?_
 refine zao ?_
 rw [zae]
 exact ⟨hx1.trans (hx2.trans hx3),by congr 1;rw [decide_eq_decide,zem,zlR]⟩
theorem zlT {w W0:World} {v0:Value} {r:Nat} {c:DCode} (h0:Is W0 v0 c) (e0:Ext W0 w) (hc:CodeR c) :
   CALL Tryz.prog 76 [v0,.int .i64 (r:Int)] w fun v w'=>Ext w w'∧v=.bool (decide (zdp c r)):=by
 by_cases hm:r=zb0 c
 · subst hm;exact zgG h0 e0 hc
 refine F76_call ?_
 unfold F76
 have h8:=hc.1.procs8
 have he:=hc.2.1.1
 have hml:=zdn hc
 refine zbr h0 e0 fun w1 hx1 hA=>?_
 refine zac zbt hA (Ext.refl _) fun v9 h9=>?_
 refine (zfq h9 (Ext.refl _)).mono ?_
 rintro _ w2 ⟨hx2,rfl⟩
 rw [hml.1]
 refine zac zbt hA hx2 fun v11 h11=>?_
 refine (zhp (r:=r) h11 hx2 hc).mono ?_
 rintro v28 w3 ⟨hx3,ho3⟩
 refine zao ?_
 refine br (fun h=>absurd (by omega) hm) (fun _=>?_)
 have hxd:=zak w3
 have hx14:=hx2.trans (hx3.trans hxd)
 have hS4:=ho3.is.ext hxd
 generalize World.drew1 w3=w4 at *
 have hsm:=fun a (ha:a∈zdJ c r)=>zjF hc ha
 have hnot:(¬ ∃ a,zoP c r a)→Value.bool false=.bool (decide (zdp c r)):=fun h=>by rw [decide_eq_false fun h2=>h ((zhK hm).1 h2)]
 refine zag u23 hS4 ?_
 refine zaI ?_
 rw [zae]
 refine br (fun hne=>?_) (fun heq=>?_)
 · exact ⟨hx1.trans hx14,hnot fun ⟨a,h⟩=>hne (by rw [h.1];rfl)⟩
 have hl1:(zdJ c r).length=1:=by have:=Decidable.not_not.1 heq;omega
 obtain ⟨a,ha⟩:∃ a,zdJ c r=[a]:=List.length_eq_one_iff.1 hl1
 have hal:a<c.ins.length:=hsm a (by rw [ha];simp)
 rw [ha] at hS4
 have hget:∀ {w:World} {K:Value→Prop},Ext w4 w→(K (.int .i64 (a:Int)))→RD Tryz.prog (Instr.indexAt 23 v28 (.int .i64 0)) w fun x=>RD Tryz.prog (Instr.loadAt 3 x) w K:=fun hx kk=>by
   refine zad u23 ty3 (i:=0) hS4 (by simp [zaA]) fun b3 o3 hA3=>?_
   rw [show (zaA [a])[0]'(by simp [zaA])=(a:Int) from rfl] at hA3
   exact zab ty3 hA3 hx fun _=>kk
 have hone:∀ a',zoP c r a'→a'=a:=fun a' h=>by have:=h.1;rw [ha] at this;simpa using this.symm
 refine zac zbt hA hx14 fun v24 h24=>?_
 refine hget (Ext.refl _) ?_
 refine (zea (a:=(a:Int)) h24 hx14).mono ?_
 rintro _ w5 ⟨hx5,rfl⟩
 refine ⟨hx5,?_⟩
 have hx15:=hx14.trans hx5
 refine zaI ?_
 refine br (fun hne=>?_) (fun heq2=>?_)
 · exact ⟨hx1.trans hx15,hnot fun ⟨a',h⟩=>hne (by have:=hone a' h;subst this;exact h.2.1)⟩
 refine zac zbt hA hx15 fun v33 h33=>?_
 refine hget hx5 ?_
 refine hget hx5 ?_
 refine (zmN (a:=a) h33 hx15 hc hal).mono ?_
 rintro v55 w6 ⟨hx6,ho6⟩
 refine ⟨hx6,?_⟩
 have hx16:=hx15.trans hx6
 have hmk:=zaB (n:=c.ins.length) (p:=RP (zax c) a) (i:=a)
 rw [zaM (by rw [zaj];exact hal)] at hmk
 refine zad u82 ty4 (i:=a) ho6.is (by rw [zaj];exact hal) fun b8 o8 hA8=>?_
 refine zaw ty4 hA8 (Ext.refl _) ?_
 refine zbw (fun hrp=>?_) (fun hrp=>?_)
 · exact ⟨hx1.trans hx16,hnot fun ⟨a',h⟩=>by have:=hone a' h;subst this;exact h.2.2.1 (hmk.1 hrp).2⟩
 have hnr:¬RP (zax c) a a:=fun h=>by rw [hmk.2 ⟨hal,h⟩] at hrp;cases hrp
 refine zac zbt hA hx16 fun v45 h45=>?_
 refine (zgG h45 hx16 hc).mono ?_
 rintro _ w8 ⟨hx8,rfl⟩
 have hx18:=hx16.trans hx8
 refine zaz ?_
 refine br (fun hsm=>?_) (fun hsm=>?_)
 · exact ⟨hx1.trans hx18,hnot fun ⟨a',h⟩=>hsm (zem.2 h.2.2.2.1)⟩
 have hsm':=Decidable.not_not.1 hsm
 refine zac zbt hA hx18 fun v50 h50=>?_
 refine (zfu h50 hx18 hc).mono ?_
 rintro v51 w9 ⟨hx9,ho9⟩
 have hx19:=hx18.trans hx9
 refine zaq c.procs.length (fun k us w'=>us=[.int .i64 (k:Int)]∧k≤c.procs.length∧Ext w9 w'∧∀ p,p<k→UsedP c p→¬zip c p 4 (zb0 c)) 0 (Nat.zero_le _) ⟨rfl,Nat.zero_le _,Ext.refl _,fun p h=>by omega⟩ ?_
 rintro p mk u w10 hkm ⟨hu,hkl,hx10,hD⟩
 simp only [List.map_cons,List.map_nil,List.cons.injEq,and_true] at hu
 rw [hu]
 have hx110:=hx19.trans hx10
 refine zaa zba ?_
 refine zac zbP (zar hA) hx110 fun v54 h54=>?_
 refine zag u22 h54 ?_
 refine zah ?_
 refine br (fun hlt=>?_) (fun hge=>?_)
 case refine_2=>
   have:zdp c r:=(zhK hm).2 ⟨a,ha,Decidable.not_not.1 heq2,hnr,zem.1 hsm',fun ⟨p,h1,h2⟩=>hD p (by have:=zqX hc h1;omega) h1 h2⟩
   exact ⟨hx1.trans hx110,by rw [decide_eq_true this]⟩
 have hp:p<c.procs.length:=by omega
 have hnext:(UsedP c p→¬zip c p 4 (zb0 c))→∀ q,q<p+1→UsedP c q→¬zip c q 4 (zb0 c):=fun h q hq=>by
   by_cases e:q=p
   · subst e;exact h
   exact hD q (by omega)
 have hmu:=zaB (n:=c.procs.length) (p:=UsedP c) (i:=p)
 rw [zaM (by rw [zaj];exact hp)] at hmu
 refine zad u82 ty4 (i:=p) ho9.is (by rw [zaj];exact hp) fun b11 o11 hA11=>?_
 refine zaw ty4 hA11 hx10 ?_
 refine zbw (fun hf=>?_) (fun hf=>?_)
 case refine_2=>
   refine zaf (by omega) ?_
   exact ⟨mk-1,by omega,p+1,by omega,rfl,by omega,hx10,hnext fun h=>by rw [hmu.2 ⟨hp,h⟩] at hf;cases hf⟩
 have hU:=(hmu.1 hf).2
 refine zac zbt hA hx110 fun v64 h64=>?_
 refine (ziq (p:=p) h64 hx110 hc (by rw [he];exact hp) (.inl rfl)).mono ?_
 rintro v66 w11 ⟨hx11,ho11⟩
 refine (zqW (y:=(zb0 c:Nat)) ho11.is (Ext.refl _)).mono ?_
 rintro _ w12 ⟨hx12,rfl⟩
 have hx112:=hx110.trans (hx11.trans hx12)
 have hin:((zb0 c:Nat):Int)∈zaA (zaS c.procs.length (zip c p 4))↔zip c p 4 (zb0 c):=by
   unfold zaA
   rw [List.mem_map]
   constructor
   · rintro ⟨x,hx,e⟩
     have:x=zb0 c:=by omega
     subst this;exact (zaE.1 hx).2
   intro h;exact ⟨_,zaE.2 ⟨hml.2,h⟩,rfl⟩
 refine br (fun hy=>?_) (fun hno=>?_)
 · exact ⟨hx1.trans hx112,hnot fun ⟨a',h⟩=>h.2.2.2.2 ⟨p,hU,hin.1 hy⟩⟩
 refine zaf (by omega) ?_
 exact ⟨mk-1,by omega,p+1,by omega,rfl,by omega,hx10.trans (hx11.trans hx12),hnext fun _ h=>hno (hin.2 h)⟩
noncomputable def zm4 (c:DCode):Nat:=zbY (fun r=>RootP c r∧zdp c r) c.procs.length
def RtP (c:DCode) (i r:Nat):Prop:=zd4 c i∧RootP c r∧FromP c r (zat c i).toNat
noncomputable def rtN (c:DCode) (i:Nat):Nat:=zbY (RtP c i) c.procs.length
theorem zqZ {c:DCode} (hc:CodeR c) (i:Nat):rtN c i<256:=za3 hc.1.procs8.1
theorem zsp {c:DCode} (hc:CodeR c):zm4 c<256:=za3 hc.1.procs8.1
def AccB (U:List Nat) (P:Nat→Prop) (k m:Nat):Prop:=m<256∧∀ r,m.testBit r=true↔r∈U.take k∧P r
theorem AccB.yes {U:List Nat} {P:Nat→Prop} {k m:Nat} (h:AccB U P k m) (hk:k<U.length) (h8:U[k]<8) (hp:P U[k]):AccB U P (k+1) (m ||| 2^U[k]):=by
 refine ⟨Nat.or_lt_two_pow (n:=8) h.1 (Nat.pow_lt_pow_right (by omega) h8),fun r=>?_⟩
 rw [Nat.testBit_or,Bool.or_eq_true,h.2,za9 hk,Nat.testBit_two_pow,decide_eq_true_eq]
 constructor
 · rintro (⟨h1,h2⟩ | rfl)
   · exact ⟨.inl h1,h2⟩
   exact ⟨.inr rfl,hp⟩
 rintro ⟨h1 | rfl,h2⟩
 · exact .inl ⟨h1,h2⟩
 exact .inr rfl
theorem AccB.no {U:List Nat} {P:Nat→Prop} {k m:Nat} (h:AccB U P k m) (hk:k<U.length) (hp:¬P U[k]):AccB U P (k+1) m:=by
 refine ⟨h.1,fun r=>?_⟩
 rw [h.2,za9 hk]
 constructor
 · rintro ⟨h1,h2⟩;exact ⟨.inl h1,h2⟩
 rintro ⟨h1 | rfl,h2⟩
 · exact ⟨h1,h2⟩
 exact absurd h2 hp
theorem AccB.fin {n:Nat} {Q P:Nat→Prop} {k m:Nat} (h:AccB (zaS n Q) P k m) (hk:(zaS n Q).length≤k):m=zbY (fun r=>Q r∧P r) n:=by
 refine zcV fun r=>?_
 rw [h.2,List.take_of_length_le hk,zaE]
 exact ⟨fun ⟨⟨a,b⟩,d⟩=>⟨a,b,d⟩,fun ⟨a,b,d⟩=>⟨⟨a,b⟩,d⟩⟩
theorem AccB.start (U:List Nat) (P:Nat→Prop):AccB U P 0 0:=⟨by omega,fun r=>by simp⟩
theorem zoR {w W0:World} {b:Nat} {c:DCode} (hW:WAt W0 b c) (e0:Ext W0 w) (hc:CodeR c) :
   CALL Tryz.prog 96 [.pointer (some ⟨b,0,none⟩)] w fun v w'=>Ext w w'∧v=.int .i64 (zm4 c:Nat):=by
 refine F96_call ?_
 unfold F96
 have h8:=hc.1.procs8
 have hr256:zce c<256:=za3 h8.1
 refine NIL.mk rfl ?_
 refine zaa zh0 ?_
 refine zab ty3 hW.roots e0 fun _=>?_
 refine (zcJ (m:=zce c) (by omega)).mono ?_
 rintro v10 w1 ⟨hx1,ho1⟩
 unfold zce at ho1
 rw [zcW (by omega)] at ho1
 refine zag u23 ho1.is ?_
 rw [zae]
 have hUl:=zaT (n:=c.procs.length) (p:=RootP c)
 have hUm:∀ r∈zaS c.procs.length (RootP c),r<c.procs.length∧RootP c r:=fun r hr=>zaE.1 hr
 have hfin:∀ {k m},AccB (zaS c.procs.length (RootP c)) (zdp c) k m→(zaS c.procs.length (RootP c)).length≤k→m=zm4 c:=fun h hk=>h.fin hk
 generalize zaS c.procs.length (RootP c)=U at *
 refine zaq U.length (fun k us w'=>∃ m:Nat,us=[.int .i64 (m:Int),.int .i64 (k:Int)]∧k≤U.length∧Ext w1 w'∧AccB U (zdp c) k m) 0 (Nat.zero_le _) ⟨0,rfl,Nat.zero_le _,Ext.refl _,AccB.start _ _⟩ ?_
 rintro k mk u w2 hkm ⟨m,hu,hkl,hx2,hB⟩
 obtain ⟨hu1,hu2⟩:=zb1 hu
 rw [hu1,hu2]
 refine zah ?_
 refine br (fun hlt=>?_) (fun hge=>?_)
 case refine_2=>
   rw [hfin hB (by omega)]
   exact ⟨hx1.trans hx2,rfl⟩
 have hk:k<U.length:=by omega
 obtain ⟨hrl,hrR⟩:=hUm U[k] (List.getElem_mem _)
 refine zad u23 ty3 (i:=k) ho1.is (by rw [zae];exact hk) fun b3 o3 hA3=>?_
 rw [zaL] at hA3
 have hyes:=fun hp=>hB.yes hk (by omega) hp
 have hno:=fun hp=>hB.no hk hp
 generalize U[k]=r at *
 refine zab ty3 hA3 hx2 fun _=>?_
 have hm256:=hB.1
 refine (zqY (r:=r) hW (e0.trans (hx1.trans hx2)) hc hrR).mono ?_
 rintro _ w3 ⟨hx3,rfl⟩
 refine br (fun hs=>?_) (fun hs=>?_)
 · refine zbA (by kernel_rfl) zh4 (by omega) ?_
   refine zda (by omega) ?_
   have:2^r<256:=Nat.pow_lt_pow_right (m:=r) (n:=8) (by omega) (by omega)
   refine zeZ (by omega) (by omega) ?_
   refine zaf (by omega) ?_
   exact ⟨mk-1,by omega,k+1,by omega,m ||| 2^r,rfl,by omega,hx2.trans hx3,hyes hs⟩
 refine zaf (by omega) ?_
 exact ⟨mk-1,by omega,k+1,by omega,m,rfl,by omega,hx2.trans hx3,hno hs⟩
theorem zoS {w W0:World} {b i:Nat} {c:DCode} (hW:WAt W0 b c) (e0:Ext W0 w) (hc:CodeR c) (hi:i<c.ins.length) :
   CALL Tryz.prog 95 [.pointer (some ⟨b,0,none⟩),.int .i64 (i:Int)] w fun v w'=>Ext w w'∧v=.int .i64 (rtN c i:Nat):=by
 refine F95_call ?_
 unfold F95
 have h8:=hc.1.procs8
 have hr256:zce c<256:=za3 h8.1
 obtain ⟨q,hq,hpq,_⟩:=zc7 hc hi
 refine NIL.mk rfl ?_
 refine zaa zbd ?_
 refine zac zbt hW.wl.code e0 fun v11 h11=>?_
 refine (zoF (a:=(i:Int)) h11 e0).mono ?_
 rintro _ w1 ⟨hx1,rfl⟩
 refine zaz ?_
 refine br (fun h=>absurd ⟨by omega,by omega⟩ h) (fun _=>?_)
 refine NIL.mk rfl ?_
 refine zaa zny ?_
 refine zac zep hW.wl.live (e0.trans hx1) fun v19 h19=>?_
 have hmk:=zaB (n:=c.ins.length) (p:=zd4 c) (i:=i)
 rw [zaM (by rw [zaj];exact hi)] at hmk
 refine zad u82 ty4 (i:=i) h19 (by rw [zaj];exact hi) fun b2 o2 hA2=>?_
 refine zaw ty4 hA2 (e0.trans hx1) ?_
 refine zaV ?_
 refine zbw (fun hf=>?_) (fun hf=>?_)
 · have hnl:¬zd4 c i:=fun h=>by rw [hmk.2 ⟨hi,h⟩] at hf;cases hf
   have:rtN c i=0:=(zcV (m:=0) fun r=>by simp;exact fun _ h=>hnl h.1).symm
   rw [this]
   exact ⟨hx1,rfl⟩
 have hL:zd4 c i:=(hmk.1 (by simpa using hf)).2
 refine NIL.mk rfl ?_
 refine zaa zh0 ?_
 refine zab ty3 hW.roots (e0.trans hx1) fun _=>?_
 refine (zcJ (m:=zce c) (by omega)).mono ?_
 rintro v29 w2 ⟨hx2,ho2⟩
 unfold zce at ho2
 rw [zcW (by omega)] at ho2
 refine zag u23 ho2.is ?_
 rw [zae]
 have hUl:=zaT (n:=c.procs.length) (p:=RootP c)
 have hUm:∀ r∈zaS c.procs.length (RootP c),r<c.procs.length∧RootP c r:=fun r hr=>zaE.1 hr
 have hfin:∀ {k m},AccB (zaS c.procs.length (RootP c)) (fun r=>FromP c r q) k m→(zaS c.procs.length (RootP c)).length≤k→m=rtN c i:=fun h hk=>by
   rw [h.fin hk]
   unfold rtN
   refine za8 fun r _=>?_
   unfold RtP
   rw [hpq]
   exact ⟨fun h=>⟨hL,h.1,h.2⟩,fun h=>h.2⟩
 generalize zaS c.procs.length (RootP c)=U at *
 have hx02:=hx1.trans hx2
 refine zaq U.length (fun k us w'=>∃ m:Nat,us=[.int .i64 (m:Int),.int .i64 (k:Int)]∧k≤U.length∧Ext w2 w'∧AccB U (fun r=>FromP c r q) k m) 0 (Nat.zero_le _) ⟨0,rfl,Nat.zero_le _,Ext.refl _,AccB.start _ _⟩ ?_
 rintro k mk u w3 hkm ⟨m,hu,hkl,hx3,hB⟩
 obtain ⟨hu1,hu2⟩:=zb1 hu
 rw [hu1,hu2]
 refine zah ?_
 refine br (fun hlt=>?_) (fun hge=>?_)
 case refine_2=>
   rw [hfin hB (by omega)]
   exact ⟨hx02.trans hx3,rfl⟩
 have hk:k<U.length:=by omega
 obtain ⟨hrl,hrR⟩:=hUm U[k] (List.getElem_mem _)
 refine zad u23 ty3 (i:=k) ho2.is (by rw [zae];exact hk) fun b4 o4 hA4=>?_
 rw [zaL] at hA4
 have hyes:=fun hp=>hB.yes hk (by omega) hp
 have hno:=fun hp=>hB.no hk hp
 generalize U[k]=r at *
 refine zab ty3 hA4 hx3 fun _=>?_
 have hm256:=hB.1
 have hxd:=zak w3
 have hx23:=hx3.trans hxd
 generalize World.drew1 w3=w4 at *
 have e4:=e0.trans (hx02.trans hx23)
 refine NIL.mk rfl ?_
 refine zaa zk2 ?_
 refine zac zbE hW.frm e4 fun v38 h38=>?_
 refine zad u23 ty3 (i:=r) h38 (by rw [zae,zg3];exact hrl) fun b5 o5 hA5=>?_
 rw [zaG] at hA5
 refine zab ty3 hA5 e4 fun _=>?_
 refine NIL.mk rfl ?_
 refine zaa zbd ?_
 refine zac zbt hW.wl.code e4 fun v45 h45=>?_
 refine (zlu (a:=(i:Int)) h45 e4 hc (by omega) (by omega)).mono ?_
 rintro _ w5 ⟨hx5,rfl⟩
 refine ⟨hx5,?_⟩
 rw [hpq]
 have hfb:=zmX (c:=c) (r:=q) hrl
 have hf256:zau (frs c) r<256:=by rw [znU hrl];exact za3 h8.1
 refine (zee (m:=zau (frs c) r) (i:=q) (by omega) (by omega)).mono ?_
 rintro _ w6 ⟨hx6,rfl⟩
 have hx26:=hx23.trans (hx5.trans hx6)
 refine zbw (fun hs=>?_) (fun hs=>?_)
 · refine zbA (by kernel_rfl) zh4 (by omega) ?_
   refine zda (by omega) ?_
   have:2^r<256:=Nat.pow_lt_pow_right (m:=r) (n:=8) (by omega) (by omega)
   refine zeZ (by omega) (by omega) ?_
   refine zaf (by omega) ?_
   exact ⟨mk-1,by omega,k+1,by omega,m ||| 2^r,rfl,by omega,hx26,hyes (hfb.1 hs).2⟩
 refine zaf (by omega) ?_
 exact ⟨mk-1,by omega,k+1,by omega,m,rfl,by omega,hx26,hno fun h=>by rw [hfb.2 ⟨hq,h⟩] at hs;cases hs⟩
end Go.Proofs.YtbnjpfjjmhodnaaGreatDoor
namespace Go.Proofs.YtbnjpfjjmhodnaaGreatDoor
open Go Go.Sh Go.Proofs Go.Sort
open Rep (rep)
def F109 (a0 a1:Value) (w:World) (R:VW):Prop:=
 oP (Instr.box 131 a0) w fun x2 w=>
 oP (Instr.box 131 a1) w fun x3 w=>
 rF 131 x2 0 w fun x5=>
 rL 3 x5 w fun x6=>
 rF 131 x2 1 w fun x7=>
 rL 3 x7 w fun x8=>
 rF 131 x2 2 w fun x9=>
 rL 3 x9 w fun x10=>
 oP (Instr.buildSlice 23 3 #[(0,x6),(1,x8),(2,x10)]) w fun x11 w=>
 rF 131 x3 0 w fun x12=>
 rL 3 x12 w fun x13=>
 rF 131 x3 1 w fun x14=>
 rL 3 x14 w fun x15=>
 rF 131 x3 2 w fun x16=>
 rL 3 x16 w fun x17=>
 oP (Instr.buildSlice 23 3 #[(0,x13),(1,x15),(2,x17)]) w fun x18 w=>
 cL 110 [x11,x18] w fun x19 w=>
 R x19 w
def cfg109:Cfg:=⟨extL,[],[],[],[],[],[]⟩
theorem F109_call {a0 a1:Value} {w:World} {R:VW} (h:F109 a0 a1 w R):cL 109 [a0,a1] w R:=co (g:=cfg109) Tryz.func109 (by kernel_rfl) (by kernel_rfl) (by kernel_rfl) h
open Rep (rep)
structure DOrder where
 fr:Int
 to:Int
 at_:Int
theorem DOrder.ext_iff {x y:DOrder}:x=y↔(x.fr=y.fr∧x.to=y.to∧x.at_=y.at_):=⟨fun h=>by rw [h];exact ⟨rfl,rfl,rfl⟩,fun h=>by obtain ⟨h0,h1,h2⟩:=h;cases x;cases y;simp only at h0 h1 h2;simp only [h0,h1,h2]⟩
instance:DecidableEq DOrder:=fun x y=>decidable_of_iff (x.fr=y.fr∧x.to=y.to∧x.at_=y.at_) DOrder.ext_iff.symm
instance:Rep DOrder:=Rep.via fun x=>(x.fr,x.to,x.at_)
theorem ziI {w:World} {b o:Nat} {x:DOrder} (h:At w b o x):At w b (o+0) x.fr:=zcF (α:=Int) (β:=Int×Int) (p:=(x.fr,x.to,x.at_)) h
theorem ziJ {w:World} {b o:Nat} {x:DOrder} (h:At w b o x):At w b (o+1) x.to:=zcF (α:=Int) (β:=Int) (p:=(x.to,x.at_)) (zbq (α:=Int) (β:=Int×Int) (p:=(x.fr,x.to,x.at_)) h)
instance:RepZ DOrder:=⟨⟨(RepZ.zv:Int),(RepZ.zv:Int),(RepZ.zv:Int)⟩,RepZ.zc (Int×Int×Int),fun w=>RepZ.zr (α:=Int×Int×Int) w⟩
instance:Flat DOrder:=⟨fun h=>Flat.flat (α:=Int×Int×Int) h⟩
def zq0 (x:DOrder):List Int:=[x.fr,x.to,x.at_]
def zsq (x y:DOrder):Int:=zqQ (zq0 x) (zq0 y)
theorem zq1 {w:World} {x y:DOrder}:CALL Tryz.prog 109 [.agg (i3 x.fr x.to x.at_),.agg (i3 y.fr y.to y.at_)] w fun r w'=>r=.int .i64 (zsq x y)∧zf4 w w':=by
 refine F109_call ?_
 unfold F109
 refine zkC ?_
 have hB1:Blk w.heap.size 131 (w.alloc (.cells (i3 x.fr x.to x.at_) 131)) (vI (zq0 x)):=heap_alloc_new w _
 refine zkC ?_
 generalize hw1:w.alloc (.cells (i3 x.fr x.to x.at_) 131)=w1 at *
 have hB2:Blk w1.heap.size 131 (w1.alloc (.cells (i3 y.fr y.to y.at_) 131)) (vI (zq0 y)):=heap_alloc_new w1 _
 have hx2:=zaP w1 (.cells (i3 y.fr y.to y.at_) 131)
 generalize hw2:w1.alloc (.cells (i3 y.fr y.to y.at_) 131)=w2 at *
 have hB12:=hB1.ext hx2
 refine zaa zj6 ?_
 refine zay ty3 hB12 rfl ?_
 refine zaa zj7 ?_
 refine zay ty3 hB12 rfl ?_
 refine zaa zpJ ?_
 refine zay ty3 hB12 rfl ?_
 refine zfw u23 ty3 zvv ?_
 have hx3:=zaP w2 (.cells (vI [x.fr,x.to,x.at_]).toArray 3)
 have hB3:Blk w2.heap.size 3 (w2.alloc (.cells (vI [x.fr,x.to,x.at_]).toArray 3)) (vI (zq0 x)):=heap_alloc_new w2 _
 generalize hw3:w2.alloc (.cells (vI [x.fr,x.to,x.at_]).toArray 3)=w3 at *
 have hB23:=hB2.ext hx3
 refine zaa zj6 ?_
 refine zay ty3 hB23 rfl ?_
 refine zaa zj7 ?_
 refine zay ty3 hB23 rfl ?_
 refine zaa zpJ ?_
 refine zay ty3 hB23 rfl ?_
 refine zfw u23 ty3 zvv ?_
 have hx4:=zaP w3 (.cells (vI [y.fr,y.to,y.at_]).toArray 3)
 have hB4:Blk w3.heap.size 3 (w3.alloc (.cells (vI [y.fr,y.to,y.at_]).toArray 3)) (vI (zq0 y)):=heap_alloc_new w3 _
 have hg:zf4 w (w3.alloc (.cells (vI [y.fr,y.to,y.at_]).toArray 3)):=by rw [←hw3,←hw2,←hw1];exact zho _ _ _ _
 refine (ziD (l:=zq0 x) (m:=zq0 y) (hB3.ext hx4) hB4 (by simp [zq0]) (by simp [zq0])).mono ?_
 rintro _ _ ⟨rfl,rfl⟩
 exact ⟨rfl,hg⟩
def ltO (x y:DOrder):Prop:=x.fr<y.fr∨(x.fr=y.fr∧(x.to<y.to∨(x.to=y.to∧x.at_<y.at_)))
theorem zua {x y:DOrder}:zsq x y<0↔ltO x y:=by
 unfold zsq zq0 ltO
 simp only [zqQ]
 rcases Int.lt_trichotomy x.fr y.fr with h | h | h
 · rw [zg6 h];simp;omega
 · rw [zg8 h]
   rcases Int.lt_trichotomy x.to y.to with h2 | h2 | h2
   · rw [zg6 h2];simp;omega
   · rw [zg8 h2]
     rcases Int.lt_trichotomy x.at_ y.at_ with h3 | h3 | h3
     · rw [zg6 h3];simp;omega
     · rw [zg8 h3];simp;omega
     rw [zg7 h3];simp;omega
   rw [zg7 h2];simp;omega
 rw [zg7 h];simp;omega
instance (x y:DOrder):Decidable (ltO x y):=by unfold ltO;infer_instance
theorem zfA (x:DOrder):¬ltO x x:=by unfold ltO;omega
theorem zlU {x y z:DOrder} (h:ltO x y) (k:ltO y z):ltO x z:=by unfold ltO at *;omega
theorem zlV {x y:DOrder} (h:¬ltO x y) (k:¬ltO y x):x=y:=by
 unfold ltO at *
 exact DOrder.ext_iff.2 ⟨by omega,by omega,by omega⟩
theorem ziK:∀ {l m:List DOrder},l.Pairwise ltO→m.Pairwise ltO→(∀ x,x∈l↔x∈m)→l=m
 | [],[],_,_,_=>rfl
 | [],y :: m,_,_,h=>by have:=(h y).2 (by simp);cases this
 | x :: l,[],_,_,h=>by have:=(h x).1 (by simp);cases this
 | x :: l,y :: m,h1,h2,h=>by
   rw [List.pairwise_cons] at h1 h2
   have hxy:x=y:=by
     rcases List.mem_cons.1 ((h x).1 (by simp)) with e | hm
     · exact e
     rcases List.mem_cons.1 ((h y).2 (by simp)) with e | hl
     · exact e.symm
     exact absurd (zlU (h1.1 y hl) (h2.1 x hm)) (zfA x)
   subst hxy
   congr 1
   refine ziK h1.2 h2.2 fun z=>⟨fun hz=>?_,fun hz=>?_⟩
   · rcases List.mem_cons.1 ((h z).1 (by simp [hz])) with rfl | h'
     · exact absurd (h1.1 z hz) (zfA z)
     exact h'
   rcases List.mem_cons.1 ((h z).2 (by simp [hz])) with rfl | h'
   · exact absurd (h2.1 z hz) (zfA z)
   exact h'
instance:Inhabited DOrder:=⟨⟨0,0,0⟩⟩
def zuF (x:DOrder):List Value:=[.int .i64 x.fr,.int .i64 x.to,.int .i64 x.at_]
theorem zsr:∀ {F:List Nat} {w:World} {cs:List Value} {x:DOrder},Rep.rep F w cs x→cs=zuF x:=by
 intro F w cs x h
 obtain ⟨F1,F2,c1,c2,rfl,rfl,⟨rfl,rfl,_⟩,⟨F3,F4,c3,c4,rfl,rfl,⟨rfl,rfl,_⟩,⟨rfl,rfl,_⟩⟩⟩:=h
 rfl
theorem zdK {x y:DOrder}:ltOf zsq x y=decide (ltO x y):=by
 unfold ltOf
 rw [decide_eq_decide]
 exact zua
theorem zub:SWO (ltOf zsq):=by
 refine ⟨fun x=>?_,fun x y z h k=>?_,fun x y z h k=>?_⟩
 · rw [zdK,decide_eq_false_iff_not];exact zfA x
 · rw [zdK,decide_eq_true_eq] at *;exact zlU h k
 rw [zdK,decide_eq_false_iff_not] at *
 intro hc
 unfold ltO at *
 omega
def zuc (l:List DOrder):List DOrder:=l.mergeSort fun x y=>!(ltOf zsq) y x
theorem ziL (l:List DOrder):(zuc l).Perm l:=List.mergeSort_perm l _
theorem zss (l:List DOrder):(zuc l).length=l.length:=(ziL l).length_eq
theorem zud (l:List DOrder):(zuc l).Pairwise fun x y=>¬ltO y x:=by
 have:=List.pairwise_mergeSort (le:=fun x y=>!(ltOf zsq) y x) (fun a b c h1 h2=>by
   simp only [zdK,Bool.not_eq_true',decide_eq_false_iff_not] at *
   unfold ltO at *;omega) (fun a b=>by
   simp only [zdK,Bool.or_eq_true,Bool.not_eq_true',decide_eq_false_iff_not]
   unfold ltO;omega) l
 exact this.imp fun h=>by simpa [zdK] using h
theorem zst {w:World} {lo hi:Nat} {v:Value} {l:List DOrder} (h:OwnI lo hi w v l) (hn:l.length≤1073741824) :
   CALL Tryz.prog 108 [v,.func (.func 109) #[] #[]] w fun r w'=>ChgI lo hi w w'∧OwnI lo hi w' v (zuc l):=by
 obtain ⟨F,hM,hF⟩:=h
 by_cases hne:l=[]
 · subst hne
   obtain ⟨a,cap,hv⟩:∃ a cap,v=.slice a 0 cap:=by
     obtain ⟨cs,⟨a,cap,G,xs,h,_⟩,hv⟩:=hM.own
     exact ⟨a,cap,by rw [hv,h];rfl⟩
   subst hv
   refine ⟨(AnyF.slices_SortFunc_none Tryz.sortOrder a cap _ w).mono ?_⟩
   rintro e w' ⟨he,rfl⟩
   refine ⟨_,he,ChgI.refl _,F,?_,hF⟩
   have:zuc []=[]:=List.eq_nil_of_length_eq_zero (by rw [zss];rfl)
   rw [this];exact hM
 obtain ⟨b,o,cap,xs,rfl,rfl,h1,h2,hcc,hrr,hww⟩:=zdv hM hne
 have henc:=@zsr
 have hk:∀ x,(zuF x).length=Rep.size DOrder:=fun _=>rfl
 obtain ⟨c,e,hbe⟩:=hww
 have hb:b<w.heap.size:=(Array.getElem?_eq_some_iff.1 hbe).1
 have hcmp:CmpLays Tryz.prog 109 #[] zuF 3 zsq b o l.toArray.size w:=fun m os dk _ x y=>by
   have:=zq1 (w:=sortWorldK zuF 3 w b o m dk os) (x:=x) (y:=y)
   obtain ⟨h⟩:=this
   refine h.mono ?_
   rintro e w' ⟨v,he,hv,q,os',hw'⟩
   exact ⟨by rw [he,hv],q,os',hw'⟩
 refine ⟨(AnyQ.slices_SortFunc_total Tryz.sortOrder 3 Tryz.isAgg131 Tryz.sizeOf131 zuF (fun _=>rfl) (fun x v hv=>by
     simp only [zuF,List.mem_cons,List.not_mem_nil,or_false] at hv
     rcases hv with rfl | rfl | rfl<;>rfl) zsq zub 109 #[] b o cap l.toArray w (zc1 (ent 109 (by decide) (by kernel_rfl))) hcmp (ziA henc hk ⟨c,e,hbe⟩ hcc hrr) hb (by simp;omega) (fun x y h k=>by
     rw [zdK,decide_eq_false_iff_not] at *;exact zlV h k)).mono ?_⟩
 rintro ex w' ⟨he,n,os,hw'⟩
 have hs:=ziB henc hk (cap:=cap) hw' ⟨c,e,hbe⟩ hcc hrr h1 h2 (by simp) (fun x hx=>by simpa [List.mem_mergeSort] using hx)
 refine ⟨_,he,?_,[b],?_,hF⟩
 · exact hs.1.toI (fun i hi=>hF i hi)
 exact hs.2
def OrdP (c:DCode) (fr to i:Nat):Prop:=MetP c i∧(zal c i).op=6∧agN c i=to∧MayP c i fr
def mkO (fr to i:Nat):DOrder:=⟨fr,to,i⟩
theorem MayP.locks {c:DCode} (hc:CodeR c) {i l:Nat} (h:MayP c i l):l<c.locks.length:=by
 induction h with
 | lock hm ho ha hj=>subst ha;exact (zcl hc (hm.lt hc) (.inl ho)).2.1
 | pass _ _ _ _ _ ih=>exact ih
 | call _ _ _ ih=>exact ih
 | back _ _ _ _ _ ih=>exact ih
open Classical in
noncomputable def zeS (c:DCode) (fr to i:Nat):List DOrder:=if OrdP c fr to i then [mkO fr to i] else []
noncomputable def ziM (c:DCode) (fr to:Nat):List DOrder:=(List.range c.ins.length).flatMap (zeS c fr to)
noncomputable def zgH (c:DCode) (fr:Nat):List DOrder:=(List.range c.locks.length).flatMap (ziM c fr)
noncomputable def zdq (c:DCode):List DOrder:=(List.range c.locks.length).flatMap (zgH c)
theorem zfb {c:DCode} {fr to i:Nat} {x:DOrder}:x∈zeS c fr to i↔OrdP c fr to i∧x=mkO fr to i:=by
 unfold zeS;split
 · rename_i h;simp [h]
 rename_i h;simp [h]
theorem zhL {c:DCode} (hc:CodeR c) {x:DOrder}:x∈zdq c↔∃ fr to i,OrdP c fr to i∧x=mkO fr to i:=by
 unfold zdq zgH ziM
 simp only [List.mem_flatMap,List.mem_range,zfb]
 constructor
 · rintro ⟨fr,_,to,_,i,_,h⟩;exact ⟨fr,to,i,h⟩
 rintro ⟨fr,to,i,h,e⟩
 have hi:=h.1.lt hc
 exact ⟨fr,h.2.2.2.locks hc,to,h.2.2.1▸(zcl hc hi (.inl h.2.1)).2.1,i,hi,h,e⟩
theorem zg9 {α β:Type} {f:α→List β} {B:Nat}:∀ {l:List α},(∀ a∈l,(f a).length≤B)→(l.flatMap f).length≤l.length*B
 | [],_=>by simp
 | a :: l,h=>by
   have h1:=h a (by simp)
   have h2:=zg9 (l:=l) fun b hb=>h b (by simp [hb])
   simp only [List.flatMap_cons,List.length_append,List.length_cons,Nat.add_mul]
   omega
theorem zq2 (c:DCode) (fr to i:Nat):(zeS c fr to i).length≤1:=by unfold zeS;split<;>simp
theorem zlW (c:DCode) (fr to k:Nat):((List.range k).flatMap (zeS c fr to)).length≤k:=by
 have:=zg9 (l:=List.range k) fun a _=>zq2 c fr to a
 simpa using this
theorem zlX {c:DCode} (hn:c.ins.length≤1500) (fr k:Nat):((List.range k).flatMap (ziM c fr)).length≤k*1500:=by
 have:=zg9 (l:=List.range k) (f:=ziM c fr) (B:=1500) fun a _=>Nat.le_trans (zlW c fr a _) hn
 rw [List.length_range] at this;exact this
theorem zlY {c:DCode} (hn:c.ins.length≤1500) (hl:c.locks.length≤6) (k:Nat):((List.range k).flatMap (zgH c)).length≤k*9000:=by
 have:=zg9 (l:=List.range k) (f:=zgH c) (B:=9000) fun a _=>by
   have:=zlX hn a c.locks.length
   unfold zgH;omega
 rw [List.length_range] at this;exact this
theorem zoc {c:DCode} (hc:CodeR c):(zdq c).length≤54000:=by
 have h6:=hc.1.locks6
 exact Nat.le_trans (zlY hc.f.ins h6 _) (by omega)
theorem zm5 (c:DCode):(zdq c).Pairwise ltO:=by
 unfold zdq zgH ziM
 have hr:∀ n,(List.range n).Pairwise (fun a b=>a<b):=fun n=>List.pairwise_lt_range
 refine List.pairwise_flatMap.2 ⟨fun fr _=>List.pairwise_flatMap.2 ⟨fun to _=>List.pairwise_flatMap.2 ⟨fun i _=>?_,(hr _).imp ?_⟩,(hr _).imp ?_⟩,(hr _).imp ?_⟩
 · unfold zeS;split<;>simp
 · intro a b hab x hx y hy
   obtain ⟨_,rfl⟩:=zfb.1 hx
   obtain ⟨_,rfl⟩:=zfb.1 hy
   exact .inr ⟨rfl,.inr ⟨rfl,Int.ofNat_lt.2 hab⟩⟩
 · intro a b hab x hx y hy
   simp only [List.mem_flatMap,zfb] at hx hy
   obtain ⟨_,_,_,rfl⟩:=hx
   obtain ⟨_,_,_,rfl⟩:=hy
   exact .inr ⟨rfl,.inl (Int.ofNat_lt.2 hab)⟩
 intro a b hab x hx y hy
 simp only [List.mem_flatMap,zfb] at hx hy
 obtain ⟨_,_,_,_,_,rfl⟩:=hx
 obtain ⟨_,_,_,_,_,rfl⟩:=hy
 exact .inl (Int.ofNat_lt.2 hab)
def ztv (c:DCode) (i:Nat) (l:Int):DOrder:=⟨l,agN c i,i⟩
open Classical in
noncomputable def zpq (c:DCode) (i:Nat):List DOrder:=if MetP c i∧(zal c i).op=6 then (zbn (zau (zlB c) i)).map (ztv c i) else []
noncomputable def zmk (c:DCode) (k:Nat):List DOrder:=(List.range k).flatMap (zpq c)
theorem zlZ {m:Nat} (hm:m<64) {x:Int}:x∈zbn m↔∃ i:Nat,x=(i:Int)∧m.testBit i=true:=by
 unfold zbn
 rw [zcB]
 constructor
 · rintro ⟨i,_,h⟩;exact ⟨i,h⟩
 rintro ⟨i,h,hb⟩;exact ⟨i,by have:=zeE hm hb;omega,h,hb⟩
theorem ziN (m:Nat):∀ k,(zcA m k).Pairwise (fun a b=>a<b)
 | 0=>by simp [zcA]
 | k+1=>by
   rw [zcA]
   split
   · refine List.pairwise_append.2 ⟨ziN m k,by simp,fun a ha b hb=>?_⟩
     obtain ⟨i,hi,rfl,_⟩:=zcB.1 ha
     simp only [List.mem_singleton] at hb
     omega
   exact ziN m k
theorem zod {c:DCode} {i:Nat} {x:DOrder} (hi:i<c.ins.length):x∈zpq c i↔∃ fr to,OrdP c fr to i∧fr<6∧x=mkO fr to i:=by
 unfold zpq
 split
 · rename_i h
   rw [zmR hi]
   simp only [List.mem_map,zlZ zit,zjw]
   constructor
   · rintro ⟨_,⟨l,rfl,h6,hm⟩,rfl⟩;exact ⟨l,agN c i,⟨h.1,h.2,rfl,hm⟩,h6,rfl⟩
   rintro ⟨fr,to,hp,h6,rfl⟩
   refine ⟨fr,⟨fr,rfl,h6,hp.2.2.2⟩,?_⟩
   unfold ztv mkO
   rw [hp.2.2.1]
 rename_i h
 constructor
 · intro h;cases h
 rintro ⟨fr,to,hp,_⟩;exact absurd ⟨hp.1,hp.2.1⟩ h
theorem zsu {c:DCode} {i:Nat}:(zpq c i).length≤64:=by
 unfold zpq;split
 · rw [List.length_map];exact zed _ 64
 simp
theorem zsv (c:DCode) (k:Nat):(zmk c k).length≤k*64:=by
 have:=zg9 (l:=List.range k) fun a _=>zsu (c:=c) (i:=a)
 rw [List.length_range] at this;exact this
theorem zoT (x y:DOrder):ltO x y∨x=y∨ltO y x:=by
 by_cases h1:ltO x y
 · exact .inl h1
 by_cases h2:ltO y x
 · exact .inr (.inr h2)
 exact .inr (.inl (zlV h1 h2))
theorem zq3 {c:DCode} (hc:CodeR c):zuc (zmk c c.ins.length)=zdq c:=by
 have hmem:∀ x,x∈zmk c c.ins.length↔x∈zdq c:=fun x=>by
   rw [zhL hc]
   unfold zmk
   simp only [List.mem_flatMap,List.mem_range]
   constructor
   · rintro ⟨i,hi,hx⟩
     obtain ⟨fr,to,h,_,e⟩:=(zod hi).1 hx
     exact ⟨fr,to,i,h,e⟩
   rintro ⟨fr,to,i,h,e⟩
   have hi:=h.1.lt hc
   have:=h.2.2.2.locks hc
   have h6:=hc.1.locks6
   exact ⟨i,hi,(zod hi).2 ⟨fr,to,h,by omega,e⟩⟩
 have hnd:(zmk c c.ins.length).Pairwise (fun x y=>x≠y):=by
   unfold zmk
   refine List.pairwise_flatMap.2 ⟨fun i _=>?_,List.pairwise_lt_range.imp ?_⟩
   · unfold zpq;split
     · refine List.pairwise_map.2 ((ziN _ _).imp fun {a b} h e=>?_)
       have:=congrArg DOrder.fr e
       unfold ztv at this;simp only at this;omega
     simp
   intro a b hab x hx y hy e
   have h1:∀ {i:Nat} {x:DOrder},x∈zpq c i→x.at_=i:=fun {i x} hx=>by
     unfold zpq at hx;split at hx
     · obtain ⟨l,_,rfl⟩:=List.mem_map.1 hx;rfl
     cases hx
   have:=h1 hx
   have h2:=h1 hy
   rw [e,h2] at this
   omega
 refine ziK ?_ (zm5 c) fun x=>(ziL _).mem_iff.trans (hmem x)
 have h1:=zud (zmk c c.ins.length)
 have h2:(zuc (zmk c c.ins.length)).Pairwise (fun x y=>x≠y):=(ziL _).symm.pairwise hnd (fun h e=>h e.symm)
 refine (List.pairwise_and_iff.2 ⟨h1,h2⟩).imp fun {x y} h=>?_
 rcases zoT x y with h3 | h3 | h3
 · exact h3
 · exact absurd h3 h.2
 exact absurd h3 h.1
def F57 (a0:Value) (w:World) (R:VW):Prop:=
 cL 93 [a0] w fun x11 w=>
 cL 106 [a0,x11] w fun x14 w=>
 NIL a0 <|
 rF 97 a0 0 w fun x17=>
 rF 31 x17 4 w fun x18=>
 rL 29 x18 w fun x19=>
 rN 29 3 x19 w fun x20=>
 LOOPI [5,21] [(Value.slice none 0 0),(iV 0)] w fun u5 w next5=>
 rC (u5 21) x20 w fun x22=>
 BR x22
 (rX 29 x19 (u5 21) w fun x24=>
 rL 94 x24 w fun x25=>
 oP (Instr.alloc 94 true (.tuple #[])) w fun x7 w=>
 oS 94 x7 x25 w fun w=>
 rF 94 x7 0 w fun x26=>
 rL 3 x26 w fun x27=>
 rB .neq 3 T0 U0 x27 (iV 6) w fun x28=>
 BR x28
 (rA (u5 21) (iV 1) w fun x55=>
 next5 [(u5 5),x55] w)
 (rX 82 x11 (u5 21) w fun x32=>
 rL 4 x32 w fun x33=>
 rD (Op.unary .not x33) w fun x34=>
 BR x34
 (rA (u5 21) (iV 1) w fun x55=>
 next5 [(u5 5),x55] w)
 (rX 23 x14 (u5 21) w fun x38=>
 rL 3 x38 w fun x39=>
 cL 107 [x39] w fun x40 w=>
 rN 23 3 x40 w fun x41=>
 LOOPI [5,42] [(u5 5),(iV 0)] w fun u9 w next9=>
 rC (u9 42) x41 w fun x43=>
 BR x43
 (rX 23 x40 (u9 42) w fun x44=>
 rL 3 x44 w fun x45=>
 rF 94 x7 1 w fun x48=>
 rL 3 x48 w fun x49=>
 rD (Instr.build 131 #[(0,x45),(1,x49),(2,(u5 21))]) w fun x51=>
 oP (Instr.buildSlice 106 1 #[(0,x51)]) w fun x52 w=>
 oP (Builtin.append_ #[106,106] 106 [(u9 5),x52].toArray) w fun x53 w=>
 rA (u9 42) (iV 1) w fun x54=>
 next9 [x53,x54] w)
 (rA (u5 21) (iV 1) w fun x55=>
 next5 [(u9 5),x55] w))))
 (cL 108 [(u5 5),(Value.func (.func 109) #[] #[])] w fun x57 w=>
 R (u5 5) w)
def cfg57:Cfg:=⟨extL,[],[(5,72057594035831520,[5,21]),(9,36024398972453408,[5,42])],[],[],[],[]⟩
theorem F57_call {a0:Value} {w:World} {R:VW} (h:F57 a0 w R):cL 57 [a0] w R:=co (g:=cfg57) Tryz.func57 (by kernel_rfl) (by kernel_rfl) (by kernel_rfl) h
open Rep (rep)
theorem ztw {w:World} {a b d:Int} (ha:I64 a) (hb:I64 b) (hd:I64 d):Is w (.agg #[.int .i64 a,.int .i64 b,.int .i64 d]) (⟨a,b,d⟩:DOrder):=
 ⟨[],_,⟨[],[],[.int .i64 a],_,rfl,rfl,⟨rfl,rfl,ha⟩,⟨[],[],[.int .i64 b],_,rfl,rfl,⟨rfl,rfl,hb⟩,⟨rfl,rfl,hd⟩⟩⟩,rfl⟩
structure OI (wb w:World) (out:Value) (L:List DOrder):Prop where
 ext:Ext wb w
 row:∃ lo hi,wb.heap.size≤lo∧hi≤w.heap.size∧RowI lo hi 131 w out L
theorem OI.step {wb w w':World} {out:Value} {L:List DOrder} (h:OI wb w out L) (hx:Ext w w'):OI wb w' out L:=by
 obtain ⟨lo,hi,h1,h2,hr⟩:=h.row
 exact ⟨h.ext.trans hx,lo,hi,h1,Nat.le_trans h2 hx.size,hr.ext hx⟩
theorem OI.own {wb w:World} {out:Value} {L:List DOrder} (h:OI wb w out L):Own wb.heap.size w out L:=by
 obtain ⟨lo,hi,h1,h2,hr⟩:=h.row
 exact hr.own.own.mono (by omega)
theorem zq4 {w W0:World} {b:Nat} {c:DCode} (hW:WAt W0 b c) (e0:Ext W0 w) (hc:CodeR c) :
   CALL Tryz.prog 57 [.pointer (some ⟨b,0,none⟩)] w fun r w'=>Ext w w'∧Own w.heap.size w' r (zdq c):=by
 refine F57_call ?_
 unfold F57
 have hil:=hc.f.ins
 have hcode:=hW.wl.code
 refine (ztp hW e0 hc).mono ?_
 rintro v11 w1 ⟨hx1,ho1⟩
 refine (zve hW (e0.trans hx1) ho1.is (Ext.refl _) hc).mono ?_
 rintro v14 w2 ⟨hx2,ho2⟩
 have hx12:=hx1.trans hx2
 have hMe:=ho1.is.ext hx2
 have hMa:=ho2.is
 have hs12:=hx12.size
 refine NIL.mk rfl ?_
 refine zaa zbd ?_
 refine zaa zaJ ?_
 refine zac zct (zai hcode) (e0.trans hx12) fun v19 h19=>?_
 refine zag u29 h19 ?_
 have hml:(zeU c).length=c.ins.length:=by unfold zeU;rw [zaj]
 have hbl:=zsv c
 have hO0:OI w2 w2 (.slice none 0 0) (zmk c 0):=⟨Ext.refl _,w2.heap.size,w2.heap.size,Nat.le_refl _,Nat.le_refl _,zcp _ _ _ _⟩
 refine zaq c.ins.length (fun k us w'=>∃ out,us=[out,.int .i64 (k:Int)]∧k≤c.ins.length∧OI w2 w' out (zmk c k)) 0 (Nat.zero_le _) ⟨_,rfl,Nat.zero_le _,hO0⟩ ?_
 rintro k mk u w3 hkm ⟨out,hu,hkl,hO3⟩
 obtain ⟨hu1,hu2⟩:=zb1 hu
 rw [hu1,hu2]
 have hsuc:zmk c (k+1)=zmk c k++zpq c k:=zfy k
 have hblk:=hbl k
 refine zah ?_
 refine br (fun hlt=>?_) (fun hge=>?_)
 case refine_2=>
   have hke:k=c.ins.length:=by omega
   rw [hke] at hO3 hblk
   obtain ⟨lo,hi,h1,h2,hr⟩:=hO3.row
   refine (zst hr.own (by omega)).mono ?_
   rintro _ w4 ⟨hc4,ho4⟩
   rw [zq3 hc] at ho4
   exact ⟨(hx12.trans hO3.ext).chgI hc4 (by omega),ho4.own.mono (by omega)⟩
 have hk:k<c.ins.length:=by omega
 refine zad u29 zcb h19 hk fun b3 o3 hA3=>?_
 rw [zaF] at hA3
 refine zac zcb hA3 ((e0.trans hx12).trans hO3.ext) fun v25 h25=>?_
 refine zbX zmj rfl zcb rfl h25 ((e0.trans hx12).trans hO3.ext) fun w4 hx4 hAI hV4=>?_
 have hO4:=hO3.step hx4
 have hgl:w3.heap.size<w4.heap.size:=hV4.lt
 have hAB4:=ze1 h25 hV4 rfl
 have hmk:=zaM (ms:=zeU c) (i:=k) (by rw [hml];exact hk)
 have hiff:(zeU c)[k]=true↔MetP c k:=by
   rw [←hmk];unfold zeU;rw [zaB];exact ⟨fun h=>h.2,fun h=>⟨by omega,h⟩⟩
 refine zaa za6 ?_
 refine zab ty3 (zas hAI) (Ext.refl _) fun _=>?_
 refine zaI ?_
 have hno:¬(MetP c k∧(zal c k).op=6)→zmk c (k+1)=zmk c k:=fun h=>by
   rw [hsuc];unfold zpq;rw [if_neg h,List.append_nil]
 refine br (fun hne=>?_) (fun heq=>?_)
 · refine zaf (by omega) ?_
   exact ⟨mk-1,by omega,k+1,by omega,out,rfl,by omega,by rw [hno fun h=>hne h.2];exact hO4⟩
 have h6:(zal c k).op=6:=Decidable.not_not.1 heq
 refine zad u82 ty4 (i:=k) hMe (by rw [hml];exact hk) fun b4 o4 hA4=>?_
 refine zaw ty4 hA4 hO4.ext ?_
 refine zaV ?_
 refine zbw (fun hf=>?_) (fun hf=>?_)
 · have hnm:¬MetP c k:=fun h=>by rw [hiff.2 h] at hf;cases hf
   refine zaf (by omega) ?_
   exact ⟨mk-1,by omega,k+1,by omega,out,rfl,by omega,by rw [hno fun h=>hnm h.1];exact hO4⟩
 have hMk:MetP c k:=hiff.1 (by simpa using hf)
 have hag:=(zcl hc hk (.inl h6)).1
 have hA:zpq c k=(zbn (zau (zlB c) k)).map (ztv c k):=by unfold zpq;rw [if_pos ⟨hMk,h6⟩]
 rw [hA] at hsuc
 refine zad u23 ty3 (i:=k) hMa (by rw [zae,zhI];exact hk) fun b5 o5 hA5=>?_
 rw [zaG] at hA5
 refine zab ty3 hA5 hO4.ext fun _=>?_
 have hm64:=zcu (zqu c) k
 generalize hmm:zau (zlB c) k=m at *
 refine (zcJ (m:=m) (by omega)).mono ?_
 rintro v40 w5 ⟨hx5,ho5⟩
 have hO5:=hO4.step hx5
 have hBl:=zed m 64
 have hbL:(zbn m).length≤64:=hBl
 refine zag u23 ho5.is ?_
 obtain ⟨Fb,hmb,hFb⟩:=ho5
 have hs5:=hx5.size
 have hlb:=hmb.lt
 refine zaq (zbn m).length (fun j us w'=>∃ out',us=[out',.int .i64 (j:Int)]∧j≤(zbn m).length∧Ext w2 w'∧w5.heap.size≤w'.heap.size∧Mine Fb w' v40 (zbn m)∧AtB W0 w' w3.heap.size 0 (zal c k)∧∃ lo hi,w2.heap.size≤lo∧hi≤w'.heap.size∧RowI lo hi 131 w' out' (zmk c k++((zbn m).take j).map (ztv c k))∧(w3.heap.size<lo∨hi≤w3.heap.size)∧∀ b∈Fb,b<lo∨hi≤b) 0 (Nat.zero_le _) ⟨out,rfl,Nat.zero_le _,hO5.ext,Nat.le_refl _,hmb,hAB4.ext hx5,?_⟩ ?_
 · obtain ⟨lo,hi,h1,h2,hr⟩:=hO3.row
   refine ⟨lo,hi,h1,by omega,by simpa using (hr.ext (hx4.trans hx5)),.inr h2,fun b hb=>.inr ?_⟩
   have:=hFb b hb
   omega
 rintro j mj u6 w6 hjm ⟨out6,hu6,hjl,hx26,hs56,hM6,hAB6,lo,hi,h1,h2,hr6,hd3,hdb⟩
 obtain ⟨hu61,hu62⟩:=zb1 hu6
 rw [hu61,hu62]
 refine zah ?_
 refine br (fun hlt6=>?_) (fun hge6=>?_)
 case refine_2=>
   refine zaf (by omega) ?_
   refine ⟨mk-1,by omega,k+1,by omega,out6,rfl,by omega,?_⟩
   rw [hsuc]
   rw [List.take_of_length_le (by omega)] at hr6
   exact ⟨hx26,lo,hi,h1,h2,hr6⟩
 have hj:j<(zbn m).length:=by omega
 refine zad u23 ty3 (i:=j) hM6.is hj fun b6 o6 hA6=>?_
 refine zab ty3 hA6 (Ext.refl _) fun _=>?_
 have hAI6:=hAB6.at ((e0.trans hx12).trans hx26)
 refine zaa za7 ?_
 refine zab ty3 (zav hAI6) (Ext.refl _) fun _=>?_
 refine zca (cells:=#[.int .i64 (zbn m)[j],.int .i64 (zal c k).arg,.int .i64 (k:Int)]) (by kernel_rfl) ?_
 obtain ⟨l,hl,hbit⟩:=(zlZ hm64).1 (List.getElem_mem hj)
 have hl6:=zeE hm64 hbit
 have hW:ztv c k (zbn m)[j]=⟨(zbn m)[j],(zal c k).arg,k⟩:=by unfold ztv;rw [hag]
 have hag6:=(zcl hc hk (.inl h6)).2.2
 have hlen:(zmk c k++((zbn m).take j).map (ztv c k)).length≤200000:=by
   simp only [List.length_append,List.length_map,List.length_take];omega
 refine zcI (x:=(⟨(zbn m)[j],(zal c k).arg,k⟩:DOrder)) zs9 zk3 zvS zuY (by decide) hr6 (lo2:=0) (hi2:=0) (zgF (ztw (by unfold I64;omega) (by unfold I64;omega) (by unfold I64;omega))) (by rw [zan];omega) (by omega) fun v' w' lo' hi' hc7 hr' hd7=>?_
 have hs7:=hc7.size
 have hs26:=hx26.size
 refine zaf (by omega) ?_
 refine ⟨mj-1,by omega,j+1,by omega,v',rfl,by omega,hx26.chgI hc7 h1,by omega,hM6.keep fun b hb=>?_,hAB6.keep ?_,lo',hi',by omega,by omega,?_,by omega,fun b hb=>?_⟩
 · exact hc7.block b (hM6.lt b hb) (hdb b hb)
 · exact hc7.block _ (by omega) hd3
 · rw [List.take_succ_eq_append_getElem hj,List.map_append,←List.append_assoc]
   simp only [List.map_cons,List.map_nil]
   rw [hW];exact hr'
 have:=hdb b hb
 have:=hM6.lt b hb
 omega
def F79 (a0:Value) (w:World) (R:VW):Prop:=
 oP (Instr.box 31 a0) w fun x1 w=>
 oP (Instr.buildSlice 106 0 #[]) w fun x8 w=>
 rL 31 x1 w fun x9=>
 cL 72 [x9] w fun x10 w=>
 LOOPI [3,5] [x8,(iV 0)] w fun u4 w next4=>
 rF 31 x1 1 w fun x12=>
 rL 22 x12 w fun x13=>
 rN 22 3 x13 w fun x14=>
 rC (u4 5) x14 w fun x15=>
 BR x15
 (LOOPI [3,6] [(u4 3),(iV 0)] w fun u7 w next7=>
 rF 31 x1 1 w fun x19=>
 rL 22 x19 w fun x20=>
 rN 22 3 x20 w fun x21=>
 rC (u7 6) x21 w fun x22=>
 BR x22
 (LOOPI [3,7] [(u7 3),(iV 0)] w fun u10 w next10=>
 rF 31 x1 4 w fun x26=>
 rL 29 x26 w fun x27=>
 rN 29 3 x27 w fun x28=>
 rC (u10 7) x28 w fun x29=>
 BR x29
 (NIL x10 <|
 rF 121 x10 1 w fun x34=>
 rL 82 x34 w fun x35=>
 rX 82 x35 (u10 7) w fun x37=>
 rL 4 x37 w fun x38=>
 BR x38
 (rF 31 x1 4 w fun x40=>
 rL 29 x40 w fun x41=>
 rX 29 x41 (u10 7) w fun x43=>
 rF 94 x43 0 w fun x44=>
 rL 3 x44 w fun x45=>
 rB .eql 3 T0 U0 x45 (iV 6) w fun x46=>
 BR x46
 (rF 31 x1 4 w fun x49=>
 rL 29 x49 w fun x50=>
 rX 29 x50 (u10 7) w fun x52=>
 rF 94 x52 1 w fun x53=>
 rL 3 x53 w fun x54=>
 rB .eql 3 T0 T0 x54 (u7 6) w fun x56=>
 BR x56
 (NIL x10 <|
 rF 121 x10 2 w fun x61=>
 rL 23 x61 w fun x62=>
 rX 23 x62 (u10 7) w fun x64=>
 rL 3 x64 w fun x65=>
 cL 135 [x65,(u4 5)] w fun x67 w=>
 BR x67
 (rD (Instr.build 131 #[(0,(u4 5)),(1,(u7 6)),(2,(u10 7))]) w fun x73=>
 oP (Instr.buildSlice 106 1 #[(0,x73)]) w fun x74 w=>
 oP (Builtin.append_ #[106,106] 106 [(u10 3),x74].toArray) w fun x75 w=>
 rA (u10 7) (iV 1) w fun x31=>
 next10 [x75,x31] w)
 (rA (u10 7) (iV 1) w fun x31=>
 next10 [(u10 3),x31] w))
 (rA (u10 7) (iV 1) w fun x31=>
 next10 [(u10 3),x31] w))
 (rA (u10 7) (iV 1) w fun x31=>
 next10 [(u10 3),x31] w))
 (rA (u10 7) (iV 1) w fun x31=>
 next10 [(u10 3),x31] w))
 (rA (u7 6) (iV 1) w fun x24=>
 next7 [(u10 3),x24] w))
 (rA (u4 5) (iV 1) w fun x17=>
 next4 [(u7 3),x17] w))
 (R (u4 3) w)
def cfg79:Cfg:=⟨extL,[],[(4,75557863725914323417320,[3,5]),(7,75557863725914323157192,[3,6]),(10,75557863725914289864840,[3,7])],[],[],[],[]⟩
theorem F79_call {a0:Value} {w:World} {R:VW} (h:F79 a0 w R):cL 79 [a0] w R:=co (g:=cfg79) Tryz.func79 (by kernel_rfl) (by kernel_rfl) (by kernel_rfl) h
open Rep (rep)
theorem zq5 {w W0:World} {v0:Value} {c:DCode} (h0:Is W0 v0 c) (e0:Ext W0 w) (hc:CodeR c) :
   CALL Tryz.prog 79 [v0] w fun r w'=>Ext w w'∧Own w.heap.size w' r (zdq c):=by
 refine F79_call ?_
 unfold F79
 have hil:=hc.f.ins
 have h6l:=hc.1.locks6
 refine zbr h0 e0 fun w1 hx1 hA=>?_
 refine zaY (α:=DOrder) zs9 zk3 fun a8 w2 hx2 hr2=>?_
 have hx12:=hx1.trans hx2
 refine zac zbt hA hx2 fun v9 h9=>?_
 refine (zlF h9 hx2 hc).mono ?_
 rintro _ w3 ⟨hx3,gw,rfl,hmet,hmay⟩
 have hx13:=hx12.trans hx3
 have hx23:=hx2.trans hx3
 have hs2:=hx12.size
 have hml:(zeU c).length=c.ins.length:=by unfold zeU;rw [zaj]
 generalize hwb:w3=wb at *
 have hI0:OI wb wb (.slice (some a8) 0 0) ((List.range 0).flatMap (zgH c)):=⟨Ext.refl _,wb.heap.size,wb.heap.size,Nat.le_refl _,Nat.le_refl _,zcf _ _ _ _ _⟩
 refine zaq c.locks.length (fun k us w'=>∃ out,us=[out,.int .i64 (k:Int)]∧k≤c.locks.length∧OI wb w' out ((List.range k).flatMap (zgH c))) 0 (Nat.zero_le _) ⟨_,rfl,Nat.zero_le _,hI0⟩ ?_
 rintro fr mk u w4 hkm ⟨out,hu,hkl,hO4⟩
 obtain ⟨hu1,hu2⟩:=zb1 hu
 rw [hu1,hu2]
 refine zaa zcn ?_
 refine zac zbP (zaR hA) (hx23.trans hO4.ext) fun v13 h13=>?_
 refine zag u22 h13 ?_
 refine zah ?_
 refine br (fun hlt=>?_) (fun hge=>?_)
 case refine_2=>
   have hke:fr=c.locks.length:=by omega
   rw [hke] at hO4
   exact ⟨hx13.trans hO4.ext,hO4.own.mono (by have:=hx13.size;omega)⟩
 have hfr:fr<c.locks.length:=by omega
 refine zaq c.locks.length (fun k us w'=>∃ out,us=[out,.int .i64 (k:Int)]∧k≤c.locks.length∧OI wb w' out ((List.range fr).flatMap (zgH c)++(List.range k).flatMap (ziM c fr))) 0 (Nat.zero_le _) ⟨_,rfl,Nat.zero_le _,by simpa using hO4⟩ ?_
 rintro to mk7 u7 w7 hkm7 ⟨out7,hu7,hkl7,hO7⟩
 obtain ⟨hu71,hu72⟩:=zb1 hu7
 rw [hu71,hu72]
 refine zaa zcn ?_
 refine zac zbP (zaR hA) (hx23.trans hO7.ext) fun v20 h20=>?_
 refine zag u22 h20 ?_
 refine zah ?_
 refine br (fun hlt7=>?_) (fun hge7=>?_)
 case refine_2=>
   have hke:to=c.locks.length:=by omega
   rw [hke] at hO7
   refine zaf (by omega) ?_
   exact ⟨mk-1,by omega,fr+1,by omega,out7,rfl,by omega,by rw [zfy];exact hO7⟩
 have hto:to<c.locks.length:=by omega
 refine zaq c.ins.length (fun k us w'=>∃ out,us=[out,.int .i64 (k:Int)]∧k≤c.ins.length∧OI wb w' out ((List.range fr).flatMap (zgH c)++(List.range to).flatMap (ziM c fr)++(List.range k).flatMap (zeS c fr to))) 0 (Nat.zero_le _) ⟨_,rfl,Nat.zero_le _,by simpa using hO7⟩ ?_
 rintro i mk10 u10 w10 hkm10 ⟨out10,hu10,hkl10,hO10⟩
 obtain ⟨hu101,hu102⟩:=zb1 hu10
 rw [hu101,hu102]
 have hx210:=hx23.trans hO10.ext
 refine zaa zaJ ?_
 refine zac zct (zai hA) hx210 fun v27 h27=>?_
 refine zag u29 h27 ?_
 refine zah ?_
 refine br (fun hlt10=>?_) (fun hge10=>?_)
 case refine_2=>
   have hke:i=c.ins.length:=by omega
   rw [hke] at hO10
   refine zaf (by omega) ?_
   exact ⟨mk7-1,by omega,to+1,by omega,out10,rfl,by omega,by rw [zfy,←List.append_assoc];exact hO10⟩
 have hi:i<c.ins.length:=by omega
 have hsuc:(List.range fr).flatMap (zgH c)++(List.range to).flatMap (ziM c fr)++(List.range (i+1)).flatMap (zeS c fr to)=(List.range fr).flatMap (zgH c)++(List.range to).flatMap (ziM c fr)++(List.range i).flatMap (zeS c fr to)++zeS c fr to i:=by
   rw [zfy,←List.append_assoc]
 have hlen:((List.range fr).flatMap (zgH c)++(List.range to).flatMap (ziM c fr)++(List.range i).flatMap (zeS c fr to)).length≤100000:=by
   have h1:=zlY hil h6l fr
   have h2:=zlX hil fr to
   have h3:=zlW c fr to i
   simp only [List.length_append];omega
 generalize (List.range fr).flatMap (zgH c)++(List.range to).flatMap (ziM c fr)=Lp at *
 have hno:¬OrdP c fr to i→Lp++(List.range (i+1)).flatMap (zeS c fr to)=Lp++(List.range i).flatMap (zeS c fr to):=fun h=>by
   rw [hsuc];unfold zeS;rw [if_neg h,List.append_nil]
 have hyes:OrdP c fr to i→Lp++(List.range (i+1)).flatMap (zeS c fr to)=Lp++(List.range i).flatMap (zeS c fr to)++[mkO fr to i]:=fun h=>by
   rw [hsuc];congr 1;unfold zeS;rw [if_pos h]
 refine NIL.mk rfl ?_
 refine zaa zfR ?_
 refine zac zep hmet hO10.ext fun v35 hMe=>?_
 have hmk:=zaM (ms:=zeU c) (i:=i) (by rw [hml];exact hi)
 have hiff:(zeU c)[i]=true↔MetP c i:=by
   rw [←hmk];unfold zeU;rw [zaB];exact ⟨fun h=>h.2,fun h=>⟨by omega,h⟩⟩
 refine zad u82 ty4 (i:=i) hMe (by rw [hml];exact hi) fun b4 o4 hA4=>?_
 refine zaw ty4 hA4 hO10.ext ?_
 refine zbw (fun ht=>?_) (fun hf=>?_)
 case refine_2=>
   have hnm:¬MetP c i:=fun h=>by rw [hiff.2 h] at hf;cases hf
   refine zaf (by omega) ?_
   exact ⟨mk10-1,by omega,i+1,by omega,out10,rfl,by omega,by rw [hno fun h=>hnm h.1];exact hO10⟩
 have hM:=hiff.1 ht
 refine zaa zaJ ?_
 refine zac zct (zai hA) hx210 fun v41 h41=>?_
 refine zad u29 zcb h41 hi fun b3 o3 hA3=>?_
 rw [zaF] at hA3
 refine zaa za6 ?_
 refine zab ty3 (zas hA3) hx210 fun _=>?_
 refine zao ?_
 refine br (fun h6=>?_) (fun h6=>?_)
 case refine_2=>
   refine zaf (by omega) ?_
   exact ⟨mk10-1,by omega,i+1,by omega,out10,rfl,by omega,by rw [hno fun h=>h6 h.2.1];exact hO10⟩
 obtain ⟨hag,_,hag6⟩:=zcl hc hi (.inl h6)
 refine zaa zaJ ?_
 refine zac zct (zai hA) hx210 fun v50 h50=>?_
 refine zad u29 zcb h50 hi fun b5 o5 hA5=>?_
 rw [zaF] at hA5
 refine zaa za7 ?_
 refine zab ty3 (zav hA5) hx210 fun _=>?_
 refine zao ?_
 refine br (fun hto'=>?_) (fun hto'=>?_)
 case refine_2=>
   refine zaf (by omega) ?_
   exact ⟨mk10-1,by omega,i+1,by omega,out10,rfl,by omega,by rw [hno fun h=>hto' (by rw [hag,h.2.2.1])];exact hO10⟩
 refine NIL.mk rfl ?_
 refine zaa zex ?_
 refine zac zbE hmay hO10.ext fun v62 hMa=>?_
 refine zad u23 ty3 (i:=i) hMa (by rw [zae,zhI];exact hi) fun b6 o6 hA6=>?_
 rw [zaG] at hA6
 refine zab ty3 hA6 hO10.ext fun _=>?_
 have hm64:=zcu (zqu c) i
 refine (zr8 (m:=zau (zlB c) i) (i:=fr) (by omega) (by omega)).mono ?_
 rintro _ w11 ⟨hx11,rfl⟩
 have hbit:(zau (zlB c) i).testBit fr=true↔MayP c i fr:=by
   rw [zmR hi,zjw];exact ⟨fun h=>h.2,fun h=>⟨by omega,h⟩⟩
 have hO11:=hO10.step hx11
 refine zbw (fun hb=>?_) (fun hb=>?_)
 case refine_2=>
   refine zaf (by omega) ?_
   exact ⟨mk10-1,by omega,i+1,by omega,out10,rfl,by omega,by rw [hno fun h=>by rw [hbit.2 h.2.2.2] at hb;cases hb];exact hO11⟩
 have hP:OrdP c fr to i:=⟨hM,h6,by omega,hbit.1 hb⟩
 refine zca (cells:=#[.int .i64 fr,.int .i64 to,.int .i64 i]) (by kernel_rfl) ?_
 obtain ⟨lo,hi',h1,h2,hr⟩:=hO11.row
 refine zcI (x:=(mkO fr to i:DOrder)) zs9 zk3 zvS zuY (by decide) hr (lo2:=0) (hi2:=0) (zgF (ztw (by unfold I64;omega) (by unfold I64;omega) (by unfold I64;omega))) (by rw [zan];omega) (by omega) fun v' w' lo' hi2' hc7 hr' hd7=>?_
 have hs7:=hc7.size
 have hs11:=hO11.ext.size
 refine zaf (by omega) ?_
 refine ⟨mk10-1,by omega,i+1,by omega,v',rfl,by omega,hO11.ext.chgI hc7 h1,lo',hi2',by omega,by omega,?_⟩
 rw [hyes hP];exact hr'
open Classical in
def F92 (a0:Value) (w:World) (R:VW):Prop:=
 rN 82 3 a0 w fun x7=>
 LOOPI [3,8] [(Value.slice none 0 0),(iV 0)] w fun u3 w next3=>
 rC (u3 8) x7 w fun x9=>
 BR x9
 (rX 82 a0 (u3 8) w fun x11=>
 rL 4 x11 w fun x12=>
 BR x12
 (oP (Instr.buildSlice 23 1 #[(0,(u3 8))]) w fun x16 w=>
 oP (Builtin.append_ #[23,23] 23 [(u3 3),x16].toArray) w fun x17 w=>
 rA (u3 8) (iV 1) w fun x18=>
 next3 [x17,x18] w)
 (rA (u3 8) (iV 1) w fun x18=>
 next3 [(u3 3),x18] w))
 (R (u3 3) w)
def cfg92:Cfg:=⟨extL,[],[(3,524088,[3,8])],[],[],[],[]⟩
theorem F92_call {a0:Value} {w:World} {R:VW} (h:F92 a0 w R):cL 92 [a0] w R:=co (g:=cfg92) Tryz.func92 (by kernel_rfl) (by kernel_rfl) (by kernel_rfl) h
open Rep (rep)
theorem zq6 {w W0:World} {v0:Value} {ms:List Bool} (h0:Is W0 v0 ms) (e0:Ext W0 w) (hn:ms.length≤2000000) :
   CALL Tryz.prog 92 [v0] w fun r w'=>Ext w w'∧Own w.heap.size w' r (zaA (zr6 ms ms.length)):=by
 refine F92_call ?_
 unfold F92
 refine zag u82 h0 ?_
 refine zaq ms.length (fun k us w'=>∃ (v:Value),us=[v,.int .i64 (k:Int)]∧k≤ms.length∧Ext w w'∧RowI w.heap.size w'.heap.size 3 w' v (zaA (zr6 ms k))) 0 (Nat.zero_le _) ⟨_,rfl,Nat.zero_le _,Ext.refl _,zcp _ _ _ _⟩ ?_
 rintro k mk u w2 hkm ⟨v,hu,hkl,hx2,hr2⟩
 obtain ⟨hu1,hu2⟩:=zb1 hu
 rw [hu1,hu2]
 refine zah ?_
 refine br (fun hlt=>?_) (fun hge=>?_)
 case refine_2=>
   have:k=ms.length:=by omega
   rw [this] at hr2
   exact ⟨hx2,hr2.own.own⟩
 have hk:k<ms.length:=by omega
 have hs2:=hx2.size
 have hg:ms.getD k false=ms[k]:=by rw [List.getD_eq_getElem?_getD,List.getElem?_eq_getElem hk];rfl
 have hil:=znM ms k
 refine zad u82 ty4 h0 hk fun b2 o2 hA2=>?_
 refine zaw ty4 hA2 (e0.trans hx2) ?_
 refine zbw (fun hf=>?_) (fun hf=>?_)
 · refine zbK (lo2:=w2.heap.size) (hi2:=w2.heap.size) (x:=(k:Int)) u23 ty3 z3 zc3 (by decide) hr2 hs2 (zb4 _ _ (by unfold I64;omega)) (Nat.le_refl _) hs2 (by rw [zan,zae];omega) (by rw [zae];omega) fun v54 w9 hc9 hr9=>?_
   refine zaf (by omega) ?_
   refine ⟨mk-1,by omega,k+1,by omega,v54,rfl,by omega,hx2.chgI hc9 (Nat.le_refl _),?_⟩
   rw [zgw,hg,hf,if_pos rfl,zbM]
   exact hr9
 refine zaf (by omega) ?_
 refine ⟨mk-1,by omega,k+1,by omega,v,rfl,by omega,hx2,?_⟩
 rw [zgw,hg,hf]
 simpa using hr2
def F51 (a0 a1 a2:Value) (w:World) (R:VW):Prop:=
 rB .eql 3 T0 U0 a0 (iV 0) w fun x8=>
 BR x8
 (R (Value.bool false) w)
 (rB .eql 3 T0 U0 a1 (iV 0) w fun x11=>
 BR x11
 (R (Value.bool false) w)
 (rB .and 3 T0 T0 a0 a1 w fun x15=>
 rB .andNot 3 T0 T0 x15 a2 w fun x17=>
 rB .neq 3 T0 U0 x17 (iV 0) w fun x18=>
 BR x18
 (R (Value.bool true) w)
 (rB .neq 3 T0 T0 a0 a1 w fun x22=>
 BR x22
 (R (Value.bool true) w)
 (rB .sub 3 T0 U0 a0 (iV 1) w fun x27=>
 rB .and 3 T0 T0 a0 x27 w fun x28=>
 rB .neq 3 T0 U0 x28 (iV 0) w fun x29=>
 R x29 w))))
def cfg51:Cfg:=⟨extL,[],[],[],[],[],[]⟩
theorem F51_call {a0 a1 a2:Value} {w:World} {R:VW} (h:F51 a0 a1 a2 w R):cL 51 [a0,a1,a2] w R:=co (g:=cfg51) Tryz.func51 (by kernel_rfl) (by kernel_rfl) (by kernel_rfl) h
def F49 (a0:Value) (w:World) (R:VW):Prop:=
 NIL a0 <|
 rF 97 a0 0 w fun x8=>
 rF 31 x8 4 w fun x9=>
 rL 29 x9 w fun x10=>
 rN 29 3 x10 w fun x11=>
 oP (Instr.makeSlice 23 x11 x11) w fun x12 w=>
 rN 23 3 x12 w fun x14=>
 LOOPI [15] [(iV 0)] w fun u3 w next3=>
 rC (u3 15) x14 w fun x16=>
 BR x16
 (cL 95 [a0,(u3 15)] w fun x22 w=>
 rX 23 x12 (u3 15) w fun x23=>
 oS 3 x23 x22 w fun w=>
 rA (u3 15) (iV 1) w fun x24=>
 next3 [x24] w)
 (cL 96 [a0] w fun x27 w=>
 R (Value.tuple #[x12,x27]) w)
def cfg49:Cfg:=⟨extL,[],[(3,33521696,[15])],[],[],[],[]⟩
theorem F49_call {a0:Value} {w:World} {R:VW} (h:F49 a0 w R):cL 49 [a0] w R:=co (g:=cfg49) Tryz.func49 (by kernel_rfl) (by kernel_rfl) (by kernel_rfl) h
def F48 (a0:Value) (w:World) (R:VW):Prop:=
 cL 91 [a0] w fun x8 w=>
 cL 93 [a0] w fun x10 w=>
 cL 92 [x10] w fun x11 w=>
 rN 23 3 x11 w fun x12=>
 LOOPI [4,13] [(Value.slice none 0 0),(iV 0)] w fun u4 w next4=>
 rC (u4 13) x12 w fun x14=>
 BR x14
 (rX 23 x11 (u4 13) w fun x15=>
 rL 3 x15 w fun x16=>
 (fun w=>NIL a0 <|
 rF 97 a0 0 w fun x20=>
 rL 31 x20 w fun x21=>
 rX 23 x8 x16 w fun x25=>
 rL 3 x25 w fun x26=>
 (fun w_=>cL 94 [x21,x16,x26] w_ fun x27 w=>
 Ext w_ w ∧
 oP (Builtin.append_ #[76,76] 76 [(u4 4),x27].toArray) w fun x28 w=>
 rA (u4 13) (iV 1) w fun x29=>
 next4 [x28,x29] w) w) (World.drew1 w))
 (R (u4 4) w)
def cfg48:Cfg:=⟨extL,[],[(4,1073733712,[4,13])],[(6,[0,1,2,3,4,5,6,7,8,9,10,11,12],1024)],[],[],[]⟩
theorem F48_call {a0:Value} {w:World} {R:VW} (h:F48 a0 w R):cL 48 [a0] w R:=co (g:=cfg48) Tryz.func48 (by kernel_rfl) (by kernel_rfl) (by kernel_rfl) h
def F34 (a0:Value) (w:World) (R:VW):Prop:=
 oP (Instr.box 31 a0) w fun x1 w=>
 oP (Instr.buildSlice 76 0 #[]) w fun x7 w=>
 rL 31 x1 w fun x8=>
 cL 71 [x8] w fun x9 w=>
 rL 31 x1 w fun x10=>
 cL 72 [x10] w fun x11 w=>
 NIL x11 <|
 rF 121 x11 1 w fun x13=>
 rL 82 x13 w fun x14=>
 LOOPI [3,6] [x7,(iV 0)] w fun u5 w next5=>
 rF 31 x1 4 w fun x16=>
 rL 29 x16 w fun x17=>
 rN 29 3 x17 w fun x18=>
 rC (u5 6) x18 w fun x19=>
 BR x19
 (rX 82 x14 (u5 6) w fun x24=>
 rL 4 x24 w fun x25=>
 BR x25
 ((fun w=>rL 31 x1 w fun x27=>
 rX 23 x9 (u5 6) w fun x31=>
 rL 3 x31 w fun x32=>
 (fun w_=>cL 73 [x27,(u5 6),x32] w_ fun x33 w=>
 Ext w_ w ∧
 oP (Builtin.append_ #[76,76] 76 [(u5 3),x33].toArray) w fun x34 w=>
 rA (u5 6) (iV 1) w fun x21=>
 next5 [x34,x21] w) w) (World.drew1 w))
 (rA (u5 6) (iV 1) w fun x21=>
 next5 [(u5 3),x21] w))
 (R (u5 3) w)
def cfg34:Cfg:=⟨extL,[],[(5,34359705672,[3,6])],[(8,[0,1,2,3,4,5,6,7,8,9],128)],[],[],[]⟩
theorem F34_call {a0:Value} {w:World} {R:VW} (h:F34 a0 w R):cL 34 [a0] w R:=co (g:=cfg34) Tryz.func34 (by kernel_rfl) (by kernel_rfl) (by kernel_rfl) h
open Rep (rep)
def ztx (a b s:Nat):Prop:=∃ r t,a.testBit r=true∧b.testBit t=true∧(r≠t∨s.testBit r=false)
theorem zsw:∀ a,a<256→a &&& (a-1)≠0→∃ r,r<8∧∃ t,t<8∧r≠t∧a.testBit r=true∧a.testBit t=true:=by decide +kernel
theorem zue:∀ a,a<256→∀ r,r<8→∀ t,t<8→(a &&& (a-1)=0∧a.testBit r=true∧a.testBit t=true→r=t):=by decide +kernel
theorem zq7 {m l:Nat} (h:m<256) (hb:m.testBit l=true):l<8:=Decidable.byContradiction fun hc=>by
 have:=Nat.testBit_lt_two_pow (Nat.lt_of_lt_of_le (show m<2^8 from h) (Nat.pow_le_pow_right (by omega) (by omega:8≤l)))
 rw [this] at hb;cases hb
theorem zkF {m:Nat} (h:m≠0):∃ i,m.testBit i=true:=Nat.exists_testBit_of_ne_zero h
theorem zq8 {m:Nat} (h:m=0) (i:Nat):¬m.testBit i=true:=by rw [h];simp
theorem zsx {w:World} {a b s:Nat} (ha:a<256) (hb:b<256) (hs:s<256) :
   CALL Tryz.prog 51 [.int .i64 (a:Int),.int .i64 (b:Int),.int .i64 (s:Int)] w fun v w'=>Ext w w'∧∃ x:Bool,v=.bool x∧(x=true↔ztx a b s):=by
 refine F51_call ?_
 unfold F51
 refine zao ?_
 refine br (fun h=>?_) (fun hna=>?_)
 · exact ⟨Ext.refl _,false,rfl,⟨fun e=>(by cases e),fun ⟨r,t,h1,_⟩=>absurd h1 (zq8 (by omega) r)⟩⟩
 refine zao ?_
 refine br (fun h=>?_) (fun hnb=>?_)
 · exact ⟨Ext.refl _,false,rfl,⟨fun e=>(by cases e),fun ⟨r,t,_,h1,_⟩=>absurd h1 (zq8 (by omega) t)⟩⟩
 have hle:=Nat.and_le_left (n:=a) (m:=b)
 refine zdi (m:=a) (n:=b) (by omega) (by omega) ?_
 refine ze8 (m:=a &&& b) (n:=s) (by omega) (by omega) ?_
 refine zaI ?_
 refine br (fun h=>?_) (fun h=>?_)
 · obtain ⟨i,hi⟩:=zkF (m:=zhE (a &&& b) s) (by omega)
   rw [zcd,Nat.testBit_and] at hi
   simp only [Bool.and_eq_true,Bool.not_eq_true'] at hi
   exact ⟨Ext.refl _,true,rfl,⟨fun _=>⟨i,i,hi.1.1,hi.1.2,.inr hi.2⟩,fun _=>rfl⟩⟩
 have hz:zhE (a &&& b) s=0:=by have:=Decidable.not_not.1 h;omega
 refine zaI ?_
 refine br (fun hne=>?_) (fun heq=>?_)
 · refine ⟨Ext.refl _,true,rfl,⟨fun _=>?_,fun _=>rfl⟩⟩
   refine Classical.byContradiction fun hn=>?_
   have hall:∀ r t,a.testBit r=true→b.testBit t=true→r=t:=fun r t h1 h2=>Classical.byContradiction fun e=>hn ⟨r,t,h1,h2,.inl e⟩
   obtain ⟨r,hr⟩:=zkF (m:=a) (by omega)
   obtain ⟨t,ht⟩:=zkF (m:=b) (by omega)
   have hrt:=hall r t hr ht
   subst hrt
   have:a=b:=Nat.eq_of_testBit_eq fun i=>by
     cases e1:a.testBit i<;>cases e2:b.testBit i
     · rfl
     · have:=hall r i hr e2;subst this;rw [hr] at e1;cases e1
     · have:=hall i r e1 ht;subst this;rw [ht] at e2;cases e2
     rfl
   exact hne (by rw [this])
 have hab:a=b:=by have:=Decidable.not_not.1 heq;omega
 subst hab
 refine zbf (by unfold I64;omega) ?_
 rw [show (a:Int)-1=((a-1:Nat):Int) by omega]
 refine zdi (m:=a) (n:=a-1) (by omega) (by omega) ?_
 refine zaI ?_
 refine ⟨Ext.refl _,_,rfl,?_⟩
 rw [decide_eq_true_eq]
 constructor
 · intro h
   obtain ⟨r,_,t,_,h1,h2,h3⟩:=zsw a ha (by omega)
   exact ⟨r,t,h2,h3,.inl h1⟩
 rintro ⟨r,t,h1,h2,h3⟩ hc
 have:=zue a ha r (zq7 ha h1) t (zq7 ha h2) ⟨by omega,h1,h2⟩
 subst this
 have hb:=zq8 hz r
 rw [zcd,Nat.testBit_and,h1] at hb
 rcases h3 with h3 | h3
 · exact h3 rfl
 rw [h3] at hb;simp at hb
theorem zoU {w W0:World} {b:Nat} {c:DCode} (hW:WAt W0 b c) (e0:Ext W0 w) (hc:CodeR c) :
   CALL Tryz.prog 49 [.pointer (some ⟨b,0,none⟩)] w fun v w'=>Ext w w'∧∃ u,v=.tuple #[u,.int .i64 (zm4 c:Nat)]∧Own w.heap.size w' u (zaA ((List.range c.ins.length).map (rtN c))):=by
 refine F49_call ?_
 unfold F49
 have hil:=hc.f.ins
 have hin0:0<c.ins.length:=by
   have:=hc.1.procs8
   have:=(zdj hc this.2).2.2
   omega
 refine NIL.mk rfl ?_
 refine zaa zbd ?_
 refine zaa zaJ ?_
 refine zac zct (zai hW.wl.code) e0 fun v10 h10=>?_
 refine zag u29 h10 ?_
 have hn:c.ins.length=c.ins.length:=rfl
 generalize hnn:c.ins.length=n at hn
 rw [hnn] at hil hin0
 refine zcK hin0 (by omega) fun w1 hx1 hM1=>?_
 refine zg1 u23 ?_
 generalize hg:w.heap.size=g at *
 have hg1:=hM1.lt g (by simp)
 have hM0:Mine [g] w1 (.slice (some ⟨g,0,none⟩) n n) (zaA ((List.range n).map fun i=>if i<0 then rtN c i else 0)):=by
   have:(List.replicate n 0)=((List.range n).map fun i=>if i<0 then rtN c i else 0):=by
     apply List.ext_getElem
     · simp
     intro i h1 h2;simp
   rw [←this];exact hM1
 refine zaq n (fun k us w'=>us=[.int .i64 (k:Int)]∧k≤n∧ChgI g (g+1) w1 w'∧Mine [g] w' (.slice (some ⟨g,0,none⟩) n n) (zaA ((List.range n).map fun i=>if i<k then rtN c i else 0))) 0 (Nat.zero_le _) ⟨rfl,Nat.zero_le _,ChgI.refl _,hM0⟩ ?_
 rintro k mk u w2 hkm ⟨hu,hkl,hc2,hM2⟩
 simp only [List.map_cons,List.map_nil,List.cons.injEq,and_true] at hu
 rw [hu]
 have hx2:Ext w w2:=hx1.chgI hc2 (by omega)
 refine zah ?_
 refine br (fun hlt=>?_) (fun hge=>?_)
 case refine_2=>
   have hke:k=n:=by omega
   refine (zoR hW (e0.trans hx2) hc).mono ?_
   rintro _ w3 ⟨hx3,rfl⟩
   refine ⟨hx2.trans hx3,_,rfl,[g],?_,fun b hb=>by simp at hb;omega⟩
   have:((List.range n).map fun i=>if i<k then rtN c i else 0)=(List.range n).map (rtN c):=List.map_congr_left fun i hi=>by
     have:=List.mem_range.1 hi
     rw [if_pos (by omega)]
   rw [this] at hM2
   exact hM2.ext hx3
 have hk:k<n:=by omega
 refine (zoS (i:=k) hW (e0.trans hx2) hc (by omega)).mono ?_
 rintro _ w3 ⟨hx3,rfl⟩
 have hrt:=zqZ hc k
 refine zbs (α:=Int) (i:=k) rfl u23 ty3 hk ?_
 refine za2 (α:=Int) rfl ty3 (hM2.ext hx3) (by simp [zaA]) hk (zbk (v:=rtN c k) (by omega)) fun w4 hc4 hM4=>?_
 have hc4':ChgI g (g+1) w3 w4:=zdH hc4
 refine zaf (by omega) ?_
 refine ⟨mk-1,by omega,k+1,by omega,rfl,by omega,(hc2.trans hx3.toI).trans hc4',?_⟩
 have:(zaA ((List.range n).map fun i=>if i<k then rtN c i else 0)).set k (rtN c k:Nat)=zaA ((List.range n).map fun i=>if i<k+1 then rtN c i else 0):=by
   unfold zaA
   apply List.ext_getElem
   · simp
   intro i h1 h2
   simp only [List.length_map,List.length_range] at h2
   rw [List.getElem_set]
   by_cases e:k=i
   · subst e;simp
   rw [if_neg e]
   simp only [List.getElem_map,List.getElem_range]
   by_cases h:i<k
   · rw [if_pos h,if_pos (by omega)]
   rw [if_neg h,if_neg (by omega)]
 rw [←this];exact hM4
noncomputable def zoe (c:DCode) (i:Nat):List DTouch:=zcM c (i:Int) ((zau (zgZ c) i:Nat):Int)
noncomputable def zjJ (c:DCode):List DTouch:=(zaS c.ins.length (MetP c)).flatMap (zoe c)
theorem zeL {c:DCode} (hc:CodeR c) (a h:Int):(zcM c a h).length≤12:=by
 have h1:=zm0 c a h
 have h2:=hc.1.1
 simp only [Bool.and_eq_true,decide_eq_true_eq] at h2
 omega
theorem ziO {c:DCode} (hc:CodeR c) (U:List Nat) (hU:U.length≤1500):(U.flatMap (zoe c)).length≤18000:=by
 have h1:=zfz (l:=U) (f:=zoe c) (B:=12) fun i _=>zeL hc _ _
 omega
theorem zoV {w W0:World} {b:Nat} {c:DCode} (hW:WAt W0 b c) (e0:Ext W0 w) (hc:CodeR c) :
   CALL Tryz.prog 48 [.pointer (some ⟨b,0,none⟩)] w fun v w'=>Ext w w'∧Own w.heap.size w' v (zjJ c):=by
 refine F48_call ?_
 unfold F48
 have hil:=hc.f.ins
 refine (zt2 hW e0 hc).mono ?_
 rintro v8 w1 ⟨hx1,ho1⟩
 refine (ztp hW (e0.trans hx1) hc).mono ?_
 rintro v10 w2 ⟨hx2,ho2⟩
 have hml:(zeU c).length=c.ins.length:=by unfold zeU;rw [zaj]
 refine (zq6 ho2.is (Ext.refl _) (by rw [hml];omega)).mono ?_
 rintro v11 w3 ⟨hx3,ho3⟩
 have hx13:=hx1.trans (hx2.trans hx3)
 rw [hml] at ho3
 unfold zeU at ho3
 rw [ze7] at ho3
 have hMu:=ho1.is.ext (hx2.trans hx3)
 have hUl:=zaT (n:=c.ins.length) (p:=MetP c)
 have hUm:∀ i∈zaS c.ins.length (MetP c),i<c.ins.length:=fun i hi=>(zaE.1 hi).1
 unfold zjJ
 generalize zaS c.ins.length (MetP c)=U at *
 refine zag u23 ho3.is ?_
 rw [zae]
 have hs13:=hx13.size
 refine zaq U.length (fun k us w'=>∃ out,us=[out,.int .i64 (k:Int)]∧k≤U.length∧Ext w3 w'∧RowI w3.heap.size w'.heap.size 81 w' out ((U.take k).flatMap (zoe c))) 0 (Nat.zero_le _) ⟨_,rfl,Nat.zero_le _,Ext.refl _,zcp _ _ _ _⟩ ?_
 rintro k mk u w4 hkm ⟨out,hu,hkl,hx4,hr4⟩
 obtain ⟨hu1,hu2⟩:=zb1 hu
 rw [hu1,hu2]
 refine zah ?_
 refine br (fun hlt=>?_) (fun hge=>?_)
 case refine_2=>
   have hke:k=U.length:=by omega
   rw [hke,List.take_length] at hr4
   exact ⟨hx13.trans hx4,hr4.own.own.mono (by omega)⟩
 have hk:k<U.length:=by omega
 have hi:=hUm U[k] (List.getElem_mem _)
 have hfs:=zdY (f:=zoe c) hk
 have hlk:=ziO hc (U.take k) (by rw [List.length_take];omega)
 refine zad u23 ty3 (i:=k) ho3.is (by rw [zae];exact hk) fun b5 o5 hA5=>?_
 rw [zaL] at hA5
 generalize U[k]=i at *
 refine zab ty3 hA5 hx4 fun _=>?_
 have hxd:=zak w4
 have hx35:=hx4.trans hxd
 have hr5:=hr4.ext hxd
 have hsd:=hxd.size
 generalize World.drew1 w4=w5 at *
 have e5:=e0.trans (hx13.trans hx35)
 refine NIL.mk rfl ?_
 refine zaa zbd ?_
 refine zac zbt hW.wl.code e5 fun v21 h21=>?_
 refine zad u23 ty3 (i:=i) hMu (by rw [zae,zgA];exact hi) fun b6 o6 hA6=>?_
 rw [zaG] at hA6
 refine zab ty3 hA6 hx35 fun _=>?_
 have hm64:=zcu (zkp c) i
 refine (zlM (a:=(i:Int)) (held:=(zau (zgZ c) i:Nat)) h21 e5 hc (by omega) (by omega) (by unfold I64;omega)).mono ?_
 rintro v27 w6 ⟨hx6,ho6⟩
 refine ⟨hx6,?_⟩
 have h12:(zoe c i).length≤12:=zeL hc (i:Int) (zau (zgZ c) i:Nat)
 have hs34:=hx4.size
 have hs56:=hx6.size
 refine zds (m:=zoe c i) u76 zgQ zuy (hr5.ext hx6) (by omega) ho6.is (Ext.refl _) (by rw [zan];omega) (by omega) fun v28 w7 hc7 hr7=>?_
 refine zaf (by omega) ?_
 refine ⟨mk-1,by omega,k+1,by omega,v28,rfl,by omega,(hx35.trans hx6).chgI hc7 (Nat.le_refl _),?_⟩
 rw [hfs];exact hr7
theorem zq9 {w W0:World} {v0:Value} {c:DCode} (h0:Is W0 v0 c) (e0:Ext W0 w) (hc:CodeR c) :
   CALL Tryz.prog 34 [v0] w fun v w'=>Ext w w'∧Own w.heap.size w' v (zjJ c):=by
 refine F34_call ?_
 unfold F34
 have hil:=hc.f.ins
 refine zbr h0 e0 fun w1 hx1 hA=>?_
 refine zaY (α:=DTouch) u76 zgQ fun a7 w2 hx2 hr2=>?_
 refine zac zbt hA hx2 fun v8 h8=>?_
 refine (zoK h8 hx2 hc).mono ?_
 rintro v9 w3 ⟨hx3,ho3⟩
 have hx13:=hx2.trans hx3
 refine zac zbt hA hx13 fun v10 h10=>?_
 refine (zlF h10 hx13 hc).mono ?_
 rintro _ w4 ⟨hx4,gw,rfl,hmet,hmay⟩
 have hx14:=hx13.trans hx4
 have hMu:=ho3.is.ext hx4
 refine NIL.mk rfl ?_
 refine zaa zfR ?_
 refine zac zep hmet (Ext.refl _) fun v14 hMe=>?_
 have hml:(zeU c).length=c.ins.length:=by unfold zeU;rw [zaj]
 have hs1:=hx1.size
 have hs14:=hx14.size
 refine zaq c.ins.length (fun k us w'=>∃ out,us=[out,.int .i64 (k:Int)]∧k≤c.ins.length∧Ext w4 w'∧RowI w4.heap.size w'.heap.size 81 w' out ((zaS k (MetP c)).flatMap (zoe c))) 0 (Nat.zero_le _) ⟨_,rfl,Nat.zero_le _,Ext.refl _,zcf _ _ _ _ _⟩ ?_
 rintro i mk u w5 hkm ⟨out,hu,hkl,hx5,hr5⟩
 obtain ⟨hu1,hu2⟩:=zb1 hu
 rw [hu1,hu2]
 have hx15:=hx14.trans hx5
 refine zaa zaJ ?_
 refine zac zct (zai hA) hx15 fun v17 h17=>?_
 refine zag u29 h17 ?_
 refine zah ?_
 refine br (fun hlt=>?_) (fun hge=>?_)
 case refine_2=>
   have hke:i=c.ins.length:=by omega
   rw [hke] at hr5
   exact ⟨hx1.trans hx15,hr5.own.own.mono (by omega)⟩
 have hi:i<c.ins.length:=by omega
 have hmk:=zaM (ms:=zeU c) (i:=i) (by rw [hml];exact hi)
 have hiff:(zeU c)[i]=true↔MetP c i:=by
   rw [←hmk];unfold zeU;rw [zaB];exact ⟨fun h=>h.2,fun h=>⟨hi,h⟩⟩
 refine zad u82 ty4 (i:=i) hMe (by rw [hml];exact hi) fun b6 o6 hA6=>?_
 refine zaw ty4 hA6 hx5 ?_
 refine zbw (fun ht=>?_) (fun hf=>?_)
 case refine_2=>
   have hnm:¬MetP c i:=fun h=>by rw [hiff.2 h] at hf;cases hf
   refine zaf (by omega) ?_
   exact ⟨mk-1,by omega,i+1,by omega,out,rfl,by omega,hx5,by rw [zck hnm];exact hr5⟩
 have hM:=hiff.1 ht
 have hfs:(zaS (i+1) (MetP c)).flatMap (zoe c)=(zaS i (MetP c)).flatMap (zoe c)++zoe c i:=by
   rw [zcc hM,List.flatMap_append];simp
 have hlk:=ziO hc (zaS i (MetP c)) (by have:=zaT (n:=i) (p:=MetP c);omega)
 have hxd:=zak w5
 have hx46:=hx5.trans hxd
 have hr6:=hr5.ext hxd
 have hsd:=hxd.size
 generalize World.drew1 w5=w6 at *
 refine zac zbt hA (hx14.trans hx46) fun v27 h27=>?_
 refine zad u23 ty3 (i:=i) hMu (by rw [zae,zgA];exact hi) fun b7 o7 hA7=>?_
 rw [zaG] at hA7
 refine zab ty3 hA7 hx46 fun _=>?_
 have hm64:=zcu (zkp c) i
 refine (zsi (a:=(i:Int)) (held:=(zau (zgZ c) i:Nat)) h27 (hx14.trans hx46) hc (by omega) (by omega) (by unfold I64;omega)).mono ?_
 rintro v33 w7 ⟨hx7,ho7⟩
 refine ⟨hx7,?_⟩
 have h12:(zoe c i).length≤12:=zeL hc (i:Int) (zau (zgZ c) i:Nat)
 have hs45:=hx5.size
 have hs67:=hx7.size
 refine zds (m:=zoe c i) u76 zgQ zuy (hr6.ext hx7) (by omega) ho7.is (Ext.refl _) (by rw [zan];omega) (by omega) fun v34 w8 hc8 hr8=>?_
 refine zaf (by omega) ?_
 refine ⟨mk-1,by omega,i+1,by omega,v34,rfl,by omega,(hx46.trans hx7).chgI hc8 (Nat.le_refl _),?_⟩
 rw [hfs];exact hr8
def F35 (a0:Value) (w:World) (R:VW):Prop:=
 oP (Instr.box 31 a0) w fun x1 w=>
 rL 31 x1 w fun x13=>
 cL 74 [x13] w fun x14 w=>
 oP (Instr.buildSlice 78 0 #[]) w fun x15 w=>
 oP (Instr.buildSlice 82 0 #[]) w fun x16 w=>
 LOOPI [4,5,6] [x15,x16,(iV 0)] w fun u5 w next5=>
 rF 31 x1 2 w fun x18=>
 rL 22 x18 w fun x19=>
 rN 22 3 x19 w fun x20=>
 rC (u5 6) x20 w fun x21=>
 BR x21
 (rL 31 x1 w fun x25=>
 cL 75 [x25,(u5 6)] w fun x27 w=>
 oP (Instr.buildSlice 78 1 #[(0,x27)]) w fun x28 w=>
 oP (Builtin.append_ #[78,78] 78 [(u5 4),x28].toArray) w fun x29 w=>
 rX 82 x14 (u5 6) w fun x33=>
 rL 4 x33 w fun x34=>
 BR x34
 (rL 31 x1 w fun x36=>
 cL 76 [x36,(u5 6)] w fun x38 w=>
 oP (Instr.buildSlice 82 1 #[(0,x38)]) w fun x40 w=>
 oP (Builtin.append_ #[82,82] 82 [(u5 5),x40].toArray) w fun x41 w=>
 rA (u5 6) (iV 1) w fun x23=>
 next5 [x29,x41,x23] w)
 (oP (Instr.buildSlice 82 1 #[(0,(Value.bool false))]) w fun x40 w=>
 oP (Builtin.append_ #[82,82] 82 [(u5 5),x40].toArray) w fun x41 w=>
 rA (u5 6) (iV 1) w fun x23=>
 next5 [x29,x41,x23] w))
 (oP (Instr.buildSlice 78 0 #[]) w fun x42 w=>
 LOOPI [7,8] [x42,(iV 0)] w fun u11 w next11=>
 rF 31 x1 2 w fun x44=>
 rL 22 x44 w fun x45=>
 rN 22 3 x45 w fun x46=>
 rC (u11 8) x46 w fun x47=>
 BR x47
 (rF 31 x1 2 w fun x50=>
 rL 22 x50 w fun x51=>
 rN 22 3 x51 w fun x52=>
 oP (Instr.makeSlice 82 x52 x52) w fun x53 w=>
 LOOPI [10] [(iV 0)] w fun u15 w next15=>
 rF 31 x1 2 w fun x55=>
 rL 22 x55 w fun x56=>
 rN 22 3 x56 w fun x57=>
 rC (u15 10) x57 w fun x58=>
 BR x58
 (LOOPI [11] [(iV 0)] w fun u18 w next18=>
 rF 31 x1 2 w fun x62=>
 rL 22 x62 w fun x63=>
 rN 22 3 x63 w fun x64=>
 rC (u18 11) x64 w fun x65=>
 BR x65
 (LOOPI [12] [(iV 0)] w fun u21 w next21=>
 rF 31 x1 2 w fun x69=>
 rL 22 x69 w fun x70=>
 rN 22 3 x70 w fun x71=>
 rC (u21 12) x71 w fun x72=>
 BR x72
 (rX 82 x14 (u18 11) w fun x77=>
 rL 4 x77 w fun x78=>
 BR x78
 (rX 82 x14 (u21 12) w fun x82=>
 rL 4 x82 w fun x83=>
 BR x83
 (rX 78 (u5 4) (u18 11) w fun x88=>
 rL 82 x88 w fun x89=>
 rX 82 x89 (u11 8) w fun x91=>
 rL 4 x91 w fun x92=>
 BR x92
 (rX 78 (u5 4) (u21 12) w fun x97=>
 rL 82 x97 w fun x98=>
 rX 82 x98 (u15 10) w fun x100=>
 rL 4 x100 w fun x101=>
 BR x101
 (rB .neq 3 T0 T0 (u18 11) (u21 12) w fun x106=>
 GBR x106
 (rX 82 x53 (u15 10) w fun x117=>
 oS 4 x117 (Value.bool true) w fun w=>
 rA (u21 12) (iV 1) w fun x74=>
 next21 [x74] w)
 (rX 82 (u5 5) (u18 11) w fun x110=>
 rL 4 x110 w fun x111=>
 rD (Op.unary .not x111) w fun x112=>
 BR x112
 (rX 82 x53 (u15 10) w fun x117=>
 oS 4 x117 (Value.bool true) w fun w=>
 rA (u21 12) (iV 1) w fun x74=>
 next21 [x74] w)
 (rA (u21 12) (iV 1) w fun x74=>
 next21 [x74] w))
 (BR undef
 (rX 82 x53 (u15 10) w fun x117=>
 oS 4 x117 (Value.bool true) w fun w=>
 rA (u21 12) (iV 1) w fun x74=>
 next21 [x74] w)
 (BR undef
 (rX 82 x53 (u15 10) w fun x117=>
 oS 4 x117 (Value.bool true) w fun w=>
 rA (u21 12) (iV 1) w fun x74=>
 next21 [x74] w)
 (rA (u21 12) (iV 1) w fun x74=>
 next21 [x74] w))))
 (rA (u21 12) (iV 1) w fun x74=>
 next21 [x74] w))
 (rA (u21 12) (iV 1) w fun x74=>
 next21 [x74] w))
 (rA (u21 12) (iV 1) w fun x74=>
 next21 [x74] w))
 (rA (u21 12) (iV 1) w fun x74=>
 next21 [x74] w))
 (rA (u18 11) (iV 1) w fun x67=>
 next18 [x67] w))
 (rA (u15 10) (iV 1) w fun x60=>
 next15 [x60] w))
 (oP (Instr.buildSlice 78 1 #[(0,x53)]) w fun x120 w=>
 oP (Builtin.append_ #[78,78] 78 [(u11 7),x120].toArray) w fun x121 w=>
 rA (u11 8) (iV 1) w fun x49=>
 next11 [x121,x49] w))
 (R (u11 7) w))
def cfg35:Cfg:=⟨extL,[],[(5,4398046380144,[4,5,6]),(11,5316911983139663491615219445028364160,[7,8]),(15,332306998946228968207937366560611328,[10]),(18,332306998946228965920108755856398336,[11]),(21,332306998946228673078046585717264384,[12])],[],[],[],[]⟩
theorem F35_call {a0:Value} {w:World} {R:VW} (h:F35 a0 w R):cL 35 [a0] w R:=co (g:=cfg35) Tryz.func35 (by kernel_rfl) (by kernel_rfl) (by kernel_rfl) h
open Rep (rep)
theorem zra {b:Bool} {Q kt kf ks:Prop} (hq:b=true→Q) (key:Q→kt) (rest:(Q→kt)→b=false→kf):GBR (.bool b) kt kf ks:=
 ztG (fun h=>key (hq h)) (fun h=>rest key h)
structure KQ2 (Q:List Nat→World→Prop):Prop where
 keep:∀ {F:List Nat} {w w':World},Q F w→(∀ b∈F,w'.heap[b]?=w.heap[b]?)→Q F w'
 lt:∀ {F:List Nat} {w:World},Q F w→∀ b∈F,b<w.heap.size
structure TT (Q1 Q2:List Nat→World→Prop) (wb w:World) (F1 F2:List Nat):Prop where
 ext:Ext wb w
 q1:Q1 F1 w
 q2:Q2 F2 w
 b1:∀ b∈F1,wb.heap.size≤b
 b2:∀ b∈F2,wb.heap.size≤b
 dis:∀ b∈F1,b∉F2
section
variable {Q1 Q1' Q2:List Nat→World→Prop} {wb w w1 w':World} {F1 F2 F':List Nat}
theorem TT.swap (h:TT Q1 Q2 wb w F1 F2):TT Q2 Q1 wb w F2 F1:=⟨h.ext,h.q2,h.q1,h.b2,h.b1,fun b hb hF=>h.dis b hF hb⟩
theorem TT.step (k1:KQ2 Q1) (k2:KQ2 Q2) (h:TT Q1 Q2 wb w F1 F2) (hx:Ext w w'):TT Q1 Q2 wb w' F1 F2:=
 ⟨h.ext.trans hx,k1.keep h.q1 fun b hb=>hx.heap (k1.lt h.q1 b hb),k2.keep h.q2 fun b hb=>hx.heap (k2.lt h.q2 b hb),h.b1,h.b2,h.dis⟩
theorem TT.grow (k1:KQ2 Q1) (k2:KQ2 Q2) (h:TT Q1 Q2 wb w F1 F2) {GX:List Nat} (hx:Ext w w1) (hc:Chg F1 w1 w') (hr:Q1' F' w') (hs:∀ c∈F',c∈F1∨c∈GX∨w.heap.size≤c) (hG:∀ c∈GX,wb.heap.size≤c∧c∉F2):TT Q1' Q2 wb w' F' F2:=by
 have h1:=h.step k1 k2 hx
 refine ⟨h1.ext.chgF hc h.b1,hr,k2.keep h1.q2 fun b hb=>hc.block b (k2.lt h1.q2 b hb) fun hF=>h.dis b hF hb,fun b hb=>?_,h.b2,fun b hb hF=>?_⟩
 · rcases hs b hb with h2 | h2 | h2
   · exact h.b1 b h2
   · exact (hG b h2).1
   have:=h.ext.size;omega
 rcases hs b hb with h2 | h2 | h2
 · exact h.dis b h2 hF
 · exact (hG b h2).2 hF
 have:=k2.lt h.q2 b hF;omega
end
def zsy {α:Type} [Rep α] (e:TypeId) (v:Value) (L:List α) (F:List Nat) (w:World):Prop:=RowG F e w v L∧F.Nodup
theorem zhq {α:Type} [Rep α] (e:TypeId) (v:Value) (L:List α):KQ2 (zsy e v L):=⟨fun h hk=>⟨h.1.keep hk,h.2⟩,fun h=>h.1.lt⟩
def zgM (c:DCode) (a b r s:Nat):Prop:=RootP c r∧RootP c s∧FromP c r a∧FromP c s b∧(r≠s∨¬zdp c r)
def zf5 (c:DCode) (a b:Nat):Prop:=∃ r s,zgM c a b r s
noncomputable instance (c:DCode) (r:Nat):Decidable (RootP c r):=Classical.propDecidable _
noncomputable def zgI (c:DCode) (k:Nat):List (List Bool):=(List.range k).map fun r=>zbl c.procs.length (FromP c r)
noncomputable def zha (c:DCode) (k:Nat):List Bool:=(List.range k).map fun r=>decide (RootP c r∧zdp c r)
noncomputable def zpr (c:DCode) (k:Nat):List (List Bool):=(List.range k).map fun a=>zbl c.procs.length (zf5 c a)
theorem zoW (c:DCode) (k:Nat):zgI c (k+1)=zgI c k++[zbl c.procs.length (FromP c k)]:=by unfold zgI;rw [List.range_succ,List.map_append];rfl
theorem zoX (c:DCode) (k:Nat):zha c (k+1)=zha c k++[decide (RootP c k∧zdp c k)]:=by unfold zha;rw [List.range_succ,List.map_append];rfl
theorem zrb (c:DCode) (k:Nat):zpr c (k+1)=zpr c k++[zbl c.procs.length (zf5 c k)]:=by unfold zpr;rw [List.range_succ,List.map_append];rfl
theorem zoY {w:World} (b:Bool):Mine [] w (.bool b) b:=by
 exact ⟨⟨_,⟨rfl,rfl⟩,rfl⟩,List.nodup_nil,Wr.nil _⟩
theorem zm6 {w W0:World} {v0:Value} {c:DCode} (h0:Is W0 v0 c) (e0:Ext W0 w) (hc:CodeR c) :
   CALL Tryz.prog 35 [v0] w fun v w'=>Ext w w'∧Own w.heap.size w' v (zpr c c.procs.length):=by
 refine F35_call ?_
 unfold F35
 have h8:=hc.1.procs8
 have he:=hc.2.1.1
 refine zbr h0 e0 fun w1 hx1 hA=>?_
 refine zac zbt hA (Ext.refl _) fun v13 h13=>?_
 refine (zeI h13 (Ext.refl _) hc).mono ?_
 rintro v14 w2 ⟨hx2,ho2⟩
 refine zaY (α:=List Bool) u78 zep fun a15 w3 hx3 _=>?_
 refine zaY (α:=Bool) u82 ty4 fun a16 wb hx4 _=>?_
 have hx24:=hx3.trans hx4
 have hx14:=hx2.trans hx24
 have hRt:=ho2.is.ext hx24
 have hs1:=hx1.size
 have hs14:=hx14.size
 have hT0:TT (zsy 82 (.slice (some a15) 0 0) (zgI c 0)) (zsy 4 (.slice (some a16) 0 0) (zha c 0)) wb wb [] []:=
   ⟨Ext.refl _,⟨.inl ⟨_,rfl,rfl,rfl⟩,List.nodup_nil⟩,⟨.inl ⟨_,rfl,rfl,rfl⟩,List.nodup_nil⟩,by simp,by simp,by simp⟩
 refine zaq c.procs.length (fun k us w'=>∃ fv sv F1 F2,us=[fv,sv,.int .i64 (k:Int)]∧k≤c.procs.length∧TT (zsy 82 fv (zgI c k)) (zsy 4 sv (zha c k)) wb w' F1 F2) 0 (Nat.zero_le _) ⟨_,_,_,_,rfl,Nat.zero_le _,hT0⟩ ?_
 rintro k mk u w5 hkm ⟨fv,sv,F1,F2,hu,hkl,hT5⟩
 obtain ⟨hu1,hu2,hu3⟩:=zvE hu
 rw [hu1,hu2,hu3]
 have hx15:=hx14.trans hT5.ext
 refine zaa zba ?_
 refine zac zbP (zar hA) hx15 fun v19 h19=>?_
 refine zag u22 h19 ?_
 refine zah ?_
 have hfl:(zgI c k).length=k:=by simp [zgI]
 have hsl:(zha c k).length=k:=by simp [zha]
 refine br (fun hlt=>?_) (fun hge=>?_)
 case refine_1=>
   have hk:k<c.procs.length:=by omega
   refine zac zbt hA hx15 fun v25 h25=>?_
   refine (zeD (a:=k) h25 hx15 hc hk).mono ?_
   rintro v27 w6 ⟨hx6,m,rfl,hm6,hM6⟩
   have hT6:=hT5.step (zhq _ _ _) (zhq _ _ _) hx6
   have hm2:m∉F2:=fun hF=>by have:=hT5.q2.1.lt m hF;omega
   have hm1:m∉F1:=fun hF=>by have:=hT5.q1.1.lt m hF;omega
   have hs5:=hT5.ext.size
   have hMe:(zbl c.procs.length fun i=>i=k∨RP (zis c) k i)=zbl c.procs.length (FromP c k):=rfl
   rw [hMe] at hM6
   refine zgi (x:=zbl c.procs.length (FromP c k)) (K:=fun _=>_) u78 zep z82 zvC (by decide) hT6.q1.1 hT6.q1.2 hM6 (fun b hb hF=>by simp at hb;subst hb;exact hm1 hF) (by rw [zan];omega) (by omega) (fun w7 v' w8 G' hx7 hc7 hr7 hn7 hs7=>?_) fun _ _ _ h=>h
   rw [←zoW] at hr7
   have hT8:=hT6.grow (Q1':=zsy 82 v' (zgI c (k+1))) (zhq _ _ _) (zhq _ _ _) hx7 hc7 ⟨hr7,hn7⟩ hs7 fun b hb=>by
     simp only [List.mem_cons,List.not_mem_nil,or_false] at hb
     subst hb
     exact ⟨by omega,hm2⟩
   have hx58:Ext wb w8:=hT8.ext
   have hmk:=zaB (n:=c.procs.length) (p:=RootP c) (i:=k)
   rw [zaM (by rw [zaj];exact hk)] at hmk
   have hfin:∀ {w9:World} (x:Bool),(x=decide (RootP c k∧zdp c k))→Ext w8 w9→OP Tryz.prog (Instr.buildSlice 82 1 #[(0,.bool x)]) w9 fun x40 w=>OP Tryz.prog (Builtin.append_ #[82,82] 82 [sv,x40].toArray) w fun x41 w=>RD Tryz.prog (bin .add 3 (.tmp 0) (.const undef) (.int .i64 (k:Int)) (.int .i64 1)) w fun x23=>∃ m',m'<mk∧∃ k',k'+m'=c.procs.length∧∃ fv sv F1 F2,[v',x41,x23]=[fv,sv,.int .i64 (k':Int)]∧k'≤c.procs.length∧TT (zsy 82 fv (zgI c k')) (zsy 4 sv (zha c k')) wb w F1 F2:=fun {w9} x hx9e hx9=>by
     have hT9:=hT8.step (zhq _ _ _) (zhq _ _ _) hx9
     refine zgi (x:=x) (K:=fun _=>_) u82 ty4 z4 zc4 (by decide) hT9.q2.1 hT9.q2.2 (zoY x) (by simp) (by rw [zan];omega) (by omega) (fun w10 v'' w11 G'' hx10 hc10 hr10 hn10 hs10=>?_) fun _ _ _ h=>h
     rw [hx9e,←zoX] at hr10
     have hT11:=(hT9.swap.grow (Q1':=zsy 4 v'' (zha c (k+1))) (zhq _ _ _) (zhq _ _ _) (GX:=[]) hx10 hc10 ⟨hr10,hn10⟩ hs10 (by simp)).swap
     refine zaf (by omega) ?_
     exact ⟨mk-1,by omega,k+1,by omega,v',v'',_,_,rfl,by omega,hT11⟩
   refine zad u82 ty4 (i:=k) hRt (by rw [zaj];exact hk) fun b9 o9 hA9=>?_
   refine zaw ty4 hA9 hx58 ?_
   refine zbw (fun hf=>?_) (fun hf=>?_)
   · have hR:=(hmk.1 hf).2
     refine zac zbt hA (hx14.trans hx58) fun v36 h36=>?_
     refine (zlT (r:=k) h36 (hx14.trans hx58) hc).mono ?_
     rintro _ w9 ⟨hx9,rfl⟩
     exact hfin _ (by rw [decide_eq_decide];exact ⟨fun h=>⟨hR,h⟩,fun h=>h.2⟩) hx9
   have hR:¬RootP c k:=fun h=>by rw [hmk.2 ⟨hk,h⟩] at hf;cases hf
   exact hfin false (by rw [decide_eq_false fun h=>hR h.1]) (Ext.refl _)
 have hke:k=c.procs.length:=by omega
 rw [hke] at hT5
 clear hfl hsl
 have hFr:=hT5.q1.1.own.is
 have hSi:=hT5.q2.1.own.is
 have hs5:=hT5.ext.size
 refine zaY (α:=List Bool) u78 zep fun a42 wT hx42 _=>?_
 have hx1T:=hx15.trans hx42
 have hx5T:=hx42
 have hsT:=hx42.size
 have hRtT:Ext wb wT:=hT5.ext.trans hx42
 refine zaq c.procs.length (fun k us w'=>∃ ov FO,us=[ov,.int .i64 (k:Int)]∧k≤c.procs.length∧Ext wT w'∧RowG FO 82 w' ov (zpr c k)∧FO.Nodup∧∀ b∈FO,wT.heap.size≤b) 0 (Nat.zero_le _) ⟨_,[],rfl,Nat.zero_le _,Ext.refl _,.inl ⟨_,rfl,rfl,rfl⟩,List.nodup_nil,by simp⟩ ?_
 rintro a mk2 u2 w6 hkm2 ⟨ov,FO,hu6,hal,hx6,hr6,hn6,hb6⟩
 obtain ⟨hu61,hu62⟩:=zb1 hu6
 rw [hu61,hu62]
 refine zaa zba ?_
 refine zac zbP (zar hA) (hx1T.trans hx6) fun v45 h45=>?_
 refine zag u22 h45 ?_
 refine zah ?_
 refine br (fun hlt2=>?_) (fun hge2=>?_)
 case refine_2=>
   have hke2:a=c.procs.length:=by omega
   rw [hke2] at hr6
   exact ⟨hx1.trans (hx1T.trans hx6),FO,⟨hr6.own,hn6,hr6.wr⟩,fun b hb=>by have:=hb6 b hb;have:=hx1T.size;omega⟩
 have ha:a<c.procs.length:=by omega
 refine zaa zba ?_
 refine zac zbP (zar hA) (hx1T.trans hx6) fun v51 h51=>?_
 refine zag u22 h51 ?_
 refine zdm h8.2 (by omega) fun w7 hx7 hM7=>?_
 have hs7:=hx7.size
 generalize hg:w6.heap.size=g at *
 have hgl:g<w7.heap.size:=hM7.lt g (by simp)
 have hs6T:=hx6.size
 have hgO:g∉FO:=fun hF=>by have:=hr6.lt g hF;omega
 rw [zco c.procs.length (p:=fun q=>q<0∧zf5 c a q) (fun i h=>by omega)] at hM7
 generalize hn:c.procs.length=n at *
 refine zaq n (fun b us w'=>us=[.int .i64 (b:Int)]∧b≤n∧ChgI g (g+1) w7 w'∧Mine [g] w' (.slice (some ⟨g,0,none⟩) n n) (zbl n fun q=>q<b∧zf5 c a q)) 0 (Nat.zero_le _) ⟨rfl,Nat.zero_le _,ChgI.refl _,hM7⟩ ?_
 rintro b mk3 u3 w8 hkm3 ⟨hu8,hbl,hc8,hM8⟩
 simp only [List.map_cons,List.map_nil,List.cons.injEq,and_true] at hu8
 rw [hu8]
 have hTx:∀ {w:World},ChgI g (g+1) w7 w→Ext wT w:=fun h=>(hx6.trans hx7).chgI h (by omega)
 refine zaa zba ?_
 refine zac zbP (zar hA) (hx1T.trans (hTx hc8)) fun v56 h56=>?_
 refine zag u22 h56 ?_
 rw [hn]
 refine zah ?_
 refine br (fun hlt3=>?_) (fun hge3=>?_)
 case refine_2=>
   have hbe:b=n:=by omega
   have:(zbl n fun q=>q<b∧zf5 c a q)=zbl n (zf5 c a):=zaK fun q hq=>⟨fun h=>h.2,fun h=>⟨by omega,h⟩⟩
   rw [this] at hM8
   have hr8:RowG FO 82 w8 ov (zpr c a):=hr6.keep fun q hq=>by
     have h1:=hr6.lt q hq
     rw [hc8.block q (by omega) (by have:q≠g:=fun e=>hgO (e▸hq);omega),hx7.heap (by omega)]
   have htl:(zpr c a).length=a:=by simp [zpr]
   refine zgi (x:=zbl n (zf5 c a)) (K:=fun _=>_) u78 zep z82 zvC (by decide) hr8 hn6 hM8 (fun q hq hF=>by simp at hq;subst hq;exact hgO hF) (by rw [zan];omega) (by omega) (fun w9 v' w10 G' hx9 hc9 hr9 hn9 hs9=>?_) fun _ _ _ h=>h
   have hs8:=hc8.size
   refine zaf (by omega) ?_
   refine ⟨mk2-1,by omega,a+1,by omega,v',G',rfl,by omega,((hTx hc8).trans hx9).chgF hc9 hb6,?_,hn9,fun q hq=>?_⟩
   · rw [zrb,hn];exact hr9
   rcases hs9 q hq with h | h | h
   · exact hb6 q h
   · simp at h;omega
   have:=(hTx hc8).size;omega
 have hb:b<n:=by omega
 have hM8':Mine [g] w8 (.slice (some ⟨g,0,none⟩) n n) (zbl n fun q=>(q<b∧zf5 c a q)∨(q=b∧∃ r,r<0∧∃ s,zgM c a b r s)):=by
   have:(zbl n fun q=>(q<b∧zf5 c a q)∨(q=b∧∃ r,r<0∧∃ s,zgM c a b r s))=zbl n fun q=>q<b∧zf5 c a q:=zaK fun q _=>⟨fun h=>h.resolve_right fun ⟨_,r,h,_⟩=>by omega,.inl⟩
   rw [this];exact hM8
 refine zaq n (fun r us w'=>us=[.int .i64 (r:Int)]∧r≤n∧ChgI g (g+1) w7 w'∧Mine [g] w' (.slice (some ⟨g,0,none⟩) n n) (zbl n fun q=>(q<b∧zf5 c a q)∨(q=b∧∃ r',r'<r∧∃ s,zgM c a b r' s))) 0 (Nat.zero_le _) ⟨rfl,Nat.zero_le _,hc8,hM8'⟩ ?_
 rintro r mk4 u4 w9 hkm4 ⟨hu9,hrl,hc9,hM9⟩
 simp only [List.map_cons,List.map_nil,List.cons.injEq,and_true] at hu9
 rw [hu9]
 refine zaa zba ?_
 refine zac zbP (zar hA) (hx1T.trans (hTx hc9)) fun v63 h63=>?_
 refine zag u22 h63 ?_
 rw [hn]
 refine zah ?_
 have hlts:∀ {r s},zgM c a b r s→r<n∧s<n:=fun h=>⟨hn▸h.1.lt hc,hn▸h.2.1.lt hc⟩
 refine br (fun hlt4=>?_) (fun hge4=>?_)
 case refine_2=>
   have:(zbl n fun q=>(q<b∧zf5 c a q)∨(q=b∧∃ r',r'<r∧∃ s,zgM c a b r' s))=zbl n fun q=>q<b+1∧zf5 c a q:=zaK fun q _=>by
     constructor
     · rintro (h | ⟨rfl,r',_,s,h⟩)
       · exact ⟨by omega,h.2⟩
       exact ⟨by omega,r',s,h⟩
     rintro ⟨h1,h2⟩
     by_cases e:q=b
     · subst e
       obtain ⟨r',s,h⟩:=h2
       exact .inr ⟨rfl,r',by have:=(hlts h).1;omega,s,h⟩
     exact .inl ⟨by omega,h2⟩
   rw [this] at hM9
   refine zaf (by omega) ?_
   exact ⟨mk3-1,by omega,b+1,by omega,rfl,by omega,hc9,hM9⟩
 have hr:r<n:=by omega
 have hM9':Mine [g] w9 (.slice (some ⟨g,0,none⟩) n n) (zbl n fun q=>(q<b∧zf5 c a q)∨(q=b∧((∃ r',r'<r∧∃ s,zgM c a b r' s)∨∃ s,s<0∧zgM c a b r s))):=by
   have:(zbl n fun q=>(q<b∧zf5 c a q)∨(q=b∧((∃ r',r'<r∧∃ s,zgM c a b r' s)∨∃ s,s<0∧zgM c a b r s)))=zbl n fun q=>(q<b∧zf5 c a q)∨(q=b∧∃ r',r'<r∧∃ s,zgM c a b r' s):=zaK fun q _=>or_congr Iff.rfl (and_congr Iff.rfl ⟨fun h=>h.resolve_right fun ⟨s,h,_⟩=>by omega,.inl⟩)
   rw [this];exact hM9
 refine zaq n (fun s us w'=>us=[.int .i64 (s:Int)]∧s≤n∧ChgI g (g+1) w7 w'∧Mine [g] w' (.slice (some ⟨g,0,none⟩) n n) (zbl n fun q=>(q<b∧zf5 c a q)∨(q=b∧((∃ r',r'<r∧∃ s,zgM c a b r' s)∨∃ s',s'<s∧zgM c a b r s')))) 0 (Nat.zero_le _) ⟨rfl,Nat.zero_le _,hc9,hM9'⟩ ?_
 rintro s mk5 u5 w10 hkm5 ⟨hu10,hsl,hc10,hM10⟩
 simp only [List.map_cons,List.map_nil,List.cons.injEq,and_true] at hu10
 rw [hu10]
 have hx10:=hTx hc10
 refine zaa zba ?_
 refine zac zbP (zar hA) (hx1T.trans hx10) fun v70 h70=>?_
 refine zag u22 h70 ?_
 rw [hn]
 refine zah ?_
 refine br (fun hlt5=>?_) (fun hge5=>?_)
 case refine_2=>
   have:(zbl n fun q=>(q<b∧zf5 c a q)∨(q=b∧((∃ r',r'<r∧∃ s,zgM c a b r' s)∨∃ s',s'<s∧zgM c a b r s')))=zbl n fun q=>(q<b∧zf5 c a q)∨(q=b∧∃ r',r'<r+1∧∃ s,zgM c a b r' s):=zaK fun q _=>or_congr Iff.rfl (and_congr Iff.rfl (by
     constructor
     · rintro (⟨r',h,s',h2⟩ | ⟨s',_,h2⟩)
       · exact ⟨r',by omega,s',h2⟩
       exact ⟨r,by omega,s',h2⟩
     rintro ⟨r',h,s',h2⟩
     by_cases e:r'=r
     · subst e;exact .inr ⟨s',by have:=(hlts h2).2;omega,h2⟩
     exact .inl ⟨r',by omega,s',h2⟩))
   rw [this] at hM10
   refine zaf (by omega) ?_
   exact ⟨mk4-1,by omega,r+1,by omega,rfl,by omega,hc10,hM10⟩
 have hs:s<n:=by omega
 have hskip:¬zgM c a b r s→RD Tryz.prog (bin .add 3 (.tmp 0) (.const undef) (.int .i64 (s:Int)) (.int .i64 1)) w10 fun x74=>∃ m',m'<mk5∧∃ k',k'+m'=n∧[x74]=[.int .i64 (k':Int)]∧k'≤n∧ChgI g (g+1) w7 w10∧Mine [g] w10 (.slice (some ⟨g,0,none⟩) n n) (zbl n fun q=>(q<b∧zf5 c a q)∨(q=b∧((∃ r',r'<r∧∃ s,zgM c a b r' s)∨∃ s',s'<k'∧zgM c a b r s'))):=fun hno=>by
   refine zaf (by omega) ?_
   refine ⟨mk5-1,by omega,s+1,by omega,rfl,by omega,hc10,?_⟩
   have:(zbl n fun q=>(q<b∧zf5 c a q)∨(q=b∧((∃ r',r'<r∧∃ s,zgM c a b r' s)∨∃ s',s'<s+1∧zgM c a b r s')))=zbl n fun q=>(q<b∧zf5 c a q)∨(q=b∧((∃ r',r'<r∧∃ s,zgM c a b r' s)∨∃ s',s'<s∧zgM c a b r s')):=zaK fun q _=>or_congr Iff.rfl (and_congr Iff.rfl (or_congr Iff.rfl (by
     constructor
     · rintro ⟨s',h,h2⟩
       by_cases e:s'=s
       · subst e;exact absurd h2 hno
       exact ⟨s',by omega,h2⟩
     rintro ⟨s',h,h2⟩;exact ⟨s',by omega,h2⟩)))
   rw [this];exact hM10
 have hmr:=zaB (n:=n) (p:=RootP c) (i:=r)
 have hms:=zaB (n:=n) (p:=RootP c) (i:=s)
 rw [zaM (by rw [zaj];exact hr)] at hmr
 rw [zaM (by rw [zaj];exact hs)] at hms
 have eRt:Ext wb w10:=hRtT.trans hx10
 refine zad u82 ty4 (i:=r) hRt (by rw [zaj];exact hr) fun b1 o1 hA1=>?_
 refine zaw ty4 hA1 eRt ?_
 refine zbw (fun hf=>?_) (fun hf=>hskip fun h=>by rw [hmr.2 ⟨hr,h.1⟩] at hf;cases hf)
 have hR:=(hmr.1 hf).2
 refine zad u82 ty4 (i:=s) hRt (by rw [zaj];exact hs) fun b2 o2 hA2=>?_
 refine zaw ty4 hA2 eRt ?_
 refine zbw (fun hf2=>?_) (fun hf2=>hskip fun h=>by rw [hms.2 ⟨hs,h.2.1⟩] at hf2;cases hf2)
 have hSr:=(hms.1 hf2).2
 have eF:Ext w5 w10:=hx5T.trans hx10
 have hfl2:(zgI c n).length=n:=by simp [zgI]
 have hfget:∀ (i:Nat) (hi:i<(zgI c n).length),(zgI c n)[i]=zbl n (FromP c i):=fun i hi=>by simp [zgI,hn]
 have hma:=zaB (n:=n) (p:=FromP c r) (i:=a)
 have hmb:=zaB (n:=n) (p:=FromP c s) (i:=b)
 rw [zaM (by rw [zaj];exact ha)] at hma
 rw [zaM (by rw [zaj];exact hb)] at hmb
 refine zad u78 zep (i:=r) hFr (by rw [hfl2];exact hr) fun b3 o3 hA3=>?_
 rw [hfget] at hA3
 refine zac zep hA3 eF fun v89 h89=>?_
 refine zad u82 ty4 (i:=a) h89 (by rw [zaj];exact ha) fun b4 o4 hA4=>?_
 refine zaw ty4 hA4 eF ?_
 refine zbw (fun hf3=>?_) (fun hf3=>hskip fun h=>by rw [hma.2 ⟨ha,h.2.2.1⟩] at hf3;cases hf3)
 have hFa:=(hma.1 hf3).2
 refine zad u78 zep (i:=s) hFr (by rw [hfl2];exact hs) fun b5 o5 hA5=>?_
 rw [hfget] at hA5
 refine zac zep hA5 eF fun v98 h98=>?_
 refine zad u82 ty4 (i:=b) h98 (by rw [zaj];exact hb) fun b6 o6 hA6=>?_
 refine zaw ty4 hA6 eF ?_
 refine zbw (fun hf4=>?_) (fun hf4=>hskip fun h=>by rw [hmb.2 ⟨hb,h.2.2.2.1⟩] at hf4;cases hf4)
 have hFb:=(hmb.1 hf4).2
 refine zaI ?_
 refine zra (Q:=zgM c a b r s) (fun h=>⟨hR,hSr,hFa,hFb,.inl (by have:=of_decide_eq_true h;omega)⟩) (fun hB=>?_) (fun key h=>?_)
 · refine zbs (α:=Bool) (i:=b) rfl u82 ty4 hb ?_
   refine za2 (α:=Bool) rfl ty4 hM10 zaj hb zbh fun w11 hc11 hM11=>?_
   refine zaf (by omega) ?_
   refine ⟨mk5-1,by omega,s+1,by omega,rfl,by omega,hc10.trans (zdH hc11),?_⟩
   have hset:=znN (n:=n) (q:=b) (p:=fun q=>(q<b∧zf5 c a q)∨(q=b∧((∃ r',r'<r∧∃ s,zgM c a b r' s)∨∃ s',s'<s∧zgM c a b r s'))) (p':=fun q=>(q<b∧zf5 c a q)∨(q=b∧((∃ r',r'<r∧∃ s,zgM c a b r' s)∨∃ s',s'<s+1∧zgM c a b r s'))) hb fun q=>by
     constructor
     · rintro (h | ⟨e,_⟩)
       · exact .inl (.inl h)
       exact .inr e
     rintro ((h | ⟨e,h | ⟨s',h1,h2⟩⟩) | e)
     · exact .inl h
     · exact .inr ⟨e,.inl h⟩
     · exact .inr ⟨e,.inr ⟨s',by omega,h2⟩⟩
     exact .inr ⟨e,.inr ⟨s,by omega,hB⟩⟩
   rw [←hset];exact hM11
 have hrs:r=s:=by have:=of_decide_eq_false h;omega
 have hsl2:(zha c n).length=n:=by simp [zha]
 refine zad u82 ty4 (i:=r) hSi (by rw [hsl2];exact hr) fun b7 o7 hA7=>?_
 rw [show (zha c n)[r]'(by rw [hsl2];exact hr)=decide (RootP c r∧zdp c r) by simp only [zha,List.getElem_map,List.getElem_range]] at hA7
 refine zaw ty4 hA7 eF ?_
 refine zaV ?_
 refine zbw (fun hf5=>key ⟨hR,hSr,hFa,hFb,.inr fun hS=>?_⟩) (fun hf5=>hskip fun hB=>?_)
 · rw [decide_eq_true (⟨hR,hS⟩:RootP c r∧zdp c r)] at hf5;cases hf5
 rcases hB.2.2.2.2 with h2 | h2
 · exact h2 hrs
 rw [decide_eq_false (fun h3:RootP c r∧zdp c r=>h2 h3.2)] at hf5;cases hf5
instance flatRawM:Flat Raw:=⟨fun h=>h.1⟩
section
variable {w0 w w':World} {lo hi g n:Nat} {out:Value} {L:List DRace} {vs:List Raw} {T:Nat→List DTouch}
end
def zvi (c:DCode) (s:DState):Prop:=(CodeR c∧znJ c s)∧zvJ c s=[]∧zmO c s s.stacks.length=0
instance (c:DCode) (s:DState):Decidable (zvi c s):=by unfold zvi;infer_instance
theorem zm7 {w w0:World} {v:Value} {l:List DRace} (h:Is w0 v l) (hx:Ext w0 w) (hn:l.length≤1000000000) :
   CALL Tryz.prog 53 [v] w fun r w'=>Ext w w'∧Own w.heap.size w' r (zeR l):=by
 refine F53_call ?_
 unfold F53
 refine (zqP h hx (by omega)).mono ?_
 rintro v1 w1 ⟨hx1,ho1⟩
 refine (zsm ho1.toI (by omega)).mono ?_
 rintro _ w2 ⟨hc2,ho2⟩
 refine (zoN ho2 (by rw [zqU];omega)).mono ?_
 rintro v3 w3 ⟨hc3,ho3⟩
 refine (zsh ho3).mono ?_
 rintro v4 w4 ⟨hx4,ho4⟩
 rw [zt9] at ho4
 exact ⟨((hx1.chgI hc2 (Nat.le_refl _)).chgI hc3 (Nat.le_refl _)).trans hx4,ho4.own⟩
theorem zoZ {w W1:World} {F:List Nat} {v v1:Value} {l:List DRace} {x:DRace} (h:Mine F w v l) (h1:Is W1 v1 x) (e1:Ext W1 w) (hn:l.length≤1000000000) :
   CALL Tryz.prog 37 [v,v1] w fun r w'=>Ext w w'∧∃ F',Mine F' w' r (zjA x l)∧∀ b∈F',b∈F∨w.heap.size≤b:=by
 refine F37_call ?_
 unfold F37
 have hI:=h.is
 refine zbr h1 e1 fun w1 hx1 hA=>?_
 refine JOIN.mk (fun us w'=>∃ k:Nat,us=[.int .i64 (k:Int)]∧Ext w1 w'∧k≤l.length∧ahd x l=k) ?_ ?_
 · refine zaq l.length (fun k us w'=>us=[.int .i64 (k:Int)]∧Ext w1 w'∧k≤l.length∧∀ j (h:j<k) (h2:j<l.length),ltR l[j] x) 0 (Nat.zero_le _) ⟨rfl,Ext.refl w1,Nat.zero_le _,fun j h=>by omega⟩ ?_
   rintro k mk u w2 hkm ⟨hu,hx2,hkl,hlt⟩
   simp only [List.map_cons,List.map_nil,List.cons.injEq,and_true] at hu
   rw [hu]
   have hx3:=zak w2
   have hx23:=hx2.trans hx3
   generalize World.drew1 w2=w3 at *
   refine zag u40 hI ?_
   refine zah ?_
   refine br (fun hk=>?_) (fun hk=>?_)
   · have hk':k<l.length:=by omega
     refine zad u40 zd5 hI hk' fun b1 o1 hA1=>?_
     refine zac zd5 hA1 (hx1.trans hx23) fun v15 h15=>?_
     refine zac zd5 hA hx23 fun v16 h16=>?_
     refine (zm1 h15 (hx1.trans hx23) h16 hx23).mono ?_
     rintro _ w4 ⟨hx4,rfl⟩
     refine zbw (fun hc=>?_) (fun hc=>?_)
     · refine zaf (by omega) ?_
       refine ⟨mk-1,by omega,k+1,by omega,rfl,hx23.trans hx4,by omega,fun j hj hj2=>?_⟩
       by_cases hjk:j<k
       · exact hlt j hjk hj2
       have:j=k:=by omega
       subst this
       simpa using hc
     exact ⟨k,rfl,hx23.trans hx4,hkl,zqT hkl (fun j hj=>hlt j hj (by omega)) fun h=>by simpa using hc⟩
   exact ⟨k,rfl,hx23,hkl,zqT hkl (fun j hj=>hlt j hj (by omega)) fun h=>by omega⟩
 rintro u w2 ⟨k,hu,hx2,hkl,hak⟩
 simp only [List.map_cons,List.map_nil,List.cons.injEq,and_true] at hu
 rw [hu]
 have hput:=zn9 x l
 rw [hak] at hput
 refine JOIN.mk (fun us w'=>Ext w1 w'∧zjA x l=l.take k++(x :: l.drop k)) ?_ ?_
 · have hx3:=zak w2
   have hx23:=hx2.trans hx3
   generalize World.drew1 w2=w3 at *
   refine zag u40 hI ?_
   refine zah ?_
   refine br (fun hk=>?_) (fun hk=>?_)
   · have hk':k<l.length:=by omega
     rw [dif_pos hk'] at hput
     refine zad u40 zd5 hI hk' fun b1 o1 hA1=>?_
     refine zac zd5 hA1 (hx1.trans hx23) fun v15 h15=>?_
     refine zac zd5 hA hx23 fun v16 h16=>?_
     refine ziC h15 h16 ?_
     refine br (fun hc=>?_) (fun hc=>?_)
     · rw [if_pos hc] at hput
       have hx:=hx1.trans hx23
       exact ⟨hx,F,by rw [hput];exact h.ext hx,fun b hb=>.inl hb⟩
     rw [if_neg hc] at hput
     exact ⟨hx23,hput⟩
   have hk':k=l.length:=by omega
   subst hk'
   rw [dif_neg (by omega)] at hput
   exact ⟨hx23,by rw [hput];simp⟩
 rintro u6 w3 ⟨hx3,hpe⟩
 rw [hpe]
 have hx03:=hx1.trans hx3
 have hs03:=hx03.size
 refine zaY (α:=DRace) u40 zd5 fun a w4 hx4 hr4=>?_
 have hs4:=hx4.size
 refine zhW (i:=(k:Int)) u40 zd5 hI (by omega) (by omega) fun v37 h37=>?_
 refine zds u40 zd5 zuR hr4 (Nat.le_refl _) h37 (hx03.trans hx4) (by simp [maxLen];omega) (by simp;omega) fun v38 w5 hc5 hr5=>?_
 have hs5:=hc5.size
 have hx5:=(Ext.refl w4).chgI hc5 (Nat.le_refl _)
 refine zac zd5 hA (hx3.trans (hx4.trans hx5)) fun v40 h40=>?_
 refine zbK (lo2:=w5.heap.size) (hi2:=w5.heap.size) u40 zd5 z44 zuR (by decide) hr5 (by omega) (zgF (h40.ext (hx3.trans (hx4.trans hx5)))) (Nat.le_refl _) (by omega) (by simp [maxLen];omega) (by simp;omega) fun v42 w6 hc6 hr6=>?_
 have hs6:=hc6.size
 refine zev (i:=(k:Int)) u40 zd5 hI (by omega) (by omega) fun v46 h46=>?_
 have hx6:Ext w w6:=(hx03.trans (hx4.trans hx5)).chgI hc6 (by omega)
 refine zds u40 zd5 zuR hr6 (by omega) h46 hx6 (by simp [maxLen];omega) (by simp;omega) fun v47 w7 hc7 hr7=>?_
 have hs7:=hc7.size
 refine ⟨hx6.chgI hc7 (by omega),?_⟩
 obtain ⟨F',hM,hF⟩:=hr7.own
 refine ⟨F',?_,fun b hb=>.inr (by have:=hF b hb;omega)⟩
 simpa using hM
open Classical in
noncomputable def rc1 (c:DCode) (a b:DTouch):List DRace:=if zdk a b∧zf5 c (zat c a.at_).toNat (zat c b.at_).toNat then [zek a b] else []
theorem zuf (c:DCode) (a b:DTouch):(rc1 c a b).length≤1:=by unfold rc1;split<;>simp
noncomputable def zm8 (c:DCode) (T:List DTouch) (i:Nat):List DRace:=match T.drop i with
 | []=>[]
 | a :: r=>(a :: r).flatMap (rc1 c a)
noncomputable def zfc (c:DCode) (T:List DTouch) (n:Nat):List DRace:=(List.range n).flatMap (zm8 c T)
theorem zhM {c:DCode} {T:List DTouch} {i:Nat} (hi:i<T.length):zm8 c T i=(T.drop i).flatMap (rc1 c T[i]):=by
 unfold zm8
 rw [List.drop_eq_getElem_cons hi]
theorem zm9 (c:DCode) (a:DTouch) (L:List DTouch):(L.flatMap (rc1 c a)).length≤L.length:=by
 have:=zfz (l:=L) (f:=rc1 c a) (B:=1) fun b _=>zuf c a b
 omega
theorem zrc (c:DCode) (T:List DTouch) (i:Nat):(zm8 c T i).length≤T.length:=by
 rcases Nat.lt_or_ge i T.length with h | h
 · rw [zhM h]
   have:=zm9 c T[i] (T.drop i)
   rw [List.length_drop] at this
   omega
 unfold zm8
 rw [List.drop_eq_nil_of_le h];simp
theorem ziP {c:DCode} {T:List DTouch} (hT:T.length≤18000) {n:Nat} (hn:n≤18000):(zfc c T n).length≤324000000:=by
 have h1:=zfz (l:=List.range n) (f:=zm8 c T) (B:=18000) fun i _=>Nat.le_trans (zrc c T i) hT
 rw [List.length_range] at h1
 have:n*18000≤18000*18000:=Nat.mul_le_mul_right _ hn
 unfold zfc;omega
theorem zjK (c:DCode) (T:List DTouch) (n:Nat):zfc c T (n+1)=zfc c T n++zm8 c T n:=by
 unfold zfc;rw [List.range_succ,List.flatMap_append];simp
theorem zhN {c:DCode} (hc:CodeR c):(zjJ c).length≤18000:=ziO hc _ (Nat.le_trans zaT hc.f.ins)
structure TouR (c:DCode) (x:DTouch) (p:Nat):Prop where
 at_:x.at_=(p:Int)
 lt:p<c.ins.length
 met:MetP c p
 h0:0≤x.held
 h1:x.held≤63
theorem zof {c:DCode} (hc:CodeR c) {x:DTouch} (h:x∈zjJ c):∃ p,TouR c x p:=by
 unfold zjJ at h
 obtain ⟨i,hi,hx⟩:=List.mem_flatMap.1 h
 obtain ⟨h1,h2⟩:=zel hx
 have hm:=zcu (zkp c) i
 obtain ⟨h3,h4⟩:=zaE.1 hi
 exact ⟨i,h1,h3,h4,by omega,by omega⟩
theorem zug (c:DCode):(zjJ c).Pairwise fun a b=>a.at_≤b.at_:=by
 unfold zjJ
 refine List.pairwise_flatMap.2 ⟨fun i _=>?_,?_⟩
 · refine List.pairwise_iff_forall_sublist.2 fun {a b} h=>?_
   have h1:=zel (h.subset (by simp:a∈[a,b]))
   have h2:=zel (h.subset (by simp:b∈[a,b]))
   rw [h1.1,h2.1];omega
 have hr:(zaS c.ins.length (MetP c)).Pairwise (fun a b=>a<b):=by
   unfold zaS
   exact List.pairwise_lt_range.filter _
 refine hr.imp fun {i j} hij x hx y hy=>?_
 have h1:=zel hx
 have h2:=zel hy
 rw [h1.1,h2.1];omega
theorem zjL {c:DCode} {p i j:Nat} (h:zaC c p i) (hj:j∈zax c i):zaC c p j:=by
 rcases h with rfl | h
 · exact .inr (.one hj)
 exact .inr (h.trans (.one hj))
theorem zog {c:DCode} (hc:CodeR c) {i:Nat} (h:MetP c i):zd4 c i:=by
 induction h with
 | root h=>exact ⟨_,h.lt hc,.inl rfl⟩
 | call h ho _=>exact ⟨_,(zbN hc (h.lt hc) (.inl ho)).2,.inl rfl⟩
 | next _ _ hj ih=>obtain ⟨p,hp,hl⟩:=ih;exact ⟨p,hp,zjL hl hj⟩
 | back _ _ _ hj ih _=>obtain ⟨p,hp,hl⟩:=ih;exact ⟨p,hp,zjL hl hj⟩
theorem zrd {c:DCode} (hc:CodeR c) {i j:Nat} (hi:MetP c i) (hj:MetP c j):ztx (rtN c i) (rtN c j) (zm4 c)↔zf5 c (zat c i).toNat (zat c j).toNat:=by
 have h1:=zog hc hi
 have h2:=zog hc hj
 have hb:∀ k r,(rtN c k).testBit r=true↔r<c.procs.length∧RtP c k r:=fun k r=>zaO
 have hs:∀ r,r<c.procs.length→RootP c r→((zm4 c).testBit r=false↔¬zdp c r):=fun r hr hR=>by
   have:=zaO (n:=c.procs.length) (p:=fun r=>RootP c r∧zdp c r) (i:=r)
   unfold zm4
   constructor
   · intro h hS;rw [this.2 ⟨hr,hR,hS⟩] at h;cases h
   intro h
   cases e:(zbY (fun r=>RootP c r∧zdp c r) c.procs.length).testBit r
   · rfl
   exact absurd (this.1 e).2.2 h
 constructor
 · rintro ⟨r,t,hr,ht,h⟩
   obtain ⟨hr1,_,hr2,hr3⟩:=(hb _ _).1 hr
   obtain ⟨ht1,_,ht2,ht3⟩:=(hb _ _).1 ht
   exact ⟨r,t,hr2,ht2,hr3,ht3,h.imp id (hs r hr1 hr2).1⟩
 rintro ⟨r,t,hr2,ht2,hr3,ht3,h⟩
 exact ⟨r,t,(hb _ _).2 ⟨hr2.lt hc,h1,hr2,hr3⟩,(hb _ _).2 ⟨ht2.lt hc,h2,ht2,ht3⟩,h.imp id (hs r (hr2.lt hc) hr2).2⟩
def F21 (a0:Value) (w:World) (R:VW):Prop:=
 cL 48 [a0] w fun x12 w=>
 cL 49 [a0] w fun x15 w=>
 rE x15 0 w fun x16=>
 rE x15 1 w fun x17=>
 rN 76 3 x12 w fun x19=>
 LOOPI [6,20] [(Value.slice none 0 0),(iV 0)] w fun u5 w next5=>
 rC (u5 20) x19 w fun x21=>
 BR x21
 (rX 76 x12 (u5 20) w fun x23=>
 rL 81 x23 w fun x24=>
 oP (Instr.alloc 81 true (.tuple #[])) w fun x8 w=>
 oS 81 x8 x24 w fun w=>
 rD (Instr.sliceAt 76 x12 (some (u5 20)) none none) w fun x27=>
 rN 76 3 x27 w fun x28=>
 LOOPI [6,29] [(u5 6),(iV 0)] w fun u8 w next8=>
 rC (u8 29) x28 w fun x30=>
 BR x30
 (rX 76 x27 (u8 29) w fun x31=>
 rL 81 x31 w fun x32=>
 oP (Instr.alloc 81 true (.tuple #[])) w fun x10 w=>
 oS 81 x10 x32 w fun w=>
 (fun w=>rL 81 x8 w fun x33=>
 rL 81 x10 w fun x34=>
 cL 50 [x33,x34] w fun x35 w=>
 BR x35
 (rF 81 x8 0 w fun x38=>
 rL 3 x38 w fun x39=>
 rX 23 x16 x39 w fun x40=>
 rL 3 x40 w fun x41=>
 rF 81 x10 0 w fun x43=>
 rL 3 x43 w fun x44=>
 rX 23 x16 x44 w fun x45=>
 rL 3 x45 w fun x46=>
 cL 51 [x41,x46,x17] w fun x48 w=>
 BR x48
 (rL 81 x8 w fun x51=>
 rL 81 x10 w fun x52=>
 cL 52 [x51,x52] w fun x53 w=>
 oP (Instr.buildSlice 40 1 #[(0,x53)]) w fun x54 w=>
 oP (Builtin.append_ #[40,40] 40 [(u8 6),x54].toArray) w fun x55 w=>
 rA (u8 29) (iV 1) w fun x56=>
 next8 [x55,x56] w)
 (rA (u8 29) (iV 1) w fun x56=>
 next8 [(u8 6),x56] w))
 (rA (u8 29) (iV 1) w fun x56=>
 next8 [(u8 6),x56] w)) (World.drew1 w))
 (rA (u5 20) (iV 1) w fun x57=>
 next5 [(u8 6),x57] w))
 (cL 53 [(u5 6)] w fun x59 w=>
 R x59 w)
def cfg21:Cfg:=⟨extL,[],[(5,288230376150664640,[6,20]),(8,144115187538986048,[6,29])],[(10,[0,1,2,3,4,5,6,7,8,9,10,11,12,13,14,15,16],0)],[],[],[]⟩
theorem F21_call {a0:Value} {w:World} {R:VW} (h:F21 a0 w R):cL 21 [a0] w R:=co (g:=cfg21) Tryz.func21 (by kernel_rfl) (by kernel_rfl) (by kernel_rfl) h
def F13 (a0:Value) (w:World) (R:VW):Prop:=
 oP (Instr.box 31 a0) w fun x1 w=>
 oP (Instr.buildSlice 40 0 #[]) w fun x10 w=>
 rL 31 x1 w fun x11=>
 cL 34 [x11] w fun x12 w=>
 rL 31 x1 w fun x13=>
 cL 35 [x13] w fun x14 w=>
 LOOPI [3,6] [x10,(iV 0)] w fun u5 w next5=>
 rN 76 3 x12 w fun x17=>
 rC (u5 6) x17 w fun x18=>
 BR x18
 (LOOPI [3,7] [(u5 3),(u5 6)] w fun u8 w next8=>
 rN 76 3 x12 w fun x24=>
 rC (u8 7) x24 w fun x25=>
 BR x25
 (rX 76 x12 (u5 6) w fun x30=>
 rL 81 x30 w fun x31=>
 oP (Instr.alloc 81 true (.tuple #[])) w fun x8 w=>
 oS 81 x8 x31 w fun w=>
 rX 76 x12 (u8 7) w fun x34=>
 rL 81 x34 w fun x35=>
 oP (Instr.alloc 81 true (.tuple #[])) w fun x9 w=>
 oS 81 x9 x35 w fun w=>
 (fun w=>rF 81 x8 1 w fun x36=>
 rL 3 x36 w fun x37=>
 rF 81 x9 1 w fun x38=>
 rL 3 x38 w fun x39=>
 rB .eql 3 T0 T0 x37 x39 w fun x40=>
 BR x40
 (rF 81 x8 2 w fun x42=>
 rL 4 x42 w fun x43=>
 GBR x43
 (rF 81 x8 3 w fun x50=>
 rL 3 x50 w fun x51=>
 rF 81 x9 3 w fun x52=>
 rL 3 x52 w fun x53=>
 rB .and 3 T0 T0 x51 x53 w fun x54=>
 rB .eql 3 T0 U0 x54 (iV 0) w fun x55=>
 BR x55
 (rL 31 x1 w fun x59=>
 rF 81 x8 0 w fun x60=>
 rL 3 x60 w fun x61=>
 rL 31 x1 w fun x65=>
 rF 81 x9 0 w fun x66=>
 rL 3 x66 w fun x67=>
 (fun w_=>cL 36 [x59,x61] w_ fun x62 w=>
 Ext w_ w ∧
 rX 78 x14 x62 w fun x63=>
 rL 82 x63 w fun x64=>
 (fun w_=>cL 36 [x65,x67] w_ fun x68 w=>
 Ext w_ w ∧
 rX 82 x64 x68 w fun x69=>
 rL 4 x69 w fun x70=>
 BR x70
 (rF 81 x8 1 w fun x73=>
 rL 3 x73 w fun x74=>
 rF 81 x8 0 w fun x75=>
 rL 3 x75 w fun x76=>
 rF 81 x9 0 w fun x77=>
 rL 3 x77 w fun x78=>
 rD (Instr.build 44 #[(0,x74),(1,x76),(2,x78)]) w fun x79=>
 cL 37 [(u8 3),x79] w fun x80 w=>
 rA (u8 7) (iV 1) w fun x27=>
 next8 [x80,x27] w)
 (rA (u8 7) (iV 1) w fun x27=>
 next8 [(u8 3),x27] w)) w) w)
 (rA (u8 7) (iV 1) w fun x27=>
 next8 [(u8 3),x27] w))
 (rF 81 x9 2 w fun x45=>
 rL 4 x45 w fun x46=>
 BR x46
 (rF 81 x8 3 w fun x50=>
 rL 3 x50 w fun x51=>
 rF 81 x9 3 w fun x52=>
 rL 3 x52 w fun x53=>
 rB .and 3 T0 T0 x51 x53 w fun x54=>
 rB .eql 3 T0 U0 x54 (iV 0) w fun x55=>
 BR x55
 (rL 31 x1 w fun x59=>
 rF 81 x8 0 w fun x60=>
 rL 3 x60 w fun x61=>
 rL 31 x1 w fun x65=>
 rF 81 x9 0 w fun x66=>
 rL 3 x66 w fun x67=>
 (fun w_=>cL 36 [x59,x61] w_ fun x62 w=>
 Ext w_ w ∧
 rX 78 x14 x62 w fun x63=>
 rL 82 x63 w fun x64=>
 (fun w_=>cL 36 [x65,x67] w_ fun x68 w=>
 Ext w_ w ∧
 rX 82 x64 x68 w fun x69=>
 rL 4 x69 w fun x70=>
 BR x70
 (rF 81 x8 1 w fun x73=>
 rL 3 x73 w fun x74=>
 rF 81 x8 0 w fun x75=>
 rL 3 x75 w fun x76=>
 rF 81 x9 0 w fun x77=>
 rL 3 x77 w fun x78=>
 rD (Instr.build 44 #[(0,x74),(1,x76),(2,x78)]) w fun x79=>
 cL 37 [(u8 3),x79] w fun x80 w=>
 rA (u8 7) (iV 1) w fun x27=>
 next8 [x80,x27] w)
 (rA (u8 7) (iV 1) w fun x27=>
 next8 [(u8 3),x27] w)) w) w)
 (rA (u8 7) (iV 1) w fun x27=>
 next8 [(u8 3),x27] w))
 (rA (u8 7) (iV 1) w fun x27=>
 next8 [(u8 3),x27] w))
 (BR undef
 (rF 81 x8 3 w fun x50=>
 rL 3 x50 w fun x51=>
 rF 81 x9 3 w fun x52=>
 rL 3 x52 w fun x53=>
 rB .and 3 T0 T0 x51 x53 w fun x54=>
 rB .eql 3 T0 U0 x54 (iV 0) w fun x55=>
 BR x55
 (rL 31 x1 w fun x59=>
 rF 81 x8 0 w fun x60=>
 rL 3 x60 w fun x61=>
 rL 31 x1 w fun x65=>
 rF 81 x9 0 w fun x66=>
 rL 3 x66 w fun x67=>
 (fun w_=>cL 36 [x59,x61] w_ fun x62 w=>
 Ext w_ w ∧
 rX 78 x14 x62 w fun x63=>
 rL 82 x63 w fun x64=>
 (fun w_=>cL 36 [x65,x67] w_ fun x68 w=>
 Ext w_ w ∧
 rX 82 x64 x68 w fun x69=>
 rL 4 x69 w fun x70=>
 BR x70
 (rF 81 x8 1 w fun x73=>
 rL 3 x73 w fun x74=>
 rF 81 x8 0 w fun x75=>
 rL 3 x75 w fun x76=>
 rF 81 x9 0 w fun x77=>
 rL 3 x77 w fun x78=>
 rD (Instr.build 44 #[(0,x74),(1,x76),(2,x78)]) w fun x79=>
 cL 37 [(u8 3),x79] w fun x80 w=>
 rA (u8 7) (iV 1) w fun x27=>
 next8 [x80,x27] w)
 (rA (u8 7) (iV 1) w fun x27=>
 next8 [(u8 3),x27] w)) w) w)
 (rA (u8 7) (iV 1) w fun x27=>
 next8 [(u8 3),x27] w))
 (BR undef
 (rF 81 x8 3 w fun x50=>
 rL 3 x50 w fun x51=>
 rF 81 x9 3 w fun x52=>
 rL 3 x52 w fun x53=>
 rB .and 3 T0 T0 x51 x53 w fun x54=>
 rB .eql 3 T0 U0 x54 (iV 0) w fun x55=>
 BR x55
 (rL 31 x1 w fun x59=>
 rF 81 x8 0 w fun x60=>
 rL 3 x60 w fun x61=>
 rL 31 x1 w fun x65=>
 rF 81 x9 0 w fun x66=>
 rL 3 x66 w fun x67=>
 (fun w_=>cL 36 [x59,x61] w_ fun x62 w=>
 Ext w_ w ∧
 rX 78 x14 x62 w fun x63=>
 rL 82 x63 w fun x64=>
 (fun w_=>cL 36 [x65,x67] w_ fun x68 w=>
 Ext w_ w ∧
 rX 82 x64 x68 w fun x69=>
 rL 4 x69 w fun x70=>
 BR x70
 (rF 81 x8 1 w fun x73=>
 rL 3 x73 w fun x74=>
 rF 81 x8 0 w fun x75=>
 rL 3 x75 w fun x76=>
 rF 81 x9 0 w fun x77=>
 rL 3 x77 w fun x78=>
 rD (Instr.build 44 #[(0,x74),(1,x76),(2,x78)]) w fun x79=>
 cL 37 [(u8 3),x79] w fun x80 w=>
 rA (u8 7) (iV 1) w fun x27=>
 next8 [x80,x27] w)
 (rA (u8 7) (iV 1) w fun x27=>
 next8 [(u8 3),x27] w)) w) w)
 (rA (u8 7) (iV 1) w fun x27=>
 next8 [(u8 3),x27] w))
 (rA (u8 7) (iV 1) w fun x27=>
 next8 [(u8 3),x27] w))))
 (rA (u8 7) (iV 1) w fun x27=>
 next8 [(u8 3),x27] w)) (World.drew1 w))
 (rA (u5 6) (iV 1) w fun x20=>
 next5 [(u8 3),x20] w))
 (R (u5 3) w)
def cfg13:Cfg:=⟨extL,[],[(5,2417851639229258349380552,[3,6]),(8,2417851639229258345218952,[3,7])],[(12,[0,1,2,3,4,5,6,7,8,9,10,11,12,13,14,15,16,17,18,19,20,21,22,23,24,25,29,30,31,26,27,28,32,33,34,35],4362076160)],[],[],[]⟩
theorem F13_call {a0:Value} {w:World} {R:VW} (h:F13 a0 w R):cL 13 [a0] w R:=co (g:=cfg13) Tryz.func13 (by kernel_rfl) (by kernel_rfl) (by kernel_rfl) h
open Rep (rep)
theorem zsz {w W0:World} {b:Nat} {c:DCode} (hW:WAt W0 b c) (e0:Ext W0 w) (hc:CodeR c) :
   CALL Tryz.prog 21 [.pointer (some ⟨b,0,none⟩)] w fun r w'=>Ext w w'∧Own w.heap.size w' r (zeR (zfc c (zjJ c) (zjJ c).length)):=by
 refine F21_call ?_
 unfold F21
 refine (zoV hW e0 hc).mono ?_
 rintro v12 w1 ⟨hx1,ho1⟩
 refine (zoU hW (e0.trans hx1) hc).mono ?_
 rintro _ wb ⟨hx2,v16,rfl,ho2⟩
 refine zdr rfl ?_
 refine zdr rfl ?_
 have hx1b:=hx1.trans hx2
 have hTb:=ho1.is.ext hx2
 have hRb:=ho2.is
 have hTl:=zhN hc
 have hTm:=fun x (hx:x∈zjJ c)=>zof hc hx
 generalize zjJ c=T at *
 have hs1b:=hx1b.size
 have hsg:=zsp hc
 refine zag u76 hTb ?_
 refine zaq T.length (fun k us w'=>∃ out lo hi,us=[out,.int .i64 (k:Int)]∧k≤T.length∧Ext wb w'∧wb.heap.size≤lo∧hi≤w'.heap.size∧RowI lo hi 44 w' out (zfc c T k)) 0 (Nat.zero_le _) ⟨_,wb.heap.size,wb.heap.size,rfl,Nat.zero_le _,Ext.refl _,Nat.le_refl _,Nat.le_refl _,zcp _ _ _ _⟩ ?_
 rintro i mk u w3 hkm ⟨out,lo0,hi0,hu,hkl,hx3,hlo0,hhi0,hr3⟩
 obtain ⟨hu1,hu2⟩:=zb1 hu
 rw [hu1,hu2]
 refine zah ?_
 have hall:=ziP (c:=c) hTl (n:=i) (by omega)
 refine br (fun hlt=>?_) (fun hge=>?_)
 case refine_2=>
   have hke:i=T.length:=by omega
   rw [hke] at hr3 hall
   refine (zm7 hr3.is (Ext.refl _) (by omega)).mono ?_
   rintro r w4 ⟨hx4,ho4⟩
   exact ⟨hx1b.trans (hx3.trans hx4),ho4.mono (by have:=hx3.size;omega)⟩
 have hi:i<T.length:=by omega
 have hrow:=zhM (c:=c) hi
 have hsuc:=zjK c T i
 obtain ⟨pa,hpa⟩:=hTm T[i] (List.getElem_mem _)
 refine zad u76 zgQ (i:=i) hTb hi fun b4 o4 hA4=>?_
 generalize hae:T[i]=a at *
 refine zac zgQ hA4 hx3 fun v24 h24=>?_
 refine zbX zvt rfl zgQ rfl h24 hx3 fun w4 hx4 hAa hVa=>?_
 have hAB4:=ze1 h24 hVa rfl
 have hgl:w3.heap.size<w4.heap.size:=hVa.lt
 have hs4:=hx4.size
 refine zev (i:=(i:Int)) u76 zgQ hTb (by omega) (by simp;omega) fun v27 h27=>?_
 rw [Int.toNat_natCast] at h27
 have hDl:(T.drop i).length=T.length-i:=List.length_drop
 have hDm:∀ x∈T.drop i,∃ p,TouR c x p:=fun x hx=>hTm x (List.mem_of_mem_drop hx)
 generalize T.drop i=D at *
 refine zag u76 h27 ?_
 refine zaq D.length (fun j us w'=>∃ out lo hi,us=[out,.int .i64 (j:Int)]∧j≤D.length∧Ext wb w'∧w4.heap.size≤w'.heap.size∧AtB wb w' w3.heap.size 0 a∧wb.heap.size≤lo∧hi≤w'.heap.size∧(w3.heap.size<lo∨hi≤w3.heap.size)∧RowI lo hi 44 w' out (zfc c T i++(D.take j).flatMap (rc1 c a))) 0 (Nat.zero_le _) ⟨out,lo0,hi0,rfl,Nat.zero_le _,hx3.trans hx4,Nat.le_refl _,hAB4,hlo0,by omega,.inr hhi0,by simpa using hr3.ext hx4⟩ ?_
 rintro j mj u5 w5 hjm ⟨out5,lo,hi5,hu5,hjl,hx5,hs5,hAB5,hlo,hhi,hd,hr5⟩
 obtain ⟨hu51,hu52⟩:=zb1 hu5
 rw [hu51,hu52]
 refine zah ?_
 refine br (fun hlt5=>?_) (fun hge5=>?_)
 case refine_2=>
   refine zaf (by omega) ?_
   refine ⟨mk-1,by omega,i+1,by omega,out5,lo,hi5,rfl,by omega,hx5,hlo,hhi,?_⟩
   rw [List.take_of_length_le (by omega)] at hr5
   rw [hsuc,hrow];exact hr5
 have hj:j<D.length:=by omega
 have hfs:=zdY (f:=rc1 c a) hj
 have hrl:=zm9 c a (D.take j)
 have htl:=List.length_take_le' j D
 obtain ⟨pb,hpb⟩:=hDm D[j] (List.getElem_mem _)
 refine zad u76 zgQ (i:=j) h27 hj fun b6 o6 hA6=>?_
 generalize hbe:D[j]=bb at *
 refine zac zgQ hA6 hx5 fun v32 h32=>?_
 refine zbX zvt rfl zgQ rfl h32 hx5 fun w6 hx6 hAb hVb=>?_
 have hxd:=zak w6
 have hx56:=hx6.trans hxd
 have hAbd:=hAb.ext hxd
 generalize World.drew1 w6=w7 at *
 have hAB7:=hAB5.ext hx56
 have hx7:=hx5.trans hx56
 have hAa7:=hAB7.at hx7
 have hr7:=hr5.ext hx56
 have hs57:=hx56.size
 refine zac zgQ hAa7 (Ext.refl _) fun v33 h33=>?_
 refine zac zgQ hAbd (Ext.refl _) fun v34 h34=>?_
 refine (zsk h33 (Ext.refl _) h34 (Ext.refl _)).mono ?_
 rintro _ w8 ⟨hx8,rfl⟩
 have hs78:=hx8.size
 have hno:∀ {w9:World},Ext w7 w9→¬(zdk a bb∧zf5 c (zat c a.at_).toNat (zat c bb.at_).toNat)→RD Tryz.prog (bin .add 3 (.tmp 0) (.const undef) (.int .i64 (j:Int)) (.int .i64 1)) w9 fun x56=>∃ m',m'<mj∧∃ k',k'+m'=D.length∧∃ out lo hi,[out5,x56]=[out,.int .i64 (k':Int)]∧k'≤D.length∧Ext wb w9∧w4.heap.size≤w9.heap.size∧AtB wb w9 w3.heap.size 0 a∧wb.heap.size≤lo∧hi≤w9.heap.size∧(w3.heap.size<lo∨hi≤w3.heap.size)∧RowI lo hi 44 w9 out (zfc c T i++(D.take k').flatMap (rc1 c a)):=fun hx9 hn=>by
   have:=hx9.size
   refine zaf (by omega) ?_
   refine ⟨mj-1,by omega,j+1,by omega,out5,lo,hi5,rfl,by omega,hx7.trans hx9,by omega,hAB7.ext hx9,hlo,by omega,hd,?_⟩
   rw [hfs]
   have:rc1 c a bb=[]:=by unfold rc1;rw [if_neg hn]
   rw [this,List.append_nil]
   exact hr7.ext hx9
 refine br (fun hcl=>?_) (fun hcl=>?_)
 case refine_2=>exact hno hx8 fun h=>hcl h.1
 have hRl:∀ i,i<c.ins.length→i<(zaA ((List.range c.ins.length).map (rtN c))).length:=fun i hi=>by simp [zaA];exact hi
 have hRg:∀ i (hi:i<(zaA ((List.range c.ins.length).map (rtN c))).length),(zaA ((List.range c.ins.length).map (rtN c)))[i]=((rtN c i:Nat):Int):=fun i hi=>by simp [zaA]
 have hx8b:=hx7.trans hx8
 have hAa8:=hAa7
 refine zaa zfG ?_
 refine zab ty3 (zbL hAa7) hx8 fun _=>?_
 rw [hpa.at_]
 refine zad u23 ty3 (i:=pa) hRb (hRl pa hpa.lt) fun b9 o9 hA9=>?_
 rw [hRg] at hA9
 refine zab ty3 hA9 hx8b fun _=>?_
 refine zaa zfG ?_
 refine zab ty3 (zbL hAbd) hx8 fun _=>?_
 rw [hpb.at_]
 refine zad u23 ty3 (i:=pb) hRb (hRl pb hpb.lt) fun b10 o10 hA10=>?_
 rw [hRg] at hA10
 refine zab ty3 hA10 hx8b fun _=>?_
 refine (zsx (zqZ hc pa) (zqZ hc pb) hsg).mono ?_
 rintro _ w9 ⟨hx9,x,rfl,hx⟩
 rw [zrd hc hpa.met hpb.met] at hx
 have hpa':zat c a.at_=zat c pa:=by rw [hpa.at_]
 have hpb':zat c bb.at_=zat c pb:=by rw [hpb.at_]
 have hx79:=hx8.trans hx9
 refine zbw (fun hxt=>?_) (fun hxf=>?_)
 case refine_2=>
   refine hno hx79 fun h=>?_
   have:=hx.2 (by rw [←hpa',←hpb'];exact h.2)
   rw [this] at hxf;cases hxf
 have hB:zf5 c (zat c a.at_).toNat (zat c bb.at_).toNat:=by rw [hpa',hpb'];exact hx.1 hxt
 refine zac zgQ hAa7 hx79 fun v51 h51=>?_
 refine zac zgQ hAbd hx79 fun v52 h52=>?_
 refine (zqS h51 hx79 h52 hx79).mono ?_
 rintro v53 w10 ⟨hx10,ho10⟩
 have hx710:=hx79.trans hx10
 have hs710:=hx710.size
 refine zcI (x:=zek a bb) u40 zd5 z44 zuR (by decide) (hr7.ext hx710) (ho10 0 0) (by rw [zan,List.length_append];omega) (by rw [List.length_append];omega) fun v55 w11 lo' hi' hc11 hr11 hd11=>?_
 have hs11:=hc11.size
 have hsb:=hx7.size
 refine zaf (by omega) ?_
 refine ⟨mj-1,by omega,j+1,by omega,v55,lo',hi',rfl,by omega,(hx7.trans hx710).chgI hc11 hlo,by omega,(hAB7.ext hx710).keep (hc11.block _ (by omega) hd),by omega,by omega,by omega,?_⟩
 rw [hfs]
 have:rc1 c a bb=[zek a bb]:=by unfold rc1;rw [if_pos ⟨hcl,hB⟩]
 rw [this,←List.append_assoc]
 exact hr11
theorem zre {w W0:World} {v0:Value} {c:DCode} (h0:Is W0 v0 c) (e0:Ext W0 w) (hc:CodeR c) :
   CALL Tryz.prog 13 [v0] w fun r w'=>Ext w w'∧Own w.heap.size w' r (zeR (zfc c (zjJ c) (zjJ c).length)):=by
 refine F13_call ?_
 unfold F13
 have h8:=hc.1.procs8
 refine zbr h0 e0 fun w1 hx1 hA=>?_
 refine zaY (α:=DRace) u40 zd5 fun a10 w2 hx2 _=>?_
 refine zac zbt hA hx2 fun v11 h11=>?_
 refine (zq9 h11 hx2 hc).mono ?_
 rintro v12 w3 ⟨hx3,ho3⟩
 refine zac zbt hA (hx2.trans hx3) fun v13 h13=>?_
 refine (zm6 h13 (hx2.trans hx3) hc).mono ?_
 rintro v14 wb ⟨hx4,ho4⟩
 have hx1b:=hx2.trans (hx3.trans hx4)
 have hTb:=ho3.is.ext hx4
 have hGb:=ho4.is
 have hTl:=zhN hc
 have hTm:=fun x (hx:x∈zjJ c)=>zof hc hx
 have hTp:=zug c
 generalize zjJ c=T at *
 have hs1:=hx1.size
 have hs1b:=hx1b.size
 have hM0:∀ w:World,Mine [] w (.slice (some a10) 0 0) (zeR (zfc c T 0)):=fun w=>by
   have h:RowG (α:=DRace) [] 44 w (.slice (some a10) 0 0) []:=.inl ⟨some a10,rfl,rfl,rfl⟩
   exact ⟨h.own,List.nodup_nil,h.wr⟩
 refine zaq T.length (fun k us w'=>∃ out F,us=[out,.int .i64 (k:Int)]∧k≤T.length∧Ext wb w'∧Mine F w' out (zeR (zfc c T k))∧∀ b∈F,wb.heap.size≤b) 0 (Nat.zero_le _) ⟨_,[],rfl,Nat.zero_le _,Ext.refl _,hM0 wb,by simp⟩ ?_
 rintro i mk u w5 hkm ⟨out,F5,hu,hkl,hx5,hM5,hF5⟩
 obtain ⟨hu1,hu2⟩:=zb1 hu
 rw [hu1,hu2]
 refine zag u76 hTb ?_
 refine zah ?_
 have hall:=ziP (c:=c) hTl (n:=i) (by omega)
 refine br (fun hlt=>?_) (fun hge=>?_)
 case refine_2=>
   have hke:i=T.length:=by omega
   rw [hke] at hM5
   exact ⟨hx1.trans (hx1b.trans hx5),F5,hM5,fun b hb=>by have:=hF5 b hb;omega⟩
 have hi:i<T.length:=by omega
 have hrow:=zhM (c:=c) hi
 have hsuc:=zjK c T i
 obtain ⟨pa,hpa⟩:=hTm T[i] (List.getElem_mem _)
 have hle:∀ j (hj:j<T.length),i≤j→T[i].at_≤T[j].at_:=fun j hj hij=>by
   by_cases e:i=j
   · subst e;omega
   exact List.pairwise_iff_getElem.1 hTp i j hi hj (by omega)
 have hDl:(T.drop i).length=T.length-i:=List.length_drop
 generalize hae:T[i]=a at *
 refine zaq T.length (fun j us w'=>∃ out F,us=[out,.int .i64 (j:Int)]∧i≤j∧j≤T.length∧Ext wb w'∧Mine F w' out (zeR (zfc c T i++((T.drop i).take (j-i)).flatMap (rc1 c a)))∧∀ b∈F,wb.heap.size≤b) i (by omega) ⟨out,F5,rfl,Nat.le_refl _,by omega,hx5,by simpa using hM5,hF5⟩ ?_
 rintro j mj u6 w6 hjm ⟨out6,F6,hu6,hij,hjl,hx6,hM6,hF6⟩
 obtain ⟨hu61,hu62⟩:=zb1 hu6
 rw [hu61,hu62]
 refine zag u76 hTb ?_
 refine zah ?_
 refine br (fun hlt6=>?_) (fun hge6=>?_)
 case refine_2=>
   have hje:j=T.length:=by omega
   refine zaf (by omega) ?_
   refine ⟨mk-1,by omega,i+1,by omega,out6,F6,rfl,by omega,hx6,?_,hF6⟩
   rw [List.take_of_length_le (by omega)] at hM6
   rw [hsuc,hrow];exact hM6
 have hj:j<T.length:=by omega
 have hjD:j-i<(T.drop i).length:=by omega
 have hDj:(T.drop i)[j-i]=T[j]:=by rw [List.getElem_drop];congr 1;omega
 have hfs:=zdY (f:=rc1 c a) hjD
 rw [hDj,show j-i+1=j+1-i by omega] at hfs
 have hrl:=zm9 c a ((T.drop i).take (j-i))
 have htl:=List.length_take_le' (j-i) (T.drop i)
 obtain ⟨pb,hpb⟩:=hTm T[j] (List.getElem_mem _)
 have hlej:=hle j hj hij
 refine zad u76 zgQ (i:=i) hTb hi fun b7 o7 hA7=>?_
 rw [hae] at hA7
 refine zac zgQ hA7 hx6 fun v31 h31=>?_
 refine zbX zvt rfl zgQ rfl h31 hx6 fun w7 hx7 hAa hVa=>?_
 refine zad u76 zgQ (i:=j) hTb hj fun b8 o8 hA8=>?_
 generalize hbe:T[j]=bb at *
 refine zac zgQ hA8 (hx6.trans hx7) fun v35 h35=>?_
 refine zbX zvt rfl zgQ rfl h35 (hx6.trans hx7) fun w8 hx8 hAb hVb=>?_
 have hxd:=zak w8
 have hAa9:=hAa.ext (hx8.trans hxd)
 have hAb9:=hAb.ext hxd
 have hx69:=hx7.trans (hx8.trans hxd)
 generalize World.drew1 w8=w9 at *
 have hx9:=hx6.trans hx69
 have hM9:=hM6.ext hx69
 have hno:∀ {w10:World},Ext w9 w10→¬(zdk a bb∧zf5 c (zat c a.at_).toNat (zat c bb.at_).toNat)→RD Tryz.prog (bin .add 3 (.tmp 0) (.const undef) (.int .i64 (j:Int)) (.int .i64 1)) w10 fun x27=>∃ m',m'<mj∧∃ k',k'+m'=T.length∧∃ out F,[out6,x27]=[out,.int .i64 (k':Int)]∧i≤k'∧k'≤T.length∧Ext wb w10∧Mine F w10 out (zeR (zfc c T i++((T.drop i).take (k'-i)).flatMap (rc1 c a)))∧∀ b∈F,wb.heap.size≤b:=fun hx10 hn=>by
   refine zaf (by omega) ?_
   refine ⟨mj-1,by omega,j+1,by omega,out6,F6,rfl,by omega,by omega,hx9.trans hx10,?_,hF6⟩
   rw [hfs]
   have:rc1 c a bb=[]:=by unfold rc1;rw [if_neg hn]
   rw [this,List.append_nil]
   exact hM9.ext hx10
 refine zaa zjn ?_
 refine zab ty3 (zcT hAa9) (Ext.refl _) fun hg1=>?_
 refine zaa zjn ?_
 refine zab ty3 (zcT hAb9) (Ext.refl _) fun _=>?_
 refine zao ?_
 refine br (fun hgl=>?_) (fun hgl=>hno (Ext.refl _) fun h=>hgl h.1.1)
 refine zaa znx ?_
 refine zaw ty4 (zey hAa9) (Ext.refl _) ?_
 refine zra (Q:=a.write=true∨bb.write=true) .inl (fun hwr=>?_) (fun key hf=>?_)
 case refine_2=>
   refine zaa znx ?_
   refine zaw ty4 (zey hAb9) (Ext.refl _) ?_
   refine zbw (fun h=>key (.inr h)) (fun h=>hno (Ext.refl _) fun h2=>?_)
   rcases h2.1.2.1 with h3 | h3
   · rw [h3] at hf;cases hf
   rw [h3] at h;cases h
 obtain ⟨ma,hma⟩:=Int.eq_ofNat_of_zero_le hpa.h0
 obtain ⟨mb,hmb⟩:=Int.eq_ofNat_of_zero_le hpb.h0
 have h1a:=hpa.h1
 have h1b:=hpb.h1
 refine zaa zjo ?_
 refine zab ty3 (zcU hAa9) (Ext.refl _) fun _=>?_
 refine zaa zjo ?_
 refine zab ty3 (zcU hAb9) (Ext.refl _) fun _=>?_
 rw [hma,hmb]
 refine zdi (m:=ma) (n:=mb) (by omega) (by omega) ?_
 refine zao ?_
 have hcl:zdk a bb↔(a.global=bb.global∧(a.write=true∨bb.write=true)∧ma &&& mb=0):=by
   unfold zdk
   rw [hma,hmb]
   simp only [Int.toNat_natCast]
   constructor
   · rintro ⟨h1,h2,_,_,h5⟩;exact ⟨h1,h2,h5⟩
   rintro ⟨h1,h2,h5⟩;exact ⟨h1,h2,⟨by omega,by omega⟩,⟨by omega,by omega⟩,h5⟩
 refine br (fun hz=>?_) (fun hz=>hno (Ext.refl _) fun h=>hz (by rw [(hcl.1 h.1).2.2];rfl))
 have hC:zdk a bb:=hcl.2 ⟨hgl,hwr,by omega⟩
 refine zac zbt hA (hx1b.trans hx9) fun v59 h59=>?_
 refine zaa zfG ?_
 refine zab ty3 (zbL hAa9) (Ext.refl _) fun hIa=>?_
 refine zac zbt hA (hx1b.trans hx9) fun v65 h65=>?_
 refine zaa zfG ?_
 refine zab ty3 (zbL hAb9) (Ext.refl _) fun hIb=>?_
 refine (zea (a:=a.at_) h59 (hx1b.trans hx9)).mono ?_
 rintro _ w10 ⟨hx10,rfl⟩
 refine ⟨hx10,?_⟩
 obtain ⟨qa,hqa,hpqa,_⟩:=zc7 hc hpa.lt
 obtain ⟨qb,hqb,hpqb,_⟩:=zc7 hc hpb.lt
 have hpa':zat c a.at_=(qa:Int):=by rw [hpa.at_,hpqa]
 have hpb':zat c bb.at_=(qb:Int):=by rw [hpb.at_,hpqb]
 rw [hpa',hpb'] at hno
 simp only [Int.toNat_natCast] at hno
 rw [hpa']
 have hGl:(zpr c c.procs.length).length=c.procs.length:=by simp [zpr]
 have hx10b:=hx9.trans hx10
 refine zad u78 zep (i:=qa) hGb (by rw [hGl];exact hqa) fun b11 o11 hA11=>?_
 rw [show (zpr c c.procs.length)[qa]'(by rw [hGl];exact hqa)=zbl c.procs.length (zf5 c qa) by simp only [zpr,List.getElem_map,List.getElem_range]] at hA11
 refine zac zep hA11 hx10b fun v64 h64=>?_
 refine (zea (a:=bb.at_) h65 (hx1b.trans hx10b)).mono ?_
 rintro _ w11 ⟨hx11,rfl⟩
 refine ⟨hx11,?_⟩
 rw [hpb']
 have hx11b:=hx10b.trans hx11
 have hx911:=hx10.trans hx11
 have hmk:=zaB (n:=c.procs.length) (p:=zf5 c qa) (i:=qb)
 rw [zaM (by rw [zaj];exact hqb)] at hmk
 refine zad u82 ty4 (i:=qb) h64 (by rw [zaj];exact hqb) fun b12 o12 hA12=>?_
 refine zaw ty4 hA12 hx11b ?_
 refine zbw (fun ht=>?_) (fun hf=>hno hx911 fun h=>by rw [hmk.2 ⟨hqb,h.2⟩] at hf;cases hf)
 have hB:=(hmk.1 ht).2
 refine zaa zjn ?_
 refine zab ty3 (zcT hAa9) hx911 fun _=>?_
 refine zaa zfG ?_
 refine zab ty3 (zbL hAa9) hx911 fun _=>?_
 refine zaa zfG ?_
 refine zab ty3 (zbL hAb9) hx911 fun _=>?_
 refine zca (cells:=#[.int .i64 a.global,.int .i64 a.at_,.int .i64 bb.at_]) (by kernel_rfl) ?_
 have hro:zek a bb=⟨a.global,a.at_,bb.at_⟩:=by
   unfold zek
   rw [show min a.at_ bb.at_=a.at_ by omega,show max a.at_ bb.at_=bb.at_ by omega]
 have hIr:Is w11 (.agg #[.int .i64 a.global,.int .i64 a.at_,.int .i64 bb.at_]) (zek a bb):=by
   rw [hro]
   exact zgP.2 ⟨rfl,hg1,hIa,hIb⟩
 have hcn:=zlP (zfc c T i++((T.drop i).take (j-i)).flatMap (rc1 c a))
 rw [List.length_append] at hcn
 refine (zoZ (hM9.ext hx911) hIr (Ext.refl _) (by omega)).mono ?_
 rintro v80 w12 ⟨hx12,F12,hM12,hF12⟩
 refine zaf (by omega) ?_
 refine ⟨mj-1,by omega,j+1,by omega,v80,F12,rfl,by omega,by omega,hx11b.trans hx12,?_,fun b hb=>?_⟩
 · rw [hfs]
   have:rc1 c a bb=[zek a bb]:=by
     unfold rc1;rw [if_pos ⟨hC,by rw [hpa',hpb'];simpa using hB⟩]
   rw [this,←List.append_assoc,zoO]
   exact hM12
 rcases hF12 b hb with h | h
 · exact hF6 b h
 have:=hx11b.size;omega
end Go.Proofs.YtbnjpfjjmhodnaaGreatDoor
namespace Go.Sh
def FWy (nx:Nat→List Nat):Nat→Nat→Nat→Prop
 | 0,i,j=>j∈nx i
 | m+1,i,j=>FWy nx m i j∨(FWy nx m i m∧FWy nx m m j)
section
variable {nx:Nat→List Nat} {n m i j k:Nat}
theorem FWy.rp:∀ {m i j:Nat},FWy nx m i j→RP nx i j
 | 0,_,_,h=>.one h
 | m+1,_,_,h=>by
   rcases h with h | ⟨h1,h2⟩
   · exact FWy.rp h
   exact (FWy.rp h1).trans (FWy.rp h2)
theorem FWy.up (h:j∈nx i):∀ m,FWy nx m i j
 | 0=>h
 | m+1=>.inl (FWy.up h m)
theorem FWy.old {m i:Nat} (h:FWy nx (m+1) i m):FWy nx m i m:=by
 rcases h with h | ⟨h,_⟩<;>exact h
theorem FWy.old' {m j:Nat} (h:FWy nx (m+1) m j):FWy nx m m j:=by
 rcases h with h | ⟨_,h⟩<;>exact h
theorem FWy.cat:∀ {m i j k:Nat},j<m→FWy nx m i j→FWy nx m j k→FWy nx m i k
 | m+1,i,j,k,hj,h1,h2=>by
   rcases Nat.lt_or_eq_of_le (Nat.lt_succ_iff.1 hj) with hl | rfl
   · rcases h1 with a | ⟨a,b⟩
     · rcases h2 with c | ⟨c,d⟩
       · exact .inl (FWy.cat hl a c)
       exact .inr ⟨FWy.cat hl a c,d⟩
     rcases h2 with c | ⟨c,d⟩
     · exact .inr ⟨a,FWy.cat hl b c⟩
     exact .inr ⟨a,d⟩
   exact .inr ⟨h1.old,h2.old'⟩
theorem FWy.iff (hn:∀ i j,j∈nx i→i<n∧j<n):FWy nx n i j↔RP nx i j:=by
 refine ⟨FWy.rp,fun h=>?_⟩
 induction h with
 | one h=>exact FWy.up h n
 | more _ h2 ih=>exact FWy.cat (hn _ _ h2).1 ih (FWy.up h2 n)
end
theorem ziQ {p q:Nat→Prop}:∀ n,(zaS n p).length=(zaS n fun i=>p i∧q i).length+(zaS n fun i=>p i∧¬q i).length
 | 0=>rfl
 | n+1=>by
   have ih:=ziQ (p:=p) (q:=q) n
   by_cases hp:p n
   · by_cases hq:q n
     · rw [zcc hp,zcc (p:=fun i=>p i∧q i) ⟨hp,hq⟩,zck (p:=fun i=>p i∧¬q i) fun h=>h.2 hq]
       simp only [List.length_append,List.length_singleton];omega
     rw [zcc hp,zck (p:=fun i=>p i∧q i) fun h=>hq h.2,zcc (p:=fun i=>p i∧¬q i) ⟨hp,hq⟩]
     simp only [List.length_append,List.length_singleton];omega
   rw [zck hp,zck (p:=fun i=>p i∧q i) fun h=>hp h.1,zck (p:=fun i=>p i∧¬q i) fun h=>hp h.1]
   exact ih
theorem zkG {n i:Nat} {p:Nat→Prop} (hi:i<n) (hp:p i):0<(zaS n p).length:=List.length_pos_of_mem (zaE.2 ⟨hi,hp⟩)
theorem zl0 {n x:Nat} {p q:Nat→Prop} (h:∀ i,i<n→p i→q i) (hx:x<n) (hq:q x) (hp:¬p x):(zaS n p).length<(zaS n q).length:=by
 have h1:=ziQ (p:=q) (q:=p) n
 have h2:(zaS n fun i=>q i∧p i)=zaS n p:=zfr fun i hi=>⟨fun h=>h.2,fun k=>⟨h i hi k,k⟩⟩
 have h3:=zkG (p:=fun i=>q i∧¬p i) hx ⟨hq,hp⟩
 rw [h2] at h1
 omega
section
variable (n:Nat) (way:Nat→Nat→Prop)
def zbF (i j:Nat):Prop:=j=i∨(way i j∧way j i)
def OkC (told:Nat→Prop) (i:Nat):Prop:=i<n∧¬told i∧∀ j,j<n→way i j→way j i∨told j
open Classical in
noncomputable def zeT (told:Nat→Prop):Option Nat:=(List.range n).find? fun i=>decide (OkC n way told i)
def zgJ (told:Nat→Prop) (i j:Nat):Prop:=told j∨zbF way i j
noncomputable def zdL:Nat→(Nat→Prop)→List (List Nat)
 | 0,_=>[]
 | f+1,told=>match zeT n way told with
   | none=>[]
   | some i=>zaS n (zbF way i) :: zdL f (zgJ way told i)
noncomputable def zdM (told:Nat→Prop):Nat:=(zaS n fun i=>¬told i).length
noncomputable def zl1:List (List Nat):=zdL n way n fun _=>False
def Whole (told:Nat→Prop):Prop:=∀ i j,told j→way i j→way j i→told i
end
section
variable {n:Nat} {way:Nat→Nat→Prop} {told:Nat→Prop} {i f:Nat}
theorem zfB:zeT n way told=none↔∀ i,¬OkC n way told i:=by
 unfold zeT
 rw [List.find?_eq_none]
 simp only [List.mem_range,decide_eq_true_eq]
 exact ⟨fun h i hi=>h i hi.1 hi,fun h i _=>h i⟩
theorem zgK (h:zeT n way told=some i):OkC n way told i:=by
 unfold zeT at h
 simpa using List.find?_some h
theorem zhb (h:OkC n way told i) (hm:∀ j,j<i→¬OkC n way told j):zeT n way told=some i:=by
 cases e:zeT n way told with
 | none=>exact absurd h (zfB.1 e i)
 | some k=>
   have hk:=zgK e
   unfold zeT at e
   rw [List.find?_eq_some_iff_append] at e
   obtain ⟨_,l1,l2,hr,ha⟩:=e
   rcases Nat.lt_trichotomy i k with hl | rfl | hl
   · exfalso
     have h1:(List.range n)[l1.length]?=some k:=by rw [hr];simp
     have h2:l1.length=k:=by
       obtain ⟨h3,h4⟩:=List.getElem?_eq_some_iff.1 h1
       simpa using h4
     have h3:i∈l1:=by
       have h4:(List.range n)[i]?=some i:=by simp [h.1]
       rw [hr,List.getElem?_append_left (by omega)] at h4
       exact List.mem_of_getElem? h4
     simpa [h] using ha i h3
   · rfl
   exact absurd hk (hm k hl)
theorem zo0 (hi:i<n) (h:¬told i):zdM n (zgJ way told i)<zdM n told:=
 zl0 (fun j _ hj=>fun hj'=>hj (.inl hj')) hi h fun hj=>hj (.inr (.inl rfl))
theorem ziR (h:zeT n way told=none):zdL n way f told=[]:=by
 cases f with
 | zero=>rfl
 | succ f=>simp only [zdL,h]
theorem ziS (hf:zdM n told≤f) (h:zeT n way told=some i):∃ f',zdL n way f told=zaS n (zbF way i) :: zdL n way f' (zgJ way told i)∧zdM n (zgJ way told i)≤f'∧f=f'+1:=by
 have ho:=zgK h
 have h1:=zo0 (way:=way) ho.1 ho.2.1
 cases f with
 | zero=>omega
 | succ f=>exact ⟨f,by simp only [zdL,h],by omega,rfl⟩
theorem zkH:zdM n told≤n:=zaT
theorem zo1 (h:zdM n told=0):zeT n way told=none:=zfB.2 fun i hi=>by
 have:=zkG (p:=fun i=>¬told i) hi.1 hi.2.1
 unfold zdM at h;omega
theorem Whole.start:Whole way fun _=>False:=fun _ _ h _ _=>h
theorem Whole.more (ht:∀ i j k,way i j→way j k→way i k) (h:Whole way told):Whole way (zgJ way told i):=fun a b hb h1 h2=>by
 rcases hb with hb | rfl | ⟨h3,h4⟩
 · exact .inl (h a b hb h1 h2)
 · exact .inr (.inr ⟨h2,h1⟩)
 exact .inr (.inr ⟨ht _ _ _ h3 h2,ht _ _ _ h1 h4⟩)
theorem zsA (h:Whole way told) (hi:¬told i):zdM n told=zdM n (zgJ way told i)+(zaS n (zbF way i)).length:=by
 have h1:=ziQ (p:=fun j=>¬told j) (q:=zbF way i) n
 have h2:(zaS n fun j=>¬told j∧zbF way i j)=zaS n (zbF way i):=zfr fun j _=>⟨fun h=>h.2,fun hp=>⟨fun hj=>by
   rcases hp with rfl | ⟨h3,h4⟩
   · exact hi hj
   exact hi (h i j hj h3 h4),hp⟩⟩
 have h3:(zaS n fun j=>¬told j∧¬zbF way i j)=zaS n fun j=>¬zgJ way told i j:=zfr fun j _=>by
   unfold zgJ;exact not_or.symm
 rw [h2,h3] at h1
 unfold zdM;omega
theorem zl2 (ht:∀ i j k,way i j→way j k→way i k):∀ (m i:Nat),(zaS n fun j=>j=i∨way i j).length≤m→i<n→¬told i→∃ j,OkC n way told j
 | 0,i,hm,hi,hti=>by have:=zkG (p:=fun j=>j=i∨way i j) hi (.inl rfl);omega
 | m+1,i,hm,hi,hti=>by
   by_cases ho:OkC n way told i
   · exact ⟨i,ho⟩
   have:∃ j,j<n∧way i j∧¬way j i∧¬told j:=by
     refine Classical.byContradiction fun hne=>ho ⟨hi,hti,fun j hj hw=>?_⟩
     refine Classical.byContradiction fun hx=>hne ⟨j,hj,hw,fun h=>hx (.inl h),fun h=>hx (.inr h)⟩
   obtain ⟨j,hj,hw,hb,htj⟩:=this
   have hlt:(zaS n fun k=>k=j∨way j k).length<(zaS n fun k=>k=i∨way i k).length:=by
     refine zl0 (x:=i) (fun k _ hk=>?_) hi (.inl rfl) ?_
     · rcases hk with rfl | hk
       · exact .inr hw
       exact .inr (ht _ _ _ hw hk)
     rintro (rfl | h)
     · exact hb hw
     exact hb h
   exact zl2 ht m j (by omega) hj htj
theorem zo2 (ht:∀ i j k,way i j→way j k→way i k) (h:0<zdM n told):∃ i,zeT n way told=some i:=by
 unfold zdM at h
 obtain ⟨i,hi⟩:=List.exists_mem_of_length_pos h
 obtain ⟨h1,h2⟩:=zaE.1 hi
 obtain ⟨j,hj⟩:=zl2 ht _ i (Nat.le_refl _) h1 h2
 cases e:zeT n way told with
 | none=>exact absurd hj (zfB.1 e j)
 | some k=>exact ⟨k,rfl⟩
theorem zhc:∀ {f:Nat} {told:Nat→Prop},Whole way told→(ht:∀ i j k,way i j→way j k→way i k)→∀ p∈zdL n way f told,∃ i,i<n∧¬told i∧p=zaS n (zbF way i)
 | 0,_,_,_,p,hp=>by cases hp
 | f+1,told,hw,ht,p,hp=>by
   simp only [zdL] at hp
   cases e:zeT n way told with
   | none=>rw [e] at hp;cases hp
   | some i=>
     rw [e] at hp
     have ho:=zgK e
     rcases List.mem_cons.1 hp with rfl | hp
     · exact ⟨i,ho.1,ho.2.1,rfl⟩
     obtain ⟨j,h1,h2,h3⟩:=zhc (hw.more ht) ht p hp
     exact ⟨j,h1,fun h=>h2 (.inl h),h3⟩
theorem zl3:∀ {f:Nat} {told:Nat→Prop},Whole way told→(ht:∀ i j k,way i j→way j k→way i k)→(zdL n way f told).Pairwise fun a b=>∀ x∈a,x∉b
 | 0,_,_,_=>.nil
 | f+1,told,hw,ht=>by
   simp only [zdL]
   cases e:zeT n way told with
   | none=>exact .nil
   | some i=>
     refine List.pairwise_cons.2 ⟨fun p hp x hx hxp=>?_,zl3 (hw.more ht) ht⟩
     obtain ⟨j,h1,h2,rfl⟩:=zhc (hw.more ht) ht p hp
     have h3:=(zaE.1 hx).2
     have h4:=(zaE.1 hxp).2
     rcases h4 with rfl | ⟨h5,h6⟩
     · exact h2 (.inr h3)
     exact h2 ((hw.more (i:=i) ht) j x (.inr h3) h5 h6)
theorem zjM:∀ {f:Nat} {told:Nat→Prop},(zdL n way f told).length≤f
 | 0,_=>Nat.le_refl _
 | f+1,told=>by
   simp only [zdL]
   cases zeT n way told with
   | none=>simp
   | some i=>simp only [List.length_cons];have:=zjM (f:=f) (told:=zgJ way told i);omega
theorem zuh (h:i<n):zaS n (zbF way i)≠[]:=List.ne_nil_of_mem (zaE.2 ⟨h,.inl rfl⟩)
end
end Go.Sh
namespace Go.Proofs.YtbnjpfjjmhodnaaGreatDoor
open Go Go.Sh Go.Proofs
open Rep (rep)
structure DArc where
 fr:Int
 to:Int
theorem DArc.ext_iff {x y:DArc}:x=y↔(x.fr=y.fr∧x.to=y.to):=⟨fun h=>by rw [h];exact ⟨rfl,rfl⟩,fun h=>by obtain ⟨h0,h1⟩:=h;cases x;cases y;simp only at h0 h1;simp only [h0,h1]⟩
instance:DecidableEq DArc:=fun x y=>decidable_of_iff (x.fr=y.fr∧x.to=y.to) DArc.ext_iff.symm
instance:Rep DArc:=Rep.via fun x=>(x.fr,x.to)
theorem zfd {w:World} {b o:Nat} {x:DArc} (h:At w b o x):At w b (o+0) x.fr:=zcF (α:=Int) (β:=Int) (p:=(x.fr,x.to)) h
theorem zfe {w:World} {b o:Nat} {x:DArc} (h:At w b o x):At w b (o+1) x.to:=zbq (α:=Int) (β:=Int) (p:=(x.fr,x.to)) h
instance:RepZ DArc:=⟨⟨(RepZ.zv:Int),(RepZ.zv:Int)⟩,RepZ.zc (Int×Int),fun w=>RepZ.zr (α:=Int×Int) w⟩
instance:Flat DArc:=⟨fun h=>Flat.flat (α:=Int×Int) h⟩
noncomputable def nxA (n:Nat) (A:List DArc) (i:Nat):List Nat:=zaS n fun j=>i<n∧(⟨i,j⟩:DArc)∈A
theorem zty {n:Nat} {A:List DArc}:∀ i j,j∈nxA n A i→i<n∧j<n:=fun i j h=>by
 obtain ⟨h1,h2⟩:=zaE.1 h
 exact ⟨h2.1,h1⟩
def zoh (nx:Nat→List Nat) (p:List Nat):Prop:=∃ x∈p,RP nx x x
end Go.Proofs.YtbnjpfjjmhodnaaGreatDoor
namespace Go.Sh
open Rep (rep)
instance:Rep Nat where
 size:=1
 agg:=false
 rep F _ cs x:=F=[]∧cs=[.int .u64 (x:Int)]∧x<18446744073709551616
 pos:=by decide
 sz _:=rfl
 len:=by rintro _ _ _ _ ⟨_,rfl,_⟩;rfl
 one:=by rintro _ _ _ _ ⟨_,rfl,_⟩ v hv;simp at hv;subst hv;rfl
 keep:=by rintro _ _ _ _ _ h _;exact h
 lt:=by rintro _ _ _ _ ⟨rfl,_⟩ b hb;cases hb
instance:Flat Nat:=⟨fun h=>h.1⟩
instance:RepZ Nat:=⟨0,[.int .u64 0],fun _=>⟨rfl,rfl,by decide⟩⟩
section
variable {P:Program} {w w0:World} {K:Value→Prop} {t:TypeId} {x y:Operand}
theorem zsB {x:Nat} (h:x<18446744073709551616):Mine [] w (.int .u64 (x:Int)) x:=⟨⟨_,⟨rfl,rfl,h⟩,rfl⟩,List.nodup_nil,Wr.nil w⟩
theorem zoi {t by_ b o:Nat} {x:Nat} (ht:tyI P t=some (1,by_,false)) (h:At w0 b o x) (hx:Ext w0 w) (k:K (.int .u64 (x:Int))):RD P (Instr.loadAt t (.pointer (some ⟨b,o,none⟩))) w K:=
 zac (α:=Nat) ht h hx fun v hv=>by
   obtain ⟨F,cs,⟨_,rfl,_⟩,rfl⟩:=hv
   exact k
theorem zsC {n:Nat} (h:n<18446744073709551616):IntKind.u64.wrap (n:Int)=(n:Int):=by simp [IntKind.wrap,IntKind.signed,IntKind.bits];omega
theorem zoj {m n:Nat} (hm:m<4611686018427387904) (hn:n<4611686018427387904) (k:K (.int .u64 ((m ||| n:Nat):Int))):RD P (bin .or t x y (.int .u64 (m:Int)) (.int .u64 (n:Int))) w K:=by
 have hlt:m ||| n<2^62:=Nat.or_lt_two_pow hm hn
 refine za0 (fun w' _=>?_) k
 have e2:((BitVec.ofInt 64 (m:Int)) ||| (BitVec.ofInt 64 (n:Int))).toNat=m ||| n:=by
   simp only [BitVec.toNat_or,BitVec.ofInt_natCast,BitVec.toNat_ofNat]
   rw [Nat.mod_eq_of_lt (by omega),Nat.mod_eq_of_lt (by omega)]
 show (do eqGuard .or t x y (.int .u64 (m:Int)) (.int .u64 (n:Int));binOp .or t (.int .u64 (m:Int)) (.int .u64 (n:Int)):Sem Value).run P w'=_
 simp only [eqGuard,binOp,Op.intBits]
 show Result.ok (Value.int .u64 (IntKind.u64.wrap (((BitVec.ofInt 64 (m:Int)) ||| (BitVec.ofInt 64 (n:Int))).toNat:Nat))) w'=_
 rw [e2,zsC (by omega)]
theorem zhd {m n:Nat} (hm:m<4611686018427387904) (hn:n<4611686018427387904) (k:K (.int .u64 ((m &&& n:Nat):Int))):RD P (bin .and t x y (.int .u64 (m:Int)) (.int .u64 (n:Int))) w K:=by
 have hlt:m &&& n≤m:=Nat.and_le_left
 refine za0 (fun w' _=>?_) k
 have e2:((BitVec.ofInt 64 (m:Int)) &&& (BitVec.ofInt 64 (n:Int))).toNat=m &&& n:=by
   simp only [BitVec.toNat_and,BitVec.ofInt_natCast,BitVec.toNat_ofNat]
   rw [Nat.mod_eq_of_lt (by omega),Nat.mod_eq_of_lt (by omega)]
 show (do eqGuard .and t x y (.int .u64 (m:Int)) (.int .u64 (n:Int));binOp .and t (.int .u64 (m:Int)) (.int .u64 (n:Int)):Sem Value).run P w'=_
 simp only [eqGuard,binOp,Op.intBits]
 show Result.ok (Value.int .u64 (IntKind.u64.wrap (((BitVec.ofInt 64 (m:Int)) &&& (BitVec.ofInt 64 (n:Int))).toNat:Nat))) w'=_
 rw [e2,zsC (by omega)]
theorem zjN {m n:Nat} (hm:m<4611686018427387904) (hn:n<4611686018427387904) (k:K (.int .u64 ((zhE m n:Nat):Int))):RD P (bin .andNot t x y (.int .u64 (m:Int)) (.int .u64 (n:Int))) w K:=by
 have hlt:zhE m n≤m:=zf0 m n
 refine za0 (fun w' _=>?_) k
 have e2:((BitVec.ofInt 64 (m:Int)) &&& ~~~(BitVec.ofInt 64 (n:Int))).toNat=zhE m n:=by
   apply Nat.eq_of_testBit_eq
   intro i
   have hm64:m<2^64:=by omega
   have hn64:n<2^64:=by omega
   simp only [BitVec.testBit_toNat,BitVec.getLsbD_and,BitVec.getLsbD_not,BitVec.ofInt_natCast,BitVec.getLsbD_ofNat,zcd]
   by_cases hi:i<64
   · simp [hi]
   have:m.testBit i=false:=Nat.testBit_lt_two_pow (Nat.lt_of_lt_of_le hm64 (Nat.pow_le_pow_right (by omega) (by omega)))
   simp [hi,this]
 show (do eqGuard .andNot t x y (.int .u64 (m:Int)) (.int .u64 (n:Int));binOp .andNot t (.int .u64 (m:Int)) (.int .u64 (n:Int)):Sem Value).run P w'=_
 simp only [eqGuard,binOp,Op.intBits]
 show Result.ok (Value.int .u64 (IntKind.u64.wrap (((BitVec.ofInt 64 (m:Int)) &&& ~~~(BitVec.ofInt 64 (n:Int))).toNat:Nat))) w'=_
 rw [e2,zsC (by omega)]
theorem zhe {m n:Nat} {ku:IntKind} (hm:m<4611686018427387904) (k:K (.int .u64 ((m >>> n:Nat):Int))):RD P (bin .shr t x y (.int .u64 (m:Int)) (.int ku (n:Int))) w K:=by
 refine za0 (fun w' _=>?_) k
 have e0:¬((n:Int)<0):=by omega
 have e1:(m:Int).fdiv (2^(min n 64))=((m >>> n:Nat):Int):=by
   rw [Nat.shiftRight_eq_div_pow]
   have h2:((2:Int)^(min n 64))=((2^(min n 64):Nat):Int):=by simp
   rw [h2,Int.fdiv_eq_ediv_of_nonneg _ (Int.natCast_nonneg _),←Int.natCast_ediv]
   by_cases h:n≤64
   · rw [Nat.min_eq_left h]
   rw [Nat.min_eq_right (by omega),Nat.div_eq_of_lt (by omega),Nat.div_eq_of_lt (Nat.lt_of_lt_of_le (by omega:m<2^64) (Nat.pow_le_pow_right (by omega) (by omega)))]
 show (do eqGuard .shr t x y (.int .u64 (m:Int)) (.int ku (n:Int));binOp .shr t (.int .u64 (m:Int)) (.int ku (n:Int)):Sem Value).run P w'=_
 simp only [eqGuard,binOp,Op.shift,e0,if_false,Int.toNat_natCast]
 show Result.ok (Value.int .u64 ((m:Int).fdiv (2^(min n 64)))) w'=_
 rw [e1]
theorem zna {n:Nat} {ku:IntKind} (hn:n<62) (k:K (.int .u64 ((2^n:Nat):Int))):RD P (bin .shl t x y (.int .u64 1) (.int ku (n:Int))) w K:=by
 refine za0 (fun w' _=>?_) k
 have hp:(2^n:Nat)<4611686018427387904:=Nat.pow_lt_pow_right (by omega) hn
 have e1:IntKind.u64.wrap ((2^n:Nat):Int)=((2^n:Nat):Int):=zsC (by omega)
 have e0:¬((n:Int)<0):=by omega
 have e2:min n 64=n:=by omega
 show (do eqGuard .shl t x y (.int .u64 1) (.int ku (n:Int));binOp .shl t (.int .u64 1) (.int ku (n:Int)):Sem Value).run P w'=_
 simp only [eqGuard,binOp,Op.shift,e0,if_false,Int.toNat_natCast]
 show Result.ok (Value.int .u64 (IntKind.u64.wrap ((1:Int)*2^(min n 64)))) w'=_
 rw [e2,←e1]
 simp
end
end Go.Sh
namespace Go.Proofs.YtbnjpfjjmhodnaaGreatDoor
open Go Go.Sh Go.Proofs
open Rep (rep)
section
variable {nx:Nat→List Nat} {n m i j k t:Nat} {A:List DArc} {p q:Nat→Prop}
theorem zui:FWy nx (m+1) m j↔FWy nx m m j:=⟨FWy.old',.inl⟩
theorem zkI:zbY p n ||| zbY q n=zbY (fun i=>p i∨q i) n:=zcV fun i=>by
 rw [Nat.testBit_or,Bool.or_eq_true,zaO,zaO]
 exact ⟨fun h=>h.elim (fun h=>⟨h.1,.inl h.2⟩) fun h=>⟨h.1,.inr h.2⟩,fun ⟨h,h'⟩=>h'.elim (fun h'=>.inl ⟨h,h'⟩) fun h'=>.inr ⟨h,h'⟩⟩
theorem zkJ (hi:i<n):2^i=zbY (fun j=>j=i) n:=zcV fun j=>by
 rw [Nat.testBit_two_pow,decide_eq_true_eq]
 exact ⟨fun h=>⟨h▸hi,h.symm⟩,fun h=>h.2.symm⟩
theorem zrf:0=zbY (fun _=>False) n:=zcV fun j=>by simp
theorem zde (hn:n≤60):zbY p n<4611686018427387904:=Nat.lt_of_lt_of_le zgV (Nat.le_trans (Nat.pow_le_pow_right (n:=2) (by omega) hn) (by decide))
theorem zuj (hn:n≤60):zbY p n<18446744073709551616:=Nat.lt_trans (zde hn) (by decide)
noncomputable def zcP (nx:Nat→List Nat) (n m k:Nat):List Nat:=(List.range n).map fun i=>zbY (FWy nx (if i<k then m+1 else m) i) n
theorem zcg:(zcP nx n m k).length=n:=by simp [zcP]
theorem zcN (h:i<(zcP nx n m k).length):(zcP nx n m k)[i]=zbY (FWy nx (if i<k then m+1 else m) i) n:=by simp [zcP]
theorem zo3 (h:m<(zcP nx n m k).length):(zcP nx n m k)[m]=zbY (FWy nx m m) n:=by
 rw [zcN]
 refine za8 fun j _=>?_
 split
 · exact zui
 exact .rfl
theorem zo4:zcP nx n m n=zcP nx n (m+1) 0:=List.map_congr_left fun i hi=>by
 rw [if_pos (List.mem_range.1 hi),if_neg (by omega)]
theorem zo5 (x:Nat) (hx:x=zbY (FWy nx (m+1) k) n) (hk:k<n):(zcP nx n m k).set k x=zcP nx n m (k+1):=by
 subst hx
 refine List.ext_getElem (by simp [zcP]) fun i h1 h2=>?_
 rw [List.getElem_set,zcN,zcN]
 by_cases h:k=i
 · subst h;rw [if_pos rfl,if_pos (by omega)]
 rw [if_neg h]
 by_cases h3:i<k
 · rw [if_pos h3,if_pos (by omega)]
 rw [if_neg h3,if_neg (by omega)]
theorem zo6 (h:¬FWy nx m k m):zcP nx n m k=zcP nx n m (k+1):=List.map_congr_left fun i hi=>by
 by_cases h3:i<k
 · rw [if_pos h3,if_pos (by omega)]
 rw [if_neg h3]
 by_cases h4:i<k+1
 · have:i=k:=by omega
   subst this
   rw [if_pos h4]
   exact za8 fun j _=>⟨.inl,fun h'=>h'.elim id fun h'=>absurd h'.1 h⟩
 rw [if_neg h4]
theorem zvK (h:FWy nx m k m):zbY (FWy nx m k) n ||| zbY (FWy nx m m) n=zbY (FWy nx (m+1) k) n:=by
 rw [zkI]
 exact za8 fun j _=>⟨fun h'=>h'.elim .inl fun h'=>.inr ⟨h,h'⟩,fun h'=>h'.elim .inl fun h'=>.inr h'.2⟩
noncomputable def ziT (nx:Nat→List Nat) (n:Nat):List Nat:=(List.range n).map fun i=>zbY (RP nx i) n
theorem zl4:(ziT nx n).length=n:=by simp [ziT]
theorem zl5 (h:i<(ziT nx n).length):(ziT nx n)[i]=zbY (RP nx i) n:=by simp [ziT]
theorem zrg (hn:∀ i j,j∈nx i→i<n∧j<n):zcP nx n n 0=ziT nx n:=List.map_congr_left fun i hi=>by
 rw [if_neg (by omega)]
 exact za8 fun j _=>FWy.iff hn
theorem zuk:nxA n []=fun _=>[]:=by
 funext i
 unfold nxA zaS
 rw [List.filter_eq_nil_iff]
 intro j _ h
 simp at h
theorem zok {a:DArc} (hf:a.fr=(i:Int)) (ht:a.to=(k:Int)) (hi:i<n) (hk:k<n) {x y:Nat}:y∈nxA n (A++[a]) x↔y∈nxA n A x∨(x=i∧y=k):=by
 unfold nxA
 simp only [zaE,List.mem_append,List.mem_singleton,DArc.ext_iff,hf,ht]
 constructor
 · rintro ⟨h1,h2,h3 | ⟨h3,h4⟩⟩
   · exact .inl ⟨h1,h2,h3⟩
   exact .inr ⟨Int.ofNat_inj.1 h3,Int.ofNat_inj.1 h4⟩
 rintro (⟨h1,h2,h3⟩ | ⟨rfl,rfl⟩)
 · exact ⟨h1,h2,.inl h3⟩
 exact ⟨hk,hi,.inr ⟨rfl,rfl⟩⟩
theorem zrh:List.replicate n 0=zcP (nxA n []) n 0 0:=by
 refine List.ext_getElem (by simp [zcP]) fun i h1 h2=>?_
 rw [zcN,List.getElem_replicate]
 refine zcV fun j=>?_
 rw [if_neg (by omega),zuk]
 simp [FWy]
theorem zo7 {a:DArc} (hf:a.fr=(i:Int)) (ht:a.to=(k:Int)) (hi:i<n) (hk:k<n) (h:i<(zcP (nxA n A) n 0 0).length) :
   (zcP (nxA n A) n 0 0).set i ((zcP (nxA n A) n 0 0)[i] ||| 2^k)=zcP (nxA n (A++[a])) n 0 0:=by
 refine List.ext_getElem (by simp [zcP]) fun x h1 h2=>?_
 rw [List.getElem_set]
 simp only [zcN,zkJ hk,zkI]
 by_cases hx:i=x
 · subst hx
   rw [if_pos rfl,if_neg (by omega)]
   refine za8 fun j _=>?_
   show _↔j∈nxA n (A++[a]) i
   rw [zok hf ht hi hk]
   exact ⟨fun h=>h.elim .inl fun h=>.inr ⟨rfl,h⟩,fun h=>h.elim .inl fun h=>.inr h.2⟩
 rw [if_neg hx,if_neg (by omega)]
 refine za8 fun j _=>?_
 show j∈nxA n A x↔j∈nxA n (A++[a]) x
 rw [zok hf ht hi hk]
 exact ⟨.inl,fun h=>h.elim id fun h=>absurd h.1.symm hx⟩
end
section
variable {n i j f:Nat} {way:Nat→Nat→Prop} {told:Nat→Prop}
def zjd (way:Nat→Nat→Prop) (i j x:Nat):Prop:=x=i∨(x<j∧way i x∧way x i)
theorem zo8 (hi:i<n):2^i=zbY (zjd way i 0) n:=by
 rw [zkJ hi]
 exact za8 fun j _=>⟨.inl,fun h=>h.elim id fun h=>by omega⟩
theorem zri (hj:j<n) (h1:way i j) (h2:way j i):zbY (zjd way i j) n ||| 2^j=zbY (zjd way i (j+1)) n:=by
 rw [zkJ hj,zkI]
 refine za8 fun x _=>?_
 unfold zjd
 constructor
 · rintro ((h | h) | rfl)
   · exact .inl h
   · exact .inr ⟨by omega,h.2⟩
   exact .inr ⟨by omega,h1,h2⟩
 rintro (h | ⟨h3,h4⟩)
 · exact .inl (.inl h)
 rcases Nat.lt_or_eq_of_le (Nat.lt_succ_iff.1 h3) with h5 | h5
 · exact .inl (.inr ⟨h5,h4⟩)
 exact .inr h5
theorem zol (h:¬(way i j∧way j i)):zbY (zjd way i j) n=zbY (zjd way i (j+1)) n:=by
 refine za8 fun x _=>?_
 unfold zjd
 constructor
 · rintro (h1 | h1)
   · exact .inl h1
   exact .inr ⟨by omega,h1.2⟩
 rintro (h1 | ⟨h3,h4⟩)
 · exact .inl h1
 rcases Nat.lt_or_eq_of_le (Nat.lt_succ_iff.1 h3) with h5 | h5
 · exact .inr ⟨h5,h4⟩
 subst h5;exact absurd h4 h
theorem zrj:zbY (zjd way i n) n=zbY (zbF way i) n:=za8 fun x hx=>
 ⟨fun h=>h.elim .inl fun h=>.inr h.2,fun h=>h.elim .inl fun h=>.inr ⟨hx,h⟩⟩
theorem zsD (hi:i<n) (ht:¬told i):zhE (zhE (zbY (way i) n) (zbY (zbF way i) n)) (zbY told n)=0↔OkC n way told i:=by
 constructor
 · intro h
   refine ⟨hi,ht,fun j hj hw=>?_⟩
   have h1:(zhE (zhE (zbY (way i) n) (zbY (zbF way i) n)) (zbY told n)).testBit j=false:=by rw [h];simp
   rw [zcd,zcd] at h1
   have h2:(zbY (way i) n).testBit j=true:=zaO.2 ⟨hj,hw⟩
   rw [h2] at h1
   by_cases h3:(zbY told n).testBit j=true
   · exact .inr (zaO.1 h3).2
   have h4:(zbY (zbF way i) n).testBit j=true:=by
     cases e:(zbY (zbF way i) n).testBit j
     · simp [e,h3] at h1
     rfl
   rcases (zaO.1 h4).2 with rfl | h5
   · exact .inl hw
   exact .inl h5.2
 rintro ⟨_,_,h⟩
 refine Nat.eq_of_testBit_eq fun j=>?_
 rw [zcd,zcd,Nat.zero_testBit]
 cases e:(zbY (way i) n).testBit j
 · simp
 obtain ⟨hj,hw⟩:=zaO.1 e
 rcases h j hj hw with h1 | h1
 · have:(zbY (zbF way i) n).testBit j=true:=zaO.2 ⟨hj,.inr ⟨hw,h1⟩⟩
   simp [this]
 have:(zbY told n).testBit j=true:=zaO.2 ⟨hj,h1⟩
 simp [this]
theorem zul (h:i<n):zbY told n ||| zbY (zbF way i) n=zbY (zgJ way told i) n:=zkI
end
def F111 (a0 a1:Value) (w:World) (R:VW):Prop:=
 oP (Instr.makeSlice 152 a0 a0) w fun x11 w=>
 rN 86 3 a1 w fun x13=>
 LOOPI [14] [(iV 0)] w fun u3 w next3=>
 rC (u3 14) x13 w fun x15=>
 BR x15
 (rX 86 a1 (u3 14) w fun x16=>
 rL 133 x16 w fun x17=>
 oP (Instr.alloc 133 true (.tuple #[])) w fun x7 w=>
 oS 133 x7 x17 w fun w=>
 (fun w=>rF 133 x7 0 w fun x19=>
 rL 3 x19 w fun x20=>
 rX 152 x11 x20 w fun x21=>
 rL 154 x21 w fun x22=>
 rF 133 x7 1 w fun x23=>
 rL 3 x23 w fun x24=>
 rD (convert 3 139 x24) w fun x25=>
 rB .shl 154 U0 T0 (Value.int .u64 1) x25 w fun x26=>
 rB .or 154 T0 T0 x22 x26 w fun x27=>
 rX 152 x11 x20 w fun x28=>
 oS 154 x28 x27 w fun w=>
 rA (u3 14) (iV 1) w fun x29=>
 next3 [x29] w) (World.drew1 w))
 (rN 152 3 x11 w fun x31=>
 LOOPI [32] [(iV 0)] w fun u8 w next8=>
 rC (u8 32) x31 w fun x33=>
 BR x33
 (rN 152 3 x11 w fun x36=>
 LOOPI [37] [(iV 0)] w fun u11 w next11=>
 rC (u11 37) x36 w fun x38=>
 BR x38
 (rX 152 x11 (u11 37) w fun x42=>
 rL 154 x42 w fun x43=>
 rD (convert 3 139 (u8 32)) w fun x45=>
 rB .shr 154 T0 T0 x43 x45 w fun x46=>
 rB .and 154 T0 U0 x46 (Value.int .u64 1) w fun x47=>
 rB .eql 154 T0 U0 x47 (Value.int .u64 1) w fun x48=>
 BR x48
 ((fun w=>rX 152 x11 (u11 37) w fun x51=>
 rL 154 x51 w fun x52=>
 rX 152 x11 (u8 32) w fun x55=>
 rL 154 x55 w fun x56=>
 rB .or 154 T0 T0 x52 x56 w fun x57=>
 rX 152 x11 (u11 37) w fun x58=>
 oS 154 x58 x57 w fun w=>
 rA (u11 37) (iV 1) w fun x59=>
 next11 [x59] w) (World.drew1 w))
 (rA (u11 37) (iV 1) w fun x59=>
 next11 [x59] w))
 (rA (u8 32) (iV 1) w fun x60=>
 next8 [x60] w))
 (R x11 w))
def cfg111:Cfg:=⟨extL,[],[(3,1073725568,[14]),(8,2305843004918727424,[32]),(11,1152921367167894016,[37])],[(5,[0,1,2,3,4,5,6,7,8,9,10,11],0),(14,[0,1,2,3,4,5,6,7,8,9,10],0)],[],[],[]⟩
theorem F111_call {a0 a1:Value} {w:World} {R:VW} (h:F111 a0 a1 w R):cL 111 [a0,a1] w R:=co (g:=cfg111) Tryz.func111 (by kernel_rfl) (by kernel_rfl) (by kernel_rfl) h
open Rep (rep)
theorem zv8:zcm Tryz.prog 154=some [.int .u64 0]:=by kernel_rfl
structure RU (w0 w:World) (v:Value) (l:List Nat):Prop where
 ext:Ext w0 w
 own:Own w0.heap.size w v l
section
variable {w0 w w':World} {v:Value} {l:List Nat} {i m n:Nat}
theorem RU.step (h:RU w0 w v l) (hx:Ext w w'):RU w0 w' v l:=⟨h.ext.trans hx,h.own.ext hx⟩
theorem RU.get {K:Value→Prop} (h:RU w0 w v l) (hi:i<l.length) (k:K (.int .u64 (l[i]:Int))) :
   RD Tryz.prog (Instr.indexAt 152 v (.int .i64 (i:Int))) w fun a=>RD Tryz.prog (Instr.loadAt 154 a) w K:=
 zad zuz zmw h.own.is hi fun b o hA=>zoi zmw hA (Ext.refl _) k
theorem zkK {w1:World} {K:Value→Prop} (h:Is w1 v l) (hx:Ext w1 w) (hi:i<l.length) (k:K (.int .u64 (l[i]:Int))) :
   RD Tryz.prog (Instr.indexAt 152 v (.int .i64 (i:Int))) w fun a=>RD Tryz.prog (Instr.loadAt 154 a) w K:=
 zad zuz zmw h hi fun b o hA=>zoi zmw hA hx k
theorem RU.set {K:World→Prop} (h:RU w0 w v l) (hi:i<l.length) (hm:m<18446744073709551616) (k:∀ w',RU w0 w' v (l.set i m)→K w') :
   RD Tryz.prog (Instr.indexAt 152 v (.int .i64 (i:Int))) w fun a=>OPU Tryz.prog (Instr.storeAt 154 a (.int .u64 (m:Int))) w K:=by
 obtain ⟨F,hM,hF⟩:=h.own
 refine zdP zuz zmw hM hi fun b o G hL=>?_
 refine zdz (upd:=fun y=>l.set i y) (y':=m) zmw hL (zsB hm) fun w2 F2 hc2 hm2 hF2=>?_
 exact k w2 ⟨h.ext.chg_trans hc2 hF,F2,hm2,fun b hb=>hF b (hF2 b hb)⟩
theorem zsE {K:Value→World→Prop} (hn:n≤60) (k:∀ v w',RU w w' v (List.replicate n 0)→K v w'):OP Tryz.prog (Instr.makeSlice 152 (.int .i64 (n:Int)) (.int .i64 (n:Int))) w K:=
 zfj (α:=Nat) zuz zmw rfl rfl zv8 (by omega) (by omega) fun w2 hx2 hr2=>k _ w2 ⟨hx2,hr2.own.own⟩
end
theorem zps {m i:Nat}:(((m >>> i &&& 1:Nat):Int)=1)↔m.testBit i=true:=by
 have:=zql m i
 constructor
 · intro h;rw [←this,decide_eq_true_eq];exact h
 intro h;rw [←this,decide_eq_true_eq] at h;exact h
theorem zjO {w W1:World} {v1:Value} {n:Nat} {A:List DArc} (h1:Is W1 v1 A) (e1:Ext W1 w) (hn:n≤60) (hA:∀ a∈A,(0≤a.fr∧a.fr<n)∧0≤a.to∧a.to<n) (hl:A.length≤2000) :
   CALL Tryz.prog 111 [.int .i64 (n:Int),v1] w fun r w'=>Ext w w'∧Own w.heap.size w' r (ziT (nxA n A) n):=by
 refine F111_call ?_
 unfold F111
 refine zsE hn fun vr w1 hR1=>?_
 refine zag u86 h1 ?_
 refine zaq A.length (fun k us w'=>us=[.int .i64 (k:Int)]∧k≤A.length∧RU w w' vr (zcP (nxA n (A.take k)) n 0 0)) 0 (Nat.zero_le _) ⟨rfl,Nat.zero_le _,by rw [List.take_zero,←zrh];exact hR1⟩ ?_
 rintro k mk u w2 hkm ⟨hu,hkl,hR2⟩
 simp only [List.map_cons,List.map_nil,List.cons.injEq,and_true] at hu
 rw [hu]
 refine zah ?_
 refine br (fun hlt=>?_) (fun hge=>?_)
 · have hk:k<A.length:=by omega
   refine zad u86 zdc h1 hk fun b3 o3 hA3=>?_
   refine zac zdc hA3 (e1.trans hR2.ext) fun v17 h17=>?_
   refine zbX zrU rfl zdc rfl h17 (e1.trans hR2.ext) fun w3 hx3 hAt3 hV3=>?_
   have hxd:=zak w3
   generalize World.drew1 w3=w4 at *
   have hR4:=(hR2.step hx3).step hxd
   obtain ⟨⟨hf0,hf1⟩,ht0,ht1⟩:=hA _ (List.getElem_mem hk)
   obtain ⟨i,hi⟩:∃ i:Nat,A[k].fr=(i:Int):=⟨A[k].fr.toNat,by omega⟩
   obtain ⟨j,hj⟩:∃ j:Nat,A[k].to=(j:Int):=⟨A[k].to.toNat,by omega⟩
   refine zaa zh2 ?_
   refine zab ty3 (zfd hAt3) hxd fun _=>?_
   rw [hi]
   refine hR4.get (by rw [zcg];omega) ?_
   refine zaa zh3 ?_
   refine zab ty3 (zfe hAt3) hxd fun _=>?_
   rw [hj]
   refine zbA (by kernel_rfl) zh4 (by omega) ?_
   refine zna (by omega) ?_
   have hj60:2^j<4611686018427387904:=Nat.lt_of_le_of_lt (Nat.pow_le_pow_right (n:=2) (by omega) (show j≤60 by omega)) (by decide)
   refine zoj (by rw [zcN];exact zde hn) hj60 ?_
   have hb:(zcP (nxA n (A.take k)) n 0 0)[i]'(by rw [zcg];omega) ||| 2^j<2^62:=Nat.or_lt_two_pow (by rw [zcN];exact zde hn) hj60
   refine hR4.set (by rw [zcg];omega) (by omega) fun w5 hR5=>?_
   rw [zo7 hi hj (by omega) (by omega)] at hR5
   refine zaf (by omega) ?_
   refine ⟨mk-1,by omega,k+1,by omega,rfl,by omega,?_⟩
   rw [List.take_succ_eq_append_getElem hk]
   exact hR5
 have hke:k=A.length:=by omega
 rw [hke,List.take_length] at hR2
 refine zag zuz hR2.own.is ?_
 rw [zcg]
 refine zaq n (fun m us w'=>us=[.int .i64 (m:Int)]∧m≤n∧RU w w' vr (zcP (nxA n A) n m 0)) 0 (Nat.zero_le _) ⟨rfl,Nat.zero_le _,hR2⟩ ?_
 rintro m mm q3 w3 hmm ⟨hu3,hml,hR3⟩
 simp only [List.map_cons,List.map_nil,List.cons.injEq,and_true] at hu3
 rw [hu3]
 refine zah ?_
 refine br (fun hlt3=>?_) (fun hge3=>?_)
 case refine_2=>
   have hme:m=n:=by omega
   rw [hme,zrg zty] at hR3
   exact ⟨hR3.ext,hR3.own⟩
 have hm:m<n:=by omega
 refine zag zuz hR3.own.is ?_
 rw [zcg]
 refine zaq n (fun k us w'=>us=[.int .i64 (k:Int)]∧k≤n∧RU w w' vr (zcP (nxA n A) n m k)) 0 (Nat.zero_le _) ⟨rfl,Nat.zero_le _,hR3⟩ ?_
 rintro i mi q4 w4 hmi ⟨hu4,hil,hR4⟩
 simp only [List.map_cons,List.map_nil,List.cons.injEq,and_true] at hu4
 rw [hu4]
 refine zah ?_
 refine br (fun hlt4=>?_) (fun hge4=>?_)
 case refine_2=>
   have hie:i=n:=by omega
   rw [hie,zo4] at hR4
   refine zaf (by omega) ?_
   exact ⟨mm-1,by omega,m+1,by omega,rfl,by omega,hR4⟩
 have hi:i<n:=by omega
 refine hR4.get (by rw [zcg];omega) ?_
 refine zbA (by kernel_rfl) zh4 (by omega) ?_
 refine zhe (by rw [zcN];exact zde hn) ?_
 have h62:zbY (FWy (nxA n A) m i) n<4611686018427387904:=zde hn
 have hgi:(zcP (nxA n A) n m i)[i]'(by rw [zcg];omega)=zbY (FWy (nxA n A) m i) n:=by rw [zcN,if_neg (by omega)]
 have hgm:(zcP (nxA n A) n m i)[m]'(by rw [zcg];omega)=zbY (FWy (nxA n A) m m) n:=zo3 _
 refine zhd (n:=1) (Nat.lt_of_le_of_lt (by rw [Nat.shiftRight_eq_div_pow];exact Nat.div_le_self _ _) (show _<_ by rw [hgi];exact h62)) (by omega) ?_
 refine zao ?_
 refine br (fun hb=>?_) (fun hb=>?_)
 · have hFW:FWy (nxA n A) m i m:=by
     rw [zps,hgi,zaO] at hb;exact hb.2
   have hxd:=zak w4
   generalize World.drew1 w4=w5 at *
   have hR5:=hR4.step hxd
   refine hR5.get (by rw [zcg];omega) ?_
   refine hR5.get (by rw [zcg];omega) ?_
   refine zoj (by rw [hgi];exact h62) (by rw [hgm];exact zde hn) ?_
   rw [hgi,hgm,zvK hFW]
   refine hR5.set (by rw [zcg];omega) (zuj hn) fun w6 hR6=>?_
   rw [zo5 _ rfl hi] at hR6
   refine zaf (by omega) ?_
   exact ⟨mi-1,by omega,i+1,by omega,rfl,by omega,hR6⟩
 have hFW:¬FWy (nxA n A) m i m:=fun h=>hb (by rw [zps,hgi,zaO];exact ⟨hm,h⟩)
 rw [zo6 hFW] at hR4
 refine zaf (by omega) ?_
 exact ⟨mi-1,by omega,i+1,by omega,rfl,by omega,hR4⟩
def F58 (a0 a1:Value) (w:World) (R:VW):Prop:=
 cL 111 [a0,a1] w fun x16 w=>
 LOOPI [6,7] [(Value.slice none 0 0),(Value.int .u64 0)] w fun u4 w next4=>
 JOIN [8,9] (fun J19=>
 LOOPI [8,9,10] [(iV (-1)),(Value.int .u64 0),(iV 0)] w fun u7 w next7=>
 rC (u7 10) a0 w fun x19=>
 BR x19
 (rB .lss 3 T0 U0 (u7 8) (iV 0) w fun x22=>
 BR x22
 (rD (convert 3 139 (u7 10)) w fun x28=>
 rB .shr 154 T0 T0 (u4 7) x28 w fun x29=>
 rB .and 154 T0 U0 x29 (Value.int .u64 1) w fun x30=>
 rB .eql 154 T0 U0 x30 (Value.int .u64 1) w fun x31=>
 BR x31
 (rA (u7 10) (iV 1) w fun x25=>
 next7 [(u7 8),(u7 9),x25] w)
 (rD (convert 3 139 (u7 10)) w fun x33=>
 rB .shl 154 U0 T0 (Value.int .u64 1) x33 w fun x34=>
 LOOPI [9,36] [x34,(iV 0)] w fun u12 w next12=>
 rC (u12 36) a0 w fun x37=>
 BR x37
 (rX 152 x16 (u7 10) w fun x41=>
 rL 154 x41 w fun x42=>
 rD (convert 3 139 (u12 36)) w fun x44=>
 rB .shr 154 T0 T0 x42 x44 w fun x45=>
 rB .and 154 T0 U0 x45 (Value.int .u64 1) w fun x46=>
 rB .eql 154 T0 U0 x46 (Value.int .u64 1) w fun x47=>
 BR x47
 (rX 152 x16 (u12 36) w fun x51=>
 rL 154 x51 w fun x52=>
 rD (convert 3 139 (u7 10)) w fun x54=>
 rB .shr 154 T0 T0 x52 x54 w fun x55=>
 rB .and 154 T0 U0 x55 (Value.int .u64 1) w fun x56=>
 rB .eql 154 T0 U0 x56 (Value.int .u64 1) w fun x57=>
 BR x57
 (rD (convert 3 139 (u12 36)) w fun x61=>
 rB .shl 154 U0 T0 (Value.int .u64 1) x61 w fun x62=>
 rB .or 154 T0 T0 (u12 9) x62 w fun x63=>
 rA (u12 36) (iV 1) w fun x64=>
 next12 [x63,x64] w)
 (rA (u12 36) (iV 1) w fun x64=>
 next12 [(u12 9),x64] w))
 (rA (u12 36) (iV 1) w fun x64=>
 next12 [(u12 9),x64] w))
 (rX 152 x16 (u7 10) w fun x67=>
 rL 154 x67 w fun x68=>
 rB .andNot 154 T0 T0 x68 (u12 9) w fun x70=>
 rB .andNot 154 T0 T0 x70 (u4 7) w fun x72=>
 rB .eql 154 T0 U0 x72 (Value.int .u64 0) w fun x73=>
 BR x73
 (rA (u7 10) (iV 1) w fun x25=>
 next7 [(u7 10),(u12 9),x25] w)
 (rA (u7 10) (iV 1) w fun x25=>
 next7 [(u7 8),(u12 9),x25] w))))
 (J19 [(u7 8),(u7 9)] w))
 (J19 [(u7 8),(u7 9)] w)) (fun u19 w=>
 rB .lss 3 T0 U0 (u19 8) (iV 0) w fun x76=>
 BR x76
 (R (u4 6) w)
 (LOOPI [12,79] [(Value.slice none 0 0),(iV 0)] w fun u23 w next23=>
 rC (u23 79) a0 w fun x80=>
 BR x80
 (rD (convert 3 139 (u23 79)) w fun x84=>
 rB .shr 154 T0 T0 (u19 9) x84 w fun x85=>
 rB .and 154 T0 U0 x85 (Value.int .u64 1) w fun x86=>
 rB .eql 154 T0 U0 x86 (Value.int .u64 1) w fun x87=>
 BR x87
 (oP (Instr.buildSlice 23 1 #[(0,(u23 79))]) w fun x90 w=>
 oP (Builtin.append_ #[23,23] 23 [(u23 12),x90].toArray) w fun x91 w=>
 rA (u23 79) (iV 1) w fun x92=>
 next23 [x91,x92] w)
 (rA (u23 79) (iV 1) w fun x92=>
 next23 [(u23 12),x92] w))
 (oP (Instr.buildSlice 45 1 #[(0,(u23 12))]) w fun x95 w=>
 oP (Builtin.append_ #[45,45] 45 [(u4 6),x95].toArray) w fun x96 w=>
 rB .or 154 T0 T0 (u4 7) (u19 9) w fun x99=>
 next4 [x96,x99] w)))
def cfg58:Cfg:=⟨extL,[(19,37778931862957161582336,[8,9])],[(4,1267650600228229401496703090640,[6,7]),(7,37778931862957161582336,[8,9,10]),(12,36893488078699629056,[9,36]),(23,9902915851373234884605652992,[12,79])],[],[],[],[]⟩
theorem F58_call {a0 a1:Value} {w:World} {R:VW} (h:F58 a0 a1 w R):cL 58 [a0,a1] w R:=co (g:=cfg58) Tryz.func58 (by kernel_rfl) (by kernel_rfl) (by kernel_rfl) h
open Rep (rep)
theorem zl6 (m i:Nat):m >>> i≤m:=by rw [Nat.shiftRight_eq_div_pow];exact Nat.div_le_self _ _
theorem znb {w W1:World} {v1:Value} {n:Nat} {A:List DArc} (h1:Is W1 v1 A) (e1:Ext W1 w) (hn:n≤60) (hA:∀ a∈A,(0≤a.fr∧a.fr<n)∧0≤a.to∧a.to<n) (hl:A.length≤2000) :
   CALL Tryz.prog 58 [.int .i64 (n:Int),v1] w fun r w'=>Ext w w'∧Own w.heap.size w' r ((zl1 n (RP (nxA n A))).map zaA):=by
 refine F58_call ?_
 unfold F58
 refine (zjO h1 e1 hn hA hl).mono ?_
 rintro v16 w1 ⟨hx1,ho1⟩
 have hWay:=ho1.is
 have hWl:(ziT (nxA n A) n).length=n:=zl4
 have hWg:∀ i (h:i<(ziT (nxA n A) n).length),(ziT (nxA n A) n)[i]=zbY (RP (nxA n A) i) n:=fun i h=>zl5 h
 generalize ziT (nxA n A) n=ws at *
 generalize RP (nxA n A)=way at *
 have hs1:=hx1.size
 refine zaq n (fun k us w'=>∃ out f told L,us=[out,.int .u64 ((zbY told n:Nat):Int)]∧f+k=n∧zdM n told≤f∧zl1 n way=L++zdL n way f told∧L.length=k∧Ext w1 w'∧∃ lo hi,w1.heap.size≤lo∧lo≤w'.heap.size∧hi≤w'.heap.size∧RowI lo hi 23 w' out (L.map zaA)) 0 (Nat.zero_le _) ⟨_,n,fun _=>False,[],by rw [←zrf];rfl,rfl,zkH,rfl,rfl,Ext.refl _,w1.heap.size,w1.heap.size,Nat.le_refl _,Nat.le_refl _,Nat.le_refl _,zcp _ _ _ _⟩ ?_
 rintro k mk u w2 hkm ⟨out,f,told,L,hu,hfk,hlf,hcL,hLl,hx2,lo,hi,hlo,hlo2,hhi,hr2⟩
 obtain ⟨hu1,hu2⟩:=zb1 hu
 rw [hu1,hu2]
 have hD62:zbY told n<4611686018427387904:=zde hn
 refine JOIN.mk (fun us w'=>w'=w2∧((zeT n way told=none∧∃ p,us=[.int .i64 (-1),.int .u64 p])∨∃ i:Nat,zeT n way told=some i∧us=[.int .i64 (i:Int),.int .u64 ((zbY (zbF way i) n:Nat):Int)])) ?_ ?_
 · refine zaq n (fun i us w'=>w'=w2∧i≤n∧∃ fd p,us=[.int .i64 fd,.int .u64 p,.int .i64 (i:Int)]∧((fd=-1∧∀ j,j<i→¬OkC n way told j)∨∃ i0:Nat,fd=(i0:Int)∧OkC n way told i0∧(∀ j,j<i0→¬OkC n way told j)∧p=((zbY (zbF way i0) n:Nat):Int))) 0 (Nat.zero_le _) ⟨rfl,Nat.zero_le _,-1,0,rfl,.inl ⟨rfl,fun j hj=>by omega⟩⟩ ?_
   rintro i mi q7 w3 hmi ⟨rfl,hil,fd,p,hu7,hcase⟩
   obtain ⟨hu71,hu72,hu73⟩:=zvE hu7
   rw [hu71,hu72,hu73]
   refine zah ?_
   refine br (fun hlt=>?_) (fun hge=>?_)
   case refine_2=>
     have hie:i=n:=by omega
     refine ⟨rfl,?_⟩
     rcases hcase with ⟨rfl,hno⟩ | ⟨i0,rfl,hok,hmin,rfl⟩
     · exact .inl ⟨zfB.2 fun j hj=>hno j (by have:=hj.1;omega) hj,_,rfl⟩
     exact .inr ⟨i0,zhb hok hmin,rfl⟩
   have hi':i<n:=by omega
   refine zah ?_
   refine br (fun hfd=>?_) (fun hfd=>?_)
   case refine_2=>
     refine ⟨rfl,?_⟩
     rcases hcase with ⟨rfl,hno⟩ | ⟨i0,rfl,hok,hmin,rfl⟩
     · exact absurd (by decide) hfd
     exact .inr ⟨i0,zhb hok hmin,rfl⟩
   have hno:fd=-1∧∀ j,j<i→¬OkC n way told j:=by
     rcases hcase with h | ⟨i0,rfl,_⟩
     · exact h
     omega
   obtain ⟨rfl,hno⟩:=hno
   refine zbA (by kernel_rfl) zh4 (by omega) ?_
   refine zhe hD62 ?_
   refine zhd (n:=1) (Nat.lt_of_le_of_lt (zl6 _ _) hD62) (by omega) ?_
   refine zao ?_
   refine br (fun hb=>?_) (fun hb=>?_)
   · rw [zps,zaO] at hb
     refine zaf (by omega) ?_
     refine ⟨mi-1,by omega,i+1,by omega,rfl,by omega,-1,p,rfl,.inl ⟨rfl,fun j hj=>?_⟩⟩
     rcases Nat.lt_or_eq_of_le (Nat.lt_succ_iff.1 hj) with h | rfl
     · exact hno j h
     exact fun h=>h.2.1 hb.2
   have htd:¬told i:=fun h=>hb (by rw [zps,zaO];exact ⟨hi',h⟩)
   refine zbA (by kernel_rfl) zh4 (by omega) ?_
   refine zna (by omega) ?_
   rw [zo8 (way:=way) hi']
   refine zaq n (fun j us w'=>w'=w3∧j≤n∧us=[.int .u64 ((zbY (zjd way i j) n:Nat):Int),.int .i64 (j:Int)]) 0 (Nat.zero_le _) ⟨rfl,Nat.zero_le _,rfl⟩ ?_
   rintro j mj q12 w4 hmj ⟨rfl,hjl,hu12⟩
   obtain ⟨hu121,hu122⟩:=zb1 hu12
   rw [hu121,hu122]
   have hP62:∀ j,zbY (zjd way i j) n<4611686018427387904:=fun j=>zde hn
   have hW62:∀ j,zbY (way j) n<4611686018427387904:=fun j=>zde hn
   refine zah ?_
   refine br (fun hlt2=>?_) (fun hge2=>?_)
   · have hj:j<n:=by omega
     refine zkK (i:=i) hWay hx2 (by omega) ?_
     rw [hWg]
     refine zbA (by kernel_rfl) zh4 (by omega) ?_
     refine zhe (hW62 _) ?_
     refine zhd (n:=1) (Nat.lt_of_le_of_lt (zl6 _ _) (hW62 _)) (by omega) ?_
     refine zao ?_
     refine br (fun hb1=>?_) (fun hb1=>?_)
     · rw [zps,zaO] at hb1
       refine zkK (i:=j) hWay hx2 (by omega) ?_
       rw [hWg]
       refine zbA (by kernel_rfl) zh4 (by omega) ?_
       refine zhe (hW62 _) ?_
       refine zhd (n:=1) (Nat.lt_of_le_of_lt (zl6 _ _) (hW62 _)) (by omega) ?_
       refine zao ?_
       refine br (fun hb2=>?_) (fun hb2=>?_)
       · rw [zps,zaO] at hb2
         refine zbA (by kernel_rfl) zh4 (by omega) ?_
         refine zna (by omega) ?_
         refine zoj (hP62 _) (Nat.lt_of_le_of_lt (Nat.pow_le_pow_right (n:=2) (by omega) (show j≤60 by omega)) (by decide)) ?_
         rw [zri hj hb1.2 hb2.2]
         refine zaf (by omega) ?_
         exact ⟨mj-1,by omega,j+1,by omega,rfl,by omega,rfl⟩
       rw [zol (n:=n) (j:=j) fun h=>hb2 (by rw [zps,zaO];exact ⟨hi',h.2⟩)]
       refine zaf (by omega) ?_
       exact ⟨mj-1,by omega,j+1,by omega,rfl,by omega,rfl⟩
     rw [zol (n:=n) (j:=j) fun h=>hb1 (by rw [zps,zaO];exact ⟨hj,h.1⟩)]
     refine zaf (by omega) ?_
     exact ⟨mj-1,by omega,j+1,by omega,rfl,by omega,rfl⟩
   have hje:j=n:=by omega
   rw [hje,zrj]
   refine zkK (i:=i) hWay hx2 (by omega) ?_
   rw [hWg]
   refine zjN (hW62 _) (zde hn) ?_
   refine zjN (Nat.lt_of_le_of_lt (zf0 _ _) (hW62 _)) hD62 ?_
   refine zao ?_
   have hokb:=zsD (way:=way) hi' htd
   refine br (fun hb=>?_) (fun hb=>?_)
   · have hok:OkC n way told i:=hokb.1 (by omega)
     refine zaf (by omega) ?_
     exact ⟨mi-1,by omega,i+1,by omega,rfl,by omega,_,_,rfl,.inr ⟨i,rfl,hok,hno,rfl⟩⟩
   have hok:¬OkC n way told i:=fun h=>hb (by rw [hokb.2 h];rfl)
   refine zaf (by omega) ?_
   refine ⟨mi-1,by omega,i+1,by omega,rfl,by omega,-1,_,rfl,.inl ⟨rfl,fun j hj=>?_⟩⟩
   rcases Nat.lt_or_eq_of_le (Nat.lt_succ_iff.1 hj) with h | rfl
   · exact hno j h
   exact hok
 rintro q19 w3 ⟨rfl,hJ⟩
 rcases hJ with ⟨hnx,p,hu19⟩ | ⟨i,hnx,hu19⟩
 · obtain ⟨hu191,hu192⟩:=zb1 hu19;clear hu19
   rw [hu191]
   refine zah ?_
   refine br (fun _=>?_) (fun h=>absurd (by decide) h)
   rw [ziR hnx,List.append_nil] at hcL
   rw [hcL]
   exact ⟨hx1.trans hx2,hr2.own.own.mono (by omega)⟩
 obtain ⟨hu191,hu192⟩:=zb1 hu19
 rw [hu191,hu192]
 refine zah ?_
 refine br (fun h=>by omega) (fun _=>?_)
 have hok:=zgK hnx
 obtain ⟨f',hcf,hlf',hff⟩:=ziS hlf hnx
 refine zaq n (fun j us w'=>∃ lv,us=[lv,.int .i64 (j:Int)]∧j≤n∧Ext w3 w'∧RowI w3.heap.size w'.heap.size 3 w' lv (zaA (zaS j (zbF way i)))) 0 (Nat.zero_le _) ⟨_,rfl,Nat.zero_le _,Ext.refl _,zcp _ _ _ _⟩ ?_
 rintro j mj q23 w4 hmj ⟨lv,hu23,hjl,hx4,hr4⟩
 obtain ⟨hu231,hu232⟩:=zb1 hu23
 rw [hu231,hu232]
 have hs4:=hx4.size
 have hP62:zbY (zbF way i) n<4611686018427387904:=zde hn
 have hsl:(zaS j (zbF way i)).length≤j:=zaT
 refine zah ?_
 refine br (fun hlt=>?_) (fun hge=>?_)
 · have hj:j<n:=by omega
   refine zbA (by kernel_rfl) zh4 (by omega) ?_
   refine zhe hP62 ?_
   refine zhd (n:=1) (Nat.lt_of_le_of_lt (zl6 _ _) hP62) (by omega) ?_
   refine zao ?_
   refine br (fun hb=>?_) (fun hb=>?_)
   · rw [zps,zaO] at hb
     refine zbK (lo2:=w4.heap.size) (hi2:=w4.heap.size) (x:=(j:Int)) u23 ty3 z3 zc3 (by decide) hr4 hs4 (zew (by unfold I64;omega)) (Nat.le_refl _) hs4 (by rw [zan,zae];omega) (by rw [zae];omega) fun v54 w9 hc9 hr9=>?_
     refine zaf (by omega) ?_
     refine ⟨mj-1,by omega,j+1,by omega,v54,rfl,by omega,hx4.chgI hc9 (Nat.le_refl _),?_⟩
     rw [zcc hb.2,zbM]
     exact hr9
   refine zaf (by omega) ?_
   refine ⟨mj-1,by omega,j+1,by omega,lv,rfl,by omega,hx4,?_⟩
   rw [zck fun h=>hb (by rw [zps,zaO];exact ⟨hj,h⟩)]
   exact hr4
 have hje:j=n:=by omega
 rw [hje] at hr4
 refine zbK (lo2:=w3.heap.size) (hi2:=w4.heap.size) (x:=zaA (zaS n (zbF way i))) u45 zbE z23 zvs (by decide) (hr2.ext hx4) (by omega) hr4.own hhi (by omega) (by rw [zan,List.length_map];omega) (by rw [List.length_map];omega) fun v54 w9 hc9 hr9=>?_
 refine zoj hD62 hP62 ?_
 rw [zul (n:=n) hok.1]
 have hs9:=hc9.size
 refine ⟨mk-1,by omega,k+1,by omega,v54,f',zgJ way told i,L++[zaS n (zbF way i)],rfl,by omega,hlf',by rw [hcL,hcf,List.append_assoc];rfl,by simp [hLl],(hx2.trans hx4).chgI hc9 hlo,lo,w9.heap.size,hlo,by omega,Nat.le_refl _,?_⟩
 rw [List.map_append]
 exact hr9
section
variable {nx:Nat→List Nat} {n m i j k t:Nat} {A:List DArc} {p q:Nat→Prop}
noncomputable def zbV (nx:Nat→List Nat) (n m k j:Nat):List (List Bool):=(List.range n).map fun i=>zbl n fun x=>FWy nx (if i<k∨(i=k∧x<j) then m+1 else m) i x
theorem zl7:(zbV nx n m k j).length=n:=by simp [zbV]
theorem zbW (h:i<(zbV nx n m k j).length):(zbV nx n m k j)[i]=zbl n fun x=>FWy nx (if i<k∨(i=k∧x<j) then m+1 else m) i x:=by simp [zbV]
theorem zom (h:i<(zbV nx n m k j).length) {x:Nat} (hx:x<((zbV nx n m k j)[i]).length):((zbV nx n m k j)[i])[x]=true↔FWy nx (if i<k∨(i=k∧x<j) then m+1 else m) i x:=by
 rw [←zaM hx,zbW,zaB]
 rw [zbW,zaj] at hx
 exact ⟨fun h=>h.2,fun h=>⟨hx,h⟩⟩
theorem zkL:FWy nx 0 i j↔j∈nx i:=.rfl
theorem zsF:FWy nx (m+1) k m↔FWy nx m k m:=⟨FWy.old,.inl⟩
theorem zsG:FWy nx (m+1) m j↔FWy nx m m j:=⟨FWy.old',.inl⟩
theorem zrk:zbV nx n m k n=zbV nx n m (k+1) 0:=List.map_congr_left fun i _=>zaK fun x hx=>by
 have:(i<k∨(i=k∧x<n))↔(i<k+1∨(i=k+1∧x<0)):=by omega
 simp only [this]
theorem zo9:zbV nx n m n 0=zbV nx n (m+1) 0 0:=List.map_congr_left fun i hi=>zaK fun x hx=>by
 have hi:=List.mem_range.1 hi
 rw [if_pos (.inl hi),if_neg (by omega)]
theorem zpa (h:¬FWy nx m k m):zbV nx n m k 0=zbV nx n m (k+1) 0:=List.map_congr_left fun i hi=>zaK fun x hx=>by
 by_cases h3:i<k
 · rw [if_pos (.inl h3),if_pos (by omega)]
 rw [if_neg (by omega)]
 by_cases h4:i=k
 · subst h4
   rw [if_pos (by omega)]
   exact ⟨.inl,fun h'=>h'.elim id fun h'=>absurd h'.1 h⟩
 rw [if_neg (by omega)]
theorem zsH (h:¬FWy nx m m j):zbV nx n m k j=zbV nx n m k (j+1):=List.map_congr_left fun i hi=>zaK fun x hx=>by
 by_cases h1:i<k∨(i=k∧x<j)
 · rw [if_pos h1,if_pos (by omega)]
 rw [if_neg h1]
 by_cases h2:i=k∧x=j
 · obtain ⟨rfl,rfl⟩:=h2
   rw [if_pos (by omega)]
   exact ⟨.inl,fun h'=>h'.elim id fun h'=>absurd h'.2 h⟩
 rw [if_neg (by omega)]
theorem zkM {p:Nat→Prop} (hj:j<n):(zbl n p).set j true=zbl n fun x=>p x∨x=j:=by
 refine zbH (by rw [List.length_set,zaj]) fun i hi=>?_
 rw [zb8 (by rw [zaj];exact hj),zaB]
 exact ⟨fun h=>h.elim (fun h=>.inl h.2) .inr,fun h=>h.elim (fun h=>.inl ⟨hi,h⟩) .inr⟩
theorem zrl (hk:k<n) (hj:j<n) (h1:FWy nx m k m) (h2:FWy nx m m j) (h:k<(zbV nx n m k j).length) :
   (zbV nx n m k j).set k ((zbV nx n m k j)[k].set j true)=zbV nx n m k (j+1):=by
 refine List.ext_getElem (by simp [zbV]) fun i h3 h4=>?_
 rw [List.getElem_set]
 by_cases hi:k=i
 · subst hi
   rw [if_pos rfl,zbW,zbW,zkM hj]
   refine zaK fun x hx=>?_
   by_cases hxj:x=j
   · subst hxj
     have e1:(if k<k∨(k=k∧x<x+1) then m+1 else m)=m+1:=if_pos (.inr ⟨rfl,by omega⟩)
     rw [e1]
     exact ⟨fun _=>.inr ⟨h1,h2⟩,fun _=>.inr rfl⟩
   by_cases hl:x<j
   · rw [if_pos (.inr ⟨rfl,hl⟩),if_pos (.inr ⟨rfl,by omega⟩)]
     exact ⟨fun h=>h.elim id fun h=>absurd h hxj,.inl⟩
   rw [if_neg (by omega),if_neg (by omega)]
   exact ⟨fun h=>h.elim id fun h=>absurd h hxj,.inl⟩
 rw [if_neg hi,zbW,zbW]
 refine zaK fun x hx=>?_
 by_cases h5:i<k∨(i=k∧x<j)
 · rw [if_pos h5,if_pos (by omega)]
 rw [if_neg h5,if_neg (by omega)]
noncomputable def zeM (nx:Nat→List Nat) (n:Nat):List (List Bool):=(List.range n).map fun i=>zbl n (RP nx i)
theorem zl8:(zeM nx n).length=n:=by simp [zeM]
theorem zgL (h:i<(zeM nx n).length):(zeM nx n)[i]=zbl n (RP nx i):=by simp [zeM]
theorem zon (h:i<(zeM nx n).length) {x:Nat} (hx:x<((zeM nx n)[i]).length):((zeM nx n)[i])[x]=true↔RP nx i x:=by
 rw [←zaM hx,zgL,zaB]
 rw [zgL,zaj] at hx
 exact ⟨fun h=>h.2,fun h=>⟨hx,h⟩⟩
theorem zrm (hn:∀ i j,j∈nx i→i<n∧j<n):zbV nx n n 0 0=zeM nx n:=List.map_congr_left fun i hi=>zaK fun x hx=>by
 rw [if_neg (by omega)]
 exact FWy.iff hn
theorem zsI:nxA n []=fun _=>[]:=by
 funext i
 unfold nxA zaS
 rw [List.filter_eq_nil_iff]
 intro j _ h
 simp at h
theorem zl9 {a:DArc} (hf:a.fr=(i:Int)) (ht:a.to=(k:Int)) (hi:i<n) (hk:k<n) {x y:Nat}:y∈nxA n (A++[a]) x↔y∈nxA n A x∨(x=i∧y=k):=by
 unfold nxA
 simp only [zaE,List.mem_append,List.mem_singleton,DArc.ext_iff,hf,ht]
 constructor
 · rintro ⟨h1,h2,h3 | ⟨h3,h4⟩⟩
   · exact .inl ⟨h1,h2,h3⟩
   exact .inr ⟨Int.ofNat_inj.1 h3,Int.ofNat_inj.1 h4⟩
 rintro (⟨h1,h2,h3⟩ | ⟨rfl,rfl⟩)
 · exact ⟨h1,h2,.inl h3⟩
 exact ⟨hk,hi,.inr ⟨rfl,rfl⟩⟩
theorem zpb:List.replicate n (List.replicate n false)=zbV (nxA n []) n 0 0 0:=by
 refine List.ext_getElem (by simp [zbV]) fun i h1 h2=>?_
 rw [zbW,List.getElem_replicate]
 refine zbH (by simp) fun j _=>?_
 rw [if_neg (by omega),zsI]
 simp [FWy,zbj]
theorem znc {a:DArc} (hf:a.fr=(i:Int)) (ht:a.to=(k:Int)) (hi:i<n) (hk:k<n) (h:i<(zbV (nxA n A) n 0 0 0).length) :
   (zbV (nxA n A) n 0 0 0).set i ((zbV (nxA n A) n 0 0 0)[i].set k true)=zbV (nxA n (A++[a])) n 0 0 0:=by
 refine List.ext_getElem (by simp [zbV]) fun x h1 h2=>?_
 rw [List.getElem_set]
 by_cases hx:i=x
 · subst hx
   rw [if_pos rfl,zbW,zbW,zkM hk]
   refine zaK fun j _=>?_
   rw [if_neg (by omega)]
   rw [zkL,zkL,zl9 hf ht hi hk]
   exact ⟨fun h=>h.elim .inl fun h=>.inr ⟨rfl,h⟩,fun h=>h.elim .inl fun h=>.inr h.2⟩
 rw [if_neg hx,zbW,zbW]
 refine zaK fun j _=>?_
 rw [if_neg (by omega)]
 rw [zkL,zkL,zl9 hf ht hi hk]
 exact ⟨.inl,fun h=>h.elim id fun h=>absurd h.1.symm hx⟩
end
section
variable {n i j f:Nat} {way:Nat→Nat→Prop} {told:Nat→Prop}
def OkK (way:Nat→Nat→Prop) (told:Nat→Prop) (i j:Nat):Prop:=¬told i∧∀ x,x<j→way i x→way x i∨told x
theorem zrn (hi:i<n):OkK way told i n↔OkC n way told i:=⟨fun h=>⟨hi,h⟩,fun h=>h.2⟩
theorem zsJ:OkK way told i (j+1)↔OkK way told i j∧(way i j→way j i∨told j):=by
 constructor
 · rintro ⟨h1,h2⟩;exact ⟨⟨h1,fun x hx=>h2 x (by omega)⟩,h2 j (by omega)⟩
 rintro ⟨⟨h1,h2⟩,h3⟩
 refine ⟨h1,fun x hx=>?_⟩
 rcases Nat.lt_or_eq_of_le (Nat.lt_succ_iff.1 hx) with h | rfl
 · exact h2 x h
 exact h3
def ziU (way:Nat→Nat→Prop) (told:Nat→Prop) (i j x:Nat):Prop:=told x∨(x<j∧zbF way i x)
theorem zpc:zbl n told=zbl n (ziU way told i 0):=zaK fun x _=>⟨.inl,fun h=>h.elim id fun h=>by omega⟩
theorem zro:zbl n (ziU way told i n)=zbl n (zgJ way told i):=zaK fun x hx=>⟨fun h=>h.elim .inl fun h=>.inr h.2,fun h=>h.elim .inl fun h=>.inr ⟨hx,h⟩⟩
theorem zma (hj:j<n) (h:zbF way i j):(zbl n (ziU way told i j)).set j true=zbl n (ziU way told i (j+1)):=by
 rw [zkM hj]
 refine zaK fun x _=>?_
 unfold ziU
 constructor
 · rintro ((h1 | h1) | rfl)
   · exact .inl h1
   · exact .inr ⟨by omega,h1.2⟩
   exact .inr ⟨by omega,h⟩
 rintro (h1 | ⟨h1,h2⟩)
 · exact .inl (.inl h1)
 rcases Nat.lt_or_eq_of_le (Nat.lt_succ_iff.1 h1) with h3 | h3
 · exact .inl (.inr ⟨h3,h2⟩)
 exact .inr h3
theorem zsK (h:¬zbF way i j):zbl n (ziU way told i j)=zbl n (ziU way told i (j+1)):=by
 refine zaK fun x _=>?_
 unfold ziU
 constructor
 · rintro (h1 | h1)
   · exact .inl h1
   exact .inr ⟨by omega,h1.2⟩
 rintro (h1 | ⟨h1,h2⟩)
 · exact .inl h1
 rcases Nat.lt_or_eq_of_le (Nat.lt_succ_iff.1 h1) with h3 | h3
 · exact .inr ⟨h3,h2⟩
 subst h3;exact absurd h2 h
end
def F81 (a0 a1:Value) (w:World) (R:VW):Prop:=
 oP (Instr.buildSlice 78 0 #[]) w fun x11 w=>
 LOOPI [5,6] [x11,(iV 0)] w fun u3 w next3=>
 rC (u3 6) a0 w fun x14=>
 BR x14
 (oP (Instr.makeSlice 82 a0 a0) w fun x19 w=>
 oP (Instr.buildSlice 78 1 #[(0,x19)]) w fun x20 w=>
 oP (Builtin.append_ #[78,78] 78 [(u3 5),x20].toArray) w fun x21 w=>
 rA (u3 6) (iV 1) w fun x16=>
 next3 [x21,x16] w)
 (LOOPI [7] [(iV 0)] w fun u7 w next7=>
 rN 86 3 a1 w fun x24=>
 rC (u7 7) x24 w fun x25=>
 BR x25
 ((fun w=>rX 86 a1 (u7 7) w fun x31=>
 rF 133 x31 0 w fun x32=>
 rL 3 x32 w fun x33=>
 rX 78 (u3 5) x33 w fun x34=>
 rL 82 x34 w fun x35=>
 rX 86 a1 (u7 7) w fun x38=>
 rF 133 x38 1 w fun x39=>
 rL 3 x39 w fun x40=>
 rX 82 x35 x40 w fun x41=>
 oS 4 x41 (Value.bool true) w fun w=>
 rA (u7 7) (iV 1) w fun x27=>
 next7 [x27] w) (World.drew1 w))
 (LOOPI [8] [(iV 0)] w fun u11 w next11=>
 rC (u11 8) a0 w fun x44=>
 BR x44
 (LOOPI [9] [(iV 0)] w fun u14 w next14=>
 rC (u14 9) a0 w fun x49=>
 BR x49
 (LOOPI [10] [(iV 0)] w fun u17 w next17=>
 rC (u17 10) a0 w fun x54=>
 BR x54
 (rX 78 (u3 5) (u14 9) w fun x58=>
 rL 82 x58 w fun x59=>
 rX 82 x59 (u11 8) w fun x61=>
 rL 4 x61 w fun x62=>
 BR x62
 (rX 78 (u3 5) (u11 8) w fun x68=>
 rL 82 x68 w fun x69=>
 rX 82 x69 (u17 10) w fun x71=>
 rL 4 x71 w fun x72=>
 BR x72
 (rX 78 (u3 5) (u14 9) w fun x75=>
 rL 82 x75 w fun x76=>
 rX 82 x76 (u17 10) w fun x78=>
 oS 4 x78 (Value.bool true) w fun w=>
 rA (u17 10) (iV 1) w fun x65=>
 next17 [x65] w)
 (rA (u17 10) (iV 1) w fun x65=>
 next17 [x65] w))
 (rA (u14 9) (iV 1) w fun x51=>
 next14 [x51] w))
 (rA (u14 9) (iV 1) w fun x51=>
 next14 [x51] w))
 (rA (u11 8) (iV 1) w fun x46=>
 next11 [x46] w))
 (R (u3 5) w)))
def cfg81:Cfg:=⟨extL,[],[(3,4190304,[5,6]),(7,4398042316928,[7]),(11,604462909802916540843776,[8]),(14,604462909666577098999296,[9]),(17,604462905303714959983616,[10])],[(9,[0,1,2,3,4,5,6,7,8,9,10,11,12,13,14],0)],[],[],[]⟩
theorem F81_call {a0 a1:Value} {w:World} {R:VW} (h:F81 a0 a1 w R):cL 81 [a0,a1] w R:=co (g:=cfg81) Tryz.func81 (by kernel_rfl) (by kernel_rfl) (by kernel_rfl) h
open Rep (rep)
theorem zvW:zcm Tryz.prog 4=some [.bool false]:=by kernel_rfl
structure RB (w0 w:World) (v:Value) (l:List (List Bool)):Prop where
 ext:Ext w0 w
 own:Own w0.heap.size w v l
section
variable {w0 w w' w1:World} {v:Value} {l:List (List Bool)} {i j m n:Nat}
theorem RB.step (h:RB w0 w v l) (hx:Ext w w'):RB w0 w' v l:=⟨h.ext.trans hx,h.own.ext hx⟩
theorem zhf {K:Value→Prop} (h:Is w1 v l) (hx:Ext w1 w) (hi:i<l.length) (hj:j<l[i].length) (k:K (.bool l[i][j])) :
   RD Tryz.prog (Instr.indexAt 78 v (.int .i64 (i:Int))) w fun a=>RD Tryz.prog (Instr.loadAt 82 a) w fun b=>RD Tryz.prog (Instr.indexAt 82 b (.int .i64 (j:Int))) w fun c=>RD Tryz.prog (Instr.loadAt 4 c) w K:=
 zad u78 zep h hi fun b o hA=>zac zep hA hx fun v2 h2=>zad u82 ty4 h2 hj fun b2 o2 hA2=>zaw ty4 hA2 hx k
theorem RB.set {K:World→Prop} (h:RB w0 w v l) (hi:i<l.length) (hj:j<l[i].length) (k:∀ w',RB w0 w' v (l.set i (l[i].set j true))→K w') :
   RD Tryz.prog (Instr.indexAt 78 v (.int .i64 (i:Int))) w fun a=>RD Tryz.prog (Instr.loadAt 82 a) w fun b=>RD Tryz.prog (Instr.indexAt 82 b (.int .i64 (j:Int))) w fun c=>OPU Tryz.prog (Instr.storeAt 4 c (.bool true)) w K:=by
 obtain ⟨F,hM,hF⟩:=h.own
 refine zdP u78 zep hM hi fun b o G hL=>?_
 refine zhX zep hL fun b3 hM3 hG3 hb3=>?_
 refine zdP u82 ty4 hM3 hj fun b4 o4 G4 hL4=>?_
 refine zdz (upd:=fun y=>l[i].set j y) (y':=true) ty4 hL4 zhY fun w2 F2 hc2 hm2 hF2=>?_
 obtain ⟨F5,hm5,hF5⟩:=hb3 w2 F2 _ hc2 hm2 fun c hc=>.inl (hF2 c hc)
 refine k w2 ⟨h.ext.chg_trans (hc2.mono hG3) hF,F5,hm5,fun c hc=>?_⟩
 rcases hF5 c hc with h6 | h6
 · exact hF c h6
 exact hF c (hG3 c (hF2 c h6))
end
theorem ziV {w W1:World} {v1:Value} {n:Nat} {A:List DArc} (h1:Is W1 v1 A) (e1:Ext W1 w) (hn:n≤60) (hA:∀ a∈A,(0≤a.fr∧a.fr<n)∧0≤a.to∧a.to<n) (hl:A.length≤2000) :
   CALL Tryz.prog 81 [.int .i64 (n:Int),v1] w fun r w'=>Ext w w'∧Own w.heap.size w' r (zeM (nxA n A) n):=by
 refine F81_call ?_
 unfold F81
 refine zaY (α:=List Bool) u78 zep fun a8 w1 hx1 hr1=>?_
 refine zaq n (fun k us w'=>∃ out,us=[out,.int .i64 (k:Int)]∧k≤n∧Ext w w'∧RowI w.heap.size w'.heap.size 82 w' out (List.replicate k (List.replicate n false))) 0 (Nat.zero_le _) ⟨_,rfl,Nat.zero_le _,hx1,zcf _ _ _ _ _⟩ ?_
 rintro k mk q w2 hkm ⟨out,hq,hkl,hx2,hr2⟩
 obtain ⟨hq1,hq2⟩:=zb1 hq;clear hq
 rw [hq1,hq2]
 have hs2:=hx2.size
 refine zah ?_
 refine br (fun hlt=>?_) (fun hge=>?_)
 · refine zfj (α:=Bool) u82 ty4 rfl rfl zvW (by omega) (by omega) fun w3 hx3 hr3=>?_
   have hs3:=hx3.size
   refine zbK (x:=List.replicate n false) u78 zep z82 zvC (by decide) (hr2.ext hx3) (by omega) hr3.own (Nat.le_refl _) (by omega) (by rw [zan,List.length_replicate];omega) (by rw [List.length_replicate];omega) fun v54 w9 hc9 hr9=>?_
   refine zaf (by omega) ?_
   refine ⟨mk-1,by omega,k+1,by omega,v54,rfl,by omega,(hx2.trans hx3).chgI hc9 (Nat.le_refl _),?_⟩
   rw [List.replicate_succ']
   exact hr9
 have hke:k=n:=by omega
 rw [hke,zpb] at hr2
 have hR2:RB w w2 out (zbV (nxA n []) n 0 0 0):=⟨hx2,hr2.own.own⟩
 clear hr2
 refine zaq A.length (fun k us w'=>us=[.int .i64 (k:Int)]∧k≤A.length∧RB w w' out (zbV (nxA n (A.take k)) n 0 0 0)) 0 (Nat.zero_le _) ⟨rfl,Nat.zero_le _,by rw [List.take_zero];exact hR2⟩ ?_
 rintro k mk q w3 hkm ⟨hq,hkl,hR3⟩
 simp only [List.map_cons,List.map_nil,List.cons.injEq,and_true] at hq
 rw [hq]
 refine zag u86 h1 ?_
 refine zah ?_
 refine br (fun hlt=>?_) (fun hge=>?_)
 · have hk:k<A.length:=by omega
   have hxd:=zak w3
   generalize World.drew1 w3=w4 at *
   have hR4:=hR3.step hxd
   obtain ⟨⟨hf0,hf1⟩,ht0,ht1⟩:=hA _ (List.getElem_mem hk)
   obtain ⟨i,hi⟩:∃ i:Nat,A[k].fr=(i:Int):=⟨A[k].fr.toNat,by omega⟩
   obtain ⟨j,hj⟩:∃ j:Nat,A[k].to=(j:Int):=⟨A[k].to.toNat,by omega⟩
   refine zad u86 zdc h1 hk fun b3 o3 hA3=>?_
   refine zaa zh2 ?_
   refine zab ty3 (zfd hA3) (e1.trans hR4.ext) fun _=>?_
   rw [hi]
   obtain ⟨F,hM,hF⟩:=hR4.own
   have hil:i<(zbV (nxA n (A.take k)) n 0 0 0).length:=by rw [zl7];omega
   refine zdP u78 zep hM hil fun b o G hL=>?_
   refine zhX zep hL fun b5 hM5 hG5 hb5=>?_
   refine zad u86 zdc h1 hk fun b6 o6 hA6=>?_
   refine zaa zh3 ?_
   refine zab ty3 (zfe hA6) (e1.trans hR4.ext) fun _=>?_
   rw [hj]
   refine zdP u82 ty4 hM5 (k:=j) (by rw [zbW,zaj];omega) fun b7 o7 G7 hL7=>?_
   refine zdz (upd:=fun y=>(zbV (nxA n (A.take k)) n 0 0 0)[i].set j y) (y':=true) ty4 hL7 zhY fun w5 F5 hc5 hm5 hF5=>?_
   obtain ⟨F6,hm6,hF6⟩:=hb5 w5 F5 _ hc5 hm5 fun c hc=>.inl (hF5 c hc)
   have hR6:RB w w5 out ((zbV (nxA n (A.take k)) n 0 0 0).set i ((zbV (nxA n (A.take k)) n 0 0 0)[i].set j true)):=⟨hR4.ext.chg_trans (hc5.mono hG5) hF,F6,hm6,fun c hc=>by
     rcases hF6 c hc with h6 | h6
     · exact hF c h6
     exact hF c (hG5 c (hF5 c h6))⟩
   rw [znc hi hj (by omega) (by omega)] at hR6
   refine zaf (by omega) ?_
   refine ⟨mk-1,by omega,k+1,by omega,rfl,by omega,?_⟩
   rw [List.take_succ_eq_append_getElem hk]
   exact hR6
 have hke:k=A.length:=by omega
 rw [hke,List.take_length] at hR3
 refine zaq n (fun m us w'=>us=[.int .i64 (m:Int)]∧m≤n∧RB w w' out (zbV (nxA n A) n m 0 0)) 0 (Nat.zero_le _) ⟨rfl,Nat.zero_le _,hR3⟩ ?_
 rintro m mm q3 w4 hmm ⟨hq3,hml,hR4⟩
 simp only [List.map_cons,List.map_nil,List.cons.injEq,and_true] at hq3
 rw [hq3]
 refine zah ?_
 refine br (fun hlt3=>?_) (fun hge3=>?_)
 case refine_2=>
   have hme:m=n:=by omega
   rw [hme,zrm zty] at hR4
   exact ⟨hR4.ext,hR4.own⟩
 have hm:m<n:=by omega
 refine zaq n (fun k us w'=>us=[.int .i64 (k:Int)]∧k≤n∧RB w w' out (zbV (nxA n A) n m k 0)) 0 (Nat.zero_le _) ⟨rfl,Nat.zero_le _,hR4⟩ ?_
 rintro i mi q4 w5 hmi ⟨hq4,hil,hR5⟩
 simp only [List.map_cons,List.map_nil,List.cons.injEq,and_true] at hq4
 rw [hq4]
 refine zah ?_
 refine br (fun hlt4=>?_) (fun hge4=>?_)
 case refine_2=>
   have hie:i=n:=by omega
   rw [hie,zo9] at hR5
   refine zaf (by omega) ?_
   exact ⟨mm-1,by omega,m+1,by omega,rfl,by omega,hR5⟩
 have hi:i<n:=by omega
 refine zaq n (fun j us w'=>us=[.int .i64 (j:Int)]∧j≤n∧(0<j→FWy (nxA n A) m i m)∧RB w w' out (zbV (nxA n A) n m i j)) 0 (Nat.zero_le _) ⟨rfl,Nat.zero_le _,fun h=>absurd h (by omega),hR5⟩ ?_
 rintro j mj q5 w6 hmj ⟨hq5,hjl,hpos,hR6⟩
 simp only [List.map_cons,List.map_nil,List.cons.injEq,and_true] at hq5
 rw [hq5]
 refine zah ?_
 refine br (fun hlt5=>?_) (fun hge5=>?_)
 case refine_2=>
   have hje:j=n:=by omega
   rw [hje,zrk] at hR6
   refine zaf (by omega) ?_
   exact ⟨mi-1,by omega,i+1,by omega,rfl,by omega,hR6⟩
 have hj:j<n:=by omega
 have hL6:(zbV (nxA n A) n m i j).length=n:=zl7
 have hl6:∀ x (hx:x<(zbV (nxA n A) n m i j).length),((zbV (nxA n A) n m i j)[x]).length=n:=fun x hx=>by rw [zbW,zaj]
 refine zhf (i:=i) (j:=m) hR6.own.is (Ext.refl _) (by omega) (by rw [hl6];omega) ?_
 have hat:=zom (nx:=nxA n A) (n:=n) (m:=m) (k:=i) (j:=j) (i:=i) (by omega) (x:=m) (by rw [hl6];omega)
 have hfw:FWy (nxA n A) (if i<i∨(i=i∧m<j) then m+1 else m) i m↔FWy (nxA n A) m i m:=by
   split
   · exact zsF
   exact .rfl
 rw [hfw] at hat
 refine zbw (fun hb=>?_) (fun hb=>?_)
 case refine_2=>
   have hno:¬FWy (nxA n A) m i m:=fun h=>by rw [hat.2 h] at hb;cases hb
   have hj0:j=0:=by
     rcases Nat.eq_zero_or_pos j with h | h
     · exact h
     exact absurd (hpos h) hno
   subst hj0
   rw [zpa hno] at hR6
   refine zaf (by omega) ?_
   exact ⟨mi-1,by omega,i+1,by omega,rfl,by omega,hR6⟩
 have hyes:=hat.1 hb
 refine zhf (i:=m) (j:=j) hR6.own.is (Ext.refl _) (by omega) (by rw [hl6];omega) ?_
 have hat2:=zom (nx:=nxA n A) (n:=n) (m:=m) (k:=i) (j:=j) (i:=m) (by omega) (x:=j) (by rw [hl6];omega)
 have hfw2:FWy (nxA n A) (if m<i∨(m=i∧j<j) then m+1 else m) m j↔FWy (nxA n A) m m j:=by
   split
   · exact zsG
   exact .rfl
 rw [hfw2] at hat2
 refine zbw (fun hb2=>?_) (fun hb2=>?_)
 · have hy2:=hat2.1 hb2
   refine hR6.set (i:=i) (j:=j) (by omega) (by rw [hl6];omega) fun w7 hR7=>?_
   rw [zrl hi hj hyes hy2] at hR7
   refine zaf (by omega) ?_
   exact ⟨mj-1,by omega,j+1,by omega,rfl,by omega,fun _=>hyes,hR7⟩
 have hn2:¬FWy (nxA n A) m m j:=fun h=>by rw [hat2.2 h] at hb2;cases hb2
 rw [zsH hn2] at hR6
 refine zaf (by omega) ?_
 exact ⟨mj-1,by omega,j+1,by omega,rfl,by omega,fun _=>hyes,hR6⟩
theorem zjP {w:World} {v:Value} {x:DArc}:Is w v x↔v=.agg #[.int .i64 x.fr,.int .i64 x.to]∧I64 x.fr∧I64 x.to:=by
 constructor
 · rintro ⟨F,cs,⟨F1,F2,c1,c2,rfl,rfl,⟨rfl,rfl,h1⟩,⟨rfl,rfl,h2⟩⟩,rfl⟩
   exact ⟨rfl,h1,h2⟩
 rintro ⟨rfl,h1,h2⟩
 exact ⟨[],_,⟨[],[],[.int .i64 x.fr],[.int .i64 x.to],rfl,rfl,⟨rfl,rfl,h1⟩,⟨rfl,rfl,h2⟩⟩,rfl⟩
set_option maxRecDepth 20000 in
theorem zpd {w w0 w1:World} {K:Value→Prop} {x y:Operand} {v1 v2:Value} {a b:DArc} (h1:Is w0 v1 a) (h2:Is w1 v2 b) (k:K (.bool (decide (a=b)))):RD Tryz.prog (bin .eql 133 x y v1 v2) w K:=by
  obtain ⟨rfl,_⟩:=zjP.1 h1
  obtain ⟨rfl,_⟩:=zjP.1 h2
  refine za0 (fun w' _=>?_) k
  have hg:Tryz.prog.eqGuardType Tryz.prog.depth 133=false:=by kernel_rfl
  have e0:∀ xs ys w,(eqGuard .eql 133 x y (.agg xs) (.agg ys)).run Tryz.prog w=.ok () w:=fun xs ys w=>run_eqGuard_agg (P:=Tryz.prog) w .eql 133 x y xs ys hg
  have e1:∀ xs ys w,(Op.equalIn 10000 133 (.agg xs) (.agg ys)).run Tryz.prog w=(Op.eqFields 9999 xs ys (Tryz.prog.fieldsOf 133).toList).run Tryz.prog w:=fun xs ys w=>run_equalIn_struct w 9999 133 xs ys (by kernel_rfl) (by kernel_rfl)
  have e2:(Tryz.prog.fieldsOf 133).toList.map (fun f=>(f.name,f.type,f.offset))=[("From", 3,0),("To", 3,1)]:=by kernel_rfl
  have e3:∀ (c d:Int) (w:World),(Op.equalIn 9999 3 (.int .i64 c) (.int .i64 d)).run Tryz.prog w=.ok (c == d) w:=fun c d w=>run_equalIn_int w 9998 3 .i64 .i64 c d u3
  have hd:(a=b)↔(a.fr=b.fr∧a.to=b.to):=DArc.ext_iff
  generalize hF:(Tryz.prog.fieldsOf 133).toList=fs at e1 e2
  match fs,e2 with
  | [f0,f1],e2=>
    simp only [List.map_cons,List.map_nil,List.cons.injEq,Prod.mk.injEq,and_true] at e2
    obtain ⟨⟨n0,t0,o0⟩,⟨n1,t1,o1⟩⟩:=e2
    have p0:∀ (a b:Value) (w:World),(part 3 #[a,b] 0).run Tryz.prog w=.ok a w:=fun a b w=>by simp [part,zbI ty3]
    have p1:∀ (a b:Value) (w:World),(part 3 #[a,b] 1).run Tryz.prog w=.ok b w:=fun a b w=>by simp [part,zbI ty3]
    simp only [bin,Sem.run_bind,e0,Result.andThen_ok,run_eql_struct,e1,Op.eqFields,n0,n1,t0,t1,o0,o1]
    simp only [ne_eq,String.reduceEq,not_false_eq_true,if_true,Sem.run_bind,p0,p1,Result.andThen_ok,e3,Sem.run_ite,Sem.run_pure,hd]
    by_cases x0:a.fr=b.fr<;>by_cases x1:a.to=b.to<;>simp [x0,x1]
set_option maxRecDepth 20000 in
theorem zpe {w w0 w1:World} {K:Value→Prop} {x y:Operand} {v1 v2:Value} {a b:DArc} (h1:Is w0 v1 a) (h2:Is w1 v2 b) (k:K (.bool (decide (a≠b)))):RD Tryz.prog (bin .neq 133 x y v1 v2) w K:=by
  obtain ⟨rfl,_⟩:=zjP.1 h1
  obtain ⟨rfl,_⟩:=zjP.1 h2
  refine za0 (fun w' _=>?_) k
  have hg:Tryz.prog.eqGuardType Tryz.prog.depth 133=false:=by kernel_rfl
  have e0:∀ xs ys w,(eqGuard .neq 133 x y (.agg xs) (.agg ys)).run Tryz.prog w=.ok () w:=fun xs ys w=>run_eqGuard_agg (P:=Tryz.prog) w .neq 133 x y xs ys hg
  have e1:∀ xs ys w,(Op.equalIn 10000 133 (.agg xs) (.agg ys)).run Tryz.prog w=(Op.eqFields 9999 xs ys (Tryz.prog.fieldsOf 133).toList).run Tryz.prog w:=fun xs ys w=>run_equalIn_struct w 9999 133 xs ys (by kernel_rfl) (by kernel_rfl)
  have e2:(Tryz.prog.fieldsOf 133).toList.map (fun f=>(f.name,f.type,f.offset))=[("From", 3,0),("To", 3,1)]:=by kernel_rfl
  have e3:∀ (c d:Int) (w:World),(Op.equalIn 9999 3 (.int .i64 c) (.int .i64 d)).run Tryz.prog w=.ok (c == d) w:=fun c d w=>run_equalIn_int w 9998 3 .i64 .i64 c d u3
  have hd:(a=b)↔(a.fr=b.fr∧a.to=b.to):=DArc.ext_iff
  generalize hF:(Tryz.prog.fieldsOf 133).toList=fs at e1 e2
  match fs,e2 with
  | [f0,f1],e2=>
    simp only [List.map_cons,List.map_nil,List.cons.injEq,Prod.mk.injEq,and_true] at e2
    obtain ⟨⟨n0,t0,o0⟩,⟨n1,t1,o1⟩⟩:=e2
    have p0:∀ (a b:Value) (w:World),(part 3 #[a,b] 0).run Tryz.prog w=.ok a w:=fun a b w=>by simp [part,zbI ty3]
    have p1:∀ (a b:Value) (w:World),(part 3 #[a,b] 1).run Tryz.prog w=.ok b w:=fun a b w=>by simp [part,zbI ty3]
    simp only [bin,Sem.run_bind,e0,Result.andThen_ok,run_neq_struct,e1,Op.eqFields,n0,n1,t0,t1,o0,o1]
    simp only [ne_eq,String.reduceEq,not_false_eq_true,if_true,Sem.run_bind,p0,p1,Result.andThen_ok,e3,Sem.run_ite,Sem.run_pure,ne_eq,hd]
    by_cases x0:a.fr=b.fr<;>by_cases x1:a.to=b.to<;>simp [x0,x1]
theorem zje {l:List DArc} {k:Nat} {y:DArc} (hk:k<l.length) (h:y∉l.take k) (c:¬l[k]=y):y∉l.take (k+1):=by
 rw [List.take_succ_eq_append_getElem hk]
 simp only [List.mem_append,List.mem_cons,List.not_mem_nil,or_false,not_or]
 exact ⟨h,fun e=>c e.symm⟩
def F155 (a0 a1:Value) (w:World) (R:VW):Prop:=
 oP (Instr.box 133 a1) w fun x3 w=>
 rN 86 3 a0 w fun x7=>
 LOOPI [8] [(iV 0)] w fun u2 w next2=>
 rC (u2 8) x7 w fun x9=>
 BR x9
 ((fun w=>rL 133 x3 w fun x11=>
 rX 86 a0 (u2 8) w fun x14=>
 rL 133 x14 w fun x15=>
 rB .eql 133 T0 T0 x11 x15 w fun x16=>
 BR x16
 (R (u2 8) w)
 (rA (u2 8) (iV 1) w fun x18=>
 next2 [x18] w)) (World.drew1 w))
 (R (iV (-1)) w)
def cfg155:Cfg:=⟨extL,[],[(2,524080,[8])],[(4,[0,1,2,3,4,5],0)],[],[],[]⟩
theorem F155_call {a0 a1:Value} {w:World} {R:VW} (h:F155 a0 a1 w R):cL 155 [a0,a1] w R:=co (g:=cfg155) Tryz.func155 (by kernel_rfl) (by kernel_rfl) (by kernel_rfl) h
theorem znd {w:World} {v0:Value} {W0:World} {l:(List DArc)} {v1:Value} {W1:World} {y:DArc}  (h0:Is W0 v0 l) (e0:Ext W0 w) (h1:Is W1 v1 y) (e1:Ext W1 w)  :
   CALL Tryz.prog 155 [v0,v1] w fun r w'=>Ext w w'∧(∃ n:Int,r=.int .i64 n∧(0≤n↔y∈l)):=by
 refine F155_call ?_
 unfold F155
 refine zaD zdc rfl h1 e1 fun w1_ hx1_ hA3 hV3=>?_
 have hln7:=zam h0
 refine zag u86 h0 ?_
 refine zaq (l.length) (fun k us w'=>us=[.int .i64 (k:Int)]∧Ext w1_ w'∧(y∉l.take k)) (0) (by omega) ⟨by simp,Ext.refl w1_,by simp⟩ ?_
 rintro k m2 uu2 w2_ hk2 ⟨hu,hx2_,hinv⟩
 simp only [List.map_cons,List.map_nil,List.cons.injEq,and_true] at hu
 try rw [hu]
 try clear hu
 refine zah ?_
 refine br (fun c1=>?_) (fun c1=>?_)
 · have hx3_:=zak w2_
   refine zbC hV3 (hx2_.trans hx3_) ?_
   refine zad u86 zdc h0 (by omega) fun b14 o14 h14=>?_
   refine zac zdc h14 (e0.trans (hx1_.trans (hx2_.trans hx3_))) fun v15 h15=>?_
   refine zpd h1 h15 ?_
   refine br (fun c2=>?_) (fun c2=>?_)
   · refine ⟨(hx1_.trans (hx2_.trans hx3_)),?_⟩
     have:y∈l:=c2▸List.getElem_mem _
     exact ⟨_,rfl,by simp [this]⟩
   refine zaf (by omega) ?_
   refine ⟨m2-1,by omega,k+1,by omega,by simp,(hx2_.trans hx3_),?_⟩
   exact zje (by omega) hinv (fun e=>c2 e.symm)
 refine ⟨(hx1_.trans hx2_),?_⟩
 rw [List.take_of_length_le (by omega)] at hinv
 exact ⟨-1,rfl,by simp [hinv]⟩
def F105 (a0 a1:Value) (w:World) (R:VW):Prop:=
 oP (Instr.box 133 a1) w fun x3 w=>
 rL 133 x3 w fun x6=>
 cL 155 [a0,x6] w fun x7 w=>
 rB .geq 3 T0 U0 x7 (iV 0) w fun x8=>
 R x8 w
def cfg105:Cfg:=⟨extL,[],[],[],[],[],[]⟩
theorem F105_call {a0 a1:Value} {w:World} {R:VW} (h:F105 a0 a1 w R):cL 105 [a0,a1] w R:=co (g:=cfg105) Tryz.func105 (by kernel_rfl) (by kernel_rfl) (by kernel_rfl) h
theorem zjf {w:World} {v0:Value} {W0:World} {l:(List DArc)} {v1:Value} {W1:World} {y:DArc}  (h0:Is W0 v0 l) (e0:Ext W0 w) (h1:Is W1 v1 y) (e1:Ext W1 w)  :
   CALL Tryz.prog 105 [v0,v1] w fun r w'=>Ext w w'∧(r=.bool (decide (y∈l))):=by
 refine F105_call ?_
 unfold F105
 refine zaD zdc rfl h1 e1 fun w1_ hx1_ hA3 hV3=>?_
 refine zbC hV3 (Ext.refl w1_) ?_
 refine (znd h0 (e0.trans hx1_) h1 (e1.trans hx1_)).mono ?_
 rintro _ w2_ ⟨hx2_,n7,rfl,hn7⟩
 refine zb9 ?_
 refine ⟨(hx1_.trans hx2_),?_⟩
 simp [hn7]
end Go.Proofs.YtbnjpfjjmhodnaaGreatDoor
