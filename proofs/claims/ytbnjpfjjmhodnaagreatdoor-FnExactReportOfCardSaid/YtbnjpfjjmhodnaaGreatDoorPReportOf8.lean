/-
  The law FnExactReportOf of the given program returns true for every input, and its arguments read afterwards as before; the library's tables that it reads are tied to the program's text: the given statement Rows.FnExactReportOfCardSaid.
-/
import Derived.Test.YtbnjpfjjmhodnaaGreatDoorPReportOf7
set_option linter.unusedVariables false
set_option linter.unusedSimpArgs false
set_option linter.unusedSectionVars false
namespace Go.Proofs.YtbnjpfjjmhodnaaGreatDoor
open Go Go.Sh Go.Proofs
open Rep (rep)
def F80 (a0 a1:Value) (w:World) (R:VW):Prop:=
 cL 38 [a0,(iV 0),(iV 60)] w fun x7 w=>
 rD (Op.unary .not x7) w fun x8=>
 BR x8
 (R (Value.bool false) w)
 (rN 86 3 a1 w fun x11=>
 rB .gtr 3 T0 U0 x11 (iV 2000) w fun x12=>
 BR x12
 (R (Value.bool false) w)
 (LOOPI [5] [(iV 0)] w fun u4 w next4=>
 rN 86 3 a1 w fun x16=>
 rC (u4 5) x16 w fun x17=>
 BR x17
 (rX 86 a1 (u4 5) w fun x22=>
 rF 133 x22 0 w fun x23=>
 rL 3 x23 w fun x24=>
 rB .sub 3 T0 U0 a0 (iV 1) w fun x26=>
 cL 38 [x24,(iV 0),x26] w fun x27 w=>
 rD (Op.unary .not x27) w fun x28=>
 BR x28
 (R (Value.bool false) w)
 (rX 86 a1 (u4 5) w fun x32=>
 rF 133 x32 1 w fun x33=>
 rL 3 x33 w fun x34=>
 rB .sub 3 T0 U0 a0 (iV 1) w fun x36=>
 cL 38 [x34,(iV 0),x36] w fun x37 w=>
 rD (Op.unary .not x37) w fun x38=>
 BR x38
 (R (Value.bool false) w)
 (rA (u4 5) (iV 1) w fun x19=>
 next4 [x19] w)))
 (R (Value.bool true) w)))
def cfg80:Cfg:=⟨extL,[],[(4,1099511611440,[5])],[],[],[],[]⟩
theorem F80_call {a0 a1:Value} {w:World} {R:VW} (h:F80 a0 a1 w R):cL 80 [a0,a1] w R:=co (g:=cfg80) Tryz.func80 (by kernel_rfl) (by kernel_rfl) (by kernel_rfl) h
def F41 (a0 a1:Value) (w:World) (R:VW):Prop:=
 oP (Instr.buildSlice 45 0 #[]) w fun x14 w=>
 cL 80 [a0,a1] w fun x17 w=>
 rD (Op.unary .not x17) w fun x18=>
 BR x18
 (R x14 w)
 (cL 81 [a0,a1] w fun x22 w=>
 oP (Instr.makeSlice 82 a0 a0) w fun x24 w=>
 LOOPI [5,8] [x14,a0] w fun u7 w next7=>
 rB .gtr 3 T0 U0 (u7 8) (iV 0) w fun x27=>
 BR x27
 (LOOPI [5,8,9] [(u7 5),(u7 8),(iV 0)] w fun u9 w next9=>
 rC (u9 9) a0 w fun x30=>
 BR x30
 (rX 82 x24 (u9 9) w fun x35=>
 rL 4 x35 w fun x36=>
 rD (Op.unary .not x36) w fun x37=>
 JOIN [10] (fun J16=>
 LOOPI [10,11] [x37,(iV 0)] w fun u13 w next13=>
 rC (u13 11) a0 w fun x40=>
 BR x40
 (BR (u13 10)
 (rX 78 x22 (u9 9) w fun x48=>
 rL 82 x48 w fun x49=>
 rX 82 x49 (u13 11) w fun x51=>
 rL 4 x51 w fun x52=>
 rD (Op.unary .not x52) w fun x53=>
 BR x53
 (rA (u13 11) (iV 1) w fun x45=>
 next13 [(Value.bool true),x45] w)
 (rX 78 x22 (u13 11) w fun x57=>
 rL 82 x57 w fun x58=>
 rX 82 x58 (u9 9) w fun x60=>
 rL 4 x60 w fun x61=>
 BR x61
 (rA (u13 11) (iV 1) w fun x45=>
 next13 [(Value.bool true),x45] w)
 (rX 82 x24 (u13 11) w fun x66=>
 rL 4 x66 w fun x67=>
 rA (u13 11) (iV 1) w fun x45=>
 next13 [x67,x45] w)))
 (J16 [(u13 10)] w))
 (J16 [(u13 10)] w)) (fun u16 w=>
 rD (Op.unary .not (u16 10)) w fun x70=>
 BR x70
 (rA (u9 9) (iV 1) w fun x32=>
 next9 [(u9 5),(u9 8),x32] w)
 (oP (Instr.buildSlice 23 0 #[]) w fun x71 w=>
 LOOPI [12,13] [x71,(iV 0)] w fun u19 w next19=>
 rC (u19 13) a0 w fun x74=>
 BR x74
 (rB .eql 3 T0 T0 (u19 13) (u9 9) w fun x79=>
 BR x79
 (oP (Instr.buildSlice 23 1 #[(0,(u19 13))]) w fun x100 w=>
 oP (Builtin.append_ #[23,23] 23 [(u19 12),x100].toArray) w fun x101 w=>
 rX 82 x24 (u19 13) w fun x104=>
 oS 4 x104 (Value.bool true) w fun w=>
 rA (u19 13) (iV 1) w fun x76=>
 next19 [x101,x76] w)
 (rX 78 x22 (u9 9) w fun x83=>
 rL 82 x83 w fun x84=>
 rX 82 x84 (u19 13) w fun x86=>
 rL 4 x86 w fun x87=>
 GBR x87
 (rX 78 x22 (u19 13) w fun x91=>
 rL 82 x91 w fun x92=>
 rX 82 x92 (u9 9) w fun x94=>
 rL 4 x94 w fun x95=>
 BR x95
 (oP (Instr.buildSlice 23 1 #[(0,(u19 13))]) w fun x100 w=>
 oP (Builtin.append_ #[23,23] 23 [(u19 12),x100].toArray) w fun x101 w=>
 rX 82 x24 (u19 13) w fun x104=>
 oS 4 x104 (Value.bool true) w fun w=>
 rA (u19 13) (iV 1) w fun x76=>
 next19 [x101,x76] w)
 (rA (u19 13) (iV 1) w fun x76=>
 next19 [(u19 12),x76] w))
 (rA (u19 13) (iV 1) w fun x76=>
 next19 [(u19 12),x76] w)
 (BR undef
 (BR undef
 (oP (Instr.buildSlice 23 1 #[(0,(u19 13))]) w fun x100 w=>
 oP (Builtin.append_ #[23,23] 23 [(u19 12),x100].toArray) w fun x101 w=>
 rX 82 x24 (u19 13) w fun x104=>
 oS 4 x104 (Value.bool true) w fun w=>
 rA (u19 13) (iV 1) w fun x76=>
 next19 [x101,x76] w)
 (rA (u19 13) (iV 1) w fun x76=>
 next19 [(u19 12),x76] w))
 (rA (u19 13) (iV 1) w fun x76=>
 next19 [(u19 12),x76] w))))
 (rN 23 3 (u19 12) w fun x107=>
 rB .sub 3 T0 T0 (u9 8) x107 w fun x108=>
 oP (Instr.buildSlice 45 1 #[(0,(u19 12))]) w fun x111 w=>
 oP (Builtin.append_ #[45,45] 45 [(u9 5),x111].toArray) w fun x112 w=>
 next7 [x112,x108] w))))
 (next7 [(u9 5),(u9 8)] w))
 (R (u7 5) w))
def cfg41:Cfg:=⟨extL,[(16,590295810083827747840,[10])],[(7,10384593717069655257060992591347488,[5,8]),(9,10384593717069655257060992390020896,[5,8,9]),(13,590295810083827747840,[10,11]),(19,40564819202580974365024857370624,[12,13])],[],[],[],[]⟩
theorem F41_call {a0 a1:Value} {w:World} {R:VW} (h:F41 a0 a1 w R):cL 41 [a0,a1] w R:=co (g:=cfg41) Tryz.func41 (by kernel_rfl) (by kernel_rfl) (by kernel_rfl) h
open Rep (rep)
theorem zfM {w W1:World} {v1:Value} {n:Nat} {A:List DArc} (h1:Is W1 v1 A) (e1:Ext W1 w) (hn:n≤60) (hA:∀ a∈A,(0≤a.fr∧a.fr<n)∧0≤a.to∧a.to<n) (hl:A.length≤2000) :
   CALL Tryz.prog 80 [.int .i64 (n:Int),v1] w fun r w'=>Ext w w'∧r=.bool true:=by
 refine F80_call ?_
 unfold F80
 refine l01In_ok.mono ?_
 rintro _ w1 ⟨hx1,rfl⟩
 refine zaz ?_
 refine br (fun h=>absurd ⟨by omega,by omega⟩ h) (fun _=>?_)
 refine zag u86 h1 ?_
 refine zcQ ?_
 refine br (fun h=>by omega) (fun _=>?_)
 refine zaq A.length (fun k us w'=>us=[.int .i64 (k:Int)]∧k≤A.length∧Ext w w') 0 (Nat.zero_le _) ⟨rfl,Nat.zero_le _,hx1⟩ ?_
 rintro k mk q w3 hkm ⟨hq,hkl,hx3⟩
 simp only [List.map_cons,List.map_nil,List.cons.injEq,and_true] at hq
 rw [hq]
 refine zag u86 h1 ?_
 refine zah ?_
 refine br (fun hlt=>?_) (fun hge=>?_)
 case refine_2=>exact ⟨hx3,rfl⟩
 have hk:k<A.length:=by omega
 obtain ⟨⟨hf0,hf1⟩,ht0,ht1⟩:=hA _ (List.getElem_mem hk)
 refine zad u86 zdc h1 hk fun b3 o3 hA3=>?_
 refine zaa zh2 ?_
 refine zab ty3 (zfd hA3) (e1.trans hx3) fun _=>?_
 refine zbf (by unfold I64;omega) ?_
 refine l01In_ok.mono ?_
 rintro _ w4 ⟨hx4,rfl⟩
 refine zaz ?_
 refine br (fun h=>absurd ⟨by omega,by omega⟩ h) (fun _=>?_)
 refine zad u86 zdc h1 hk fun b5 o5 hA5=>?_
 refine zaa zh3 ?_
 refine zab ty3 (zfe hA5) ((e1.trans hx3).trans hx4) fun _=>?_
 refine zbf (by unfold I64;omega) ?_
 refine l01In_ok.mono ?_
 rintro _ w6 ⟨hx6,rfl⟩
 refine zaz ?_
 refine br (fun h=>absurd ⟨by omega,by omega⟩ h) (fun _=>?_)
 refine zaf (by omega) ?_
 exact ⟨mk-1,by omega,k+1,by omega,rfl,by omega,(hx3.trans hx4).trans hx6⟩
structure CI (w1 wT w4 w:World) (tv out lv:Value) (T:List Bool) (lo hi:Nat) (L:List (List Int)) (P:List Int):Prop where
 ext:Ext w1 w
 told:OwnI w1.heap.size wT.heap.size w tv T
 s1:w1.heap.size≤wT.heap.size
 s2:wT.heap.size≤lo
 s3:hi≤w4.heap.size
 s4:w4.heap.size≤w.heap.size
 s5:wT.heap.size≤w4.heap.size
 out:RowI lo hi 23 w out L
 row:RowI w4.heap.size w.heap.size 3 w lv P
theorem CI.push {w1 wT w4 w:World} {tv out lv:Value} {T:List Bool} {lo hi j:Nat} {L:List (List Int)} {P:List Int} {K:Value→World→Prop} (h:CI w1 wT w4 w tv out lv T lo hi L P) (hj:j<T.length) (hj60:j≤60) (hP:P.length≤60)
   (k:∀ v' w',CI w1 wT w4 w' tv out v' (T.set j true) lo hi L (P++[(j:Int)])→K v' w') :
   OP Tryz.prog (Instr.buildSlice 23 1 #[(0,.int .i64 (j:Int))]) w fun s w=>OP Tryz.prog (Builtin.append_ #[23,23] 23 [lv,s].toArray) w fun x w=>RD Tryz.prog (Instr.indexAt 82 tv (.int .i64 (j:Int))) w fun a=>OPU Tryz.prog (Instr.storeAt 4 a (.bool true)) w fun w=>K x w:=by
 have hs1:=h.s1
 have hs2:=h.s2
 have hs3:=h.s3
 have hs4:=h.s4
 have hs5:=h.s5
 refine zbK (lo2:=w.heap.size) (hi2:=w.heap.size) (x:=(j:Int)) u23 ty3 z3 zc3 (by decide) h.row hs4 (zb4 _ _ (by unfold I64;omega)) (Nat.le_refl _) hs4 (by rw [zan];omega) (by omega) fun v5 w5 hc5 hr5=>?_
 have hsz5:=hc5.size
 obtain ⟨F,hM,hF⟩:=h.told.chg hc5 (by omega)
 refine zdP u82 ty4 hM hj fun b o G hL=>?_
 refine zdz (upd:=fun y=>T.set j y) (y':=true) ty4 hL zhY fun w6 F6 hc6 hm6 hF6=>?_
 have hcI:=hc6.toI hF
 have hsz6:=hcI.size
 refine k v5 w6 ⟨(h.ext.chgI hc5 (by omega)).chgI hcI (Nat.le_refl _),⟨F6,hm6,fun b hb=>hF b (hF6 b hb)⟩,hs1,hs2,hs3,by omega,hs5,(h.out.chg hc5 (by omega)).chg hcI (by omega),(hr5.chg hcI (by omega)).mono (Nat.le_refl _) hsz6⟩
theorem zsL {way:Nat→Nat→Prop} {told:Nat→Prop} {i j m:Nat} (h:OkK way told i m) (hj:j≤m):OkK way told i j:=⟨h.1,fun x hx=>h.2 x (by omega)⟩
theorem zpf {w W1:World} {v1:Value} {n:Nat} {A:List DArc} (h1:Is W1 v1 A) (e1:Ext W1 w) (hn:n≤60) (hA:∀ a∈A,(0≤a.fr∧a.fr<n)∧0≤a.to∧a.to<n) (hl:A.length≤2000) :
   CALL Tryz.prog 41 [.int .i64 (n:Int),v1] w fun r w'=>Ext w w'∧Own w.heap.size w' r ((zl1 n (RP (nxA n A))).map zaA):=by
 refine F41_call ?_
 unfold F41
 refine zaY (α:=List Int) u45 zbE fun a8 wa hxa hra=>?_
 refine (zfM h1 (e1.trans hxa) hn hA hl).mono ?_
 rintro _ wb ⟨hxb,rfl⟩
 refine zaV ?_
 refine zbw (fun h=>by cases h) (fun _=>?_)
 refine (ziV h1 ((e1.trans hxa).trans hxb) hn hA hl).mono ?_
 rintro v22 w1 ⟨hx1,ho1⟩
 have hWay:=ho1.is
 have hWl:(zeM (nxA n A) n).length=n:=zl8
 have hWr:∀ i (h:i<(zeM (nxA n A) n).length),((zeM (nxA n A) n)[i]).length=n:=fun i h=>by rw [zgL,zaj]
 have hWg:∀ i (h:i<(zeM (nxA n A) n).length) x (hx:x<((zeM (nxA n A) n)[i]).length),((zeM (nxA n A) n)[i])[x]=true↔RP (nxA n A) i x:=fun i h x hx=>zon h hx
 have htr:∀ i j k,RP (nxA n A) i j→RP (nxA n A) j k→RP (nxA n A) i k:=fun _ _ _=>RP.trans
 generalize zeM (nxA n A) n=ws at *
 generalize RP (nxA n A)=way at *
 have hxw1:=(hxa.trans hxb).trans hx1
 have hsw1:=hxw1.size
 refine zfj (α:=Bool) u82 ty4 rfl rfl zvW (by omega) (by omega) fun wT hxT hrT=>?_
 have hsT:=hxT.size
 generalize htv:(Value.slice (some ⟨w1.heap.size,0,none⟩) n n)=tv at *
 have hoT:=hrT.own
 rw [show List.replicate n (RepZ.zv:Bool)=zbl n fun _=>False from zco n fun _=>id] at hoT
 have hl0:zdM n (fun _=>False)=n:=by
   unfold zdM zaS
   rw [List.filter_eq_self.2 (fun a _=>by simp),List.length_range]
 refine zaq n (fun k us w'=>∃ out f told L lo hi,us=[out,.int .i64 ((zdM n told:Nat):Int)]∧f+k=n∧zdM n told≤f∧zl1 n way=L++zdL n way f told∧L.length=k∧Whole way told∧Ext w1 w'∧OwnI w1.heap.size wT.heap.size w' tv (zbl n told)∧wT.heap.size≤lo∧lo≤w'.heap.size∧hi≤w'.heap.size∧RowI lo hi 23 w' out (L.map zaA)) 0 (Nat.zero_le _) ⟨.slice (some a8) 0 0,n,fun _=>False,[],wT.heap.size,wT.heap.size,by rw [hl0],rfl,zkH,rfl,rfl,Whole.start,hxT,hoT,Nat.le_refl _,Nat.le_refl _,Nat.le_refl _,zcf _ _ _ _ _⟩ ?_
 rintro k mk q w2 hkm ⟨out,f,told,L,lo,hi,hq,hfk,hlf,hcL,hLl,hwh,hx2,ho2,hlo,hlo2,hhi,hr2⟩
 obtain ⟨hq1,hq2⟩:=zb1 hq
 rw [hq1,hq2]
 have hs2:=hx2.size
 have hll:zdM n told≤n:=zkH
 refine zcQ ?_
 refine br (fun hpos=>?_) (fun hzero=>?_)
 case refine_2=>
   rw [ziR (zo1 (by omega)),List.append_nil] at hcL
   rw [hcL]
   exact ⟨hxw1.trans hx2,hr2.own.own.mono (by omega)⟩
 obtain ⟨i1,hnx⟩:=zo2 (told:=told) htr (show 0<zdM n told by omega)
 refine zaq n (fun i us w'=>w'=w2∧i≤n∧us=[out,.int .i64 ((zdM n told:Nat):Int),.int .i64 (i:Int)]∧∀ j,j<i→¬OkC n way told j) 0 (Nat.zero_le _) ⟨rfl,Nat.zero_le _,rfl,fun j hj=>by omega⟩ ?_
 rintro i mi q9 w3 hmi ⟨rfl,hil,hq9,hno⟩
 obtain ⟨hq91,hq92,hq93⟩:=zvE hq9
 rw [hq91,hq92,hq93]
 refine zah ?_
 refine br (fun hlt=>?_) (fun hge=>?_)
 case refine_2=>
   have h:=zgK hnx
   exact absurd h (hno i1 (by have:=h.1;omega))
 have hi':i<n:=by omega
 have hTl:(zbl n told).length=n:=zaj
 have hTg:∀ x (hx:x<(zbl n told).length),(zbl n told)[x]=true↔told x:=fun x hx=>by
   rw [←zaM hx,zaB]
   exact ⟨fun h=>h.2,fun h=>⟨by omega,h⟩⟩
 refine zad (i:=i) u82 ty4 ho2.is (by omega) fun b4 o4 hA4=>?_
 refine zaw ty4 hA4 (Ext.refl _) ?_
 refine zaV ?_
 refine JOIN.mk (fun us w'=>w'=w3∧∃ b,us=[.bool b]∧(b=true↔OkC n way told i)) ?_ ?_
 · refine zaq n (fun j us w'=>w'=w3∧j≤n∧∃ b,us=[.bool b,.int .i64 (j:Int)]∧(b=true↔OkK way told i j)) 0 (Nat.zero_le _) ⟨rfl,Nat.zero_le _,_,rfl,?_⟩ ?_
   · rw [Bool.not_eq_true',←Bool.not_eq_true,hTg]
     exact ⟨fun h=>⟨h,fun x hx=>by omega⟩,fun h=>h.1⟩
   rintro j mj q13 w4 hmj ⟨rfl,hjl,b,hq13,hb⟩
   obtain ⟨hq131,hq132⟩:=zb1 hq13
   rw [hq131,hq132]
   refine zah ?_
   refine br (fun hlt2=>?_) (fun hge2=>?_)
   case refine_2=>
     have hje:j=n:=by omega
     rw [hje] at hb
     exact ⟨rfl,b,rfl,hb.trans (zrn hi')⟩
   have hj:j<n:=by omega
   refine zbw (fun ht=>?_) (fun hf=>?_)
   case refine_2=>
     refine ⟨rfl,b,rfl,?_⟩
     rw [hf]
     refine ⟨(fun h=>by cases h),fun h=>?_⟩
     have:=hb.2 (zsL ((zrn hi').2 h) (by omega))
     rw [hf] at this;cases this
   have hK:=hb.1 ht
   have hsucc:=zsJ (way:=way) (told:=told) (i:=i) (j:=j)
   refine zhf (i:=i) (j:=j) hWay hx2 (by omega) (by rw [hWr];omega) ?_
   have hw1:=hWg i (by omega) j (by rw [hWr];omega)
   refine zaV ?_
   refine zbw (fun hn1=>?_) (fun hy1=>?_)
   · rw [Bool.not_eq_true',←Bool.not_eq_true,hw1] at hn1
     refine zaf (by omega) ?_
     exact ⟨mj-1,by omega,j+1,by omega,rfl,by omega,true,rfl,⟨fun _=>hsucc.2 ⟨hK,fun h=>absurd h hn1⟩,fun _=>rfl⟩⟩
   rw [Bool.not_eq_false',hw1] at hy1
   refine zhf (i:=j) (j:=i) hWay hx2 (by omega) (by rw [hWr];omega) ?_
   have hw2:=hWg j (by omega) i (by rw [hWr];omega)
   refine zbw (fun hy2=>?_) (fun hn2=>?_)
   · refine zaf (by omega) ?_
     exact ⟨mj-1,by omega,j+1,by omega,rfl,by omega,true,rfl,⟨fun _=>hsucc.2 ⟨hK,fun _=>.inl (hw2.1 hy2)⟩,fun _=>rfl⟩⟩
   have hn2':¬way j i:=fun h=>by rw [hw2.2 h] at hn2;cases hn2
   refine zad (i:=j) u82 ty4 ho2.is (by omega) fun b5 o5 hA5=>?_
   refine zaw ty4 hA5 (Ext.refl _) ?_
   refine zaf (by omega) ?_
   refine ⟨mj-1,by omega,j+1,by omega,rfl,by omega,_,rfl,?_⟩
   rw [hTg,hsucc]
   exact ⟨fun h=>⟨hK,fun _=>.inr h⟩,fun h=>(h.2 hy1).resolve_left hn2'⟩
 rintro q16 w4 ⟨rfl,b,hq16,hb⟩
 simp only [List.map_cons,List.map_nil,List.cons.injEq,and_true] at hq16
 rw [hq16]
 refine zaV ?_
 refine zbw (fun hnb=>?_) (fun hyb=>?_)
 · have hnok:¬OkC n way told i:=fun h=>by rw [hb.2 h] at hnb;cases hnb
   refine zaf (by omega) ?_
   refine ⟨mi-1,by omega,i+1,by omega,rfl,by omega,rfl,fun j hj=>?_⟩
   rcases Nat.lt_or_eq_of_le (Nat.lt_succ_iff.1 hj) with h | rfl
   · exact hno j h
   exact hnok
 have hok:OkC n way told i:=hb.1 (by simpa using hyb)
 have hnxi:=zhb hok hno
 obtain ⟨f',hcf,hlf',hff⟩:=ziS hlf hnxi
 have hleft:=zsA (n:=n) hwh hok.2.1
 refine zaY (α:=Int) u23 ty3 fun a9 w5 hx5 hr5=>?_
 have hs5:=hx5.size
 have hCI0:CI w1 wT w5 w5 tv out (.slice (some a9) 0 0) (zbl n (ziU way told i 0)) lo hi (L.map zaA) (zaA (zaS 0 (zbF way i))):=
   ⟨hx2.trans hx5,by rw [←zpc];exact ho2.ext hx5,hsT,hlo,by omega,Nat.le_refl _,by omega,hr2.ext hx5,zcf _ _ _ _ _⟩
 refine zaq n (fun j us w'=>∃ lv,us=[lv,.int .i64 (j:Int)]∧j≤n∧CI w1 wT w5 w' tv out lv (zbl n (ziU way told i j)) lo hi (L.map zaA) (zaA (zaS j (zbF way i)))) 0 (Nat.zero_le _) ⟨_,rfl,Nat.zero_le _,hCI0⟩ ?_
 rintro j mj q19 w6 hmj ⟨lv,hq19,hjl,hCI⟩
 obtain ⟨hq191,hq192⟩:=zb1 hq19
 rw [hq191,hq192]
 have hsl:(zaS j (zbF way i)).length≤j:=zaT
 refine zah ?_
 refine br (fun hlt2=>?_) (fun hge2=>?_)
 · have hj:j<n:=by omega
   refine zao ?_
   refine br (fun heq=>?_) (fun hne=>?_)
   · have hp:zbF way i j:=.inl (by omega)
     refine hCI.push (by rw [zaj];exact hj) (by omega) (by rw [zae];omega) fun v' w' hC'=>?_
     rw [zma hj hp,show zaA (zaS j (zbF way i))++[(j:Int)]=zaA (zaS (j+1) (zbF way i)) by rw [zcc hp,zbM];rfl] at hC'
     refine zaf (by omega) ?_
     exact ⟨mj-1,by omega,j+1,by omega,v',rfl,by omega,hC'⟩
   have hnext:¬zbF way i j→∃ m',m'<mj∧∃ k',k'+m'=n∧∃ lv',[lv,Value.int .i64 ((j+1:Nat):Int)]=[lv',.int .i64 (k':Int)]∧k'≤n∧CI w1 wT w5 w6 tv out lv' (zbl n (ziU way told i k')) lo hi (L.map zaA) (zaA (zaS k' (zbF way i))):=fun hp=>by
     rw [zsK hp,←zck hp] at hCI
     exact ⟨mj-1,by omega,j+1,by omega,lv,rfl,by omega,hCI⟩
   refine zhf (i:=i) (j:=j) hWay hCI.ext (by omega) (by rw [hWr];omega) ?_
   have hw1:=hWg i (by omega) j (by rw [hWr];omega)
   refine ztG (fun hy1=>?_) (fun hn1=>?_)
   · refine zhf (i:=j) (j:=i) hWay hCI.ext (by omega) (by rw [hWr];omega) ?_
     have hw2:=hWg j (by omega) i (by rw [hWr];omega)
     refine zbw (fun hy2=>?_) (fun hn2=>?_)
     · have hp:zbF way i j:=.inr ⟨hw1.1 hy1,hw2.1 hy2⟩
       refine hCI.push (by rw [zaj];exact hj) (by omega) (by rw [zae];omega) fun v' w' hC'=>?_
       rw [zma hj hp,show zaA (zaS j (zbF way i))++[(j:Int)]=zaA (zaS (j+1) (zbF way i)) by rw [zcc hp,zbM];rfl] at hC'
       refine zaf (by omega) ?_
       exact ⟨mj-1,by omega,j+1,by omega,v',rfl,by omega,hC'⟩
     refine zaf (by omega) ?_
     refine hnext fun hp=>?_
     rcases hp with h | h
     · exact hne (by omega)
     rw [hw2.2 h.2] at hn2;cases hn2
   refine zaf (by omega) ?_
   refine hnext fun hp=>?_
   rcases hp with h | h
   · exact hne (by omega)
   rw [hw1.2 h.1] at hn1;cases hn1
 have hje:j=n:=by omega
 rw [hje,zro] at hCI
 have hsn:(zaS n (zbF way i)).length≤n:=zaT
 have hc4:=hCI.s4
 refine zag u23 hCI.row.is ?_
 refine zbf (by rw [zae];unfold I64;omega) ?_
 refine zbK (lo2:=w5.heap.size) (hi2:=w6.heap.size) (x:=zaA (zaS n (zbF way i))) u45 zbE z23 zvs (by decide) hCI.out (by omega) hCI.row.own (by omega) (by omega) (by rw [zan,List.length_map];omega) (by rw [List.length_map];omega) fun v54 w9 hc9 hr9=>?_
 have hs9:=hc9.size
 refine ⟨mk-1,by omega,k+1,by omega,v54,f',zgJ way told i,L++[zaS n (zbF way i)],lo,w9.heap.size,?_,by omega,hlf',by rw [hcL,hcf,List.append_assoc];rfl,by simp [hLl],hwh.more htr,hCI.ext.chgI hc9 (by omega),hCI.told.chg hc9 (by omega),hlo,by omega,Nat.le_refl _,?_⟩
 · have:((zdM n told:Nat):Int)-(((zaA (zaS n (zbF way i))).length:Nat):Int)=((zdM n (zgJ way told i):Nat):Int):=by rw [zae];omega
   rw [this]
 rw [List.map_append]
 exact hr9
def F112 (a0 a1:Value) (w:World) (R:VW):Prop:=
 rB .lss 3 T0 U0 a0 (iV 0) w fun x8=>
 BR x8
 (R (Value.bool false) w)
 (rB .gtr 3 T0 U0 a0 (iV 60) w fun x11=>
 BR x11
 (R (Value.bool false) w)
 (rN 86 3 a1 w fun x15=>
 rB .gtr 3 T0 U0 x15 (iV 2000) w fun x16=>
 BR x16
 (R (Value.bool false) w)
 (rN 86 3 a1 w fun x19=>
 LOOPI [20] [(iV 0)] w fun u4 w next4=>
 rC (u4 20) x19 w fun x21=>
 BR x21
 (rX 86 a1 (u4 20) w fun x22=>
 rL 133 x22 w fun x23=>
 oP (Instr.alloc 133 true (.tuple #[])) w fun x6 w=>
 oS 133 x6 x23 w fun w=>
 rF 133 x6 0 w fun x24=>
 rL 3 x24 w fun x25=>
 rB .lss 3 T0 U0 x25 (iV 0) w fun x26=>
 BR x26
 (R (Value.bool false) w)
 (rF 133 x6 0 w fun x28=>
 rL 3 x28 w fun x29=>
 rB .geq 3 T0 T0 x29 a0 w fun x31=>
 BR x31
 (R (Value.bool false) w)
 (rF 133 x6 1 w fun x34=>
 rL 3 x34 w fun x35=>
 rB .lss 3 T0 U0 x35 (iV 0) w fun x36=>
 BR x36
 (R (Value.bool false) w)
 (rF 133 x6 1 w fun x39=>
 rL 3 x39 w fun x40=>
 rB .geq 3 T0 T0 x40 a0 w fun x42=>
 BR x42
 (R (Value.bool false) w)
 (rA (u4 20) (iV 1) w fun x44=>
 next4 [x44] w)))))
 (R (Value.bool true) w))))
def cfg112:Cfg:=⟨extL,[],[(4,35184371040336,[20])],[],[],[],[]⟩
theorem F112_call {a0 a1:Value} {w:World} {R:VW} (h:F112 a0 a1 w R):cL 112 [a0,a1] w R:=co (g:=cfg112) Tryz.func112 (by kernel_rfl) (by kernel_rfl) (by kernel_rfl) h
def F59 (a0 a1 a2:Value) (w:World) (R:VW):Prop:=
 cL 112 [a0,a1] w fun x12 w=>
 rD (Op.unary .not x12) w fun x13=>
 BR x13
 (R (Value.bool false) w)
 (cL 111 [a0,a1] w fun x16 w=>
 rN 23 3 a2 w fun x18=>
 LOOPI [19] [(iV 0)] w fun u5 w next5=>
 rC (u5 19) x18 w fun x20=>
 BR x20
 (rX 23 a2 (u5 19) w fun x21=>
 rL 3 x21 w fun x22=>
 rB .geq 3 T0 U0 x22 (iV 0) w fun x24=>
 BR x24
 (rC x22 a0 w fun x28=>
 BR x28
 (rX 152 x16 x22 w fun x33=>
 rL 154 x33 w fun x34=>
 rD (convert 3 139 x22) w fun x36=>
 rB .shr 154 T0 T0 x34 x36 w fun x37=>
 rB .and 154 T0 U0 x37 (Value.int .u64 1) w fun x38=>
 rB .eql 154 T0 U0 x38 (Value.int .u64 1) w fun x39=>
 BR x39
 (R (Value.bool true) w)
 (rA (u5 19) (iV 1) w fun x41=>
 next5 [x41] w))
 (rA (u5 19) (iV 1) w fun x41=>
 next5 [x41] w))
 (rA (u5 19) (iV 1) w fun x41=>
 next5 [x41] w))
 (R (Value.bool false) w))
def cfg59:Cfg:=⟨extL,[],[(5,4398045987392,[19])],[],[],[],[]⟩
theorem F59_call {a0 a1 a2:Value} {w:World} {R:VW} (h:F59 a0 a1 a2 w R):cL 59 [a0,a1,a2] w R:=co (g:=cfg59) Tryz.func59 (by kernel_rfl) (by kernel_rfl) (by kernel_rfl) h
def F42 (a0 a1 a2:Value) (w:World) (R:VW):Prop:=
 cL 80 [a0,a1] w fun x11 w=>
 rD (Op.unary .not x11) w fun x12=>
 BR x12
 (R (Value.bool false) w)
 (cL 81 [a0,a1] w fun x15 w=>
 LOOPI [8] [(iV 0)] w fun u5 w next5=>
 rN 23 3 a2 w fun x18=>
 rC (u5 8) x18 w fun x19=>
 BR x19
 ((fun w=>rX 23 a2 (u5 8) w fun x24=>
 rL 3 x24 w fun x25=>
 rB .sub 3 T0 U0 a0 (iV 1) w fun x27=>
 cL 38 [x25,(iV 0),x27] w fun x28 w=>
 BR x28
 (rX 23 a2 (u5 8) w fun x33=>
 rL 3 x33 w fun x34=>
 rX 78 x15 x34 w fun x35=>
 rL 82 x35 w fun x36=>
 rX 23 a2 (u5 8) w fun x39=>
 rL 3 x39 w fun x40=>
 rX 82 x36 x40 w fun x41=>
 rL 4 x41 w fun x42=>
 BR x42
 (R (Value.bool true) w)
 (rA (u5 8) (iV 1) w fun x21=>
 next5 [x21] w))
 (rA (u5 8) (iV 1) w fun x21=>
 next5 [x21] w)) (World.drew1 w))
 (R (Value.bool false) w))
def cfg42:Cfg:=⟨extL,[],[(5,17592185979200,[8])],[(7,[0,1,2,3,4,5,6,7,8,9,10,11,12,13,14,15,16,17,18,19,20,21],0)],[],[],[]⟩
theorem F42_call {a0 a1 a2:Value} {w:World} {R:VW} (h:F42 a0 a1 a2 w R):cL 42 [a0,a1,a2] w R:=co (g:=cfg42) Tryz.func42 (by kernel_rfl) (by kernel_rfl) (by kernel_rfl) h
open Rep (rep)
theorem zjg {w W1:World} {v1:Value} {n:Nat} {A:List DArc} (h1:Is W1 v1 A) (e1:Ext W1 w) (hn:n≤60) (hA:∀ a∈A,(0≤a.fr∧a.fr<n)∧0≤a.to∧a.to<n) (hl:A.length≤2000) :
   CALL Tryz.prog 112 [.int .i64 (n:Int),v1] w fun r w'=>Ext w w'∧r=.bool true:=by
 refine F112_call ?_
 unfold F112
 refine zah ?_
 refine br (fun h=>by omega) (fun _=>?_)
 refine zcQ ?_
 refine br (fun h=>by omega) (fun _=>?_)
 refine zag u86 h1 ?_
 refine zcQ ?_
 refine br (fun h=>by omega) (fun _=>?_)
 refine zag u86 h1 ?_
 refine zaq A.length (fun k us w'=>us=[.int .i64 (k:Int)]∧k≤A.length∧Ext w w') 0 (Nat.zero_le _) ⟨rfl,Nat.zero_le _,Ext.refl _⟩ ?_
 rintro k mk q w3 hkm ⟨hq,hkl,hx3⟩
 simp only [List.map_cons,List.map_nil,List.cons.injEq,and_true] at hq
 rw [hq]
 refine zah ?_
 refine br (fun hlt=>?_) (fun hge=>?_)
 case refine_2=>exact ⟨hx3,rfl⟩
 have hk:k<A.length:=by omega
 obtain ⟨⟨hf0,hf1⟩,ht0,ht1⟩:=hA _ (List.getElem_mem hk)
 refine zad u86 zdc h1 hk fun b3 o3 hA3=>?_
 refine zac zdc hA3 (e1.trans hx3) fun v17 h17=>?_
 refine zbX zrU rfl zdc rfl h17 (e1.trans hx3) fun w4 hx4 hA4 hV4=>?_
 refine zaa zh2 ?_
 refine zab ty3 (zfd hA4) (Ext.refl _) fun _=>?_
 refine zah ?_
 refine br (fun h=>by omega) (fun _=>?_)
 refine zaa zh2 ?_
 refine zab ty3 (zfd hA4) (Ext.refl _) fun _=>?_
 refine zb9 ?_
 refine br (fun h=>by omega) (fun _=>?_)
 refine zaa zh3 ?_
 refine zab ty3 (zfe hA4) (Ext.refl _) fun _=>?_
 refine zah ?_
 refine br (fun h=>by omega) (fun _=>?_)
 refine zaa zh3 ?_
 refine zab ty3 (zfe hA4) (Ext.refl _) fun _=>?_
 refine zb9 ?_
 refine br (fun h=>by omega) (fun _=>?_)
 refine zaf (by omega) ?_
 exact ⟨mk-1,by omega,k+1,by omega,rfl,by omega,hx3.trans hx4⟩
theorem zkN {w W1 W2:World} {v1 v2:Value} {n:Nat} {A:List DArc} {p:List Nat} (h1:Is W1 v1 A) (e1:Ext W1 w) (h2:Is W2 v2 (zaA p)) (e2:Ext W2 w) (hn:n≤60) (hA:∀ a∈A,(0≤a.fr∧a.fr<n)∧0≤a.to∧a.to<n) (hl:A.length≤2000) (hp:∀ x∈p,x<n) (hpl:p.length≤60) :
   CALL Tryz.prog 59 [.int .i64 (n:Int),v1,v2] w fun r w'=>Ext w w'∧∃ b,r=.bool b∧(b=true↔zoh (nxA n A) p):=by
 refine F59_call ?_
 unfold F59
 refine (zjg h1 e1 hn hA hl).mono ?_
 rintro _ w1 ⟨hx1,rfl⟩
 refine zaV ?_
 refine zbw (fun h=>by cases h) (fun _=>?_)
 refine (zjO h1 (e1.trans hx1) hn hA hl).mono ?_
 rintro v16 w2 ⟨hx2,ho2⟩
 have hWay:=ho2.is
 refine zag u23 h2 ?_
 rw [zae]
 refine zaq p.length (fun k us w'=>us=[.int .i64 (k:Int)]∧k≤p.length∧Ext w2 w'∧∀ x∈p.take k,¬RP (nxA n A) x x) 0 (Nat.zero_le _) ⟨rfl,Nat.zero_le _,Ext.refl _,by simp⟩ ?_
 rintro k mk q w3 hkm ⟨hq,hkl,hx3,hno⟩
 simp only [List.map_cons,List.map_nil,List.cons.injEq,and_true] at hq
 rw [hq]
 refine zah ?_
 refine br (fun hlt=>?_) (fun hge=>?_)
 case refine_2=>
   have hke:k=p.length:=by omega
   rw [hke,List.take_length] at hno
   exact ⟨(hx1.trans hx2).trans hx3,false,rfl,(fun h=>by cases h),fun ⟨x,hx,hr⟩=>absurd hr (hno x hx)⟩
 have hk:k<p.length:=by omega
 have hpk:=hp _ (List.getElem_mem hk)
 refine zad (i:=k) u23 ty3 h2 (by rw [zae];exact hk) fun b3 o3 hA3=>?_
 rw [zaL] at hA3
 refine zab ty3 hA3 (((e2.trans hx1).trans hx2).trans hx3) fun _=>?_
 refine zb9 ?_
 refine br (fun _=>?_) (fun h=>by omega)
 refine zah ?_
 refine br (fun _=>?_) (fun h=>by omega)
 refine zkK (i:=p[k]) hWay hx3 (by rw [zl4];exact hpk) ?_
 rw [zl5]
 have h62:zbY (RP (nxA n A) p[k]) n<4611686018427387904:=zde hn
 refine zbA (by kernel_rfl) zh4 (by omega) ?_
 refine zhe h62 ?_
 refine zhd (n:=1) (Nat.lt_of_le_of_lt (zl6 _ _) h62) (by omega) ?_
 refine zao ?_
 refine br (fun hb=>?_) (fun hb=>?_)
 · rw [zps,zaO] at hb
   exact ⟨(hx1.trans hx2).trans hx3,true,rfl,fun _=>⟨_,List.getElem_mem hk,hb.2⟩,fun _=>rfl⟩
 refine zaf (by omega) ?_
 refine ⟨mk-1,by omega,k+1,by omega,rfl,by omega,hx3,fun x hx=>?_⟩
 rw [List.take_succ_eq_append_getElem hk] at hx
 rcases List.mem_append.1 hx with hx | hx
 · exact hno x hx
 simp only [List.mem_singleton] at hx
 subst hx
 exact fun h=>hb (by rw [zps,zaO];exact ⟨hpk,h⟩)
theorem zkO {w W1 W2:World} {v1 v2:Value} {n:Nat} {A:List DArc} {p:List Nat} (h1:Is W1 v1 A) (e1:Ext W1 w) (h2:Is W2 v2 (zaA p)) (e2:Ext W2 w) (hn:n≤60) (hA:∀ a∈A,(0≤a.fr∧a.fr<n)∧0≤a.to∧a.to<n) (hl:A.length≤2000) (hp:∀ x∈p,x<n) (hpl:p.length≤60) :
   CALL Tryz.prog 42 [.int .i64 (n:Int),v1,v2] w fun r w'=>Ext w w'∧∃ b,r=.bool b∧(b=true↔zoh (nxA n A) p):=by
 refine F42_call ?_
 unfold F42
 refine (zfM h1 e1 hn hA hl).mono ?_
 rintro _ w1 ⟨hx1,rfl⟩
 refine zaV ?_
 refine zbw (fun h=>by cases h) (fun _=>?_)
 refine (ziV h1 (e1.trans hx1) hn hA hl).mono ?_
 rintro v16 w2 ⟨hx2,ho2⟩
 have hWay:=ho2.is
 refine zaq p.length (fun k us w'=>us=[.int .i64 (k:Int)]∧k≤p.length∧Ext w2 w'∧∀ x∈p.take k,¬RP (nxA n A) x x) 0 (Nat.zero_le _) ⟨rfl,Nat.zero_le _,Ext.refl _,by simp⟩ ?_
 rintro k mk q w3 hkm ⟨hq,hkl,hx3,hno⟩
 simp only [List.map_cons,List.map_nil,List.cons.injEq,and_true] at hq
 rw [hq]
 refine zag u23 h2 ?_
 rw [zae]
 refine zah ?_
 refine br (fun hlt=>?_) (fun hge=>?_)
 case refine_2=>
   have hke:k=p.length:=by omega
   rw [hke,List.take_length] at hno
   exact ⟨(hx1.trans hx2).trans hx3,false,rfl,(fun h=>by cases h),fun ⟨x,hx,hr⟩=>absurd hr (hno x hx)⟩
 have hk:k<p.length:=by omega
 have hpk:=hp _ (List.getElem_mem hk)
 have hxd:=zak w3
 generalize World.drew1 w3=w4 at *
 have hx4:=hx3.trans hxd
 have e4:=((e2.trans hx1).trans hx2).trans hx4
 refine zad (i:=k) u23 ty3 h2 (by rw [zae];exact hk) fun b3 o3 hA3=>?_
 rw [zaL] at hA3
 refine zab ty3 hA3 e4 fun _=>?_
 refine zbf (by unfold I64;omega) ?_
 refine l01In_ok.mono ?_
 rintro _ w5 ⟨hx5,rfl⟩
 refine br (fun _=>?_) (fun h=>absurd ⟨by omega,by omega⟩ h)
 refine zad (i:=k) u23 ty3 h2 (by rw [zae];exact hk) fun b6 o6 hA6=>?_
 rw [zaL] at hA6
 refine zab ty3 hA6 (e4.trans hx5) fun _=>?_
 have hi:p[k]<(zeM (nxA n A) n).length:=by rw [zl8];exact hpk
 refine zad (i:=p[k]) u78 zep hWay hi fun b7 o7 hA7=>?_
 refine zac zep hA7 (hx4.trans hx5) fun v7 h7=>?_
 refine zad (i:=k) u23 ty3 h2 (by rw [zae];exact hk) fun b8 o8 hA8=>?_
 rw [zaL] at hA8
 refine zab ty3 hA8 (e4.trans hx5) fun _=>?_
 have hj:p[k]<((zeM (nxA n A) n)[p[k]]).length:=by rw [zgL,zaj];exact hpk
 refine zad (i:=p[k]) u82 ty4 h7 hj fun b9 o9 hA9=>?_
 refine zaw ty4 hA9 (hx4.trans hx5) ?_
 have hat:=zon hi hj
 refine zbw (fun hb=>?_) (fun hb=>?_)
 · exact ⟨((hx1.trans hx2).trans hx4).trans hx5,true,rfl,fun _=>⟨_,List.getElem_mem hk,hat.1 hb⟩,fun _=>rfl⟩
 refine zaf (by omega) ?_
 refine ⟨mk-1,by omega,k+1,by omega,rfl,by omega,hx4.trans hx5,fun x hx=>?_⟩
 rw [List.take_succ_eq_append_getElem hk] at hx
 rcases List.mem_append.1 hx with hx | hx
 · exact hno x hx
 simp only [List.mem_singleton] at hx
 subst hx
 exact fun h=>by rw [hat.2 h] at hb;cases hb
end Go.Proofs.YtbnjpfjjmhodnaaGreatDoor
namespace Go.Proofs.YtbnjpfjjmhodnaaGreatDoor
open Go Go.Sh Go.Proofs Go.Sort
open Rep (rep)
def F61 (a0 a1:Value) (w:World) (R:VW):Prop:=
 (fun w=>rX 23 a0 (iV 0) w fun x6=>
 rL 3 x6 w fun x7=>
 rX 23 a1 (iV 0) w fun x9=>
 rL 3 x9 w fun x10=>
 rB .sub 3 T0 T0 x7 x10 w fun x11=>
 R x11 w) (World.drew1 w)
def cfg61:Cfg:=⟨extL,[],[],[(1,[0,1,2,3,4,5,6,7],0)],[],[],[]⟩
theorem F61_call {a0 a1:Value} {w:World} {R:VW} (h:F61 a0 a1 w R):cL 61 [a0,a1] w R:=co (g:=cfg61) Tryz.func61 (by kernel_rfl) (by kernel_rfl) (by kernel_rfl) h
open Rep (rep)
def hd0 (l:List Int):Int:=l.headD 0
theorem zf6 {w:World}:∀ {l:List (List Int)} {F:List Nat} {xs:List Value},Cells F w xs l→∃ Z:List (List Nat×Value×List Int),F=Z.flatMap (·.1)∧xs=Z.map (·.2.1)∧l=Z.map (·.2.2)∧∀ z∈Z,rep z.1 w [z.2.1] z.2.2
 | [],_,_,⟨h1,h2⟩=>⟨[],h1,h2,rfl,by simp⟩
 | y :: ys,_,_,⟨F1,F2,c1,c2,hF,hx,h1,h2⟩=>by
   obtain ⟨Z,e1,e2,e3,e4⟩:=zf6 h2
   obtain ⟨v,rfl⟩:∃ v,c1=[v]:=List.length_eq_one_iff.1 (Rep.len h1)
   refine ⟨(F1,v,y) :: Z,by simp [hF,e1],by simp [hx,e2],by simp [e3],fun z hz=>?_⟩
   rcases List.mem_cons.1 hz with rfl | hz
   · exact h1
   exact e4 z hz
theorem ziW {w:World}:∀ {Z:List (List Nat×Value×List Int)},(∀ z∈Z,rep z.1 w [z.2.1] z.2.2)→Cells (Z.flatMap (·.1)) w (Z.map (·.2.1)) (Z.map (·.2.2))
 | [],_=>⟨rfl,rfl⟩
 | z :: Z,h=>⟨z.1,Z.flatMap (·.1),[z.2.1],Z.map (·.2.1),by simp,by simp,h z (by simp),ziW fun y hy=>h y (by simp [hy])⟩
theorem zne {l:List Int} (h:l≠[]):hd0 l=l[0]'(List.length_pos_iff.2 h):=by
 cases l with
 | nil=>exact absurd rfl h
 | cons x l=>rfl
theorem zmb {w:World} {x y:Value} {a b:List Int} (hx:Is w x a) (hy:Is w y b) (ha:a≠[]) (hb:b≠[]) (h1:0≤hd0 a∧hd0 a<1000) (h2:0≤hd0 b∧hd0 b<1000) :
   CALL Tryz.prog 61 [x,y] w fun r w'=>r=.int .i64 (hd0 a-hd0 b)∧zf4 w w':=by
 refine F61_call ?_
 unfold F61
 have hg:zf4 w (World.drew1 w):=⟨1,#[],by simp only [Go.Sort.grow,World.drewN,World.drew1,Array.append_empty]⟩
 have hxd:=zak w
 generalize World.drew1 w=w1 at *
 have e1:=zne ha
 have e2:=zne hb
 refine zad (i:=0) u23 ty3 hx (List.length_pos_iff.2 ha) fun b1 o1 hA1=>?_
 refine zab ty3 hA1 hxd fun _=>?_
 refine zad (i:=0) u23 ty3 hy (List.length_pos_iff.2 hb) fun b2 o2 hA2=>?_
 refine zab ty3 hA2 hxd fun _=>?_
 rw [←e1,←e2]
 refine zbf (by unfold I64;omega) ?_
 exact ⟨rfl,hg⟩
set_option maxHeartbeats 4000000 in
theorem zsM {w:World} {lo hi:Nat} {v:Value} {cs:List (List Int)} (h:OwnI lo hi w v cs) (hn:cs.length≤1000) (hne:∀ c∈cs,c≠[]) (hb:∀ c∈cs,0≤hd0 c∧hd0 c<1000) (hd:cs.Pairwise fun a b=>hd0 a≠hd0 b) :
    CALL Tryz.prog 60 [v,.func (.func 61) #[] #[]] w fun r w'=>ChgI lo hi w w'∧∃ cs':List (List Int),OwnI lo hi w' v cs'∧cs'.Perm cs∧cs'.Pairwise fun a b=>hd0 a<hd0 b:=by
  obtain ⟨F,hM,hF⟩:=h
  by_cases hne0:cs=[]
  · subst hne0
    obtain ⟨a,cap,hv⟩:∃ a cap,v=.slice a 0 cap:=by
      obtain ⟨cs,⟨a,cap,G,xs,h,_⟩,hv⟩:=hM.own
      exact ⟨a,cap,by rw [hv,h];rfl⟩
    subst hv
    refine ⟨(AnyF.slices_SortFunc_none { Tryz.sortInts with } a cap _ w).mono ?_⟩
    rintro e w' ⟨he,rfl⟩
    exact ⟨_,he,ChgI.refl _,[],⟨F,hM,hF⟩,.refl _,.nil⟩
  obtain ⟨⟨c0,⟨a,cap,Fi,xs,rfl,h1,h2,hc,h4⟩,rfl⟩,hnd,hw⟩:=hM
  rcases h4 with ⟨h4,_⟩ | ⟨b,o,rfl,rfl,hr,hbl⟩
  · exact absurd h4 hne0
  obtain ⟨Z,rfl,rfl,rfl,hZ⟩:=zf6 hc
  obtain ⟨c,e,hbe⟩:=hw b (by simp)
  have hbF:∀ z∈Z,b∉z.1:=fun z hz hm=>(List.nodup_cons.1 hnd).1 (List.mem_flatMap.2 ⟨z,hz,hm⟩)
  have hnZ:Z.length≤1000:=by simpa using hn
  have hn0:0<Z.length:=by
    rcases Nat.eq_zero_or_pos Z.length with h | h
    · exact absurd (by rw [List.eq_nil_of_length_eq_zero h];rfl) hne0
    exact h
  haveI:Inhabited (Fin Z.length):=⟨⟨0,hn0⟩⟩
  obtain ⟨enc,henc⟩:∃ enc:Fin Z.length→Value,enc=fun i=>Z[i].2.1:=⟨_,rfl⟩
  obtain ⟨cf,hcf⟩:∃ cf:Fin Z.length→Fin Z.length→Int,cf=fun i j=>hd0 Z[i].2.2-hd0 Z[j].2.2:=⟨_,rfl⟩
  obtain ⟨d,hdd⟩:∃ d:Array (Fin Z.length),d=(List.finRange Z.length).toArray:=⟨_,rfl⟩
  have hds:d.size=Z.length:=by rw [hdd];simp
  have hfin:(List.finRange Z.length).map (fun i=>Z[i])=Z:=List.ext_getElem (by simp) fun i h1 h2=>by simp
  have hdg:∀ j (hj:j<Z.length),d[j]! = ⟨j,hj⟩:=fun j hj=>by
    rw [getElem!_pos d j (by rw [hds];exact hj)]
    simp [hdd]
  have hone:OneCell enc:=fun i=>by
    have h:=Rep.one (hZ _ (List.getElem_mem i.2)) Z[i.1].2.1 (by simp)
    rw [henc];exact h
  have hHo:Holds enc w b o d:=fun j hj=>by
    rw [hds] at hj
    rw [hdg j hj]
    refine ⟨hr j _ ?_,?_⟩
    · rw [henc,List.getElem?_map,List.getElem?_eq_getElem hj];rfl
    simp [World.frozen?,hbe]
  have hmem:∀ i:Fin Z.length,Z[i].2.2∈Z.map (·.2.2):=fun i=>List.mem_map.2 ⟨_,List.getElem_mem _,rfl⟩
  have hdis:∀ i j:Fin Z.length,hd0 Z[i].2.2=hd0 Z[j].2.2→i=j:=fun i j hij=>by
    rw [List.pairwise_map,List.pairwise_iff_getElem] at hd
    rcases Nat.lt_trichotomy i.1 j.1 with h | h | h
    · exact absurd hij (hd i.1 j.1 i.2 j.2 h)
    · exact Fin.ext h
    exact absurd hij.symm (hd j.1 i.1 j.2 i.2 h)
  have hlt:∀ i j,ltOf cf i j=decide (hd0 Z[i].2.2<hd0 Z[j].2.2):=fun i j=>by
    unfold ltOf;rw [hcf,decide_eq_decide]
    show hd0 Z[i].2.2-hd0 Z[j].2.2<0↔_
    omega
  have hswo:SWO (ltOf cf):=by
    refine ⟨fun x=>?_,fun x y z h k=>?_,fun x y z h k=>?_⟩
    · rw [hlt,decide_eq_false_iff_not];omega
    · rw [hlt,decide_eq_true_eq] at *;omega
    rw [hlt,decide_eq_false_iff_not] at *;omega
  have hbw:b<w.heap.size:=(Array.getElem?_eq_some_iff.1 hbe).1
  have hblk:∀ (m:Nat) (dk:Array (Fin Z.length)) (os:Array Obj) i,i<w.heap.size→i≠b→(sortWorld enc w b o m dk os).heap[i]?=w.heap[i]?:=fun m dk os i hi hne=>by
    unfold sortWorld
    rw [heap_grow_old _ _ (by simpa [putRow,mapBlock,Sort.ahead] using hi)]
    simp [putRow,mapBlock,Sort.ahead,Array.getElem?_modify,hne.symm]
  have hrep:∀ (m:Nat) (dk:Array (Fin Z.length)) (os:Array Obj),∀ z∈Z,rep z.1 (sortWorld enc w b o m dk os) [z.2.1] z.2.2:=fun m dk os z hz=>
    Rep.keep (hZ z hz) fun i hi=>hblk m dk os i (Rep.lt (hZ z hz) i hi) fun e=>hbF z hz (e▸hi)
  have hcmp:CmpLays1 Tryz.prog 61 #[] enc cf b o d.size w:=fun m os dk _ i j=>by
    have hI:∀ k:Fin Z.length,Is (sortWorld enc w b o m dk os) (enc k) Z[k].2.2:=fun k=>⟨_,_,hrep m dk os _ (List.getElem_mem k.2),by rw [henc];rfl⟩
    obtain ⟨h⟩:=zmb (hI i) (hI j) (hne _ (hmem i)) (hne _ (hmem j)) (hb _ (hmem i)) (hb _ (hmem j))
    refine h.mono ?_
    rintro e w' ⟨v,he,hv,q,os',hw'⟩
    exact ⟨by rw [he,hv,hcf],q,os',hw'⟩
  have hlen:(Z.map (·.2.2)).length=d.size:=by rw [hds,List.length_map]
  show CALL Tryz.prog 60 [.slice (some ⟨b,o,none⟩) (Z.map (·.2.2)).length cap,_] w _
  rw [hlen]
  refine ⟨(Any.slices_SortFunc_total Tryz.sortInts enc hone cf hswo 61 #[] b o cap d w (zc1 (ent 61 (by decide) (by kernel_rfl))) hcmp hHo hbw (by omega) (fun x y h k=>by
      rw [hlt,decide_eq_false_iff_not] at *;exact hdis x y (by omega))).mono ?_⟩
  rintro ex w' ⟨he,n,os,hw'⟩
  generalize hd':(d.toList.mergeSort fun x y=>!(ltOf cf) y x)=d' at hw'
  have hperm:d'.Perm (List.finRange Z.length):=by
    rw [←hd',hdd];exact List.mergeSort_perm _ _
  have hsrt:d'.Pairwise fun i j=>¬hd0 Z[j].2.2<hd0 Z[i].2.2:=by
    rw [←hd']
    have:=List.pairwise_mergeSort (le:=fun x y=>!(ltOf cf) y x) (fun a b c h1 h2=>by
      simp only [hlt,Bool.not_eq_true',decide_eq_false_iff_not] at *
      omega) (fun a b=>by
      simp only [hlt,Bool.or_eq_true,Bool.not_eq_true',decide_eq_false_iff_not]
      omega) d.toList
    exact this.imp fun h=>by simpa [hlt] using h
  have hZp:(d'.map fun i=>Z[i]).Perm Z:=by
    have:=hperm.map fun i=>Z[i]
    rwa [hfin] at this
  have hl':d'.length=Z.length:=by rw [hperm.length_eq];simp
  subst hw'
  have hsz2:w.heap.size≤(sortWorld enc w b o n d'.toArray os).heap.size:=by
    unfold sortWorld Go.Sort.grow
    rw [Array.size_append];simp [putRow,mapBlock,Sort.ahead]
  have hbb:∃ c',(sortWorld enc w b o n d'.toArray os).heap[b]?=some (.cells c' e (0,0)):=by
    unfold sortWorld
    rw [heap_grow_old _ _ (by simpa [putRow,mapBlock,Sort.ahead] using hbw)]
    exact ⟨_,by simp [putRow,mapBlock,Sort.ahead,Array.getElem?_modify,hbe,onCells];rfl⟩
  have hchg:Chg [b] w (sortWorld enc w b o n d'.toArray os):=⟨rfl,rfl,rfl,hsz2,fun i hi hm=>hblk _ _ _ i hi fun e=>hm (by simp [e])⟩
  generalize hZ':(d'.map fun i=>Z[i])=Z' at *
  have hmZ:∀ z∈Z',z∈Z:=fun z hz=>hZp.mem_iff.1 hz
  have hFp:(Z'.flatMap (·.1)).Perm (Z.flatMap (·.1)):=hZp.flatMap_right _
  have hxs:Z'.map (·.2.1)=d'.map enc:=by rw [←hZ',henc,List.map_map];rfl
  refine ⟨_,he,?_,Z'.map (·.2.2),⟨b :: Z'.flatMap (·.1),⟨⟨_,⟨some ⟨b,o,none⟩,cap,Z'.flatMap (·.1),Z'.map (·.2.1),rfl,?_,h2,ziW fun z hz=>hrep _ _ _ z (hmZ z hz),.inr ⟨b,o,rfl,rfl,?_,by omega⟩⟩,?_⟩,?_,?_⟩,?_⟩,hZp.map _,?_⟩
  · exact hchg.toI fun i hi=>hF i (by simp only [List.mem_cons,List.not_mem_nil,or_false] at hi;simp [hi])
  · have:=hZp.length_eq;simp only [List.length_map] at h1 ⊢;omega
  · rw [hxs]
    intro j v hv
    have hj:j<d'.length:=by
      have:=(List.getElem?_eq_some_iff.1 hv).1
      simpa using this
    have:=cell?_putRow enc (Sort.ahead w n) b o d d'.toArray hHo (by simp [hds,hl']) j (by simpa using hj)
    unfold sortWorld
    rw [cell?_grow _ _ _ (by simpa [putRow,mapBlock,Sort.ahead] using hbw),this]
    rw [List.getElem?_map,List.getElem?_eq_getElem hj] at hv
    rw [getElem!_pos d'.toArray j (by simpa using hj)]
    simpa using hv
  · have:=hZp.length_eq
    simp only [mkv,Rep.agg,cond_false,List.headD_cons,List.length_map,hds,this]
  · rw [List.nodup_cons] at hnd ⊢
    exact ⟨fun h=>hnd.1 (hFp.mem_iff.1 h),(hFp.nodup_iff).2 hnd.2⟩
  · intro i hi
    rcases List.mem_cons.1 hi with rfl | hi
    · obtain ⟨c',hc'⟩:=hbb;exact ⟨c',e,hc'⟩
    have hi':=hFp.mem_iff.1 hi
    obtain ⟨z,hz,hzi⟩:=List.mem_flatMap.1 hi'
    have hne:i≠b:=fun e=>hbF z hz (e▸hzi)
    obtain ⟨c',e',h'⟩:=hw i (by simp [hi'])
    exact ⟨c',e',by rw [hblk _ _ _ i (Array.getElem?_eq_some_iff.1 h').1 hne];exact h'⟩
  · intro i hi
    rcases List.mem_cons.1 hi with rfl | hi
    · exact hF _ (by simp)
    exact hF i (by simp [hFp.mem_iff.1 hi])
  have hs1:Z'.Pairwise fun x y=>¬hd0 y.2.2<hd0 x.2.2:=by
    rw [←hZ',List.pairwise_map];exact hsrt
  have hs2:Z'.Pairwise fun x y=>hd0 x.2.2≠hd0 y.2.2:=by
    rw [List.pairwise_map] at hd
    exact hZp.symm.pairwise hd fun h e=>h e.symm
  rw [List.pairwise_map]
  exact (List.pairwise_and_iff.2 ⟨hs1,hs2⟩).imp fun h=>by have:=h.1;have:=h.2;omega
def zfD (x:DOrder):DArc:=⟨x.fr,x.to⟩
def ltA (a b:DArc):Prop:=a.fr<b.fr∨(a.fr=b.fr∧a.to<b.to)
structure AInv (L:List DOrder) (A:List DArc):Prop where
 mem:∀ a,a∈A↔∃ x∈L,a=zfD x
 pw:A.Pairwise ltA
section
variable {L:List DOrder} {A:List DArc} {x:DOrder}
theorem AInv.start:AInv [] []:=⟨by simp,.nil⟩
theorem AInv.le (h:AInv L A) (hs:(L++[x]).Pairwise ltO):∀ a∈A,a=zfD x∨ltA a (zfD x):=fun a ha=>by
 obtain ⟨y,hy,rfl⟩:=(h.mem a).1 ha
 have:=(List.pairwise_append.1 hs).2.2 y hy x (by simp)
 unfold ltO at this
 unfold ltA zfD
 rcases this with h1 | ⟨h1,h2 | ⟨h2,_⟩⟩
 · exact .inr (.inl h1)
 · exact .inr (.inr ⟨h1,h2⟩)
 exact .inl (DArc.ext_iff.2 ⟨h1,h2⟩)
theorem AInv.old (h:AInv L A) (hm:zfD x∈A):AInv (L++[x]) A:=⟨fun a=>by
 rw [h.mem]
 constructor
 · rintro ⟨y,hy,e⟩;exact ⟨y,by simp [hy],e⟩
 rintro ⟨y,hy,rfl⟩
 rcases List.mem_append.1 hy with hy | hy
 · exact ⟨y,hy,rfl⟩
 simp only [List.mem_singleton] at hy
 subst hy
 exact (h.mem _).1 hm,h.pw⟩
theorem AInv.new (h:AInv L A) (hs:(L++[x]).Pairwise ltO) (hm:zfD x∉A):AInv (L++[x]) (A++[zfD x]):=⟨fun a=>by
 simp only [List.mem_append,List.mem_singleton,h.mem]
 constructor
 · rintro (⟨y,hy,e⟩ | rfl)
   · exact ⟨y,.inl hy,e⟩
   exact ⟨x,.inr rfl,rfl⟩
 · rintro ⟨y,hy | rfl,rfl⟩
   · exact .inl ⟨y,hy,rfl⟩
   exact .inr rfl,List.pairwise_append.2 ⟨h.pw,by simp,fun a ha b hb=>by
 simp only [List.mem_singleton] at hb
 subst hb
 rcases h.le hs a ha with rfl | h1
 · exact absurd ha hm
 exact h1⟩⟩
theorem zpg (a:DArc):¬ltA a a:=by unfold ltA;omega
theorem zrp {a b:DArc} (h:ltA a b) (k:ltA b a):False:=by unfold ltA at *;omega
theorem AInv.last (h:AInv L A) (hs:(L++[x]).Pairwise ltO) (hA:0<A.length):A[A.length-1]'(by omega)=zfD x↔zfD x∈A:=by
 constructor
 · intro e;rw [←e];exact List.getElem_mem _
 intro hm
 obtain ⟨i,hi,e⟩:=List.getElem_of_mem hm
 rcases h.le hs _ (List.getElem_mem (by omega:A.length-1<A.length)) with h1 | h1
 · exact h1
 exfalso
 rcases Nat.lt_or_ge i (A.length-1) with hl | hl
 · have:=List.pairwise_iff_getElem.1 h.pw i (A.length-1) hi (by omega) hl
   rw [e] at this
   exact zrp this h1
 have:i=A.length-1:=by omega
 subst this
 rw [e] at h1
 exact zpg _ h1
end
theorem zrq {N:Nat}:∀ {l:List Nat},l.Pairwise (fun a b=>a<b)→(∀ x∈l,x<N)→l.length≤N
 | l,h,hb=>by
   have h1:=List.pairwise_iff_getElem.1 h
   have:∀ i (hi:i<l.length),i≤l[i]:=fun i=>by
     induction i with
     | zero=>intro _;exact Nat.zero_le _
     | succ i ih=>
       intro hi
       have h2:=ih (by omega)
       have h3:=h1 i (i+1) (by omega) hi (by omega)
       omega
   rcases Nat.eq_zero_or_pos l.length with h0 | h0
   · omega
   have h2:=this (l.length-1) (by omega)
   have h3:=hb _ (List.getElem_mem (by omega:l.length-1<l.length))
   omega
theorem zkP {n:Nat} {A:List DArc} (hn:n≤6) (hp:A.Pairwise ltA) (hb:∀ a∈A,(0≤a.fr∧a.fr<n)∧0≤a.to∧a.to<n):A.length≤36:=by
 have h1:(A.map fun a=>(a.fr*6+a.to).toNat).Pairwise (fun a b=>a<b):=by
   rw [List.pairwise_map]
   refine hp.imp_of_mem fun {a b} ha hb' h=>?_
   have h2:=hb a ha
   have h3:=hb b hb'
   unfold ltA at h
   omega
 have:=zrq (N:=36) h1 fun x hx=>by
   obtain ⟨a,ha,rfl⟩:=List.mem_map.1 hx
   have:=hb a ha
   omega
 simpa using this
noncomputable def nxL (c:DCode) (i:Nat):List Nat:=zaS c.locks.length fun j=>∃ k,OrdP c i j k
theorem OrdP.in {c:DCode} (hc:CodeR c) {i j k:Nat} (h:OrdP c i j k):i<c.locks.length∧j<c.locks.length:=
 ⟨h.2.2.2.locks hc,h.2.2.1▸(zcl hc (h.1.lt hc) (.inl h.2.1)).2.1⟩
theorem zhO {c:DCode} (hc:CodeR c) {A:List DArc} (h:AInv (zdq c) A):nxA c.locks.length A=nxL c:=by
 funext i
 refine zfr fun j hj=>?_
 rw [h.mem]
 constructor
 · rintro ⟨_,x,hx,e⟩
   obtain ⟨fr,to,k,ho,rfl⟩:=(zhL hc).1 hx
   have e1:(i:Int)=fr:=congrArg DArc.fr e
   have e2:(j:Int)=to:=congrArg DArc.to e
   have e1:=Int.ofNat_inj.1 e1
   have e2:=Int.ofNat_inj.1 e2
   subst e1;subst e2
   exact ⟨k,ho⟩
 rintro ⟨k,ho⟩
 exact ⟨(ho.in hc).1,mkO i j k,(zhL hc).2 ⟨i,j,k,ho,rfl⟩,rfl⟩
theorem AInv.rng {c:DCode} (hc:CodeR c) {k:Nat} {A:List DArc} (h:AInv ((zdq c).take k) A):∀ a∈A,(0≤a.fr∧a.fr<c.locks.length)∧0≤a.to∧a.to<c.locks.length:=fun a ha=>by
 obtain ⟨x,hx,rfl⟩:=(h.mem a).1 ha
 obtain ⟨fr,to,i,ho,rfl⟩:=(zhL hc).1 (List.mem_of_mem_take hx)
 have:=ho.in hc
 show (0≤(fr:Int)∧(fr:Int)<_)∧0≤(to:Int)∧(to:Int)<_
 omega
noncomputable def zbo (c:DCode):List (List Nat):=zl1 c.locks.length (RP (nxL c))
open Classical in
noncomputable def zcR (c:DCode):List (List Nat):=(List.range c.locks.length).flatMap fun n=>(zbo c).filter fun p=>decide (p.head?=some n∧zoh (nxL c) p)
theorem zcO {p:List Nat} {n:Nat}:p.head?=some n→hd0 (zaA p)=n:=by
 cases p with
 | nil=>intro h;cases h
 | cons x l=>intro h;cases h;rfl
theorem ziX:∀ {l m:List (List Int)},l.Pairwise (fun a b=>hd0 a<hd0 b)→m.Pairwise (fun a b=>hd0 a<hd0 b)→(∀ x,x∈l↔x∈m)→l=m
 | [],[],_,_,_=>rfl
 | [],y :: m,_,_,h=>by have:=(h y).2 (by simp);cases this
 | x :: l,[],_,_,h=>by have:=(h x).1 (by simp);cases this
 | x :: l,y :: m,h1,h2,h=>by
   rw [List.pairwise_cons] at h1 h2
   have hxy:x=y:=by
     rcases List.mem_cons.1 ((h x).1 (by simp)) with e | hm
     · exact e
     rcases List.mem_cons.1 ((h y).2 (by simp)) with e | hl
     · exact e.symm
     have:=h1.1 y hl
     have:=h2.1 x hm
     omega
   subst hxy
   congr 1
   refine ziX h1.2 h2.2 fun z=>⟨fun hz=>?_,fun hz=>?_⟩
   · rcases List.mem_cons.1 ((h z).1 (by simp [hz])) with rfl | h'
     · have:=h1.1 z hz;omega
     exact h'
   rcases List.mem_cons.1 ((h z).2 (by simp [hz])) with rfl | h'
   · have:=h2.1 z hz;omega
   exact h'
theorem zmc {c:DCode}:∀ p∈zbo c,∃ i,i<c.locks.length∧p=zaS c.locks.length (zbF (RP (nxL c)) i):=fun p hp=>by
 obtain ⟨i,h1,_,h2⟩:=zhc (way:=RP (nxL c)) Whole.start (fun _ _ _=>RP.trans) p hp
 exact ⟨i,h1,h2⟩
theorem zsN (c:DCode):(zbo c).Pairwise fun a b=>∀ x∈a,x∉b:=zl3 Whole.start fun _ _ _=>RP.trans
theorem ziY (c:DCode):(zbo c).length≤c.locks.length:=zjM
theorem zcZ {c:DCode} {p:List Nat} (hp:p∈zbo c):∃ n,p.head?=some n∧n∈p∧n<c.locks.length:=by
 obtain ⟨i,hi,rfl⟩:=zmc p hp
 have hne:=zuh (way:=RP (nxL c)) hi
 cases e:zaS c.locks.length (zbF (RP (nxL c)) i) with
 | nil=>exact absurd e hne
 | cons x l=>
   have hx:x∈zaS c.locks.length (zbF (RP (nxL c)) i):=by rw [e];simp
   exact ⟨x,rfl,by simp,(zaE.1 hx).1⟩
theorem zen {c:DCode} {p:List Nat} (hp:p∈zbo c):p.length≤c.locks.length∧∀ x∈p,x<c.locks.length:=by
 obtain ⟨i,hi,rfl⟩:=zmc p hp
 exact ⟨zaT,fun x hx=>(zaE.1 hx).1⟩
theorem zmd (c:DCode):(zbo c).Pairwise fun a b=>hd0 (zaA a)≠hd0 (zaA b):=by
 refine (zsN c).imp_of_mem fun {a b} ha hb h e=>?_
 obtain ⟨n,h1,h2,_⟩:=zcZ ha
 obtain ⟨m,k1,k2,_⟩:=zcZ hb
 rw [zcO h1,zcO k1] at e
 have e:=Int.ofNat_inj.1 e
 subst e
 exact h n h2 k2
theorem zeo {c:DCode} {p:List Nat}:p∈zcR c↔p∈zbo c∧zoh (nxL c) p:=by
 unfold zcR
 simp only [List.mem_flatMap,List.mem_range,List.mem_filter,decide_eq_true_eq]
 constructor
 · rintro ⟨n,_,h1,_,h2⟩;exact ⟨h1,h2⟩
 rintro ⟨h1,h2⟩
 obtain ⟨n,h3,_,h4⟩:=zcZ h1
 exact ⟨n,h4,h1,h3,h2⟩
theorem zme (c:DCode):(zcR c).Pairwise fun a b=>hd0 (zaA a)<hd0 (zaA b):=by
 unfold zcR
 refine List.pairwise_flatMap.2 ⟨fun n _=>?_,List.pairwise_lt_range.imp ?_⟩
 · refine ((zmd c).filter _).imp_of_mem fun {a b} ha hb h=>?_
   have h2:=(List.mem_filter.1 ha).2
   have h3:=(List.mem_filter.1 hb).2
   simp only [decide_eq_true_eq] at h2 h3
   exact absurd (by rw [zcO h2.1,zcO h3.1]) h
 intro n m hnm a ha b hb
 have h2:=(List.mem_filter.1 ha).2
 have h3:=(List.mem_filter.1 hb).2
 simp only [decide_eq_true_eq] at h2 h3
 rw [zcO h2.1,zcO h3.1]
 exact Int.ofNat_lt.2 hnm
theorem zrr {c:DCode} {p:List Nat} (hp:p∈zcR c):p.length≤c.locks.length∧(∀ x∈p,x<c.locks.length)∧p≠[]:=by
 have h1:=(zeo.1 hp).1
 obtain ⟨n,_,h2,_⟩:=zcZ h1
 exact ⟨(zen h1).1,(zen h1).2,List.ne_nil_of_mem h2⟩
theorem zph (c:DCode):(zcR c).length≤c.locks.length:=by
 have h1:=zrq (N:=c.locks.length) (l:=(zcR c).map fun p=>(hd0 (zaA p)).toNat) (by
   rw [List.pairwise_map]
   refine (zme c).imp_of_mem fun {a b} ha hb h=>?_
   obtain ⟨n,k1,_,k2⟩:=zcZ (zeo.1 ha).1
   obtain ⟨m,j1,_,j2⟩:=zcZ (zeo.1 hb).1
   rw [zcO k1,zcO j1] at h ⊢
   omega) fun x hx=>by
   obtain ⟨p,hp,rfl⟩:=List.mem_map.1 hx
   obtain ⟨n,k1,_,k2⟩:=zcZ (zeo.1 hp).1
   rw [zcO k1];omega
 simpa using h1
def F56 (a0:Value) (w:World) (R:VW):Prop:=
 rN 106 3 a0 w fun x8=>
 LOOPI [3,9] [(Value.slice none 0 0),(iV 0)] w fun u3 w next3=>
 rC (u3 9) x8 w fun x10=>
 BR x10
 (rX 106 a0 (u3 9) w fun x11=>
 rL 131 x11 w fun x12=>
 oP (Instr.alloc 131 true (.tuple #[])) w fun x5 w=>
 oS 131 x5 x12 w fun w=>
 rF 131 x5 0 w fun x13=>
 rL 3 x13 w fun x14=>
 rF 131 x5 1 w fun x15=>
 rL 3 x15 w fun x16=>
 rD (Instr.build 133 #[(0,x14),(1,x16)]) w fun x17=>
 oP (Instr.alloc 133 true (.tuple #[])) w fun x6 w=>
 oS 133 x6 x17 w fun w=>
 rL 133 x6 w fun x19=>
 cL 105 [(u3 3),x19] w fun x20 w=>
 rD (Op.unary .not x20) w fun x21=>
 BR x21
 (rL 133 x6 w fun x23=>
 oP (Instr.buildSlice 86 1 #[(0,x23)]) w fun x24 w=>
 oP (Builtin.append_ #[86,86] 86 [(u3 3),x24].toArray) w fun x25 w=>
 rA (u3 9) (iV 1) w fun x26=>
 next3 [x25,x26] w)
 (rA (u3 9) (iV 1) w fun x26=>
 next3 [(u3 3),x26] w))
 (R (u3 3) w)
def cfg56:Cfg:=⟨extL,[],[(3,134217320,[3,9])],[],[],[],[]⟩
theorem F56_call {a0:Value} {w:World} {R:VW} (h:F56 a0 w R):cL 56 [a0] w R:=co (g:=cfg56) Tryz.func56 (by kernel_rfl) (by kernel_rfl) (by kernel_rfl) h
open Rep (rep)
theorem znf {w W1:World} {v1:Value} {c:DCode} (h1:Is W1 v1 (zdq c)) (e1:Ext W1 w) (hc:CodeR c) :
   CALL Tryz.prog 56 [v1] w fun r w'=>Ext w w'∧∃ A,AInv (zdq c) A∧Own w.heap.size w' r A:=by
 refine F56_call ?_
 unfold F56
 have hol:=zoc hc
 have h6l:=hc.1.locks6
 refine zag zs9 h1 ?_
 refine zaq (zdq c).length (fun k us w'=>∃ out A,us=[out,.int .i64 (k:Int)]∧k≤(zdq c).length∧Ext w w'∧RowI w.heap.size w'.heap.size 133 w' out A∧AInv ((zdq c).take k) A) 0 (Nat.zero_le _) ⟨_,[],rfl,Nat.zero_le _,Ext.refl _,zcp _ _ _ _,by rw [List.take_zero];exact AInv.start⟩ ?_
 rintro k mk q w2 hkm ⟨out,A,hq,hkl,hx2,hr2,hI⟩
 obtain ⟨hq1,hq2⟩:=zb1 hq
 rw [hq1,hq2]
 have hs2:=hx2.size
 refine zah ?_
 refine br (fun hlt=>?_) (fun hge=>?_)
 case refine_2=>
   have hke:k=(zdq c).length:=by omega
   rw [hke,List.take_length] at hI
   exact ⟨hx2,A,hI,hr2.own.own⟩
 have hk:k<(zdq c).length:=by omega
 have hso:((zdq c).take k++[(zdq c)[k]]).Pairwise ltO:=by
   rw [←List.take_succ_eq_append_getElem hk]
   exact (zm5 c).sublist (List.take_sublist _ _)
 have hlenA:=zkP h6l hI.pw (hI.rng hc)
 refine zad zs9 zk3 h1 hk fun b3 o3 hA3=>?_
 refine zac zk3 hA3 (e1.trans hx2) fun v12 h12=>?_
 refine zbX zvD rfl zk3 rfl h12 (e1.trans hx2) fun w3 hx3 hAt3 hV3=>?_
 refine zaa zj6 ?_
 refine zab ty3 (ziI hAt3) (Ext.refl _) fun hI0=>?_
 refine zaa zj7 ?_
 refine zab ty3 (ziJ hAt3) (Ext.refl _) fun hI1=>?_
 refine zca (cells:=#[.int .i64 (zdq c)[k].fr,.int .i64 (zdq c)[k].to]) (by kernel_rfl) ?_
 have hIs:Is w3 (.agg #[.int .i64 (zdq c)[k].fr,.int .i64 (zdq c)[k].to]) (zfD (zdq c)[k]):=zjP.2 ⟨rfl,hI0,hI1⟩
 refine zbX zrU rfl zdc rfl hIs (Ext.refl _) fun w4 hx4 hAt4 hV4=>?_
 refine zac zdc hAt4 (Ext.refl _) fun v19 h19=>?_
 have hr4:=(hr2.ext hx3).ext hx4
 refine (zjf hr4.is (Ext.refl _) h19 (Ext.refl _)).mono ?_
 rintro _ w5 ⟨hx5,rfl⟩
 have hx25:=(hx3.trans hx4).trans hx5
 refine zaz ?_
 refine br (fun hno=>?_) (fun hyes=>?_)
 · refine zac zdc hAt4 hx5 fun v23 h23=>?_
   have hs25:=hx25.size
   refine zbK (lo2:=w5.heap.size) (hi2:=w5.heap.size) (x:=zfD (zdq c)[k]) u86 zdc zvT zuZ (by decide) (hr4.ext hx5) (by omega) (zgF (h23.ext hx5)) (by omega) (by omega) (by rw [zan];omega) (by omega) fun v' w9 hc9 hr9=>?_
   refine zaf (by omega) ?_
   refine ⟨mk-1,by omega,k+1,by omega,v',A++[zfD (zdq c)[k]],rfl,by omega,(hx2.trans hx25).chgI hc9 (Nat.le_refl _),hr9,?_⟩
   rw [List.take_succ_eq_append_getElem hk]
   exact hI.new hso hno
 have hyes:=Decidable.not_not.1 hyes
 refine zaf (by omega) ?_
 refine ⟨mk-1,by omega,k+1,by omega,out,A,rfl,by omega,hx2.trans hx25,(hr4.ext hx5).mono (Nat.le_refl _) hx25.size,?_⟩
 rw [List.take_succ_eq_append_getElem hk]
 exact hI.old hyes
theorem zoo {c:DCode} (hc:CodeR c) {A:List DArc} (h:AInv (zdq c) A):(∀ a∈A,(0≤a.fr∧a.fr<c.locks.length)∧0≤a.to∧a.to<c.locks.length)∧A.length≤2000:=by
 have h1:AInv ((zdq c).take (zdq c).length) A:=by rw [List.take_length];exact h
 have h2:=h1.rng hc
 have:=zkP hc.1.locks6 h.pw h2
 exact ⟨h2,by omega⟩
open Classical in
noncomputable def zng (c:DCode) (k:Nat):List (List Nat):=((zbo c).take k).filter fun p=>decide (zoh (nxL c) p)
theorem zsO {c:DCode} {k:Nat} (hk:k<(zbo c).length) (h:zoh (nxL c) (zbo c)[k]):zng c (k+1)=zng c k++[(zbo c)[k]]:=by
 unfold zng
 rw [List.take_succ_eq_append_getElem hk,List.filter_append]
 simp [h]
theorem zum {c:DCode} {k:Nat} (hk:k<(zbo c).length) (h:¬zoh (nxL c) (zbo c)[k]):zng c (k+1)=zng c k:=by
 unfold zng
 rw [List.take_succ_eq_append_getElem hk,List.filter_append]
 simp [h]
theorem zop (c:DCode) (k:Nat):(zng c k).length≤k:=Nat.le_trans (List.length_filter_le _ _) (by rw [List.length_take];omega)
theorem znh {c:DCode} {cs:List (List Int)} (hp:cs.Perm ((zng c (zbo c).length).map zaA)) (hs:cs.Pairwise fun a b=>hd0 a<hd0 b):cs=(zcR c).map zaA:=by
 refine ziX hs (by rw [List.pairwise_map];exact zme c) fun x=>?_
 rw [hp.mem_iff]
 simp only [List.mem_map,zeo]
 unfold zng
 rw [List.take_length]
 simp only [List.mem_filter,decide_eq_true_eq]
theorem zsP {α:Type} {f:α→List Nat} {Z:List α} {z:α} (hz:z∈Z) (h:(Z.flatMap f).Nodup):(f z).Nodup:=by
 obtain ⟨l1,l2,rfl⟩:=List.append_of_mem hz
 rw [List.flatMap_append,List.nodup_append] at h
 have h2:=h.2.1
 rw [List.flatMap_cons,List.nodup_append] at h2
 exact h2.1
theorem zrs {w:World} {v:Value} {l:List (List Int)} {F:List Nat} (hM:Mine F w v l):∃ Z:List (List Nat×Value×List Int),l=Z.map (·.2.2)∧(∀ z∈Z,Mine z.1 w z.2.1 z.2.2)∧(Z.flatMap (·.1)).Nodup∧(∀ c∈Z.flatMap (·.1),c∈F) ∧
   (Z≠[]→∃ b o cap,v=.slice (some ⟨b,o,none⟩) l.length cap∧b∈F∧b∉Z.flatMap (·.1)∧w.rangeAt b o (Z.map (·.2.1))):=by
 obtain ⟨⟨c0,⟨a,cap,Fi,xs,rfl,h1,h2,hc,h4⟩,rfl⟩,hnd,hw⟩:=hM
 obtain ⟨Z,rfl,rfl,rfl,hZ⟩:=zf6 hc
 rcases h4 with ⟨h4,rfl⟩ | ⟨b,o,rfl,rfl,hr,hbl⟩
 · have:Z=[]:=by simpa using h4
   subst this
   exact ⟨[],rfl,by simp,by simp,by simp,fun h=>absurd rfl h⟩
 rw [List.nodup_cons] at hnd
 have hsub:∀ z∈Z,∀ c∈z.1,c∈Z.flatMap (·.1):=fun z hz c hc=>List.mem_flatMap.2 ⟨z,hz,hc⟩
 refine ⟨Z,rfl,fun z hz=>⟨⟨_,hZ z hz,rfl⟩,?_,hw.sub fun c hc=>List.mem_cons_of_mem _ (hsub z hz c hc)⟩,hnd.2,fun c hc=>List.mem_cons_of_mem _ hc,fun _=>⟨b,o,cap,rfl,by simp,hnd.1,hr⟩⟩
 exact zsP (f:=(·.1)) hz hnd.2
def F24 (a0:Value) (w:World) (R:VW):Prop:=
 (fun w=>NIL a0 <|
 rF 97 a0 0 w fun x10=>
 rF 31 x10 1 w fun x11=>
 rL 22 x11 w fun x12=>
 rN 22 3 x12 w fun x13=>
 (fun w_=>cL 57 [a0] w_ fun x15 w=>
 Ext w_ w ∧
 (fun w_=>cL 56 [x15] w_ fun x16 w=>
 Ext w_ w ∧
 cL 58 [x13,x16] w fun x19 w=>
 rN 45 3 x19 w fun x20=>
 LOOPI [5,21] [(Value.slice none 0 0),(iV 0)] w fun u4 w next4=>
 rC (u4 21) x20 w fun x22=>
 BR x22
 (rX 45 x19 (u4 21) w fun x23=>
 rL 23 x23 w fun x24=>
 cL 59 [x13,x16,x24] w fun x28 w=>
 BR x28
 (oP (Instr.buildSlice 45 1 #[(0,x24)]) w fun x31 w=>
 oP (Builtin.append_ #[45,45] 45 [(u4 5),x31].toArray) w fun x32 w=>
 rA (u4 21) (iV 1) w fun x33=>
 next4 [x32,x33] w)
 (rA (u4 21) (iV 1) w fun x33=>
 next4 [(u4 5),x33] w))
 (cL 60 [(u4 5),(Value.func (.func 61) #[] #[])] w fun x35 w=>
 R (u4 5) w)) w) w) (World.drew1 w)
def cfg24:Cfg:=⟨extL,[],[(4,17177772192,[5,21])],[(1,[0,1,2,3,4,5,6,7,8,9,10],384)],[],[],[]⟩
theorem F24_call {a0:Value} {w:World} {R:VW} (h:F24 a0 w R):cL 24 [a0] w R:=co (g:=cfg24) Tryz.func24 (by kernel_rfl) (by kernel_rfl) (by kernel_rfl) h
open Rep (rep)
theorem zmf {α β:Type} {f:α→List β} {l:List α} {k:Nat} {x:β} (h:x∈(l.take k).flatMap f):x∈l.flatMap f:=by
 obtain ⟨z,hz,hx⟩:=List.mem_flatMap.1 h
 exact List.mem_flatMap.2 ⟨z,List.mem_of_mem_take hz,hx⟩
theorem zpi {α:Type} {f:α→List Nat} {l:List α} {k:Nat} (hk:k<l.length) (hn:(l.flatMap f).Nodup):∀ c∈f l[k],c∉(l.take k).flatMap f:=fun c hc h=>by
 have e:l=l.take k++l[k] :: l.drop (k+1):=by rw [←List.drop_eq_getElem_cons hk,List.take_append_drop]
 rw [e,List.flatMap_append,List.nodup_append] at hn
 exact hn.2.2 c h c (by rw [List.flatMap_cons];exact List.mem_append_left _ hc) rfl
theorem zc0 {α β:Type} {f:α→List β} {l:List α} {k:Nat} (hk:k<l.length):(l.take (k+1)).flatMap f=(l.take k).flatMap f++f l[k]:=by
 rw [List.take_succ_eq_append_getElem hk,List.flatMap_append];simp
theorem zrt {w W0:World} {b:Nat} {c:DCode} (hW:WAt W0 b c) (e0:Ext W0 w) (hc:CodeR c) :
   CALL Tryz.prog 24 [.pointer (some ⟨b,0,none⟩)] w fun r w'=>Ext w w'∧Own w.heap.size w' r ((zcR c).map zaA):=by
 refine F24_call ?_
 unfold F24
 have h6l:=hc.1.locks6
 have hcode:=hW.wl.code
 have hxd:=zak w
 generalize World.drew1 w=w1 at *
 refine NIL.mk rfl ?_
 refine zaa zbd ?_
 refine zaa zcn ?_
 refine zac zbP (zaR hcode) (e0.trans hxd) fun v12 h12=>?_
 refine zag u22 h12 ?_
 refine (zq4 hW (e0.trans hxd) hc).mono ?_
 rintro v15 w2 ⟨hx2,ho2⟩
 refine ⟨hx2,?_⟩
 refine (znf ho2.is (Ext.refl _) hc).mono ?_
 rintro v16 w3 ⟨hx3,A,hAI,ho3⟩
 refine ⟨hx3,?_⟩
 obtain ⟨hAr,hAl⟩:=zoo hc hAI
 refine (znb ho3.is (Ext.refl _) (by omega) hAr hAl).mono ?_
 rintro v19 w4 ⟨hx4,ho4⟩
 rw [zhO hc hAI] at ho4
 have hx03:=(hxd.trans hx2).trans hx3
 have hs3:=hx03.size
 have hs4:=hx4.size
 obtain ⟨F,hM,hF⟩:=ho4
 change Mine F w4 v19 ((zbo c).map zaA) at hM
 have hll:=ziY c
 refine zag u45 hM.is ?_
 rw [List.length_map]
 obtain ⟨Z,hZl,hZ,hZn,hZF,hZs⟩:=zrs hM
 have hZlen:Z.length=(zbo c).length:=by have:=congrArg List.length hZl;simpa using this.symm
 refine zaq (zbo c).length (fun k us w'=>∃ out FO,us=[out,.int .i64 (k:Int)]∧k≤(zbo c).length∧Ext w3 w'∧w4.heap.size≤w'.heap.size∧RowG FO 23 w' out ((zng c k).map zaA)∧FO.Nodup∧(∀ x∈FO,x∈(Z.take k).flatMap (·.1)∨w4.heap.size≤x)∧∀ x,x<w4.heap.size→x∉(Z.take k).flatMap (·.1)→w'.heap[x]?=w4.heap[x]?) 0 (Nat.zero_le _) ⟨_,[],rfl,Nat.zero_le _,hx4,Nat.le_refl _,.inl ⟨none,rfl,by simp [zng],rfl⟩,List.nodup_nil,by simp,fun _ _ _=>rfl⟩ ?_
 rintro k mk q w5 hkm ⟨out,FO,hq,hkl,hx5,hs5,hr5,hn5,hFO,hkeep⟩
 obtain ⟨hq1,hq2⟩:=zb1 hq
 rw [hq1,hq2]
 have hcl:=zop c k
 have hFOge:∀ x∈FO,w3.heap.size≤x:=fun x hx=>by
   rcases hFO x hx with h | h
   · exact hF x (hZF x (zmf h))
   omega
 refine zah ?_
 refine br (fun hlt=>?_) (fun hge=>?_)
 case refine_2=>
   have hke:k=(zbo c).length:=by omega
   rw [hke] at hr5
   have hown:OwnI w3.heap.size w5.heap.size w5 out ((zng c (zbo c).length).map zaA):=⟨FO,⟨hr5.own,hn5,hr5.wr⟩,fun x hx=>⟨hFOge x hx,hr5.lt x hx⟩⟩
   have hin:∀ p∈zng c (zbo c).length,p∈zbo c:=fun p hp=>by
     unfold zng at hp
     exact List.mem_of_mem_take (List.mem_filter.1 hp).1
   refine (zsM hown (by rw [List.length_map];have:=zop c (zbo c).length;omega) (fun x hx=>?_) (fun x hx=>?_) ?_).mono ?_
   · obtain ⟨p,hp,rfl⟩:=List.mem_map.1 hx
     obtain ⟨n,_,h2,_⟩:=zcZ (hin p hp)
     intro e
     have h3:p=[]:=List.eq_nil_of_length_eq_zero (by rw [←zae,e];rfl)
     rw [h3] at h2;cases h2
   · obtain ⟨p,hp,rfl⟩:=List.mem_map.1 hx
     obtain ⟨n,h1,_,h2⟩:=zcZ (hin p hp)
     rw [zcO h1];omega
   · rw [List.pairwise_map]
     unfold zng
     exact ((zmd c).sublist (List.take_sublist _ _)).filter _
   rintro _ w6 ⟨hc6,cs',ho6,hp6,hs6⟩
   rw [znh hp6 hs6] at ho6
   exact ⟨(hx03.trans hx5).chgI hc6 hs3,ho6.own.mono hs3⟩
 have hk:k<(zbo c).length:=by omega
 have hkZ:k<Z.length:=by omega
 obtain ⟨b9,o9,cap,rfl,hbF,hbZ,hrZ⟩:=hZs (List.ne_nil_of_length_pos (by omega))
 have hzk:=hZ _ (List.getElem_mem hkZ)
 have hlk:Z[k].2.2=zaA (zbo c)[k]:=by
   have h1:((zbo c).map zaA)[k]?=(Z.map (·.2.2))[k]?:=by rw [hZl]
   rw [List.getElem?_map,List.getElem?_map,List.getElem?_eq_getElem hk,List.getElem?_eq_getElem hkZ] at h1
   simpa using h1.symm
 have hap:=zpi (f:=(·.1)) hkZ hZn
 have hzk5:Mine Z[k].1 w5 Z[k].2.1 Z[k].2.2:=hzk.keep fun x hx=>hkeep x (hzk.lt x hx) (hap x hx)
 have hb5:w5.heap[b9]?=w4.heap[b9]?:=hkeep b9 (hM.lt b9 hbF) fun h=>hbZ (zmf h)
 have hr9:w5.rangeAt b9 (o9+k*1) [Z[k].2.1]:=fun j v hj=>by
   cases j with
   | zero=>
     simp only [List.getElem?_cons_zero,Option.some.injEq] at hj
     subst hj
     rw [World.cell?_of_block (w:=w4) hb5,Nat.mul_one,Nat.add_zero]
     exact hrZ k _ (by rw [List.getElem?_map,List.getElem?_eq_getElem hkZ];rfl)
   | succ j=>simp at hj
 refine za0 (v:=.pointer (some ⟨b9,o9+k*1,none⟩)) (fun w' _=>by rw [zcw u45 zbE (by omega) (by rw [List.length_map];omega)];simp) ?_
 refine zrN (α:=List Int) zbE (by
   obtain ⟨cs,hr,hv⟩:=hzk5.own
   obtain ⟨v,rfl⟩:∃ v,cs=[v]:=List.length_eq_one_iff.1 (Rep.len hr)
   have:Z[k].2.1=v:=hv
   rw [this];exact hr) hr9 ?_
 change CALL Tryz.prog _ [_,_,Z[k].2.1] w5 _
 rw [hlk] at hzk5
 refine (zkN ho3.is hx5 hzk5.is (Ext.refl _) (by omega) hAr hAl (zen (List.getElem_mem hk)).2 (by have:=(zen (List.getElem_mem hk)).1;omega)).mono ?_
 rintro _ w6 ⟨hx6,bb,rfl,hbb⟩
 rw [zhO hc hAI] at hbb
 have hs6:=hx6.size
 have hr6:=hr5.keep fun x hx=>hx6.heap (hr5.lt x hx)
 have hkeep6:∀ x,x<w4.heap.size→x∉(Z.take k).flatMap (·.1)→w6.heap[x]?=w4.heap[x]?:=fun x hx hn=>(hx6.heap (by omega)).trans (hkeep x hx hn)
 refine zbw (fun hy=>?_) (fun hn=>?_)
 · have hcy:=hbb.1 hy
   refine zgi (K:=fun w1 r w2=>_) u45 zbE z23 zvs (by decide) hr6 hn5 (hzk5.ext hx6) (fun x hx hxF=>?_) (by rw [List.length_map,zan];omega) (by rw [List.length_map];omega) (fun w7 v' w8 G' hx7 hc8 hR8 hN8 hs8=>?_) fun s w7 _ h=>h
   · rcases hFO x hxF with h | h
     · exact hap x hx h
     have:=hzk.lt x hx;omega
   refine zaf (by omega) ?_
   refine ⟨mk-1,by omega,k+1,by omega,v',G',rfl,by omega,((hx5.trans hx6).trans hx7).chg_trans hc8 hFOge,?_,?_,hN8,fun x hx=>?_,fun x hx hn=>?_⟩
   · have:=hx7.size;have:=hc8.size;omega
   · rw [zsO hk hcy,List.map_append];exact hR8
   · rw [zc0 hkZ]
     rcases hs8 x hx with h | h | h
     · rcases hFO x h with h | h
       · exact .inl (List.mem_append_left _ h)
       exact .inr h
     · exact .inl (List.mem_append_right _ h)
     exact .inr (by omega)
   rw [zc0 hkZ] at hn
   have hn1:x∉(Z.take k).flatMap (·.1):=fun h=>hn (List.mem_append_left _ h)
   have hnF:x∉FO:=fun h=>by
     rcases hFO x h with h | h
     · exact hn1 h
     omega
   have h7:=hx7.size
   rw [hc8.block x (by omega) hnF,hx7.heap (by omega)]
   exact hkeep6 x hx hn1
 have hcy:¬zoh (nxL c) (zbo c)[k]:=fun h=>by rw [hbb.2 h] at hn;cases hn
 refine zaf (by omega) ?_
 refine ⟨mk-1,by omega,k+1,by omega,out,FO,rfl,by omega,hx5.trans hx6,by omega,by rw [zum hk hcy];exact hr6,hn5,fun x hx=>?_,fun x hx hn=>?_⟩
 · rw [zc0 hkZ]
   rcases hFO x hx with h | h
   · exact .inl (List.mem_append_left _ h)
   exact .inr h
 rw [zc0 hkZ] at hn
 exact hkeep6 x hx fun h=>hn (List.mem_append_left _ h)
open Classical in
noncomputable def ziZ (c:DCode):List (List Int):=if CodeR c then (zcR c).map zaA else []
theorem zjQ (c:DCode):(ziZ c).length≤6∧∀ x∈ziZ c,x.length≤6:=by
 unfold ziZ
 split
 · rename_i h
   have h6:=h.1.locks6
   refine ⟨by rw [List.length_map];have:=zph c;omega,fun x hx=>?_⟩
   obtain ⟨p,hp,rfl⟩:=List.mem_map.1 hx
   have:=(zrr hp).1
   rw [zae];omega
 simp
open Classical in
open Classical in
def F7 (a0:Value) (w:World) (R:VW):Prop:=
 oP (Instr.box 31 a0) w fun x1 w=>
 rL 31 x1 w fun x11=>
 cL 20 [x11] w fun x12 w=>
 rE x12 0 w fun x13=>
 rE x12 1 w fun x14=>
 rD (Op.unary .not x14) w fun x16=>
 BR x16
 (R (Value.string (ByteArray.mk #[])) w)
 (oP (Instr.alloc 56 true (.tuple #[])) w fun x5 w=>
 cL 21 [x13] w fun x18 w=>
 rN 40 3 x18 w fun x19=>
 LOOPI [20] [(iV 0)] w fun u6 w next6=>
 rC (u6 20) x19 w fun x21=>
 BR x21
 (rX 40 x18 (u6 20) w fun x22=>
 rL 44 x22 w fun x23=>
 oP (Instr.alloc 44 true (.tuple #[])) w fun x7 w=>
 oS 44 x7 x23 w fun w=>
 (fun w=>rF 31 x1 0 w fun x24=>
 rL 22 x24 w fun x25=>
 rF 44 x7 0 w fun x26=>
 rL 3 x26 w fun x27=>
 rX 22 x25 x27 w fun x28=>
 rL 9 x28 w fun x29=>
 rB .add 9 U0 T0 (Value.string (ByteArray.mk #[114,97,99,101,32])) x29 w fun x30=>
 rB .add 9 T0 U0 x30 (Value.string (ByteArray.mk #[32])) w fun x31=>
 rF 44 x7 1 w fun x32=>
 rL 3 x32 w fun x33=>
 rF 44 x7 2 w fun x37=>
 rL 3 x37 w fun x38=>
 (fun w_=>cL 23 [x33] w_ fun x34 w=>
 Ext w_ w ∧
 rB .add 9 T0 T0 x31 x34 w fun x35=>
 rB .add 9 T0 U0 x35 (Value.string (ByteArray.mk #[32])) w fun x36=>
 (fun w_=>cL 23 [x38] w_ fun x39 w=>
 Ext w_ w ∧
 rB .add 9 T0 T0 x36 x39 w fun x40=>
 rB .add 9 T0 U0 x40 (Value.string (ByteArray.mk #[10])) w fun x41=>
 cL 22 [x5,x41] w fun x42 w=>
 rA (u6 20) (iV 1) w fun x43=>
 next6 [x43] w) w) w) (World.drew1 w))
 (cL 24 [x13] w fun x45 w=>
 rN 45 3 x45 w fun x46=>
 LOOPI [47] [(iV 0)] w fun u11 w next11=>
 rC (u11 47) x46 w fun x48=>
 BR x48
 (rX 45 x45 (u11 47) w fun x49=>
 rL 23 x49 w fun x50=>
 rL 31 x1 w fun x51=>
 cL 25 [x51,x50] w fun x53 w=>
 cL 22 [x5,x53] w fun x54 w=>
 rA (u11 47) (iV 1) w fun x55=>
 next11 [x55] w)
 (cL 26 [x5] w fun x56 w=>
 rB .eql 3 T0 U0 x56 (iV 0) w fun x57=>
 BR x57
 (R (Value.string (ByteArray.mk #[99,108,101,97,110,10])) w)
 (cL 27 [x5] w fun x58 w=>
 R x58 w))))
def cfg7:Cfg:=⟨extL,[],[(6,17592184995968,[20]),(11,71916856549573120,[47])],[(8,[0,1,2,3,4,5,6,7,8,9,13,14,10,11,12,15,16,17,18],33792)],[],[],[]⟩
theorem F7_call {a0:Value} {w:World} {R:VW} (h:F7 a0 w R):cL 7 [a0] w R:=co (g:=cfg7) Tryz.func7 (by kernel_rfl) (by kernel_rfl) (by kernel_rfl) h
open Rep (rep)
theorem zmg {c:DCode} {a held:Int} {i:DIns} {x:DTouch}:∀ {k:Nat},x∈zbO c a held i k→0≤x.global∧x.global<k
 | 0,h=>by simp [zbO] at h
 | k+1,h=>by
   rw [zbO] at h
   rcases List.mem_append.1 h with h | h
   · rcases List.mem_append.1 h with h | h
     · have:=zmg h;omega
     split at h
     · simp only [List.mem_cons,List.not_mem_nil,or_false] at h;subst h;constructor<;>(show _ ;simp)<;>omega
     simp at h
   split at h
   · simp only [List.mem_cons,List.not_mem_nil,or_false] at h;subst h;constructor<;>(show _ ;simp)<;>omega
   simp at h
theorem zvj {c:DCode} {x:DTouch} (h:x∈zjJ c):0≤x.global∧x.global<c.globals.length:=by
 unfold zjJ at h
 obtain ⟨i,hi,hx⟩:=List.mem_flatMap.1 h
 unfold zoe zcM at hx
 split at hx
 · exact zmg hx
 simp at hx
noncomputable def rcR (c:DCode):List DRace:=zeR (zfc c (zjJ c) (zjJ c).length)
theorem zru {c:DCode} (hc:CodeR c):(rcR c).length≤324000000:=Nat.le_trans (zlP _) (ziP (zhN hc) (zhN hc))
theorem zvk {c:DCode} {x:DRace} (h:x∈rcR c):0≤x.g∧x.g<c.globals.length:=by
 have h:=zlN.1 h
 unfold zfc at h
 obtain ⟨i,hi,hx⟩:=List.mem_flatMap.1 h
 rw [zhM (List.mem_range.1 hi)] at hx
 obtain ⟨b,hb,hx⟩:=List.mem_flatMap.1 hx
 unfold rc1 at hx
 split at hx
 · simp only [List.mem_cons,List.not_mem_nil,or_false] at hx
   subst hx
   exact zvj (List.getElem_mem _)
 simp at hx
theorem zi0 {c:DCode} {part:List Int} (h:zfZ c part):∀ k,k≤part.length→(zdF c part k).size≤5+13*k
 | 0,_=>by rw [zdF];decide
 | k+1,hk=>by
   have h1:=zi0 h k (by omega)
   have h2:=h.2.2.2 _ (List.getElem_mem (l:=part) (n:=k) (by omega))
   have h3:part.getD k 0=part[k]'(by omega):=zdS (by omega)
   have h4:=h.1.1.lock_size (i:=(part.getD k 0).toNat) (by rw [h3];omega)
   have h5:blankS.size=1:=rfl
   rw [zdF,ByteArray.size_append,ByteArray.size_append,zdS (by rw [h3];omega)]
   omega
theorem zfN (c:DCode) (part:List Int):(zaQ c part).size≤100:=by
 unfold zaQ
 split
 · rename_i h
   have h1:=zi0 h part.length (Nat.le_refl _)
   have h2:=h.2.2.1
   have h3:lineS.size=1:=rfl
   rw [ByteArray.size_append];omega
 exact Nat.zero_le _
theorem zjR {c:DCode} (hc:CodeR c) {x:DRace} (hg:0≤x.g∧x.g<c.globals.length) (ha:I64 x.a) (hb:I64 x.b):(zeb c x).size≤100:=by
 have h1:=zfk x.a ha
 have h2:=zfk x.b hb
 have h3:=hc.1.global_size (i:=x.g.toNat) (by omega)
 have h4:raceS.size=5:=rfl
 have h5:blankS.size=1:=rfl
 have h6:lineS.size=1:=rfl
 unfold zeb
 simp only [ByteArray.size_append]
 rw [zdS (by omega)]
 omega
noncomputable def zjS (c:DCode):List UInt8:=(rcR c).flatMap fun x=>bts (zeb c x)
noncomputable def zkQ (c:DCode):List UInt8:=((zcR c).map zaA).flatMap fun p=>bts (zaQ c p)
def zvl:ByteArray:=ByteArray.mk #[99,108,101,97,110,10]
open Classical in
noncomputable def zdZ (c:DCode):ByteArray:=if CodeR c then (if (zjS c++zkQ c).length=0 then zvl else ⟨(zjS c++zkQ c).toArray⟩) else ByteArray.empty
theorem zfC {X:Nat→Prop} {a w w':World} (h:ExtX X w w') (h0:Ext a w) (hX:∀ b,X b→a.heap.size≤b):Ext a w':=
 ⟨h.os.trans h0.os,h.tape.trans h0.tape,h.output.trans h0.output,Nat.le_trans h0.size h.size,fun i hi=>(h.block i (Nat.lt_of_lt_of_le hi h0.size) (fun hx=>by have:=hX i hx;omega)).trans (h0.block i hi)⟩
theorem zeN {X:Nat→Prop} {w w':World} (h:Ext w w'):ExtX X w w':=⟨h.os,h.tape,h.output,h.size,fun b hb _=>h.block b hb⟩
theorem zi1 {α:Type} [Rep α] {lo:Nat} {X:Nat→Prop} {w w':World} {v:Value} {x:α} (h:Own lo w v x) (hx:ExtX X w w') (hX:∀ b,lo≤b→b<w.heap.size→¬X b):Is w' v x:=by
 obtain ⟨F,hm,hF⟩:=h
 exact (hm.keep fun b hb=>hx.block b (hm.lt b hb) (hX b (hF b hb) (hm.lt b hb))).is
theorem zi2 {w W0:World} {v0:Value} {c:DCode} (h0:Is W0 v0 c) (e0:Ext W0 w) (hT:PowT w) :
   CALL Tryz.prog 7 [v0] w fun r w'=>Ext w w'∧r=.string (zdZ c):=by
 refine F7_call ?_
 unfold F7
 refine zbr h0 e0 fun wa hxa hA=>?_
 refine zac zbt hA (Ext.refl _) fun v11 h11=>?_
 refine (zoM h11 (Ext.refl _)).mono ?_
 rintro _ wv ⟨hxv,h⟩
 rcases h with ⟨hn,rfl⟩ | ⟨hc,b,rfl,hW⟩
 · refine zdr rfl ?_
   refine zdr rfl ?_
   refine zaV ?_
   refine zbw (fun _=>⟨hxa.trans hxv,by unfold zdZ;rw [if_neg hn];rfl⟩) (fun h=>by cases h)
 refine zdr rfl ?_
 refine zdr rfl ?_
 refine zaV ?_
 refine zbw (fun h=>by cases h) (fun _=>?_)
 have hAv:=hA.ext hxv
 have hxw:=hxa.trans hxv
 refine ztO (X:=fun b=>b<0) fun wg hxg hB0=>?_
 have hgl:=hB0.lt
 refine (zsz hW hxg hc).mono ?_
 rintro v18 W1 ⟨hx1,hR⟩
 have hs1:=hx1.size
 have hsv:=hxv.size
 have hsg:=hxg.size
 have hsw:=hxw.size
 have hB1:=hB0.ext hx1
 have hRl:=zru hc
 change Own wg.heap.size W1 v18 (rcR c) at hR
 have hRg:=fun x (hx:x∈rcR c)=>zvk hx
 have hrep:zjS c=(rcR c).flatMap fun x=>bts (zeb c x):=rfl
 generalize hRe:rcR c=R at *
 generalize hge:wv.heap.size=g at *
 refine zag u40 hR.is ?_
 refine zaq R.length (fun k us w'=>us=[.int .i64 (k:Int)]∧k≤R.length∧ExtX (fun b=>b=g∨W1.heap.size≤b) W1 w'∧BldAt w' g ((R.take k).flatMap fun x=>bts (zeb c x)) (fun b=>W1.heap.size≤b)∧((R.take k).flatMap fun x=>bts (zeb c x)).length≤k*100) 0 (Nat.zero_le _) ⟨rfl,Nat.zero_le _,zeN (Ext.refl _),by simpa using hB1.mono fun k hk _=>absurd hk (Nat.not_lt_zero k),by simp⟩ ?_
 rintro i mk u w3 hkm ⟨hu,hkl,hE3,hB3,hbl3⟩
 simp only [List.map_cons,List.map_nil,List.cons.injEq,and_true] at hu
 rw [hu]
 have hs3:=hE3.size
 refine zah ?_
 have hxv3:Ext wv w3:=zfC hE3 (hxg.trans hx1) fun b hb=>by omega
 refine br (fun hlt=>?_) (fun hge2=>?_)
 case refine_1=>
   have hi:i<R.length:=by omega
   have hR3:Is w3 v18 R:=zi1 hR hE3 fun b hb1 hb2=>by omega
   refine zad u40 zd5 (i:=i) hR3 hi fun b4 o4 hA4=>?_
   refine zac zd5 hA4 (Ext.refl _) fun v23 h23=>?_
   refine zbX zvB rfl zd5 rfl h23 (Ext.refl _) fun w4 hx4 hAx hVx=>?_
   have hgx:=hRg R[i] (List.getElem_mem _)
   generalize hxe:R[i]=x at *
   have hxd:=zak w4
   generalize World.drew1 w4=w5 at *
   have hx45:Ext w3 w5:=hx4.trans hxd
   have hxv5:=hxv3.trans hx45
   refine zaa zcH ?_
   refine zac zbP (zaZ hAv) hxv5 fun v25 h25=>?_
   refine zaa zgj ?_
   refine zab ty3 (zcS hAx) hxd fun _=>?_
   obtain ⟨j,hj⟩:∃ j:Nat,x.g=(j:Int):=⟨x.g.toNat,by omega⟩
   have hjl:j<c.globals.length:=by omega
   rw [hj]
   refine zad u22 ty9 h25 hjl fun b3 o3 hA3=>?_
   refine zaH ty9 hA3 hxv5 fun _=>?_
   have hsz:=hc.1.global_size hjl
   have h5:(ByteArray.mk #[114,97,99,101,32]).size=5:=rfl
   have h1':(ByteArray.mk #[32]).size=1:=rfl
   have h1n:(ByteArray.mk #[10]).size=1:=rfl
   refine zbS (by omega) ?_
   refine zbS (by simp only [ByteArray.size_append];omega) ?_
   refine zaa zhi ?_
   refine zab ty3 (zdt hAx) hxd fun hIa=>?_
   refine zaa zjm ?_
   refine zab ty3 (zfi hAx) hxd fun hIb=>?_
   have hda:=zfk x.a hIa
   have hdb:=zfk x.b hIb
   have hxw5:=hxw.trans hxv5
   refine (zfI hT hxw5 hIa).mono ?_
   rintro _ w6 ⟨hx6,rfl⟩
   refine ⟨hx6,?_⟩
   refine zbS (by simp only [ByteArray.size_append];omega) ?_
   refine zbS (by simp only [ByteArray.size_append];omega) ?_
   refine (zfI hT (hxw5.trans hx6) hIb).mono ?_
   rintro _ w7 ⟨hx7,rfl⟩
   refine ⟨hx7,?_⟩
   refine zbS (by simp only [ByteArray.size_append];omega) ?_
   refine zbS (by simp only [ByteArray.size_append];omega) ?_
   have hx37:=(hx45.trans hx6).trans hx7
   have hs37:=hx37.size
   have hrb:ByteArray.mk #[114,97,99,101,32]++c.globals[j]++ByteArray.mk #[32]++zpQ x.a++ByteArray.mk #[32]++zpQ x.b++ByteArray.mk #[10]=zeb c x:=by
     unfold zeb
     rw [hj,Int.toNat_natCast,zdS hjl]
     rfl
   rw [hrb]
   have hrs:=zjR hc hgx hIa hIb
   refine (zfH (hB3.ext hx37) (fun k hk=>by omega) (by omega) (by rw [zan];omega)).mono ?_
   rintro _ w8 ⟨hE8,hB8⟩
   refine zaf (by omega) ?_
   have hfl:((R.take (i+1)).flatMap fun x=>bts (zeb c x))=((R.take i).flatMap fun x=>bts (zeb c x))++bts (zeb c x):=by
     rw [List.take_succ_eq_append_getElem hi,List.flatMap_append,hxe];simp
   refine ⟨mk-1,by omega,i+1,by omega,rfl,by omega,zrA (zrA hE3 (zeN hx37)) hE8,by rw [hfl];exact hB8,?_⟩
   rw [hfl,List.length_append,za5];omega
 have hke:i=R.length:=by omega
 rw [hke,List.take_length,←hrep] at hB3 hbl3
 refine (zrt hW hxv3 hc).mono ?_
 rintro v45 W2 ⟨hx2,hQ⟩
 have hs2:=hx2.size
 have hgl3:=hB3.lt
 have hBq:=(hB3.mono (Y:=fun b=>(W1.heap.size≤b∧b<w3.heap.size)∨W2.heap.size≤b) fun k hk hk2=>.inl ⟨hk,hk2⟩).ext hx2
 have hQl:((zcR c).map zaA).length≤6:=by have:=(zjQ c).1;unfold ziZ at this;rwa [if_pos hc] at this
 have hrep2:zkQ c=((zcR c).map zaA).flatMap fun p=>bts (zaQ c p):=rfl
 generalize hQe:(zcR c).map zaA=Q at *
 refine zag u45 hQ.is ?_
 refine zaq Q.length (fun k us w'=>us=[.int .i64 (k:Int)]∧k≤Q.length∧ExtX (fun b=>b=g∨(W1.heap.size≤b∧b<w3.heap.size)∨W2.heap.size≤b) W2 w'∧BldAt w' g (zjS c++(Q.take k).flatMap fun p=>bts (zaQ c p)) (fun b=>(W1.heap.size≤b∧b<w3.heap.size)∨W2.heap.size≤b)∧((Q.take k).flatMap fun p=>bts (zaQ c p)).length≤k*100) 0 (Nat.zero_le _) ⟨rfl,Nat.zero_le _,zeN (Ext.refl _),by simpa using hBq,by simp⟩ ?_
 rintro i2 mk2 u2 w4 hkm2 ⟨hu2,hkl2,hE4,hB4,hbl4⟩
 simp only [List.map_cons,List.map_nil,List.cons.injEq,and_true] at hu2
 rw [hu2]
 have hs4:=hE4.size
 refine zah ?_
 have hxv4:Ext wv w4:=zfC hE4 (hxv3.trans hx2) fun b hb=>by omega
 refine br (fun hlt=>?_) (fun hge3=>?_)
 case refine_1=>
   have hi:i2<Q.length:=by omega
   have hQ4:Is w4 v45 Q:=zi1 hQ hE4 fun b hb1 hb2=>by omega
   refine zad u45 zbE (i:=i2) hQ4 hi fun b5 o5 hA5=>?_
   refine zac zbE hA5 (Ext.refl _) fun v50 h50=>?_
   refine zac zbt hAv hxv4 fun v51 h51=>?_
   refine (zhu (h51.ext hxv4) (Ext.refl _) h50 (Ext.refl _)).mono ?_
   rintro _ w5 ⟨hx5,rfl⟩
   have hs5:=hx5.size
   have hrs:=zfN c Q[i2]
   refine (zfH (hB4.ext hx5) (fun k hk=>by omega) (by rw [List.length_append];omega) (by rw [zan];omega)).mono ?_
   rintro _ w6 ⟨hE6,hB6⟩
   refine zaf (by omega) ?_
   have hfl:((Q.take (i2+1)).flatMap fun p=>bts (zaQ c p))=((Q.take i2).flatMap fun p=>bts (zaQ c p))++bts (zaQ c Q[i2]):=by
     rw [List.take_succ_eq_append_getElem hi,List.flatMap_append];simp
   refine ⟨mk2-1,by omega,i2+1,by omega,rfl,by omega,zrA (zrA hE4 (zeN hx5)) hE6,by rw [hfl,←List.append_assoc];exact hB6,?_⟩
   rw [hfl,List.length_append,za5];omega
 have hke2:i2=Q.length:=by omega
 rw [hke2,List.take_length,←hrep2] at hB4 hbl4
 refine (zj8 hB4).mono ?_
 rintro _ w5 ⟨hx5,rfl⟩
 refine zao ?_
 refine br (fun hz=>⟨hxw.trans (hxv4.trans hx5),?_⟩) (fun hz=>?_)
 · unfold zdZ
   rw [if_pos hc,if_pos (by omega)];rfl
 refine (zhs (hB4.ext hx5) (hxw.trans (hxv4.trans hx5)) (by omega)).mono ?_
 rintro _ w6 ⟨hx6,rfl⟩
 refine ⟨hx6,?_⟩
 unfold zdZ
 rw [if_pos hc,if_neg (by omega)]
def F40 (a0:Value) (w:World) (R:VW):Prop:=
 oP (Instr.box 31 a0) w fun x1 w=>
 oP (Instr.buildSlice 86 0 #[]) w fun x7 w=>
 rL 31 x1 w fun x8=>
 cL 79 [x8] w fun x9 w=>
 LOOPI [3,5] [x7,(iV 0)] w fun u4 w next4=>
 rN 106 3 x9 w fun x12=>
 rC (u4 5) x12 w fun x13=>
 BR x13
 ((fun w=>rX 106 x9 (u4 5) w fun x18=>
 rF 131 x18 0 w fun x19=>
 rL 3 x19 w fun x20=>
 rX 106 x9 (u4 5) w fun x23=>
 rF 131 x23 1 w fun x24=>
 rL 3 x24 w fun x25=>
 rD (Instr.build 133 #[(0,x20),(1,x25)]) w fun x26=>
 (fun w_=>oP (Instr.alloc 133 true (.tuple #[])) w_ fun x6 w=>
 Ext w_ w ∧
 (oS 133 x6 x26 w fun w=>
 (fun w=>rN 86 3 (u4 3) w fun x28=>
 rB .eql 3 T0 U0 x28 (iV 0) w fun x29=>
 BR x29
 (rL 133 x6 w fun x41=>
 oP (Instr.buildSlice 86 1 #[(0,x41)]) w fun x42 w=>
 oP (Builtin.append_ #[86,86] 86 [(u4 3),x42].toArray) w fun x43 w=>
 rA (u4 5) (iV 1) w fun x15=>
 next4 [x43,x15] w)
 (rN 86 3 (u4 3) w fun x33=>
 rB .sub 3 T0 U0 x33 (iV 1) w fun x34=>
 rX 86 (u4 3) x34 w fun x35=>
 rL 133 x35 w fun x36=>
 rL 133 x6 w fun x37=>
 rB .neq 133 T0 T0 x36 x37 w fun x38=>
 BR x38
 (rL 133 x6 w fun x41=>
 oP (Instr.buildSlice 86 1 #[(0,x41)]) w fun x42 w=>
 oP (Builtin.append_ #[86,86] 86 [(u4 3),x42].toArray) w fun x43 w=>
 rA (u4 5) (iV 1) w fun x15=>
 next4 [x43,x15] w)
 (rA (u4 5) (iV 1) w fun x15=>
 next4 [(u4 3),x15] w))) (World.drew1 w))) w) (World.drew1 w))
 (R (u4 3) w)
def cfg40:Cfg:=⟨extL,[],[(4,17592186043496,[3,5])],[(6,[0,1,2,3,4,5,6,7,8,9,10,11,12],2048),(7,[0,1,2,3,4,5,6,7,8,9,10,11,12],0)],[],[],[]⟩
theorem F40_call {a0:Value} {w:World} {R:VW} (h:F40 a0 w R):cL 40 [a0] w R:=co (g:=cfg40) Tryz.func40 (by kernel_rfl) (by kernel_rfl) (by kernel_rfl) h
def F15 (a0:Value) (w:World) (R:VW):Prop:=
 oP (Instr.box 31 a0) w fun x1 w=>
 rL 31 x1 w fun x8=>
 cL 40 [x8] w fun x9 w=>
 rF 31 x1 1 w fun x10=>
 rL 22 x10 w fun x11=>
 rN 22 3 x11 w fun x12=>
 cL 41 [x12,x9] w fun x14 w=>
 oP (Instr.buildSlice 45 0 #[]) w fun x15 w=>
 LOOPI [5,6] [x15,(iV 0)] w fun u5 w next5=>
 rF 31 x1 1 w fun x17=>
 rL 22 x17 w fun x18=>
 rN 22 3 x18 w fun x19=>
 rC (u5 6) x19 w fun x20=>
 BR x20
 (LOOPI [5,7] [(u5 5),(iV 0)] w fun u8 w next8=>
 rN 45 3 x14 w fun x25=>
 rC (u8 7) x25 w fun x26=>
 BR x26
 ((fun w=>rX 45 x14 (u8 7) w fun x31=>
 rL 23 x31 w fun x32=>
 rX 23 x32 (iV 0) w fun x33=>
 rL 3 x33 w fun x34=>
 rB .eql 3 T0 T0 x34 (u5 6) w fun x36=>
 BR x36
 (rF 31 x1 1 w fun x38=>
 rL 22 x38 w fun x39=>
 rN 22 3 x39 w fun x40=>
 rX 45 x14 (u8 7) w fun x44=>
 rL 23 x44 w fun x45=>
 cL 42 [x40,x9,x45] w fun x46 w=>
 BR x46
 (oP (Instr.buildSlice 23 0 #[]) w fun x49 w=>
 rX 45 x14 (u8 7) w fun x52=>
 rL 23 x52 w fun x53=>
 oP (Builtin.append_ #[23,23] 23 [x49,x53].toArray) w fun x54 w=>
 oP (Instr.buildSlice 45 1 #[(0,x54)]) w fun x55 w=>
 oP (Builtin.append_ #[45,45] 45 [(u8 5),x55].toArray) w fun x56 w=>
 rA (u8 7) (iV 1) w fun x28=>
 next8 [x56,x28] w)
 (rA (u8 7) (iV 1) w fun x28=>
 next8 [(u8 5),x28] w))
 (rA (u8 7) (iV 1) w fun x28=>
 next8 [(u8 5),x28] w)) (World.drew1 w))
 (rA (u5 6) (iV 1) w fun x22=>
 next5 [(u8 5),x22] w))
 (R (u5 5) w)
def cfg15:Cfg:=⟨extL,[],[(5,144115188075790560,[5,6]),(8,144115188067467424,[5,7])],[(10,[0,1,2,3,4,5,6,7,8,9,10,11,12,13,14,15,16,17,18],0)],[],[],[]⟩
theorem F15_call {a0:Value} {w:World} {R:VW} (h:F15 a0 w R):cL 15 [a0] w R:=co (g:=cfg15) Tryz.func15 (by kernel_rfl) (by kernel_rfl) (by kernel_rfl) h
open Rep (rep)
theorem zpj {w W0:World} {v0:Value} {c:DCode} (h0:Is W0 v0 c) (e0:Ext W0 w) (hc:CodeR c) :
   CALL Tryz.prog 40 [v0] w fun r w'=>Ext w w'∧∃ A,AInv (zdq c) A∧Own w.heap.size w' r A:=by
 refine F40_call ?_
 unfold F40
 have hol:=zoc hc
 have h6l:=hc.1.locks6
 refine zbr h0 e0 fun w1 hx1 hA=>?_
 refine zaY (α:=DArc) u86 zdc fun a8 w2 hx2 hr2=>?_
 refine zac zbt hA hx2 fun v8 h8=>?_
 refine (zq5 h8 hx2 hc).mono ?_
 rintro v9 w3 ⟨hx3,ho3⟩
 have h9:=ho3.is
 have hx13:=(hx1.trans hx2).trans hx3
 have hs13:=hx13.size
 refine zaq (zdq c).length (fun k us w'=>∃ out A,us=[out,.int .i64 (k:Int)]∧k≤(zdq c).length∧Ext w3 w'∧RowI w3.heap.size w'.heap.size 133 w' out A∧AInv ((zdq c).take k) A) 0 (Nat.zero_le _) ⟨_,[],rfl,Nat.zero_le _,Ext.refl _,zcf _ _ _ _ _,by rw [List.take_zero];exact AInv.start⟩ ?_
 rintro k mk q w4 hkm ⟨out,A,hq,hkl,hx4,hr4,hI⟩
 obtain ⟨hq1,hq2⟩:=zb1 hq
 rw [hq1,hq2]
 have hs4:=hx4.size
 refine zag zs9 h9 ?_
 refine zah ?_
 refine br (fun hlt=>?_) (fun hge=>?_)
 case refine_2=>
   have hke:k=(zdq c).length:=by omega
   rw [hke,List.take_length] at hI
   exact ⟨hx13.trans hx4,A,hI,hr4.own.own.mono hs13⟩
 have hk:k<(zdq c).length:=by omega
 have hso:((zdq c).take k++[(zdq c)[k]]).Pairwise ltO:=by
   rw [←List.take_succ_eq_append_getElem hk]
   exact (zm5 c).sublist (List.take_sublist _ _)
 have hlenA:=zkP h6l hI.pw (hI.rng hc)
 have hxd:=zak w4
 generalize World.drew1 w4=w5 at *
 have e5:=hx4.trans hxd
 refine zad zs9 zk3 h9 hk fun b3 o3 hA3=>?_
 refine zaa zj6 ?_
 refine zab ty3 (ziI hA3) e5 fun hI0=>?_
 refine zad zs9 zk3 h9 hk fun b4 o4 hA4=>?_
 refine zaa zj7 ?_
 refine zab ty3 (ziJ hA4) e5 fun hI1=>?_
 refine zca (cells:=#[.int .i64 (zdq c)[k].fr,.int .i64 (zdq c)[k].to]) (by kernel_rfl) ?_
 have hIs:Is w5 (.agg #[.int .i64 (zdq c)[k].fr,.int .i64 (zdq c)[k].to]) (zfD (zdq c)[k]):=zjP.2 ⟨rfl,hI0,hI1⟩
 refine ztI zrU rfl zdc rfl hIs (Ext.refl _) fun w6 hx6 hAt6 hV6=>?_
 have hxd2:=zak w6
 generalize World.drew1 w6=w7 at *
 have hr7:=((hr4.ext hxd).ext hx6).ext hxd2
 have hx47:=(hxd.trans hx6).trans hxd2
 have hs47:=hx47.size
 have hpush:zfD (zdq c)[k]∉A→RD Tryz.prog (Instr.loadAt 133 (.pointer (some ⟨w5.heap.size,0,none⟩))) w7 fun x41=>OP Tryz.prog (Instr.buildSlice 86 1 #[(0,x41)]) w7 fun x42 w=>OP Tryz.prog (Builtin.append_ #[86,86] 86 [out,x42].toArray) w fun x43 w=>RD Tryz.prog (bin .add 3 (.tmp 0) (.const undef) (.int .i64 (k:Int)) (.int .i64 1)) w fun x15=>∃ m',m'<mk∧∃ k',k'+m'=(zdq c).length∧∃ out A,[x43,x15]=[out,.int .i64 (k':Int)]∧k'≤(zdq c).length∧Ext w3 w∧RowI w3.heap.size w.heap.size 133 w out A∧AInv ((zdq c).take k') A:=fun hno=>by
   refine zac zdc hAt6 hxd2 fun v23 h23=>?_
   refine zbK (lo2:=w7.heap.size) (hi2:=w7.heap.size) (x:=zfD (zdq c)[k]) u86 zdc zvT zuZ (by decide) hr7 (by omega) (zgF (h23.ext hxd2)) (by omega) (by omega) (by rw [zan];omega) (by omega) fun v' w9 hc9 hr9=>?_
   refine zaf (by omega) ?_
   refine ⟨mk-1,by omega,k+1,by omega,v',A++[zfD (zdq c)[k]],rfl,by omega,(hx4.trans hx47).chgI hc9 (Nat.le_refl _),hr9,?_⟩
   rw [List.take_succ_eq_append_getElem hk]
   exact hI.new hso hno
 refine zag u86 hr7.is ?_
 refine zao ?_
 refine br (fun h0=>?_) (fun hn0=>?_)
 · have:A=[]:=List.eq_nil_of_length_eq_zero (by omega)
   exact hpush (by rw [this];simp)
 have hlast:=hI.last hso (by omega)
 refine zag u86 hr7.is ?_
 refine zbf (by unfold I64;omega) ?_
 rw [show ((A.length:Int)-1)=((A.length-1:Nat):Int) by omega]
 refine zad (i:=A.length-1) u86 zdc hr7.is (by omega) fun b8 o8 hA8=>?_
 refine zac zdc hA8 (Ext.refl _) fun v36 h36=>?_
 refine zac zdc hAt6 hxd2 fun v37 h37=>?_
 refine zpe h36 h37 ?_
 refine br (fun hne=>?_) (fun heq=>?_)
 · exact hpush fun h=>hne (hlast.2 h)
 have hyes:=hlast.1 (Decidable.not_not.1 heq)
 refine zaf (by omega) ?_
 refine ⟨mk-1,by omega,k+1,by omega,out,A,rfl,by omega,hx4.trans hx47,hr7.mono (Nat.le_refl _) hs47,?_⟩
 rw [List.take_succ_eq_append_getElem hk]
 exact hI.old hyes
open Classical in
noncomputable def zi3 (c:DCode) (n:Nat):List (List Nat):=(List.range n).flatMap fun n=>(zbo c).filter fun p=>decide (p.head?=some n∧zoh (nxL c) p)
open Classical in
noncomputable def zeQ (c:DCode) (n k:Nat):List (List Nat):=((zbo c).take k).filter fun p=>decide (p.head?=some n∧zoh (nxL c) p)
theorem zni (c:DCode) (n:Nat):zi3 c (n+1)=zi3 c n++zeQ c n (zbo c).length:=by
 unfold zi3 zeQ
 rw [List.range_succ,List.flatMap_append,List.take_length];simp
theorem zpk {c:DCode} {n k:Nat} (hk:k<(zbo c).length) (h:(zbo c)[k].head?=some n∧zoh (nxL c) (zbo c)[k]):zeQ c n (k+1)=zeQ c n k++[(zbo c)[k]]:=by
 unfold zeQ
 rw [List.take_succ_eq_append_getElem hk,List.filter_append]
 simp [h]
theorem zrv {c:DCode} {n k:Nat} (hk:k<(zbo c).length) (h:¬((zbo c)[k].head?=some n∧zoh (nxL c) (zbo c)[k])):zeQ c n (k+1)=zeQ c n k:=by
 unfold zeQ
 rw [List.take_succ_eq_append_getElem hk,List.filter_append]
 simp [h]
theorem zpl (c:DCode) (n k:Nat):(zeQ c n k).length≤k:=Nat.le_trans (List.length_filter_le _ _) (by rw [List.length_take];omega)
open Classical in
theorem zpm {c:DCode} (hc:CodeR c) (n:Nat):(zi3 c n).length≤n*6:=by
 have h6:=hc.1.locks6
 have hll:=ziY c
 have:=zg9 (l:=List.range n) (B:=6) (f:=fun n=>(zbo c).filter fun p=>decide (p.head?=some n∧zoh (nxL c) p)) fun a _=>Nat.le_trans (List.length_filter_le _ _) (by omega)
 rw [List.length_range] at this;exact this
theorem zmh {w W0:World} {v0:Value} {c:DCode} (h0:Is W0 v0 c) (e0:Ext W0 w) (hc:CodeR c) :
   CALL Tryz.prog 15 [v0] w fun r w'=>Ext w w'∧Own w.heap.size w' r ((zcR c).map zaA):=by
 refine F15_call ?_
 unfold F15
 have h6l:=hc.1.locks6
 refine zbr h0 e0 fun w1 hx1 hA=>?_
 refine zac zbt hA (Ext.refl _) fun v8 h8=>?_
 refine (zpj h8 (Ext.refl _) hc).mono ?_
 rintro v9 w2 ⟨hx2,A,hAI,ho2⟩
 obtain ⟨hAr,hAl⟩:=zoo hc hAI
 refine zaa zcn ?_
 refine zac zbP (zaR hA) hx2 fun v11 h11=>?_
 refine zag u22 h11 ?_
 refine (zpf ho2.is (Ext.refl _) (by omega) hAr hAl).mono ?_
 rintro v14 w3 ⟨hx3,ho3⟩
 rw [zhO hc hAI] at ho3
 change Own w2.heap.size w3 v14 ((zbo c).map zaA) at ho3
 have hx13:=(hx1.trans hx2).trans hx3
 have hs13:=hx13.size
 have hll:=ziY c
 refine zaY (α:=List Int) u45 zbE fun a9 w4 hx4 hr4=>?_
 refine zaq c.locks.length (fun n us w'=>∃ out,us=[out,.int .i64 (n:Int)]∧n≤c.locks.length∧Ext w3 w'∧RowI w3.heap.size w'.heap.size 23 w' out ((zi3 c n).map zaA)) 0 (Nat.zero_le _) ⟨_,rfl,Nat.zero_le _,hx4,zcf _ _ _ _ _⟩ ?_
 rintro n mn q w5 hnm ⟨out,hq,hnl,hx5,hr5⟩
 obtain ⟨hq1,hq2⟩:=zb1 hq
 rw [hq1,hq2]
 refine zaa zcn ?_
 refine zac zbP (zaR hA) ((hx2.trans hx3).trans hx5) fun v18 h18=>?_
 refine zag u22 h18 ?_
 refine zah ?_
 refine br (fun hlt=>?_) (fun hge=>?_)
 case refine_2=>
   have hne:n=c.locks.length:=by omega
   rw [hne] at hr5
   exact ⟨hx13.trans hx5,hr5.own.own.mono hs13⟩
 have hn:n<c.locks.length:=by omega
 have hKl:=zpm hc n
 refine zaq (zbo c).length (fun k us w'=>∃ out,us=[out,.int .i64 (k:Int)]∧k≤(zbo c).length∧Ext w3 w'∧RowI w3.heap.size w'.heap.size 23 w' out ((zi3 c n++zeQ c n k).map zaA)) 0 (Nat.zero_le _) ⟨_,rfl,Nat.zero_le _,hx5,by simpa [zeQ] using hr5⟩ ?_
 rintro k mk q8 w6 hkm ⟨out8,hq8,hkl,hx6,hr6⟩
 obtain ⟨hq81,hq82⟩:=zb1 hq8
 rw [hq81,hq82]
 have hIl:=zpl c n k
 refine zag u45 ho3.is ?_
 rw [List.length_map]
 refine zah ?_
 refine br (fun hlt6=>?_) (fun hge6=>?_)
 case refine_2=>
   have hke:k=(zbo c).length:=by omega
   rw [hke,←zni] at hr6
   refine zaf (by omega) ?_
   exact ⟨mn-1,by omega,n+1,by omega,out8,rfl,by omega,hx6,hr6⟩
 have hk:k<(zbo c).length:=by omega
 obtain ⟨hpl,hpb⟩:=zen (List.getElem_mem hk)
 obtain ⟨hd,hhd,hdm,hdl⟩:=zcZ (List.getElem_mem hk)
 have hkm2:k<((zbo c).map zaA).length:=by rw [List.length_map];exact hk
 have hxd:=zak w6
 generalize World.drew1 w6=w7 at *
 have hx7:=hx6.trans hxd
 have hr7:=hr6.ext hxd
 have hs7:=hxd.size
 have hs36:=hx6.size
 have hpos:0<(zaA (zbo c)[k]).length:=by
   rw [zae];exact List.length_pos_of_mem hdm
 have hg0:(zaA (zbo c)[k])[0]'hpos=(hd:Int):=by
   rw [←zne (List.ne_nil_of_length_pos hpos)];exact zcO hhd
 have hnext:¬((zbo c)[k].head?=some n∧zoh (nxL c) (zbo c)[k])→∀ w8,Ext w7 w8→∃ m',m'<mk∧∃ k',k'+m'=(zbo c).length∧∃ out,[out8,Value.int .i64 ((k+1:Nat):Int)]=[out,.int .i64 (k':Int)]∧k'≤(zbo c).length∧Ext w3 w8∧RowI w3.heap.size w8.heap.size 23 w8 out ((zi3 c n++zeQ c n k').map zaA):=fun h w8 hx8=>
   ⟨mk-1,by omega,k+1,by omega,out8,rfl,by omega,hx7.trans hx8,by rw [zrv hk h];exact (hr7.ext hx8).mono (Nat.le_refl _) (by have:=hx8.size;omega)⟩
 refine zad (i:=k) u45 zbE ho3.is hkm2 fun b3 o3 hA3=>?_
 rw [List.getElem_map] at hA3
 refine zac zbE hA3 hx7 fun v32 h32=>?_
 refine zad (i:=0) u23 ty3 h32 hpos fun b4 o4 hA4=>?_
 rw [hg0] at hA4
 refine zab ty3 hA4 hx7 fun _=>?_
 refine zao ?_
 refine br (fun heq=>?_) (fun hne=>?_)
 case refine_2=>
   refine zaf (by omega) ?_
   refine hnext (fun h=>hne ?_) _ (Ext.refl _)
   rw [hhd] at h
   have:=Option.some.inj h.1
   omega
 have hdn:hd=n:=by omega
 rw [hdn] at hhd
 refine zaa zcn ?_
 refine zac zbP (zaR hA) ((hx2.trans hx3).trans hx7) fun v39 h39=>?_
 refine zag u22 h39 ?_
 refine zad (i:=k) u45 zbE ho3.is hkm2 fun b5 o5 hA5=>?_
 rw [List.getElem_map] at hA5
 refine zac zbE hA5 hx7 fun v45 h45=>?_
 refine (zkO ho2.is (hx3.trans hx7) h45 hx7 (by omega) hAr hAl hpb (by omega)).mono ?_
 rintro _ w8 ⟨hx8,bb,rfl,hbb⟩
 rw [zhO hc hAI] at hbb
 refine zbw (fun hy=>?_) (fun hno=>?_)
 case refine_2=>
   refine zaf (by omega) ?_
   exact hnext (fun h=>by rw [hbb.2 h.2] at hno;cases hno) _ hx8
 have hcy:=hbb.1 hy
 have hs8:=hx8.size
 refine zaY (α:=Int) u23 ty3 fun a10 w9 hx9 hr9=>?_
 have hs9:=hx9.size
 have hx39:=(hx7.trans hx8).trans hx9
 refine zad (i:=k) u45 zbE ho3.is hkm2 fun b6 o6 hA6=>?_
 rw [List.getElem_map] at hA6
 refine zac zbE hA6 hx39 fun v53 h53=>?_
 refine zds u23 ty3 zc3 hr9 (Nat.le_refl _) h53 hx39 (by rw [zae,zan];simp;omega) (by rw [zae];simp;omega) fun v54 w10 hc10 hr10=>?_
 rw [List.nil_append] at hr10
 have hs10:=hc10.size
 have hr10':=((hr7.ext hx8).ext hx9).chg hc10 (by omega)
 have hx3x:=hx39.chgI hc10 (by omega)
 have hsx:=hx3x.size
 refine zbK (lo2:=w9.heap.size) (hi2:=w10.heap.size) (x:=zaA (zbo c)[k]) u45 zbE z23 zvs (by decide) hr10' (by omega) hr10.own (by omega) (by omega) (by rw [List.length_map,List.length_append,zan];omega) (by rw [List.length_map,List.length_append];omega) fun v56 w11 hc11 hr11=>?_
 refine zaf (by omega) ?_
 refine ⟨mk-1,by omega,k+1,by omega,v56,rfl,by omega,hx3x.chgI hc11 (Nat.le_refl _),?_⟩
 rw [zpk hk ⟨hhd,hcy⟩,←List.append_assoc,List.map_append]
 exact hr11
def F5 (a0:Value) (w:World) (R:VW):Prop:=
 oP (Instr.box 31 a0) w fun x1 w=>
 rL 31 x1 w fun x8=>
 cL 12 [x8] w fun x9 w=>
 rD (Op.unary .not x9) w fun x10=>
 BR x10
 (R (Value.string (ByteArray.mk #[])) w)
 (oP (Instr.buildSlice 39 0 #[]) w fun x11 w=>
 rL 31 x1 w fun x12=>
 cL 13 [x12] w fun x13 w=>
 LOOPI [3,5] [x11,(iV 0)] w fun u6 w next6=>
 rN 40 3 x13 w fun x16=>
 rC (u6 5) x16 w fun x17=>
 BR x17
 ((fun w=>rL 31 x1 w fun x21=>
 rX 40 x13 (u6 5) w fun x24=>
 rL 44 x24 w fun x25=>
 (fun w_=>cL 14 [x21,x25] w_ fun x26 w=>
 Ext w_ w ∧
 oP (Builtin.append_ #[39,9] 39 [(u6 3),x26].toArray) w fun x27 w=>
 rA (u6 5) (iV 1) w fun x19=>
 next6 [x27,x19] w) w) (World.drew1 w))
 (rL 31 x1 w fun x28=>
 cL 15 [x28] w fun x29 w=>
 LOOPI [3,7] [(u6 3),(iV 0)] w fun u11 w next11=>
 rN 45 3 x29 w fun x32=>
 rC (u11 7) x32 w fun x33=>
 BR x33
 ((fun w=>rL 31 x1 w fun x37=>
 rX 45 x29 (u11 7) w fun x40=>
 rL 23 x40 w fun x41=>
 (fun w_=>cL 16 [x37,x41] w_ fun x42 w=>
 Ext w_ w ∧
 oP (Builtin.append_ #[39,9] 39 [(u11 3),x42].toArray) w fun x43 w=>
 rA (u11 7) (iV 1) w fun x35=>
 next11 [x43,x35] w) w) (World.drew1 w))
 (rN 39 3 (u11 3) w fun x45=>
 rB .eql 3 T0 U0 x45 (iV 0) w fun x46=>
 BR x46
 (R (Value.string (ByteArray.mk #[99,108,101,97,110,10])) w)
 (rD (convert 39 9 (u11 3)) w fun x48=>
 R x48 w))))
def cfg5:Cfg:=⟨extL,[],[(6,268419112,[3,5]),(11,17591112302728,[3,7])],[(8,[0,1,2,3,4,5,6,7,8],64),(13,[0,1,2,3,4,5,6,7,8],64)],[],[],[]⟩
theorem F5_call {a0:Value} {w:World} {R:VW} (h:F5 a0 w R):cL 5 [a0] w R:=co (g:=cfg5) Tryz.func5 (by kernel_rfl) (by kernel_rfl) (by kernel_rfl) h
open Rep (rep)
def SRow (X:Nat→Prop) (w:World) (v:Value) (l:List UInt8):Prop:=(∃ a,v=.slice (some a) 0 0∧l=[])∨(w.ownsRow 0 5 1 v l.length (Lib.byteCells l)∧∀ k,v.ownBlock=some k→X k)
section
variable {w w':World} {v:Value} {l:List UInt8} {X Y:Nat→Prop}
theorem SRow.ext (h:SRow X w v l) (hx:Ext w w'):SRow X w' v l:=by
 rcases h with h | ⟨h1,h2⟩
 · exact .inl h
 exact .inr ⟨zpM h1 hx,h2⟩
theorem SRow.mono (h:SRow X w v l) (hx:∀ k,X k→k<w.heap.size→Y k):SRow Y w v l:=by
 rcases h with h | ⟨h1,h2⟩
 · exact .inl h
 exact .inr ⟨h1,fun k hk=>hx k (h2 k hk) (h1.lt k hk).2⟩
theorem zoq (w:World):∀ l:List UInt8,Cells [] w (Lib.byteCells l) l
 | []=>⟨rfl,rfl⟩
 | b :: l=>⟨[],[],[.int .u8 (b.toNat:Int)],Lib.byteCells l,rfl,rfl,⟨rfl,rfl⟩,zoq w l⟩
theorem SRow.is (h:SRow X w v l):Is w v l:=by
 rcases h with ⟨a,rfl,rfl⟩ | ⟨h1,_⟩
 · exact ⟨[],_,⟨some a,0,[],[],rfl,Nat.le_refl _,Nat.zero_le _,⟨rfl,rfl⟩,.inl ⟨rfl,rfl⟩⟩,rfl⟩
 rcases h1.2 with ⟨rfl,hl⟩ | ⟨g,cap,cur,rfl,hb,hg,hn,hm,hs,ht⟩
 · obtain rfl:=List.eq_nil_of_length_eq_zero hl
   exact zsZ rfl
 refine ⟨[g],_,⟨some ⟨g,0,none⟩,cap,[],_,rfl,hn,hm,zoq w l,.inr ⟨g,0,rfl,rfl,fun j u hu=>?_,(Array.getElem?_eq_some_iff.1 hg).1⟩⟩,rfl⟩
 have h2:=h1.cells (g:=g) rfl j u hu
 have hadd:(⟨g,0,none⟩:Addr).add j=⟨g,j,none⟩:=by unfold Addr.add;split<;>simp_all
 rw [hadd] at h2
 rw [Nat.zero_add];exact h2
theorem zjT {s:ByteArray} {K:Value→World→Prop} (h:SRow X w v l) (hX:∀ k,w.heap.size≤k→X k) (hn:l.length+s.size≤140737488355328)
   (k:∀ v' w',ExtX X w w'→SRow X w' v' (l++bts s)→K v' w'):OP Tryz.prog (Builtin.append_ #[39,9] 39 [v,.string s].toArray) w K:=by
 have hm:∀ {n:Nat},n≤140737488355328→n≤maxLen:=fun h=>by rw [zan];omega
 rcases h with ⟨a,rfl,rfl⟩ | ⟨h1,h2⟩
 · obtain ⟨i,hi,hz,hs,hy⟩:=byI
   by_cases hs0:s.size=0
   · refine ⟨.slice (some a) 0 0,w,?_,k _ w (zeN (Ext.refl _)) (.inl ⟨a,rfl,?_⟩)⟩
     · have hf:=Lib.run_firstCells_string (P:=Tryz.prog) w 1 s
       have hn:Lib.strCells s=[]:=List.eq_nil_of_length_eq_zero (by rw [Lib.strCells_length];exact hs0)
       rw [hs0,hn] at hf
       simp [Builtin.append_,run_underlying Tryz.underlying39,run_underlying Tryz.underlying9,sizeOf,typeInfo,hi,hs,Builtin.lenOf,hs0,hf,storeCells]
     exact List.eq_nil_of_length_eq_zero (by rw [List.nil_append,za5];exact hs0)
   have hr:=Lib.run_append_grow_string (P:=Tryz.prog) w 39 9 39 5 i (.int .u8 0) Tryz.underlying39 Tryz.underlying9 hi hz a 0 0 [] (by simp) (by simp) s (by omega) (by simp only [List.length_nil] at hn;omega) (by rw [hy];simp only [List.length_nil] at hn;exact growslice_fits (by omega) (by omega))
   obtain ⟨v2,w2,hr2,h12,hg2,_⟩:=Lib.run_append_own_string (P:=Tryz.prog) w w.heap.size 39 9 39 5 i Tryz.underlying39 Tryz.underlying9 hi hz hs hy _ 0 [] (World.ownsRow_nil w w.heap.size 5 1) s (hm (by simpa using hn)) (by simpa using hn) (Nat.le_refl _)
   have hnil:=run_append_nil_string (P:=Tryz.prog) w 39 9 39 5 i (.int .u8 0) Tryz.underlying39 Tryz.underlying9 hi hz s (by omega) (by simp only [List.length_nil] at hn;omega) (by rw [hy];simp only [List.length_nil] at hn;omega)
   have he:(Builtin.append_ #[39,9] 39 #[.slice (some a) 0 0,.string s]).run Tryz.prog w=.ok v2 w2:=by
     have e1:(s.data.map fun b=>Value.int .u8 b.toNat)=(Lib.strCells s).toArray:=by
       apply Array.ext'
       simp [Lib.strCells]
     rw [e1] at hnil
     rw [hr,←hr2,hnil]
     simp
   refine ⟨v2,w2,he,k v2 w2 ⟨hg2.os,hg2.tape,hg2.output,hg2.size,fun b hb _=>hg2.block b hb (by simp [Value.ownBlock])⟩ (.inr ⟨?_,fun j hj=>hX j (h12.lt j hj).1⟩)⟩
   rw [zh6,List.length_append,za5]
   exact znA (by simpa [Lib.byteCells] using h12) (Nat.zero_le _)
 refine zjp h1 hn (Nat.zero_le _) fun v' w' h3 hg h4=>k v' w' ⟨hg.os,hg.tape,hg.output,hg.size,fun b hb hn=>hg.block b hb fun e=>hn (h2 b e.symm)⟩ (.inr ⟨?_,fun j hj=>?_⟩)
 · rw [zh6,List.length_append,za5];exact h3
 rcases h4 j hj with h | h
 · exact h2 j h
 exact hX j h
end
theorem znj {c:DCode} (hc:CodeR c) {x:DRace} (hg:0≤x.g∧x.g<c.globals.length):zfp c x=zeb c x:=by
 unfold zfp;rw [if_pos ⟨hc,hg⟩]
theorem zi4 {w W0:World} {v0:Value} {c:DCode} (h0:Is W0 v0 c) (e0:Ext W0 w) :
   CALL Tryz.prog 5 [v0] w fun r w'=>Ext w w'∧r=.string (zdZ c):=by
 refine F5_call ?_
 unfold F5
 refine zbr h0 e0 fun wa hxa hA=>?_
 refine zac zbt hA (Ext.refl _) fun v8 h8=>?_
 refine (zeC h8 (Ext.refl _)).mono ?_
 rintro _ wv ⟨hxv,rfl⟩
 refine zaz ?_
 refine br (fun hn=>⟨hxa.trans hxv,by unfold zdZ;rw [if_neg hn];rfl⟩) (fun hy=>?_)
 have hc:=Decidable.not_not.1 hy
 have hxw:=hxa.trans hxv
 refine zgf (α:=UInt8) u39 ty5 fun a wg hxg _=>?_
 refine zac zbt hA (hxv.trans hxg) fun v12 h12=>?_
 refine (zre h12 (hxv.trans hxg) hc).mono ?_
 rintro v13 W1 ⟨hx1,hR⟩
 have hs1:=hx1.size
 have hsv:=hxv.size
 have hsg:=hxg.size
 have hsw:=hxw.size
 have hRl:=zru hc
 change Own wg.heap.size W1 v13 (rcR c) at hR
 have hRg:=fun x (hx:x∈rcR c)=>zvk hx
 have hrep:zjS c=(rcR c).flatMap fun x=>bts (zeb c x):=rfl
 generalize hRe:rcR c=R at *
 have hx1a:=(hxv.trans hxg).trans hx1
 refine zaq R.length (fun k us w'=>∃ out,us=[out,.int .i64 (k:Int)]∧k≤R.length∧ExtX (fun b=>W1.heap.size≤b) W1 w'∧SRow (fun b=>W1.heap.size≤b) w' out ((R.take k).flatMap fun x=>bts (zeb c x))∧((R.take k).flatMap fun x=>bts (zeb c x)).length≤k*100) 0 (Nat.zero_le _) ⟨_,rfl,Nat.zero_le _,zeN (Ext.refl _),.inl ⟨a,rfl,by simp⟩,by simp⟩ ?_
 rintro i mk u w3 hkm ⟨out,hu,hkl,hE3,hB3,hbl3⟩
 obtain ⟨hu1,hu2⟩:=zb1 hu
 rw [hu1,hu2]
 have hs3:=hE3.size
 have hxv3:Ext W1 w3:=zfC hE3 (Ext.refl _) fun b hb=>hb
 refine zag u40 (hR.is.ext hxv3) ?_
 refine zah ?_
 have hxa3:=hx1a.trans hxv3
 refine br (fun hlt=>?_) (fun hge2=>?_)
 case refine_1=>
   have hi:i<R.length:=by omega
   have hxd:=zak w3
   generalize World.drew1 w3=w4 at *
   refine zac zbt hA (hxa3.trans hxd) fun v21 h21=>?_
   refine zad u40 zd5 (i:=i) hR.is hi fun b4 o4 hA4=>?_
   refine zac zd5 hA4 (hxv3.trans hxd) fun v25 h25=>?_
   have hgx:=hRg R[i] (List.getElem_mem _)
   have hIab:=zgP.1 h25
   refine (zin h21 (hxa3.trans hxd) h25 (hxv3.trans hxd)).mono ?_
   rintro _ w5 ⟨hx5,rfl⟩
   refine ⟨hx5,?_⟩
   have hx35:=hxd.trans hx5
   have hs35:=hx35.size
   rw [znj hc hgx]
   have hrs:=zjR hc hgx hIab.2.2.1 hIab.2.2.2
   refine zjT (hB3.ext hx35) (fun k hk=>by omega) (by omega) fun v' w6 hE6 hB6=>?_
   refine zaf (by omega) ?_
   have hfl:((R.take (i+1)).flatMap fun x=>bts (zeb c x))=((R.take i).flatMap fun x=>bts (zeb c x))++bts (zeb c R[i]):=by
     rw [List.take_succ_eq_append_getElem hi,List.flatMap_append];simp
   refine ⟨mk-1,by omega,i+1,by omega,v',rfl,by omega,zrA (zrA hE3 (zeN hx35)) hE6,by rw [hfl];exact hB6,?_⟩
   rw [hfl,List.length_append,za5];omega
 have hke:i=R.length:=by omega
 rw [hke,List.take_length,←hrep] at hB3 hbl3
 refine zac zbt hA hxa3 fun v28 h28=>?_
 refine (zmh h28 hxa3 hc).mono ?_
 rintro v29 W2 ⟨hx2,hQ⟩
 have hs2:=hx2.size
 have hBq:=(hB3.mono (Y:=fun b=>(W1.heap.size≤b∧b<w3.heap.size)∨W2.heap.size≤b) fun k hk hk2=>.inl ⟨hk,hk2⟩).ext hx2
 have hQl:((zcR c).map zaA).length≤6:=by have:=(zjQ c).1;unfold ziZ at this;rwa [if_pos hc] at this
 have hrep2:zkQ c=((zcR c).map zaA).flatMap fun p=>bts (zaQ c p):=rfl
 generalize hQe:(zcR c).map zaA=Q at *
 refine zaq Q.length (fun k us w'=>∃ out,us=[out,.int .i64 (k:Int)]∧k≤Q.length∧ExtX (fun b=>(W1.heap.size≤b∧b<w3.heap.size)∨W2.heap.size≤b) W2 w'∧SRow (fun b=>(W1.heap.size≤b∧b<w3.heap.size)∨W2.heap.size≤b) w' out (zjS c++(Q.take k).flatMap fun p=>bts (zaQ c p))∧((Q.take k).flatMap fun p=>bts (zaQ c p)).length≤k*100) 0 (Nat.zero_le _) ⟨_,rfl,Nat.zero_le _,zeN (Ext.refl _),by simpa using hBq,by simp⟩ ?_
 rintro i2 mk2 u2 w4 hkm2 ⟨out2,hu2,hkl2,hE4,hB4,hbl4⟩
 obtain ⟨hu3,hu4⟩:=zb1 hu2
 rw [hu3,hu4]
 have hs4:=hE4.size
 have hQ4:Is w4 v29 Q:=zi1 hQ hE4 fun b hb1 hb2=>by omega
 refine zag u45 hQ4 ?_
 refine zah ?_
 have hxa4:Ext wa w4:=zfC hE4 (hxa3.trans hx2) fun b hb=>by have:=hx1a.size;omega
 refine br (fun hlt=>?_) (fun hge3=>?_)
 case refine_1=>
   have hi:i2<Q.length:=by omega
   have hxd:=zak w4
   generalize World.drew1 w4=w5 at *
   refine zac zbt hA (hxa4.trans hxd) fun v37 h37=>?_
   refine zad u45 zbE (i:=i2) hQ4 hi fun b5 o5 hA5=>?_
   refine zac zbE hA5 hxd fun v41 h41=>?_
   refine (zhv h37 (hxa4.trans hxd) h41 hxd).mono ?_
   rintro _ w6 ⟨hx6,rfl⟩
   refine ⟨hx6,?_⟩
   have hx46:=hxd.trans hx6
   have hs46:=hx46.size
   have hrs:=zfN c Q[i2]
   refine zjT (hB4.ext hx46) (fun k hk=>by omega) (by rw [List.length_append];omega) fun v' w7 hE7 hB7=>?_
   refine zaf (by omega) ?_
   have hfl:((Q.take (i2+1)).flatMap fun p=>bts (zaQ c p))=((Q.take i2).flatMap fun p=>bts (zaQ c p))++bts (zaQ c Q[i2]):=by
     rw [List.take_succ_eq_append_getElem hi,List.flatMap_append];simp
   refine ⟨mk2-1,by omega,i2+1,by omega,v',rfl,by omega,zrA (zrA hE4 (zeN hx46)) hE7,by rw [hfl,←List.append_assoc];exact hB7,?_⟩
   rw [hfl,List.length_append,za5];omega
 have hke2:i2=Q.length:=by omega
 rw [hke2,List.take_length,←hrep2] at hB4 hbl4
 refine zag u39 hB4.is ?_
 refine zao ?_
 refine br (fun hz=>⟨hxa.trans hxa4,?_⟩) (fun hz=>?_)
 · unfold zdZ
   rw [if_pos hc,if_pos (by omega)];rfl
 refine zhZ u39 Tryz.underlying5 Tryz.underlying9 hB4.is (Ext.refl _) ?_
 refine ⟨hxa.trans hxa4,?_⟩
 unfold zdZ
 rw [if_pos hc,if_neg (by omega)]
theorem zrw {c:DCode} {n m:Int} (hm:m≤1048576) (h:-1≤n∧n≤m∧(0≤n→n+zmE c≤m)) (hc:¬n<0):zmE c≤1048576:=by
 have:=h.2.2 (by omega);omega
def F3 (a0:Value) (w:World) (R:VW):Prop:=
 oP (Instr.box 26 a0) w fun x1 w=>
 rL 26 x1 w fun x7=>
 cL 4 [x7,(iV 1048576)] w fun x9 w=>
 rB .lss 3 T0 U0 x9 (iV 0) w fun x11=>
 BR x11
 (R (Value.bool true) w)
 (rL 26 x1 w fun x12=>
 cL 6 [x12] w fun x13 w=>
 cL 5 [x13] w fun x14 w=>
 rL 26 x1 w fun x15=>
 cL 6 [x15] w fun x16 w=>
 oP (Instr.alloc 31 true (.tuple #[])) w fun x5 w=>
 oS 31 x5 x16 w fun w=>
 rL 31 x5 w fun x17=>
 cL 7 [x17] w fun x18 w=>
 rB .neq 9 T0 T0 x18 x14 w fun x21=>
 BR x21
 (R (Value.bool false) w)
 ((fun w=>rL 31 x5 w fun x22=>
 rL 26 x1 w fun x23=>
 (fun w_=>cL 6 [x23] w_ fun x24 w=>
 Ext w_ w ∧
 cL 8 [x22,x24] w fun x25 w=>
 rD (Op.unary .not x25) w fun x26=>
 BR x26
 (R (Value.bool false) w)
 (R (Value.bool true) w)) w) (World.drew1 w)))
def cfg3:Cfg:=⟨extL,[],[],[(10,[0,1,2,3,4],4)],[],[],[]⟩
theorem F3_call {a0:Value} {w:World} {R:VW} (h:F3 a0 w R):cL 3 [a0] w R:=co (g:=cfg3) Tryz.func3 (by kernel_rfl) (by kernel_rfl) (by kernel_rfl) h
theorem znk {w:World} {v0:Value} {W0:World} {c:DCode}  (h0:Is W0 v0 c) (e0:Ext W0 w) (hT:PowT w) :
   CALL Tryz.prog 3 [v0] w fun r w'=>Ext w w'∧(r=.bool true):=by
 refine F3_call ?_
 unfold F3
 refine zaD zvz rfl h0 e0 fun w1_ hx1_ hA1 hV1=>?_
 refine zbC hV1 (Ext.refl w1_) ?_
 refine (zp4 h0 (e0.trans hx1_) (by omega) (by omega)).mono ?_
 rintro _ w2_ ⟨hx2_,n9,rfl,hn9⟩
 refine zah ?_
 refine br (fun c1=>?_) (fun c1=>?_)
 · refine ⟨(hx1_.trans hx2_),?_⟩
   first | rfl | contradiction | (exfalso;omega)
 have hcd:=zrw (by omega) hn9 c1
 refine zbC hV1 hx2_ ?_
 refine (zil (h0.ext (e0.trans (hx1_.trans hx2_))) (by omega)).mono ?_
 rintro r13 w3_ ⟨hx3_,o13⟩
 refine (zi4 o13.is (Ext.refl w3_)).mono ?_
 rintro _ w4_ ⟨hx4_,rfl⟩
 refine zbC hV1 (hx2_.trans (hx3_.trans hx4_)) ?_
 refine (zil (h0.ext (e0.trans (hx1_.trans (hx2_.trans (hx3_.trans hx4_))))) (by omega)).mono ?_
 rintro r16 w5_ ⟨hx5_,o16⟩
 refine zbX zvA rfl zbt rfl o16.is (Ext.refl w5_) fun w6_ hx6_ hA5 hV5=>?_
 refine zbC hV5 (Ext.refl w6_) ?_
 have hT18:PowT w6_:=hT.ext ((hx1_.trans (hx2_.trans (hx3_.trans (hx4_.trans (hx5_.trans hx6_))))))
 refine (zi2 o16.is hx6_ (by assumption)).mono ?_
 rintro _ w7_ ⟨hx7_,rfl⟩
 refine zgO ?_
 refine br (fun c2=>?_) (fun c2=>?_)
 · refine ⟨(hx1_.trans (hx2_.trans (hx3_.trans (hx4_.trans (hx5_.trans (hx6_.trans hx7_)))))),?_⟩
   first | rfl | contradiction | (exfalso;omega)
 have hx8_:=zak w7_
 refine zbC hV5 (hx7_.trans hx8_) ?_
 refine zbC hV1 (hx2_.trans (hx3_.trans (hx4_.trans (hx5_.trans (hx6_.trans (hx7_.trans hx8_)))))) ?_
 refine (zil (h0.ext (e0.trans (hx1_.trans (hx2_.trans (hx3_.trans (hx4_.trans (hx5_.trans (hx6_.trans (hx7_.trans hx8_))))))))) (by omega)).mono ?_
 rintro r24 w9_ ⟨hx9_,o24⟩
 refine ⟨hx9_,?_⟩
 refine (zp7 o16.is (hx6_.trans (hx7_.trans (hx8_.trans hx9_))) o24.is (Ext.refl w9_)).mono ?_
 rintro _ w10_ ⟨hx10_,rfl⟩
 refine zaz ?_
 refine br (fun c3=>?_) (fun c3=>?_)
 · refine ⟨(hx1_.trans (hx2_.trans (hx3_.trans (hx4_.trans (hx5_.trans (hx6_.trans (hx7_.trans (hx8_.trans (hx9_.trans hx10_))))))))),?_⟩
   first | rfl | contradiction | (exfalso;omega)
 refine ⟨(hx1_.trans (hx2_.trans (hx3_.trans (hx4_.trans (hx5_.trans (hx6_.trans (hx7_.trans (hx8_.trans (hx9_.trans hx10_))))))))),?_⟩
 first | rfl | contradiction | (exfalso;omega)
theorem zrx:∀ n,zdC Tryz.prog 72 DTerm n∧zdC Tryz.prog 70 (List DTerm) n
 | 0=>⟨zfl,zfl⟩
 | n + 1 => ⟨zpY (zhj (α := Int × Int × ByteArray × List DTerm) zv0 (by kernel_rfl)
     (.cons rfl (by kernel_rfl) (zd9 u3 n) (.cons rfl (by kernel_rfl) (zd9 u3 n) (.cons rfl (by kernel_rfl) (zk5 u9 n) (.one rfl (by kernel_rfl) (zrx n).2))))),
   zh9 u70 (by kernel_rfl) (zrx n).1⟩
theorem zry:∀ n,zdC Tryz.prog 22 (List ByteArray) n:=zdD u22 (by kernel_rfl) (zk5 u9)
theorem zvL:∀ n,zdC Tryz.prog 74 DIns n:=fun n=>
 zk8 (g:=fun p=>⟨p.1,p.2.1,p.2.2.1,p.2.2.2⟩) (fun _=>rfl) (zeP (α:=Int×Int×DTerm×Int) zv1 (by kernel_rfl)
   (fun n=>.cons rfl (by kernel_rfl) (zd9 u3 n) (.cons rfl (by kernel_rfl) (zd9 u3 n) (.cons rfl (by kernel_rfl) (zrx n).1 (.one rfl (by kernel_rfl) (zd9 u3 n))))) n)
theorem zvm:∀ n,zdC Tryz.prog 24 (List DIns) n:=zdD u24 (by kernel_rfl) zvL
theorem zun:∀ n,zdC Tryz.prog 23 (List Int) n:=zdD u23 (by kernel_rfl) (zd9 u3)
theorem zvn:∀ n,zdC Tryz.prog 26 DCode n:=fun n=>
 zk8 (g:=fun p=>⟨p.1,p.2.1,p.2.2.1,p.2.2.2.1,p.2.2.2.2⟩) (fun _=>rfl) (zeP (α:=List ByteArray×List ByteArray×List ByteArray×List Int×List DIns) zvP (by kernel_rfl)
   (fun n=>.cons rfl (by kernel_rfl) (zry n) (.cons rfl (by kernel_rfl) (zry n) (.cons rfl (by kernel_rfl) (zry n) (.cons rfl (by kernel_rfl) (zun n) (.one rfl (by kernel_rfl) (zvm n)))))) n)
end Go.Proofs.YtbnjpfjjmhodnaaGreatDoor
namespace Go.Proofs.YtbnjpfjjmhodnaaGreatDoor
open Go
theorem zbB {a b:Bool} (h:a=true) (k:b=true):(a&&b)=true:=by rw [h,k];rfl
theorem zuo:laidOutB Tryz.prog=true:=by kernel_rfl
theorem zup:mapsRowed Tryz.prog=true:=by kernel_rfl
theorem zsQ:(Rows.fnExactReportOfRow.plainKeys == Tryz.prog.plainKeys)=true:=by kernel_rfl
theorem zsR:Tryz.prog.stopsHeard=true:=by kernel_rfl
theorem zvo:Tryz.prog.mayEnter=true:=by kernel_rfl
theorem zuq:(Rows.fnExactReportOfRow.lifted == Tryz.prog.liftsFinal)=true:=by kernel_rfl
theorem zur:(Tryz.prog.make == some Rows.fnExactReportOfRow.make)=true:=by kernel_rfl
end Go.Proofs.YtbnjpfjjmhodnaaGreatDoor
namespace Go.Proofs.YtbnjpfjjmhodnaaGreatDoor.fnExactReportOf
open Go.ChangeShapes Go.WideShapes Go.ChangeAt Go.RowKit Go.Sh
theorem own:ownKnob Tryz.prog.godebug=none:=by kernel_rfl
theorem zus:laidOutB Tryz.prog=true:=by kernel_rfl
theorem zv9:Tryz.prog.globalNamed "internal/strconv.uint64pow10" = some 0:=by kernel_rfl
theorem zsS:(Tryz.prog.globals[0]?).map (·.type)=some 228:=by kernel_rfl
theorem cellsT:Tryz.prog.cellsOf 228=20:=by kernel_rfl
theorem zvp:Tryz.prog.cellsOf 154=1:=by kernel_rfl
theorem pow {W:World} (h:laidMetH Tryz.prog Rows.fnExactReportOfRow.laid W):PowT W:=
 Lib.tabIs_of_head (zs:=Lib.pow10Tab) (rest:=[]) zv9 zsS Tryz.underlying228 Tryz.underlying154 zvp cellsT (laidMet.tail (laidMet.tail h))
set_option maxRecDepth 100000 in
theorem zsT (H:Type) (enc:TypeId×Value→H) (W:World) (base:Nat) (args:Array Value) (ds gs:List (DataW H)) (before:List MemPlace)
    (hval0:∀ (j:Nat) t v,Tryz.f3.params[j]?=some t→args[j]?=some v→Value.okWide Tryz.prog W .any base t v)
    (hW:DataW.Whole enc Tryz.prog Tryz.f3.params.toList Rows.fnExactReportOfSpec.vars false W args.toList ds gs before) (hL:laidMetH Tryz.prog Rows.fnExactReportOfRow.laid W) :
    Calls Tryz.prog 3 args W fun e W'=>∃ v,e=.returned v∧Rows.fnExactReportOfSpec.post enc Tryz.prog Tryz.f3 false true false false W args v W':=by
  have hval:=hval0
  have hW':=hW
  obtain ⟨p,q,hA0,hV,rfl,hfz,hnd⟩:=hW
  have hA:DataW.TrodAll enc Tryz.prog W 0 (fun _=>true) true Tryz.f3.params.toList args.toList ds p:=hA0
  rw [Tryz.params3] at hA hval
  obtain ⟨v0,vs0,d0,ds0,p0,q0,hargs,rfl,rfl,h0,r0⟩:=trodAll_cons hA
  obtain ⟨rfl,rfl,rfl⟩:=trodAll_nil r0
  obtain rfl:args=#[v0]:=by cases args;simp_all
  obtain ⟨rfl,rfl⟩:=trodVars_none hV
  have lt0:∀ x∈p0,x.block<W.heap.size:=by obtain ⟨m,hm⟩:=h0;exact DataW.trod_lt m _ _ _ hm
  obtain ⟨x0,i0⟩:=zk9 (α:=DCode) zvP rfl zvn (hval 0 26 v0 rfl rfl) h0
  clear hA0 hval0
  obtain ⟨hcall⟩:=znk i0 (Ext.refl W) (pow hL)
  refine hcall.mono fun e W' ⟨v,he,bel,hv⟩=>?_
  subst he hv
  exact ⟨_,rfl,_,_,_,[],_,[],hW',trodAll_mk1 (shut_bool Tryz.underlying4 _),(trodAll_cons_mk (Below.trod zus (by kernel_rfl) (of_decide_eq_true (by kernel_rfl)) h0 bel lt0) trodAll_mk0),rfl,bel.frame _,fun h=>by cases h⟩
def zvq:DataW Unit→Array Value
 | .agg l=>(l.map fun d=>match d with | .lit (.int k z)=>Value.int k z | _=>undef).toArray
 | _=>#[]
def zvM (d:DataW Unit):Obj→Obj
 | .cells _ t frozen=>.cells (zvq d) t frozen
 | o=>o
noncomputable def zi5 (os:Os):World:=
 { World.holding Tryz.prog os ⟨#[],#[],[]⟩ with heap:=(((World.holding Tryz.prog os ⟨#[],#[],[]⟩).heap.modify 0 (zvM Rows.laid_internal_strconv_uint64pow10)).modify 1 (zvM Rows.laid_math_bits_deBruijn32tab)).modify 2 (zvM Rows.laid_math_bits_deBruijn64tab) }
theorem zsU (os:Os):laidMet Tryz.prog Rows.fnExactReportOfRow.laid ((zi5 os).forCall (fun _ _=>0) ⟨#[],#[.agg #[.slice none 0 0,.slice none 0 0,.slice none 0 0,.slice none 0 0,.slice none 0 0]],[]⟩).memory:=
 laidMet_of_run' 8 (by kernel_rfl) (by kernel_rfl)
theorem reads (os:Os) {H:Type} (enc:TypeId×Value→H):∃ places,DataW.whole enc Tryz.prog ((zi5 os).forCall (fun _ _=>0) ⟨#[],#[.agg #[.slice none 0 0,.slice none 0 0,.slice none 0 0,.slice none 0 0,.slice none 0 0]],[]⟩).memory Tryz.f3.params.toList Rows.fnExactReportOfSpec.vars false (#[.agg #[.slice none 0 0,.slice none 0 0,.slice none 0 0,.slice none 0 0,.slice none 0 0]]:Array Value).toList 8=some ([.agg [.nil,.nil,.nil,.nil,.nil]],[],places):=
 ⟨[],by kernel_rfl⟩
set_option maxRecDepth 100000 in
theorem lifted (os:Os) (started:os.Started) (H:Type) (enc:TypeId×Value→H) (F:Stop.Interp) :
    ReturnsInHanded {} Tryz.checked os 3 .any ((OpenSpec.ofChange Rows.fnExactReportOfSpec).preRow enc Tryz.prog Tryz.f3 Rows.fnExactReportOfRow.domain false Rows.fnExactReportOfRow.laid) (((OpenSpec.ofChange Rows.fnExactReportOfSpec).at F).post enc Tryz.prog Tryz.f3 false true false false):=by
  obtain ⟨places,hx⟩:=reads os enc
  refine returnsInHanded_of_row (C:=Tryz.checked) (s:=OpenSpec.ofChange Rows.fnExactReportOfSpec) own started (by kernel_rfl) Tryz.func3
    (witness_row_at (enc:=enc) (C:=Tryz.checked) false (zi5 os) #[.agg #[.slice none 0 0,.slice none 0 0,.slice none 0 0,.slice none 0 0,.slice none 0 0]] rfl (by kernel_rfl) (by kernel_rfl) (by kernel_rfl)
      (OpenSpec.preRow_of_cond 8 hx (by kernel_rfl) (fun k hk=>by cases hk) (by kernel_rfl) (zsU os))) ?_
  intro W base args ds gs before hval hW _ _ _ hL _ _
  exact zsT H enc W base args ds gs before hval hW hL
theorem zrz:(Rows.fnExactReportOfRow.inPlace == Tryz.prog.inPlace 3)=true:=by kernel_rfl
theorem zmi:(Rows.fnExactReportOfRow.unfollowed == Tryz.prog.unfollowed 3)=true:=by kernel_rfl
theorem zpn:(Rows.fnExactReportOfRow.recurses == Tryz.prog.recurses 3)=true:=by kernel_rfl
theorem zut:(Rows.fnExactReportOfRow.named == Tryz.prog.varsNamed 3)=true:=by kernel_rfl
theorem closed:joinedFacts Tryz.prog 3 Tryz.f3 (OpenSpec.ofChange Rows.fnExactReportOfSpec).bare Rows.fnExactReportOfRow=true:=by
 unfold joinedFacts
 exact (zbB (zbB (zbB (zbB (zbB (zbB (zbB (zbB (zbB (zbB (zbB (zbB (zbB (zbB (zbB (zbB (zbB (zbB (zbB (zbB (zbB (zbB (zbB (zbB (zbB (zbB (zbB (zbB (zbB (zbB (zbB (by kernel_rfl) zuo) zup) (by kernel_rfl)) (by kernel_rfl)) (by kernel_rfl)) (by kernel_rfl)) (by kernel_rfl)) (by kernel_rfl)) zrz) zmi) zpn) zut) (by kernel_rfl)) (by kernel_rfl)) (by kernel_rfl)) (by kernel_rfl)) (by kernel_rfl)) (by kernel_rfl)) (by kernel_rfl)) (by kernel_rfl)) (by kernel_rfl)) zsQ) (by kernel_rfl)) zsR) zvo) zuq) zur) (by kernel_rfl)) (by kernel_rfl)) (by kernel_rfl)) (by kernel_rfl))
set_option maxRecDepth 100000 in
theorem zwa:Rows.FnExactReportOfSaid:=
  OpenClaim.holds_of_cond 3 Tryz.f3 rfl rfl rfl rfl rfl rfl rfl ⟨rfl,rfl,rfl,rfl,rfl⟩ rfl rfl rfl rfl rfl (by kernel_rfl) Tryz.func3 closed
    (of_decide_eq_true (by kernel_rfl)) (by unfold Func.isWrapper;first | (rw [if_pos (by decide +kernel)];kernel_rfl) | (rw [if_neg (by decide +kernel)];exact ⟨rfl,rfl⟩))
    (fun os started H enc _ F=>by rw [OpenClaim.pre_eq_preRow];exact lifted os started H enc F)
theorem zvN (f:FuncId) (fn:Func) (hf:Tryz.pinned.checked.prog.funcNamed "loop.example/g00966/laws.FnExactReportOf" = some f) (hfn:Tryz.pinned.checked.prog.funcs[f]?=some fn) :
   false=Tryz.pinned.checked.prog.looks []∧∀ (j:Nat) t,fn.params[j]?=some t→Tryz.pinned.checked.prog.wantsStandIn t=false:=by
 obtain rfl:f=3:=Option.some.inj ((show Tryz.prog.funcNamed "loop.example/g00966/laws.FnExactReportOf" = some 3 by kernel_rfl).symm.trans hf) |>.symm
 obtain rfl:fn=Tryz.f3:=(Option.some.inj (Tryz.func3.symm.trans hfn)).symm
 refine ⟨by kernel_rfl,fun j t ht=>?_⟩
 rw [Tryz.params3] at ht
 have hm:=Array.mem_of_getElem? ht
 have hm:t=26:=by simpa using hm
 subst hm
 exact (show Tryz.prog.wantsStandIn 26=false by kernel_rfl)
theorem proved:Rows.FnExactReportOfCardSaid:=
 Claim7.holds_tied_plain_at .later [] _ _ _ _ zwa (fun _ h=>by cases h) (by kernel_rfl) (fun _ h=>by cases h) fnExactReportOf_row_tie rfl ⟨rfl,rfl⟩ (by kernel_rfl) rfl zvN (by kernel_rfl)
end Go.Proofs.YtbnjpfjjmhodnaaGreatDoor.fnExactReportOf
