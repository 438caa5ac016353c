/-
  The law FnStates of the given program returns true for every input, and its arguments read afterwards as before: the given statement Rows.FnStatesSaid.
-/
import Derived.Test.YtbnjpfjjmhodnaaGreatPFnStates6
set_option linter.unusedVariables false
set_option linter.unusedSimpArgs false
set_option linter.unusedSectionVars false
namespace Go.Proofs.YtbnjpfjjmhodnaaGreat
open Go Go.Sh Go.Proofs
open Rep (rep)
def F87 (a0 a1:Value) (w:World) (R:VW):Prop:=
 oP (Instr.box 28 a0) w fun x2 w=>
 cL 146 [a1,(iV 1),(iV 150)] w fun x10 w=>
 rL 28 x2 w fun x11=>
 cL 31 [x11] w fun x12 w=>
 oP (Instr.buildSlice 46 1 #[(0,x12)]) w fun x13 w=>
 oP (Instr.buildSlice 25 1 #[(0,(iV (-1)))]) w fun x14 w=>
 oP (Instr.buildSlice 25 1 #[(0,(iV (-1)))]) w fun x15 w=>
 rD (Instr.build 105 #[(0,x13),(1,x14),(2,x15),(3,(Value.bool true))]) w fun x16=>
 oP (Instr.box 105 x16) w fun x17 w=>
 LOOPI [6] [(iV 0)] w fun u4 w next4=>
 NIL x17 <|
 rF 105 x17 0 w fun x21=>
 rL 46 x21 w fun x22=>
 rN 46 3 x22 w fun x23=>
 rC (u4 6) x23 w fun x24=>
 BR x24
 (LOOPI [7] [(iV 0)] w fun u7 w next7=>
 NIL x17 <|
 rF 105 x17 0 w fun x30=>
 rL 46 x30 w fun x31=>
 rX 46 x31 (u4 6) w fun x33=>
 rF 33 x33 2 w fun x34=>
 rL 31 x34 w fun x35=>
 rN 31 3 x35 w fun x36=>
 rC (u7 7) x36 w fun x37=>
 BR x37
 ((fun w=>rL 28 x2 w fun x40=>
 NIL x17 <|
 rF 105 x17 0 w fun x43=>
 rL 46 x43 w fun x44=>
 rX 46 x44 (u4 6) w fun x46=>
 rL 33 x46 w fun x47=>
 cL 136 [x40,x47,(u7 7)] w fun x49 w=>
 rD (Op.unary .not x49) w fun x50=>
 BR x50
 (rA (u7 7) (iV 1) w fun x39=>
 next7 [x39] w)
 ((fun w0=>PAR w0 [[(0,51)],[(1,52)],[(2,53),(1,52)],[(3,54),(2,53)],[(4,55),(3,54)],[(5,56)],[(6,57),(4,55),(5,56)],[(7,58),(6,57)],[(8,59)],[(9,60),(0,51),(7,58),(8,59)],[(10,8)]] (fun Q=>
 (∀ (u10:Env) (T:Nat→Nat×Nat) (w:World),Ext w0 w→zaA [] w0.heap.size w.heap.size T→(True)→(fun w1=>rL 28 x2 w fun x51=>
 Ext w1 w∧Q 0 (upd u10 51 x51) (zbv T 0 (w1.heap.size,w.heap.size)) w) w) ∧
 (∀ (u10:Env) (T:Nat→Nat×Nat) (w:World),Ext w0 w→zaA [] w0.heap.size w.heap.size T→(True)→(fun w1=>Ext w1 w∧Q 1 (upd u10 52 x17) (zbv T 1 (w1.heap.size,w.heap.size)) w) w) ∧
 (∀ (u10:Env) (T:Nat→Nat×Nat) (w:World),Ext w0 w→zaA [1] w0.heap.size w.heap.size T→(Q 1 u10 T w∧True)→(fun w1=>NIL (u10 52) <|
 Ext w1 w∧Q 2 (upd u10 53 (u10 52)) (zbv T 2 (w1.heap.size,w.heap.size)) w) w) ∧
 (∀ (u10:Env) (T:Nat→Nat×Nat) (w:World),Ext w0 w→zaA [2] w0.heap.size w.heap.size T→(Q 2 u10 T w∧True)→(fun w1=>rF 105 (u10 53) 0 w fun x54=>
 Ext w1 w∧Q 3 (upd u10 54 x54) (zbv T 3 (w1.heap.size,w.heap.size)) w) w) ∧
 (∀ (u10:Env) (T:Nat→Nat×Nat) (w:World),Ext w0 w→zaA [3] w0.heap.size w.heap.size T→(Q 3 u10 T w∧True)→(fun w1=>rL 46 (u10 54) w fun x55=>
 Ext w1 w∧Q 4 (upd u10 55 x55) (zbv T 4 (w1.heap.size,w.heap.size)) w) w) ∧
 (∀ (u10:Env) (T:Nat→Nat×Nat) (w:World),Ext w0 w→zaA [] w0.heap.size w.heap.size T→(True)→(fun w1=>Ext w1 w∧Q 5 (upd u10 56 (u4 6)) (zbv T 5 (w1.heap.size,w.heap.size)) w) w) ∧
 (∀ (u10:Env) (T:Nat→Nat×Nat) (w:World),Ext w0 w→zaA [4,5] w0.heap.size w.heap.size T→(Q 4 u10 T w∧Q 5 u10 T w∧True)→(fun w1=>rX 46 (u10 55) (u10 56) w fun x57=>
 Ext w1 w∧Q 6 (upd u10 57 x57) (zbv T 6 (w1.heap.size,w.heap.size)) w) w) ∧
 (∀ (u10:Env) (T:Nat→Nat×Nat) (w:World),Ext w0 w→zaA [6] w0.heap.size w.heap.size T→(Q 6 u10 T w∧True)→(fun w1=>rL 33 (u10 57) w fun x58=>
 Ext w1 w∧Q 7 (upd u10 58 x58) (zbv T 7 (w1.heap.size,w.heap.size)) w) w) ∧
 (∀ (u10:Env) (T:Nat→Nat×Nat) (w:World),Ext w0 w→zaA [] w0.heap.size w.heap.size T→(True)→(fun w1=>Ext w1 w∧Q 8 (upd u10 59 (u7 7)) (zbv T 8 (w1.heap.size,w.heap.size)) w) w) ∧
 (∀ (u10:Env) (T:Nat→Nat×Nat) (w:World),Ext w0 w→zaA [0,7,8] w0.heap.size w.heap.size T→(Q 0 u10 T w∧Q 7 u10 T w∧Q 8 u10 T w∧True)→(fun w1=>cL 82 [(u10 51),(u10 58),(u10 59)] w fun x60 w=>
 Ext w1 w∧Q 9 (upd u10 60 x60) (zbv T 9 (w1.heap.size,w.heap.size)) w) w) ∧
 (∀ (u10:Env) (T:Nat→Nat×Nat) (w:World),Ext w0 w→zaA [] w0.heap.size w.heap.size T→(True)→(fun w1=>oP (Instr.alloc 33 true (.tuple #[])) w fun x8 w=>
 Ext w1 w∧Q 10 (upd u10 8 x8) (zbv T 10 (w1.heap.size,w.heap.size)) w) w) ∧
 True)
 (fun Q=>∀ (u10:Env) (T:Nat→Nat×Nat) (w:World),Ext w0 w→zaA [0,1,2,3,4,5,6,7,8,9,10] w0.heap.size w.heap.size T→(Q 0 u10 T w∧Q 1 u10 T w∧Q 2 u10 T w∧Q 3 u10 T w∧Q 4 u10 T w∧Q 5 u10 T w∧Q 6 u10 T w∧Q 7 u10 T w∧Q 8 u10 T w∧Q 9 u10 T w∧Q 10 u10 T w∧True) →
 oS 33 (u10 8) (u10 60) w fun w=>
 (fun w=>NIL x17 <|
 rF 105 x17 0 w fun x63=>
 rL 46 x63 w fun x64=>
 rL 33 (u10 8) w fun x65=>
 cL 147 [x64,x65] w fun x66 w=>
 rB .geq 3 T0 U0 x66 (iV 0) w fun x67=>
 BR x67
 (rA (u7 7) (iV 1) w fun x39=>
 next7 [x39] w)
 (NIL x17 <|
 rF 105 x17 0 w fun x70=>
 rL 46 x70 w fun x71=>
 rN 46 3 x71 w fun x72=>
 rB .eql 3 T0 T0 x72 x10 w fun x74=>
 BR x74
 (NIL x17 <|
 rF 105 x17 3 w fun x77=>
 oS 4 x77 (Value.bool false) w fun w=>
 R x17 w)
 ((fun w=>XR fun X=>NIL x17 <|
 RDX tp X (Instr.fieldAt 105 x17 0) w fun x82=>
 RDX tp X (Instr.loadAt 46 x82) w fun x83=>
 RDX tp X (Instr.loadAt 33 (u10 8)) w fun x84=>
 (fun w_=>oP (Instr.buildSlice 46 1 #[(0,x84)]) w_ fun x85 w=>
 ExtX X w_ w ∧
 ((fun w_=>oP (Builtin.append_ #[46,46] 46 [x83,x85].toArray) w_ fun x86 w=>
 ExtX X w_ w ∧
 (NIL x17 <|
 RDX tp X (Instr.fieldAt 105 x17 0) w fun x88=>
 oS 46 x88 x86 w fun w=>
 NIL x17 <|
 rF 105 x17 1 w fun x92=>
 rL 25 x92 w fun x93=>
 oP (Instr.buildSlice 25 1 #[(0,(u4 6))]) w fun x95 w=>
 oP (Builtin.append_ #[25,25] 25 [x93,x95].toArray) w fun x96 w=>
 NIL x17 <|
 rF 105 x17 1 w fun x98=>
 oS 25 x98 x96 w fun w=>
 NIL x17 <|
 rF 105 x17 2 w fun x102=>
 rL 25 x102 w fun x103=>
 oP (Instr.buildSlice 25 1 #[(0,(u7 7))]) w fun x105 w=>
 oP (Builtin.append_ #[25,25] 25 [x103,x105].toArray) w fun x106 w=>
 NIL x17 <|
 rF 105 x17 2 w fun x108=>
 oS 25 x108 x106 w fun w=>
 rA (u7 7) (iV 1) w fun x39=>
 next7 [x39] w)) w)) w) (World.drew1 w)))) (World.drew1 w))) (World.drew1 w))) (World.drew1 w))
 (rA (u4 6) (iV 1) w fun x26=>
 next4 [x26] w))
 (R x17 w)
def cfg87:Cfg:={ ext:=extL,joins:=[],loops:=[(4,649037107316853453566312040890832,[6]),(7,649037107316853453566311906935184,[7])],draws:=[(9,[0,1,2,3,4,5,6,7,8,9,10],0),(11,[0,1,2,3,4,5,6],0),(15,[0,1,2,3,4,5,6,7,8,9,10],192)],pars:=[(10,2303591209400008960,11)],xs:=[15] }
theorem F87_call {a0 a1:Value} {w:World} {R:VW} (h:F87 a0 a1 w R):cL 87 [a0,a1] w R:=co (g:=cfg87) Tryz.func87 (by kernel_rfl) (by kernel_rfl) (by kernel_rfl) h
def slQ (c:DCode) (z:DTrail) (g:Nat) (i t:Nat) (w0:World):ParQ:=fun j u T w=>match j with
 | 0=>Is w0 (u 51) c
 | 1=>u 52=.pointer (some ⟨g,0,none⟩)
 | 2=>u 53=.pointer (some ⟨g,0,none⟩)
 | 3=>u 54=.pointer (some ⟨g,0+0,none⟩)
 | 4=>u 55=z.states.v
 | 5=>u 56=.int .i64 (i:Int)
 | 6=>∃ b o,u 57=.pointer (some ⟨b,o,none⟩)∧At w0 b o (zcr z.er i)
 | 7=>Is w0 (u 58) (zcr z.er i)
 | 8=>u 59=.int .i64 (t:Int)
 | 9=>OwnI (T 9).1 (T 9).2 w (u 60) (zby c (zcr z.er i) t)
 | 10=>∃ gg,u 8=.pointer (some ⟨gg,0,none⟩)∧(T 10).1≤gg∧gg<(T 10).2∧Blk gg 33 w [.slice none 0 0,.slice none 0 0,.slice none 0 0]
 | _=>True
theorem zou {w W0:World} {v0:Value} {c:DCode} {m:Int} (h0:Is W0 v0 c) (e0:Ext W0 w) (hw:zgh c≤1048576) (hc:CodeR c) :
   CALL Tryz.prog 87 [v0,.int .i64 m] w fun r w'=>Ext w w'∧∃ (g:Nat) (z:DTrail),r=.pointer (some ⟨g,0,none⟩)∧w.heap.size≤g∧VarI w.heap.size w'.heap.size w' g z∧z.er=zbW c (zaU m 1 150).toNat∧TrOk c (zaU m 1 150).toNat z.er:=by
 refine F87_call ?_
 unfold F87
 refine zbR h0 e0 fun w1 hx1 hA=>?_
 have hs1:=hx1.size
 refine specBrought_ok.mono ?_
 rintro _ w3 ⟨hx3,rfl⟩
 have hs3:=hx3.size
 have hMi:=zcR m
 obtain ⟨M,hM,hM1,hM2⟩:∃ M:Nat,zaU m 1 150=(M:Int)∧1≤M∧M≤150:=⟨(zaU m 1 150).toNat,by omega,by omega,by omega⟩
 rw [hM]
 have hMt:((M:Nat):Int).toNat=M:=by omega
 rw [hMt]
 refine zab zcx hA hx3 fun v11 h11=>?_
 refine (zfg h11 hx3 hw).mono ?_
 rintro r12 w4 ⟨hx4,o12⟩
 rw [show zgC c=zbO c from if_pos hc] at o12
 have o12:=o12.toI
 have hs4:=hx4.size
 refine zec (β:=DState) u46 zbf z33 (by decide) o12 (by omega) fun v13 w5 hx5 r13=>?_
 have hs5:=hx5.size
 refine zec (β:=Int) (lo2:=w5.heap.size) (hi2:=w5.heap.size) u25 ty3 z3 (by decide) (ownI_int (x:=-1) (by unfold I64;omega)) (by omega) fun v14 w6 hx6 r14=>?_
 have hs6:=hx6.size
 refine zec (β:=Int) (lo2:=w6.heap.size) (hi2:=w6.heap.size) u25 ty3 z3 (by decide) (ownI_int (x:=-1) (by unfold I64;omega)) (by omega) fun v15 w7 hx7 r15=>?_
 have hs7:=hx7.size
 have o13:=zdd ((r13.ext hx6).ext hx7)
 have o14:=zdd (r14.ext hx7)
 have o15:=zdd r15
 obtain ⟨a13,n13,c13,e13⟩:=zbX r13.own
 obtain ⟨a14,n14,c14,e14⟩:=zbX r14.own
 obtain ⟨a15,n15,c15,e15⟩:=zbX r15.own
 have otr:=ziH (z:=⟨⟨v13,[zbO c]⟩,⟨v14,[-1]⟩,⟨v15,[-1]⟩,true⟩) o13 o14 o15 (by omega)
 refine zaR (cells:=#[v13,v14,v15,.bool true]) (by rw [e13,e14,e15];kernel_rfl) ?_
 refine zqd (α:=DTrail) rfl otr fun w9 hx9 hv9=>?_
 have hs9:=hx9.size
 have hg5:=hv9.lt
 have hx39:Ext w3 w9:=hx4.trans (hx5.trans (hx6.trans (hx7.trans hx9)))
 obtain ⟨g,hgd⟩:∃ g,w7.heap.size=g:=⟨_,rfl⟩
 rw [hgd] at hv9 hg5 ⊢
 have hv9:=hv9.mono (lo':=w3.heap.size) (hi':=w9.heap.size) (Nat.le_refl _) (by omega)
 refine zaF M (fun k us w'=>us=[.int .i64 (k:Int)]∧∃ (z:DTrail) (hi:Nat),Ext w3 w'∧VarI w3.heap.size hi w' g z∧g<hi∧hi≤w'.heap.size∧TrOk c M z.er∧k≤z.states.l.length∧zcI c M (M-k) k z.er=zbW c M) 0 (by omega)
   ⟨rfl,_,w9.heap.size,hx39,hv9,by omega,Nat.le_refl _,zme hc hM1,Nat.zero_le _,rfl⟩ ?_
 rintro k mk u w10 hkm ⟨hu,z,hi,hx10,hv10,hgh,hhi,hok,hkl,hlook⟩
 simp only [List.map_cons,List.map_nil,List.cons.injEq,and_true] at hu
 rw [hu]
 have hmany:1≤z.states.l.length∧z.states.l.length≤M:=hok.many
 refine ⟨rfl,?_⟩
 refine zaa zeh ?_
 refine zaS ziW (zat hv10.at) (Ext.refl _) ?_
 have hst:=zhX (zat hv10.at)
 refine zae u46 hst ?_
 refine zai ?_
 refine br (fun hlt=>?_) (fun hge=>?_)
 case refine_2=>
   have:=hx10.size
   refine ⟨hx1.trans (hx3.trans hx10),g,z,rfl,by omega,hv10.mono (by omega) hhi,?_,hok⟩
   rw [←hlook,ziE (f:=z.er) (by show z.states.l.length≤k;omega)]
 have hkz:k<z.states.l.length:=by omega
 have hsr:zaK c (zcr z.er k):=hok.right _ (by rw [←zcG (f:=z.er) hkz];exact List.getElem_mem _)
 obtain ⟨s,hsd⟩:∃ s,zcr z.er k=s:=⟨_,rfl⟩
 rw [hsd] at hsr
 have hn6:=hsr.2.2.1
 refine zaF s.stacks.length (fun t us w'=>us=[.int .i64 (t:Int)]∧∃ (z':DTrail) (hi':Nat),Ext w3 w'∧VarI w3.heap.size hi' w' g z'∧g<hi'∧hi'≤w'.heap.size∧TrOk c M z'.er∧k<z'.states.l.length∧zcr z'.er k=s ∧
     zcQ c M k s.stacks.length 0 z.er=zcQ c M k (s.stacks.length-t) t z'.er) 0 (by omega)
   ⟨rfl,z,hi,hx10,hv10,hgh,hhi,hok,hkz,hsd,rfl⟩ ?_
 rintro t mt u7 w11 htm ⟨hu7,z',hi',hx11,hv11,hgh',hhi',hok',hkz',hsd',hrow⟩
 simp only [List.map_cons,List.map_nil,List.cons.injEq,and_true] at hu7
 rw [hu7]
 have hst':=zhX (zat hv11.at)
 refine ⟨rfl,?_⟩
 refine zaa zeh ?_
 refine zaS ziW (zat hv11.at) (Ext.refl _) ?_
 refine zad u46 zbf hst' hkz' fun b27 o27 h27=>?_
 replace h27:At w11 b27 o27 s:=by rw [←hsd',←zcG (f:=z'.er) hkz'];exact h27
 refine zaa zaC ?_
 refine zab zc1 (zaq h27) (Ext.refl _) fun v29 h29=>?_
 refine zae u31 h29 ?_
 refine zai ?_
 refine br (fun htl=>?_) (fun htg=>?_)
 case refine_2=>
   have ht:t=s.stacks.length:=by omega
   subst ht
   rw [Nat.sub_self,zcQ] at hrow
   rw [←hsd] at hrow
   refine zal (by omega) ?_
   refine ⟨mk-1,by omega,k+1,by omega,rfl,z',hi',hx11,hv11,hgh',hhi',hok',by omega,?_⟩
   rw [←hlook,show M-k=(M-(k+1))+1 by omega,zhW (f:=z.er) hkz hrow]
 have htn:t<s.stacks.length:=by omega
 have hq:s.stacks.length-t=(s.stacks.length-(t+1))+1:=by omega
 have hx12:=zah w11
 have hs12:=hx12.size
 refine zab zcx hA (hx3.trans (hx11.trans hx12)) fun v34 h34=>?_
 refine ⟨rfl,?_⟩
 refine zaa zeh ?_
 refine zaS ziW (zat hv11.at) hx12 ?_
 refine zad u46 zbf hst' hkz' fun b38 o38 h38=>?_
 replace h38:At w11 b38 o38 s:=by rw [←hsd',←zcG (f:=z'.er) hkz'];exact h38
 refine zab zbf h38 hx12 fun v39 h39=>?_
 refine (zmb h34 (hx3.trans (hx11.trans hx12)) h39 hx12 hc hsr).mono ?_
 rintro _ w13 ⟨hx13,rfl⟩
 have hs13:=hx13.size
 refine zau ?_
 refine br (fun hng=>?_) (fun hg=>?_)
 · refine zal (by omega) ?_
   refine ⟨mt-1,by omega,t+1,by omega,rfl,z',hi',hx11.trans (hx12.trans hx13),hv11.ext (hx12.trans hx13),hgh',by omega,hok',hkz',hsd',?_⟩
   rw [hrow,hq,ze6 (zmf (f:=z'.er) (by rw [hsd'];exact hng))]
 have hgo:GoR c s t:=Decidable.not_not.1 hg
 have hx14:=zah w13
 have hs14:=hx14.size
 have hxx:Ext w11 (World.drew1 w13):=hx12.trans (hx13.trans hx14)
 generalize World.drew1 w13=w14 at *
 refine PAR.mk (slQ c z' g k t w14) ?_ ?_ ?_
 · intro i u u' T T' wa wb hxa hxb hd hq
   match i,hd,hq with
   | 0,hd,hq=>have:=(hd (0,51) (by decide)).1;show Is _ (u' 51) _;simp only [this];exact hq
   | 1,hd,hq=>exact (hd (1,52) (by decide)).1.trans hq
   | 2,hd,hq=>exact (hd (2,53) (by decide)).1.trans hq
   | 3,hd,hq=>exact (hd (3,54) (by decide)).1.trans hq
   | 4,hd,hq=>exact (hd (4,55) (by decide)).1.trans hq
   | 5,hd,hq=>exact (hd (5,56) (by decide)).1.trans hq
   | 6,hd,⟨b,o,q1,q2⟩=>exact ⟨b,o,(hd (6,57) (by decide)).1.trans q1,q2⟩
   | 7,hd,hq=>have:=(hd (7,58) (by decide)).1;show Is _ (u' 58) _;simp only [this];exact hq
   | 8,hd,hq=>exact (hd (8,59) (by decide)).1.trans hq
   | 9,hd,hq=>
     obtain ⟨e1,e2⟩:=hd (9,60) (by decide)
     simp only at e1 e2
     show OwnI (T' 9).1 (T' 9).2 wb (u' 60) _
     rw [e1,e2];exact OwnI.ext hq hxb
   | 10,hd,⟨gg,q1,q2,q3,q4⟩=>
     obtain ⟨e1,e2⟩:=hd (10,8) (by decide)
     simp only at e1 e2
     exact ⟨gg,e1.trans q1,by rw [e2];exact q2,by rw [e2];exact q3,q4.ext hxb⟩
   | n+11,_,_=>trivial
 · refine ⟨fun u T w' hx _ _=>?_,fun u T w' hx _ _=>?_,fun u T w' hx _ hp=>?_,fun u T w' hx _ hp=>?_,fun u T w' hx _ hp=>?_,fun u T w' hx _ _=>?_,fun u T w' hx _ hp=>?_,fun u T w' hx _ hp=>?_,fun u T w' hx _ _=>?_,fun u T w' hx _ hp=>?_,fun u T w' hx _ _=>?_,trivial⟩
   · exact zab zcx hA (hx3.trans (hx11.trans (hxx.trans hx))) fun v h=>⟨Ext.refl _,h.ext (hx3.trans (hx11.trans hxx))⟩
   · exact ⟨Ext.refl _,rfl⟩
   · have q0:u 52=_:=hp.1
     rw [q0]
     exact ⟨rfl,Ext.refl _,rfl⟩
   · have q0:u 53=_:=hp.1
     rw [q0]
     exact zaa zeh ⟨Ext.refl _,rfl⟩
   · have q0:u 54=_:=hp.1
     rw [q0]
     exact zaS ziW (zat hv11.at) (hxx.trans hx) ⟨Ext.refl _,rfl⟩
   · exact ⟨Ext.refl _,rfl⟩
   · have q0:u 55=_:=hp.1
     have q1:u 56=_:=hp.2.1
     rw [q0,q1]
     refine zad u46 zbf hst' hkz' fun b o h=>⟨Ext.refl _,b,o,rfl,?_⟩
     rw [←zcG (f:=z'.er) hkz']
     exact h.ext hxx
   · obtain ⟨b,o,q0,q1⟩:∃ b o,u 57=.pointer (some ⟨b,o,none⟩)∧At w14 b o (zcr z'.er k):=hp.1
     rw [q0]
     exact zab zbf q1 hx fun v h=>⟨Ext.refl _,h⟩
   · exact ⟨Ext.refl _,rfl⟩
   · have q0:Is w14 (u 51) c:=hp.1
     have q1:Is w14 (u 58) (zcr z'.er k):=hp.2.1
     have q2:u 59=_:=hp.2.2.1
     rw [q2]
     have:=zmZ q0 hx q1 hx hc (by rw [hsd'];exact hsr) (by rw [hsd'];exact hgo)
     exact this.mono fun r w5 ⟨hx5,ho⟩=>⟨hx5,ho.toI⟩
   exact za6 zl7 fun w5 hx5 hB=>⟨hx5,w'.heap.size,rfl,Nat.le_refl _,hB.lt,hB⟩
 rintro u10 T w15 hx15 hap ⟨-,-,-,-,-,-,-,-,-,o50,⟨gg,q8,hgg0,hgg1,hB15⟩,-⟩
 have o50:OwnI (T 9).1 (T 9).2 w15 (u10 60) (zby c (zcr z'.er k) t):=o50
 rw [hsd'] at o50
 have t7:=hap.1 9 (by decide)
 have t8:=hap.1 10 (by decide)
 have d78:=hap.2 9 (by decide) 10 (by decide) (by decide)
 have hs15:=hx15.size
 have hsxx:=hxx.size
 generalize u10 60=v50 at *
 rw [q8]
 obtain ⟨ga,gb,gc,hge⟩:=zpd o50
 subst hge
 refine za7 zbf rfl hB15 rfl o50 fun w16 hc16 hB16=>?_
 have hs16:=hc16.size
 have hxe:=zah w16
 have hse:=hxe.size
 have hx16:Ext w11 (World.drew1 w16):=(Ext.chgI (hxx.trans hx15) hc16 (by omega)).trans hxe
 have o16:=(o50.chg hc16 (by omega)).ext hxe
 have hB16:=hB16.ext hxe
 have hv16:=hv11.ext hx16
 generalize World.drew1 w16=w16d at *
 refine ⟨rfl,?_⟩
 refine zaa zeh ?_
 refine zaS ziW (zat hv16.at) (Ext.refl _) ?_
 have hst16:=zhX (zat hv16.at)
 refine zdb hB16 zbf ?_
 refine (zpg hst16 (Ext.refl _) o16.is (Ext.refl _)).mono ?_
 rintro _ w17 ⟨hx17,rfl⟩
 have hs17:=hx17.size
 refine zbP ?_
 refine br (fun hold=>?_) (fun hnew=>?_)
 · refine zal (by omega) ?_
   refine ⟨mt-1,by omega,t+1,by omega,rfl,z',hi',hx11.trans (hx16.trans hx17),hv16.ext hx17,hgh',by omega,hok',hkz',hsd',?_⟩
   rw [hrow,hq,ze6 (zko (f:=z'.er) (by rw [hsd'];exact hgo) (by rw [hsd'];exact zep.1 hold))]
 have hno:zby c (zcr z'.er k) t∉z'.er.states:=fun h=>hnew (by rw [hsd'] at h;exact zep.2 h)
 have hgo':GoR c (zcr z'.er k) t:=by rw [hsd'];exact hgo
 have hv17:=hv16.ext hx17
 refine ⟨rfl,?_⟩
 refine zaa zeh ?_
 refine zaS ziW (zat hv17.at) (Ext.refl _) ?_
 have hst17:=zhX (zat hv17.at)
 refine zae u46 hst17 ?_
 refine zag ?_
 refine br (fun hfull=>?_) (fun hroom=>?_)
 · have hfull':z'.er.states.length=M:=by show z'.states.l.length=M;omega
   refine ⟨rfl,?_⟩
   refine zaa znC ?_
   obtain ⟨F,hO,hF⟩:=hv17
   obtain ⟨G,hL⟩:=zf9 (Lens.var hO)
   refine zdL ty4 hL (lo:=w3.heap.size) (hi:=w17.heap.size) (fun b hb=>by have:=hF b hb;omega) (by have:=hx11.size;omega) zjY fun w18 hc18 hv18=>?_
   have hs18:=hc18.size
   have:=hx11.size
   refine ⟨hx1.trans (hx3.trans (Ext.chgI (hx11.trans (hx16.trans hx17)) hc18 (Nat.le_refl _))),g,_,rfl,by omega,hv18.mono (by omega) (by omega),?_,hok'.not⟩
   have hvis:=ziD (M:=M) hgo' hno hfull'
   rw [←hlook,show M-k=(M-(k+1))+1 by omega,zhV (f:=z.er) hkz (by rw [hsd,hrow,hq,ziC (by rw [hvis]),hvis])]
   rfl
 have hroom':¬z'.er.states.length=M:=by show ¬z'.states.l.length=M;omega
 have hle':z'.states.l.length≤M:=hok'.many.2
 have hla':z'.ahead.l.length=z'.states.l.length:=hok'.la
 have hlw':z'.went.l.length=z'.states.l.length:=hok'.lw
 have hB17:=(hB16.ext hx17).ext (zah w17)
 have hxd:=zah w17
 have hsd17:=hxd.size
 have hxpd:=hx16.trans (hx17.trans hxd)
 generalize World.drew1 w17=w17d at *
 have hs11:=hx11.size
 refine ⟨fun b=>w3.heap.size≤b∧b<hi'∧b≠g,?_⟩
 refine ⟨rfl,?_⟩
 refine zcP zeh ?_
 refine zdo ziW (zqX (zat (hv11.ext hxpd).at)) (fun h=>h.2.2 rfl) ?_
 refine zpf hB17 zbf (fun h=>by have:=h.2.1;omega) ?_
 refine ze7 (β:=DState) u46 zbf z33 zq1 (by decide) ziW hv11 ⟨by omega,hgh'⟩ hxpd (fun hO=>zf6 (Lens.var hO)) ((o16.ext hx17).ext hxd) (by omega) (by omega) (by omega) (by rw [zak];omega) (by omega) (fun v67 w18 hc18 hv18=>?_) fun a w1' hxa hop=>⟨hxa.toX,hop.mono fun r w2' hr=>⟨hr.1,rfl,zcP zeh hr.2⟩⟩
 have hs18:=hc18.size
 refine ⟨rfl,?_⟩
 refine zaa znA ?_
 refine zaS zaJ (zeq hv18.at) (Ext.refl _) ?_
 refine ze7 (β:=Int) (lo2:=w18.heap.size) (hi2:=w18.heap.size) u25 ty3 z3 zc3 (by decide) zaJ hv18 ⟨by omega,by omega⟩ (Ext.refl _) (fun hO=>zf7 (Lens.var hO)) (ownI_int (x:=(k:Int)) (by unfold I64;omega)) (by omega) (by omega) (by omega) (by rw [zak];show z'.ahead.l.length+1≤_;omega) (by show (z'.ahead.l.length+1)*_≤_;omega) (fun v73 w19 hc19 hv19=>?_) fun a w1' hxa hop=>hop.mono fun r w2' hr=>⟨rfl,zaa znA hr.2⟩
 have hs19:=hc19.size
 refine ⟨rfl,?_⟩
 refine zaa znB ?_
 refine zaS zaJ (zer hv19.at) (Ext.refl _) ?_
 refine ze7 (β:=Int) (lo2:=w19.heap.size) (hi2:=w19.heap.size) u25 ty3 z3 zc3 (by decide) zaJ hv19 ⟨by omega,by omega⟩ (Ext.refl _) (fun hO=>zf8 (Lens.var hO)) (ownI_int (x:=(t:Int)) (by unfold I64;omega)) (by omega) (by omega) (by omega) (by rw [zak];show z'.went.l.length+1≤_;omega) (by show (z'.went.l.length+1)*_≤_;omega) (fun v79 w20 hc20 hv20=>?_) fun a w1' hxa hop=>hop.mono fun r w2' hr=>⟨rfl,zaa znB hr.2⟩
 have hs20:=hc20.size
 refine zal (by omega) ?_
 have hpush:=hok'.push hc hkz' hgo' (by omega) hroom'
 have hvis:=zkp (M:=M) hgo' hno hroom'
 rw [hsd'] at hpush hvis
 refine ⟨mt-1,by omega,t+1,by omega,rfl,_,w20.heap.size,Ext.chgI (Ext.chgI (Ext.chgI hx11 hc18 (Nat.le_refl _)) hc19 (Nat.le_refl _)) hc20 (Nat.le_refl _),hv20,by omega,Nat.le_refl _,hpush,by show k<(z'.states.l++[_]).length;simp;omega,?_,?_⟩
 · exact (zc4 (f:=z'.er) hkz').trans hsd'
 rw [hrow,hq,ze6 hvis];rfl
def F28 (a0 a1:Value) (w:World) (R:VW):Prop:=
 oP (Instr.box 28 a0) w fun x2 w=>
 rL 28 x2 w fun x7=>
 cL 72 [x7] w fun x8 w=>
 rD (Op.unary .not x8) w fun x9=>
 BR x9
 (R (Value.tuple #[(Value.slice none 0 0),(Value.bool false)]) w)
 (rL 28 x2 w fun x10=>
 cL 86 [x10,a1] w fun x12 w=>
 oP (Instr.alloc 100 true (.tuple #[])) w fun x6 w=>
 oS 100 x6 x12 w fun w=>
 (fun w=>rF 100 x6 0 w fun x13=>
 rL 46 x13 w fun x14=>
 rF 100 x6 3 w fun x15=>
 rL 4 x15 w fun x16=>
 R (Value.tuple #[x14,x16]) w) (World.drew1 w))
def cfg28:Cfg:=⟨extL,[],[],[(4,[0,1,2,3,4,5],0)],[],[],[]⟩
theorem F28_call {a0 a1:Value} {w:World} {R:VW} (h:F28 a0 a1 w R):cL 28 [a0,a1] w R:=co (g:=cfg28) Tryz.func28 (by kernel_rfl) (by kernel_rfl) (by kernel_rfl) h
def F29 (a0 a1:Value) (w:World) (R:VW):Prop:=
 oP (Instr.box 28 a0) w fun x2 w=>
 rL 28 x2 w fun x7=>
 cL 81 [x7] w fun x8 w=>
 rD (Op.unary .not x8) w fun x9=>
 BR x9
 (oP (Instr.buildSlice 46 0 #[]) w fun x10 w=>
 R (Value.tuple #[x10,(Value.bool false)]) w)
 (rL 28 x2 w fun x11=>
 cL 87 [x11,a1] w fun x13 w=>
 (fun w=>NIL x13 <|
 rF 105 x13 0 w fun x16=>
 rL 46 x16 w fun x17=>
 NIL x13 <|
 rF 105 x13 3 w fun x20=>
 rL 4 x20 w fun x21=>
 R (Value.tuple #[x17,x21]) w) (World.drew1 w))
def cfg29:Cfg:=⟨extL,[],[],[(4,[0,1,2,3,4,5,6,7,8,9],0)],[],[],[]⟩
theorem F29_call {a0 a1:Value} {w:World} {R:VW} (h:F29 a0 a1 w R):cL 29 [a0,a1] w R:=co (g:=cfg29) Tryz.func29 (by kernel_rfl) (by kernel_rfl) (by kernel_rfl) h
def F89 (a0:Value) (w:World) (R:VW):Prop:=
 rN 25 3 a0 w fun x5=>
 rB .sub 3 T0 U0 x5 (iV 1) w fun x6=>
 LOOPI [2,3] [(iV 0),x6] w fun u1 w next1=>
 rC (u1 2) (u1 3) w fun x9=>
 BR x9
 ((fun w=>rX 25 a0 (u1 3) w fun x20=>
 rL 3 x20 w fun x21=>
 rX 25 a0 (u1 2) w fun x24=>
 rL 3 x24 w fun x25=>
 rX 25 a0 (u1 2) w fun x26=>
 oS 3 x26 x21 w fun w=>
 rX 25 a0 (u1 3) w fun x27=>
 oS 3 x27 x25 w fun w=>
 rA (u1 2) (iV 1) w fun x11=>
 rB .sub 3 T0 U0 (u1 3) (iV 1) w fun x13=>
 next1 [x11,x13] w) (World.drew1 w))
 (R (Value.tuple #[]) w)
def cfg89:Cfg:=⟨extL,[],[(1,268435340,[2,3])],[(3,[0,1,2,3,4,5,6,7,8,9,10,11,12,13,14,15],0)],[],[],[]⟩
theorem F89_call {a0:Value} {w:World} {R:VW} (h:F89 a0 w R):cL 89 [a0] w R:=co (g:=cfg89) Tryz.func89 (by kernel_rfl) (by kernel_rfl) (by kernel_rfl) h
def za0 (m:Int):Nat:=(zaU m 1 150).toNat
def zbs (c:DCode) (m:Int):List DState:=if CodeR c then (zbW c (za0 m)).states else []
def zdV (c:DCode) (m:Int):Bool:=if CodeR c then (zbW c (za0 m)).whole else false
theorem zeP {w W0:World} {v0:Value} {c:DCode} {m:Int} (h0:Is W0 v0 c) (e0:Ext W0 w) (hw:zgh c≤1048576) :
   CALL Tryz.prog 28 [v0,.int .i64 m] w fun r w'=>Ext w w'∧(∃ a,r=.tuple #[a,.bool (zdV c m)]∧Own w.heap.size w' a (zbs c m))∧(CodeR c→TrOk c (za0 m) (zbW c (za0 m))):=by
 refine F28_call ?_
 unfold F28
 refine zbR h0 e0 fun w1 hx1 hA=>?_
 have hs1:=hx1.size
 refine zab zcx hA (Ext.refl _) fun v7 h7=>?_
 refine (zem h7 (Ext.refl _)).mono ?_
 rintro _ w2 ⟨hx2,rfl⟩
 have hs2:=hx2.size
 refine zau ?_
 refine br (fun hn=>?_) (fun hc=>?_)
 · refine ⟨hx1.trans hx2,?_,fun h=>absurd h hn⟩
   rw [show zdV c m=false from if_neg hn,show zbs c m=[] from if_neg hn]
   exact ⟨_,rfl,zhh rfl⟩
 have hc:=Decidable.not_not.1 hc
 refine zab zcx hA hx2 fun v10 h10=>?_
 refine (zkx h10 hx2 hw hc).mono ?_
 rintro r12 w3 ⟨hx3,z,o12,hz,hok⟩
 have hs3:=hx3.size
 refine zc8 (α:=DTrail) zq3 fun w4 hx4 hv=>?_
 have hs4:=hx4.size
 refine zaP zmu hv (o12.ext hx4) (by omega) fun w5 hc5 hv5=>?_
 have hs5:=hc5.size
 have o5:=(o12.ext hx4).chg hc5 (by omega)
 obtain ⟨_,r5,_,_⟩:=zkw o5
 have hx6:=zah w5
 refine zaa zdP ?_
 refine zaS ziW (zat hv5.at) hx6 ?_
 refine zaa znz ?_
 refine zlH ty4 (zhY hv5.at) hx6 ?_
 have e1:zdV c m=z.whole:=by unfold zdV;rw [if_pos hc,show zbW c (za0 m)=z.er from hz.symm];rfl
 have e2:zbs c m=z.states.l:=by unfold zbs;rw [if_pos hc,show zbW c (za0 m)=z.er from hz.symm];rfl
 refine ⟨(Ext.chgI (hx1.trans (hx2.trans (hx3.trans hx4))) hc5 (by omega)).trans hx6,?_,fun _=>by rw [show za0 m=(zaU m 1 150).toNat from rfl,←hz];exact hok⟩
 rw [e1,e2]
 exact ⟨_,rfl,(r5.ext hx6).own.own.mono (by omega)⟩
theorem zeQ {w W0:World} {v0:Value} {c:DCode} {m:Int} (h0:Is W0 v0 c) (e0:Ext W0 w) (hw:zgh c≤1048576) :
   CALL Tryz.prog 29 [v0,.int .i64 m] w fun r w'=>Ext w w'∧(∃ a,r=.tuple #[a,.bool (zdV c m)]∧Own w.heap.size w' a (zbs c m))∧(CodeR c→TrOk c (za0 m) (zbW c (za0 m))):=by
 refine F29_call ?_
 unfold F29
 refine zbR h0 e0 fun w1 hx1 hA=>?_
 have hs1:=hx1.size
 refine zab zcx hA (Ext.refl _) fun v7 h7=>?_
 refine (zfP h7 (Ext.refl _)).mono ?_
 rintro _ w2 ⟨hx2,rfl⟩
 have hs2:=hx2.size
 refine zau ?_
 refine br (fun hn=>?_) (fun hc=>?_)
 · refine zbq (α:=DState) u46 zbf fun a w3 hx3 r3=>?_
   refine ⟨hx1.trans (hx2.trans hx3),?_,fun h=>absurd h hn⟩
   rw [show zdV c m=false from if_neg hn,show zbs c m=[] from if_neg hn]
   exact ⟨_,rfl,r3.own.own.mono (by have:=hx3.size;omega)⟩
 have hc:=Decidable.not_not.1 hc
 refine zab zcx hA hx2 fun v10 h10=>?_
 refine (zou h10 hx2 hw hc).mono ?_
 rintro _ w3 ⟨hx3,g,z,rfl,hg,hv,hz,hok⟩
 have hs3:=hx3.size
 have hx6:=zah w3
 refine ⟨rfl,?_⟩
 refine zaa zeh ?_
 refine zaS ziW (zat hv.at) hx6 ?_
 refine ⟨rfl,?_⟩
 refine zaa znC ?_
 refine zlH ty4 (zhY hv.at) hx6 ?_
 have hR:RowI w2.heap.size w3.heap.size 33 w3 z.states.v z.states.l:=by
   obtain ⟨v,o,cs,F,hr,hra,hve⟩:=hv.own
   exact (zkw o).2.1
 have e1:zdV c m=z.whole:=by unfold zdV;rw [if_pos hc,show zbW c (za0 m)=z.er from hz.symm];rfl
 have e2:zbs c m=z.states.l:=by unfold zbs;rw [if_pos hc,show zbW c (za0 m)=z.er from hz.symm];rfl
 refine ⟨(hx1.trans (hx2.trans hx3)).trans hx6,?_,fun _=>by rw [show za0 m=(zaU m 1 150).toNat from rfl,←hz];exact hok⟩
 rw [e1,e2]
 exact ⟨_,rfl,(hR.ext hx6).own.own.mono (by omega)⟩
theorem zm3 {f:Tr} {n:Nat} {a:Int} (h:a≤0):zc5 f n a=[]:=by
 cases n with
 | zero=>rfl
 | succ n=>rw [zc5,if_neg (by omega)]
theorem zm4 {f:Tr} {n:Nat} {a:Int} (h:0<a):zc5 f (n+1) a=f.went.getD a.toNat 0 :: zc5 f n (f.ahead.getD a.toNat 0):=by rw [zc5,if_pos h]
theorem zky (f:Tr):∀ (n:Nat) (a:Int),(zc5 f n a).length≤n
 | 0,_=>by simp [zc5]
 | n+1,a=>by
   rw [zc5]
   split
   · have:=zky f n (f.ahead.getD a.toNat 0);simp;exact this
   simp
def zkz (c:DCode) (s:DState) (m:Int):Bool:=decide (CodeR c∧s∈(zbW c (za0 m)).states)
def ze9 (c:DCode) (s:DState) (m:Int):List Int:=if CodeR c∧s∈(zbW c (za0 m)).states then (zc5 (zbW c (za0 m)) (za0 m) (ze8 s (zbW c (za0 m)).states)).reverse else []
theorem zov {l:List Int} {i:Nat} (h:i<l.length):l.getD i 0=l[i]:=by rw [List.getD_eq_getElem?_getD,List.getElem?_eq_getElem h];rfl
theorem zm5 {w:World} {lo hi:Nat} {v:Value} {l:List Int} (h:OwnI lo hi w v l) :
   CALL Tryz.prog 89 [v] w fun r w'=>ChgI lo hi w w'∧OwnI lo hi w' v l.reverse:=by
 obtain ⟨F,hM,hF⟩:=h
 have hlen:=zaf hM.is
 refine F89_call ?_
 unfold F89
 refine zae u25 hM.is ?_
 refine za8 (by unfold I64;omega) ?_
 refine zaF l.length (fun k us w'=>us=[.int .i64 (k:Int),.int .i64 ((l.length:Int)-1-k)]∧Chg F w w'∧∃ cur:List Int,Mine F w' v cur∧cur.length=l.length∧2*k≤l.length+1∧∀ j,j<l.length→cur[j]?=if j<k∨l.length-k≤j then l[l.length-1-j]? else l[j]?) 0 (Nat.zero_le _)
   ⟨by simp,Chg.refl _ _,l,hM,rfl,by omega,fun j hj=>by rw [if_neg (by omega)]⟩ ?_
 rintro k m u w2 hkm ⟨hu,hc2,cur,hm2,hl2,hk2,hcur⟩
 obtain ⟨hu1,hu2⟩:=zkG hu
 rw [hu1,hu2]
 refine zai ?_
 refine br (fun hlt=>?_) (fun hge=>?_)
 · have hx3:=zah w2
   have hm3:=hm2.ext hx3
   have e1:((l.length:Int)-1-k)=((l.length-1-k:Nat):Int):=by omega
   rw [e1]
   obtain ⟨i,hi⟩:∃ i,l.length-1-k=i:=⟨_,rfl⟩
   rw [hi]
   have hki:k<i:=by omega
   have hil:i<l.length:=by omega
   refine zad u25 ty3 hm3.is (by omega) fun b o hA=>?_
   refine zac ty3 hA (Ext.refl _) fun hI1=>?_
   refine zad u25 ty3 hm3.is (by omega) fun b o hA2=>?_
   refine zac ty3 hA2 (Ext.refl _) fun hI2=>?_
   refine ziS (α:=Int) u25 ty3 hm3 (by omega) (zbT hI1).own fun w4 hc4 hm4=>?_
   refine ziS (α:=Int) u25 ty3 hm4 (by simp;omega) (zbT hI2).own fun w5 hc5 hm5=>?_
   refine zal (by omega) ?_
   refine za8 (by unfold I64;omega) ?_
   refine ⟨m-1,by omega,k+1,by omega,?_,hc2.trans ((hx3.chg F).trans (hc4.trans hc5)),_,hm5,by simp [hl2],by omega,fun j hj=>?_⟩
   · congr 2;congr 1;omega
   rw [List.getElem?_set,List.getElem?_set]
   simp only [List.length_set]
   have hc_i:=hcur i hil
   have hc_k:=hcur k (by omega)
   rw [if_neg (by omega),List.getElem?_eq_getElem (by omega),List.getElem?_eq_getElem (by omega),Option.some.injEq] at hc_i hc_k
   by_cases hji:i=j
   · subst hji
     rw [if_pos rfl,if_pos (by omega),if_pos (by omega),hc_k,List.getElem?_eq_getElem (by omega)]
     congr 2;omega
   by_cases hjk:k=j
   · subst hjk
     rw [if_neg (by omega),if_pos rfl,if_pos (by omega),if_pos (by omega),hc_i,List.getElem?_eq_getElem (by omega)]
     congr 2;omega
   rw [if_neg hji,if_neg hjk,hcur j hj]
   by_cases h:j<k∨l.length-k≤j
   · rw [if_pos h,if_pos (by omega)]
   rw [if_neg h,if_neg (by omega)]
 refine ⟨hc2.toI hF,F,?_,hF⟩
 have:l.reverse=cur:=by
   refine List.ext_getElem? fun j=>?_
   rcases Nat.lt_or_ge j l.length with hj | hj
   · rw [hcur j hj,List.getElem?_reverse hj]
     by_cases h:j<k∨l.length-k≤j
     · rw [if_pos h]
     rw [if_neg h]
     congr 1;omega
   rw [List.getElem?_eq_none (by simpa using hj),List.getElem?_eq_none (by omega)]
 rw [this];exact hm2
def F30 (a0 a1 a2:Value) (w:World) (R:VW):Prop:=
 oP (Instr.box 28 a0) w fun x3 w=>
 oP (Instr.box 33 a1) w fun x4 w=>
 rL 28 x3 w fun x11=>
 cL 72 [x11] w fun x12 w=>
 rD (Op.unary .not x12) w fun x13=>
 BR x13
 (R (Value.tuple #[(Value.slice none 0 0),(Value.bool false)]) w)
 (rL 28 x3 w fun x14=>
 cL 86 [x14,a2] w fun x16 w=>
 oP (Instr.alloc 100 true (.tuple #[])) w fun x8 w=>
 oS 100 x8 x16 w fun w=>
 rF 100 x8 0 w fun x17=>
 rL 46 x17 w fun x18=>
 rL 33 x4 w fun x19=>
 cL 88 [x18,x19] w fun x20 w=>
 rB .lss 3 T0 U0 x20 (iV 0) w fun x22=>
 BR x22
 (R (Value.tuple #[(Value.slice none 0 0),(Value.bool false)]) w)
 (LOOPI [9,10] [x20,(Value.slice none 0 0)] w fun u8 w next8=>
 rB .gtr 3 T0 U0 (u8 9) (iV 0) w fun x24=>
 BR x24
 (rF 100 x8 2 w fun x31=>
 rL 25 x31 w fun x32=>
 rX 25 x32 (u8 9) w fun x34=>
 rL 3 x34 w fun x35=>
 oP (Instr.buildSlice 25 1 #[(0,x35)]) w fun x36 w=>
 oP (Builtin.append_ #[25,25] 25 [(u8 10),x36].toArray) w fun x37 w=>
 rF 100 x8 1 w fun x25=>
 rL 25 x25 w fun x26=>
 rX 25 x26 (u8 9) w fun x28=>
 rL 3 x28 w fun x29=>
 next8 [x29,x37] w)
 (cL 89 [(u8 10)] w fun x39 w=>
 R (Value.tuple #[(u8 10),(Value.bool true)]) w)))
def cfg30:Cfg:=⟨extL,[],[(8,274869519872,[9,10])],[],[],[],[]⟩
theorem F30_call {a0 a1 a2:Value} {w:World} {R:VW} (h:F30 a0 a1 a2 w R):cL 30 [a0,a1,a2] w R:=co (g:=cfg30) Tryz.func30 (by kernel_rfl) (by kernel_rfl) (by kernel_rfl) h
theorem zqe {c:DCode} {s:DState} {m:Int} {z:DTrail} (hc:CodeR c) (hz:z.er=zbW c (za0 m)) (h:¬ze8 s z.states.l<0):zkz c s m=true∧ze9 c s m=(zc5 z.er (za0 m) (ze8 s z.states.l)).reverse:=by
 have h1:s∈z.states.l:=zep.1 (by omega)
 have h2:(zbW c (za0 m)).states=z.states.l:=by rw [←hz];rfl
 unfold zkz ze9
 rw [h2,if_pos ⟨hc,h1⟩,←hz]
 exact ⟨decide_eq_true ⟨hc,h1⟩,rfl⟩
theorem zpE {c:DCode} {s:DState} {m:Int} {z:DTrail} (hz:z.er=zbW c (za0 m)) (h:ze8 s z.states.l<0):zkz c s m=false∧ze9 c s m=[]:=by
 have h1:s∉z.states.l:=fun h'=>by have:=zep.2 h';omega
 have h2:(zbW c (za0 m)).states=z.states.l:=by rw [←hz];rfl
 unfold zkz ze9
 rw [h2,if_neg fun h=>h1 h.2]
 exact ⟨decide_eq_false fun h=>h1 h.2,rfl⟩
theorem zow {c:DCode} {s:DState} {m:Int} (h:¬CodeR c):zkz c s m=false∧ze9 c s m=[]:=by
 unfold zkz ze9
 rw [if_neg fun h'=>h h'.1]
 exact ⟨decide_eq_false fun h'=>h h'.1,rfl⟩
theorem zox (c:DCode) (s:DState) (m:Int):(ze9 c s m).length≤150:=by
 unfold ze9
 split
 · have:=zky (zbW c (za0 m)) (za0 m) (ze8 s (zbW c (za0 m)).states)
   have h2:=zcR m
   have h3:za0 m=(zaU m 1 150).toNat:=rfl
   rw [List.length_reverse];omega
 simp
theorem zkA {w W0 W1:World} {v0 v1:Value} {c:DCode} {s:DState} {m:Int} (h0:Is W0 v0 c) (e0:Ext W0 w) (h1:Is W1 v1 s) (e1:Ext W1 w) (hw:zgh c≤1048576) :
   CALL Tryz.prog 30 [v0,v1,.int .i64 m] w fun r w'=>Ext w w'∧∃ a,r=.tuple #[a,.bool (zkz c s m)]∧Own w.heap.size w' a (ze9 c s m):=by
 refine F30_call ?_
 unfold F30
 refine zbR h0 e0 fun w1 hx1 hA=>?_
 have hs1:=hx1.size
 refine zbR h1 (e1.trans hx1) fun w1' hx1' hA1=>?_
 have hs1':=hx1'.size
 refine zab zcx hA hx1' fun v7 h7=>?_
 refine (zem h7 hx1').mono ?_
 rintro _ w2 ⟨hx2,rfl⟩
 have hs2:=hx2.size
 refine zau ?_
 refine br (fun hn=>?_) (fun hc=>?_)
 · refine ⟨hx1.trans (hx1'.trans hx2),?_⟩
   rw [(zow hn).1,(zow hn).2]
   exact ⟨_,rfl,zhh rfl⟩
 have hc:=Decidable.not_not.1 hc
 refine zab zcx hA (hx1'.trans hx2) fun v10 h10=>?_
 refine (zkx h10 (hx1'.trans hx2) hw hc).mono ?_
 rintro r12 w3 ⟨hx3,z,o12,hz,hok⟩
 have hs3:=hx3.size
 refine zc8 (α:=DTrail) zq3 fun w4 hx4 hv=>?_
 have hs4:=hx4.size
 refine zaP zmu hv (o12.ext hx4) (by omega) fun w5 hc5 hv5=>?_
 have hs5:=hc5.size
 have hx15:Ext w1' w5:=Ext.chgI (hx2.trans (hx3.trans hx4)) hc5 (by omega)
 have hst:=zhX (zat hv5.at)
 refine zaa zdP ?_
 refine zaS ziW (zat hv5.at) (Ext.refl _) ?_
 refine zab zbf hA1 hx15 fun v19 h19=>?_
 refine (zgV hst (Ext.refl _) h19 hx15).mono ?_
 rintro _ w6 ⟨hx6,rfl⟩
 have hs6:=hx6.size
 refine zai ?_
 refine br (fun hneg=>?_) (fun hat=>?_)
 · refine ⟨hx1.trans (hx1'.trans (Ext.trans (Ext.chgI (hx2.trans (hx3.trans hx4)) hc5 (by omega)) hx6)),?_⟩
   rw [(zpE hz hneg).1,(zpE hz hneg).2]
   exact ⟨_,rfl,zhh rfl⟩
 have hy:=zqe (m:=m) hc hz hat
 rw [hy.1,hy.2]
 have hpl:=zoq (s:=s) (l:=z.states.l)
 have hmany:z.states.l.length≤za0 m:=hok.many.2
 have hla:z.ahead.l.length=z.states.l.length:=hok.la
 have hlw:z.went.l.length=z.states.l.length:=hok.lw
 have hb:=zcR m
 have hM:za0 m≤150:=by unfold za0;omega
 have hwt:=zhX (zer (hv5.ext hx6).at)
 have hah:=zhX (zeq (hv5.ext hx6).at)
 generalize hp:ze8 s z.states.l=p at *
 refine zaF (za0 m) (fun k us w'=>∃ (a:Int) (way:List Int) (v:Value) (lo hi:Nat),us=[.int .i64 a,v]∧Ext w6 w'∧0≤a∧a+k≤za0 m∧a<z.states.l.length∧way++zc5 z.er (za0 m-k) a=zc5 z.er (za0 m) p∧way.length≤k∧RowI lo hi 3 w' v way∧w6.heap.size≤lo∧lo≤hi∧hi≤w'.heap.size) 0 (by omega)
   ⟨p,[],_,w6.heap.size,w6.heap.size,rfl,Ext.refl _,by omega,by omega,by omega,by simp,by simp,zcS _ _ _ _,by omega,by omega,by omega⟩ ?_
 rintro k mm u w7 hkm ⟨a,way,v,lo,hi,hu,hx7,ha0,hak,hal,hback,hwl,hrow,hb1,hb2,hb3⟩
 obtain ⟨hu1,hu2⟩:=zkG hu
 rw [hu1,hu2]
 refine zci ?_
 refine br (fun hpos=>?_) (fun hzero=>?_)
 · refine zaa zkX ?_
   refine zaS zaJ (zer (hv5.ext hx6).at) hx7 ?_
   refine zas u25 ty3 hwt ha0 (by omega) fun b o hA2=>?_
   refine zac ty3 hA2 hx7 fun hI=>?_
   refine zhH (α:=Int) u25 ty3 z3 zc3 (by decide) hrow (ownI_int (lo:=w7.heap.size) (hi:=w7.heap.size) hI) (by rw [zak];omega) (by omega) fun v37 w8 lo8 hi8 hc8 r8 hd8=>?_
   have hs8:=hc8.size
   have hs7:=hx7.size
   have hx8:Ext w6 w8:=Ext.chgI hx7 hc8 (by omega)
   refine zaa zkW ?_
   refine zaS zaJ (zeq (hv5.ext hx6).at) hx8 ?_
   refine zas u25 ty3 hah ha0 (by omega) fun b o hA3=>?_
   refine zac ty3 hA3 hx8 fun hI2=>?_
   have hbk:=(hok.back a.toNat (by show a.toNat<z.ahead.l.length;omega)).2 (by omega)
   have hbk':0≤z.ahead.l[a.toNat]'(by omega)∧z.ahead.l[a.toNat]'(by omega)<a.toNat:=hbk
   refine ⟨mm-1,by omega,k+1,by omega,_,way++[z.went.l[a.toNat]'(by omega)],v37,lo8,hi8,rfl,hx8,hbk'.1,by omega,by omega,?_,by simp;omega,r8,by omega,by omega,by omega⟩
   rw [←hback,show za0 m-k=(za0 m-(k+1))+1 by omega,zm4 hpos,List.append_assoc,List.singleton_append]
   show way++z.went.l[a.toNat]'_ :: _=way++z.went.l.getD a.toNat 0 :: zc5 z.er _ (z.ahead.l.getD a.toNat 0)
   rw [zov (l:=z.went.l) (by omega),zov (l:=z.ahead.l) (by omega)]
 have hs7:=hx7.size
 rw [zm3 (by omega),List.append_nil] at hback
 refine (zm5 hrow.own).mono ?_
 rintro r w8 ⟨hc8,o8⟩
 rw [hback] at o8
 exact ⟨(hx1.trans (hx1'.trans (hx15.trans hx6))).trans (Ext.chgI hx7 hc8 (by omega)),_,rfl,o8.own.mono (by omega)⟩
end Go.Proofs.YtbnjpfjjmhodnaaGreat
namespace Go.Sh
open Rep (rep)
instance:Flat Raw:=⟨fun h=>h.1⟩
abbrev Raw3:=Raw×Raw×Raw
def zrm (x:Raw3):List Value:=[x.1.v,x.2.1.v,x.2.2.v]
def zm6 (l:List Raw3):List Value:=l.flatMap zrm
section
variable {w w':World} {e:Nat} {v:Value}
theorem ziI:∀ {l:List Raw3} {F:List Nat} {xs:List Value},Cells F w xs l→F=[]∧xs=zm6 l
 | [],_,_,⟨rfl,rfl⟩=>⟨rfl,rfl⟩
 | x :: l,_,_,⟨F1,F2,c1,c2,rfl,rfl,h1,h2⟩=>by
   obtain ⟨rfl,rfl⟩:=ziI h2
   obtain ⟨G1,G2,d1,d2,rfl,rfl,⟨rfl,rfl,_⟩,⟨G3,G4,d3,d4,rfl,rfl,⟨rfl,rfl,_⟩,⟨rfl,rfl,_⟩⟩⟩:=h1
   exact ⟨rfl,rfl⟩
theorem zph {α:Type} [Rep α] (h3:Rep.size α=3) {lo hi:Nat} {l:List Raw3} {m:List α} {Fp:List Nat} (h:RowI lo hi e w v l) (hc:Cells Fp w (zm6 l) m) (hn:Fp.Nodup) (hw:Wr Fp w) (hd:∀ b∈Fp,b<lo) {base:Nat} (hb:∀ b∈Fp,base≤b) (hlo:base≤lo):Own base w v m:=by
 rcases h with ⟨a,rfl,rfl⟩ | ⟨F,⟨xs,Fi,ho,hcc,rfl,hwi⟩,hnn,hF⟩
 · have hl:=Cells.len hc
   rw [h3] at hl
   have:m=[]:=List.eq_nil_of_length_eq_zero (by simp [zm6] at hl;omega)
   subst this
   exact ⟨[],⟨⟨_,⟨a,0,[],[],rfl,Nat.le_refl _,Nat.zero_le _,⟨rfl,rfl⟩,.inl ⟨rfl,rfl⟩⟩,rfl⟩,List.nodup_nil,Wr.nil w⟩,by simp⟩
 obtain ⟨rfl,rfl⟩:=ziI hcc
 have hl:=Cells.len hc
 have hl2:=Cells.len hcc
 rw [h3] at hl
 have e3:Rep.size Raw3=3:=rfl
 rw [e3] at hl2
 have hlen:l.length=m.length:=by omega
 have ho':w.ownsRow 0 e (Rep.size α) v m.length (zm6 l):=by rw [h3,←hlen];exact ho
 have hR:RowF (v.ownBlock.toList++Fp) e w v m:=⟨zm6 l,Fp,ho',hc,rfl,hw⟩
 rw [List.append_nil] at hF hnn
 refine ⟨_,⟨hR.own,?_,hR.wr⟩,fun b hb'=>?_⟩
 · rw [List.nodup_append]
   exact ⟨hnn,hn,fun a ha b hb' e=>by have:=hF a ha;have:=hd b hb';omega⟩
 rcases List.mem_append.1 hb' with h | h
 · have:=hF b h;omega
 exact hb b h
end
end Go.Sh
namespace Go.Proofs.YtbnjpfjjmhodnaaGreat
open Go Go.Sh Go.Proofs
open Rep (rep)
def F33 (a0 a1:Value) (w:World) (R:VW):Prop:=
 oP (Instr.box 28 a0) w fun x2 w=>
 rL 28 x2 w fun x11=>
 cL 28 [x11,a1] w fun x13 w=>
 rE x13 0 w fun x14=>
 rE x13 1 w fun x15=>
 rN 46 3 x14 w fun x17=>
 LOOPI [7,18] [(Value.slice none 0 0),(iV 0)] w fun u4 w next4=>
 rC (u4 18) x17 w fun x19=>
 BR x19
 (rX 46 x14 (u4 18) w fun x20=>
 rL 33 x20 w fun x21=>
 oP (Instr.alloc 33 true (.tuple #[])) w fun x9 w=>
 oS 33 x9 x21 w fun w=>
 rL 28 x2 w fun x22=>
 rL 33 x9 w fun x23=>
 cL 77 [x22,x23] w fun x24 w=>
 rN 25 3 x24 w fun x25=>
 rB .eql 3 T0 U0 x25 (iV 0) w fun x26=>
 BR x26
 (rL 33 x9 w fun x28=>
 oP (Instr.buildSlice 46 1 #[(0,x28)]) w fun x29 w=>
 oP (Builtin.append_ #[46,46] 46 [(u4 7),x29].toArray) w fun x30 w=>
 rA (u4 18) (iV 1) w fun x31=>
 next4 [x30,x31] w)
 (rA (u4 18) (iV 1) w fun x31=>
 next4 [(u4 7),x31] w))
 (R (u4 7) w)
def cfg33:Cfg:=⟨extL,[],[(4,4294705792,[7,18])],[],[],[],[]⟩
theorem F33_call {a0 a1:Value} {w:World} {R:VW} (h:F33 a0 a1 w R):cL 33 [a0,a1] w R:=co (g:=cfg33) Tryz.func33 (by kernel_rfl) (by kernel_rfl) (by kernel_rfl) h
def F34 (a0 a1:Value) (w:World) (R:VW):Prop:=
 oP (Instr.box 28 a0) w fun x2 w=>
 oP (Instr.buildSlice 46 0 #[]) w fun x9 w=>
 rL 28 x2 w fun x11=>
 cL 29 [x11,a1] w fun x13 w=>
 rE x13 0 w fun x14=>
 rE x13 1 w fun x15=>
 LOOPI [5,8] [x9,(iV 0)] w fun u4 w next4=>
 rN 46 3 x14 w fun x18=>
 rC (u4 8) x18 w fun x19=>
 BR x19
 ((fun w=>rL 28 x2 w fun x22=>
 rX 46 x14 (u4 8) w fun x25=>
 rL 33 x25 w fun x26=>
 cL 75 [x22,x26] w fun x27 w=>
 rN 25 3 x27 w fun x28=>
 rB .eql 3 T0 U0 x28 (iV 0) w fun x29=>
 BR x29
 (rX 46 x14 (u4 8) w fun x33=>
 rL 33 x33 w fun x34=>
 oP (Instr.buildSlice 46 1 #[(0,x34)]) w fun x35 w=>
 oP (Builtin.append_ #[46,46] 46 [(u4 5),x35].toArray) w fun x36 w=>
 rA (u4 8) (iV 1) w fun x21=>
 next4 [x36,x21] w)
 (rA (u4 8) (iV 1) w fun x21=>
 next4 [(u4 5),x21] w)) (World.drew1 w))
 (R (u4 5) w)
def cfg34:Cfg:=⟨extL,[],[(4,137438888224,[5,8])],[(6,[0,1,2,3,4,5,6,7],0)],[],[],[]⟩
theorem F34_call {a0 a1:Value} {w:World} {R:VW} (h:F34 a0 a1 w R):cL 34 [a0,a1] w R:=co (g:=cfg34) Tryz.func34 (by kernel_rfl) (by kernel_rfl) (by kernel_rfl) h
open Rep (rep)
def zjw (c:DCode) (s:DState):Bool:=decide ((ziv c s).length=0)
def zhZ (c:DCode) (m:Int):List DState:=(zbs c m).filter (zjw c)
theorem zfi {c:DCode} {m:Int} (h:CodeR c→TrOk c (za0 m) (zbW c (za0 m))):∀ s∈zbs c m,CodeR c∧zaK c s:=fun s hs=>by
 unfold zbs at hs
 by_cases hc:CodeR c
 · rw [if_pos hc] at hs;exact ⟨hc,(h hc).right s hs⟩
 rw [if_neg hc] at hs;cases hs
theorem zgW {c:DCode} {m:Int} (h:CodeR c→TrOk c (za0 m) (zbW c (za0 m))):(zbs c m).length≤150:=by
 unfold zbs
 split
 · rename_i hc
   have h1:=(h hc).many
   have hb:=zcR m
   have hM:za0 m≤150:=by unfold za0;omega
   omega
 simp
theorem zrv {w:World} {F:List Nat} {cs:List Value} {s:DState} (h:rep F w cs s):∃ x:Raw3,zrm x=cs∧∀ (lo hi:Nat) (w':World),OwnI lo hi w' (mkv DState cs) x:=by
 obtain ⟨F0,c0,F1,c1,F2,c2,rfl,rfl,⟨_,_,_,_,rfl,_⟩,⟨_,_,_,_,rfl,_⟩,⟨_,_,_,_,rfl,_⟩⟩:=zig h
 exact ⟨(⟨_⟩,⟨_⟩,⟨_⟩),rfl,fun lo hi w'=>⟨[],⟨⟨_,⟨[],[],[_],_,rfl,rfl,⟨rfl,rfl,rfl⟩,⟨[],[],[_],[_],rfl,rfl,⟨rfl,rfl,rfl⟩,⟨rfl,rfl,rfl⟩⟩⟩,rfl⟩,List.nodup_nil,Wr.nil w'⟩,by simp⟩⟩
abbrev Zp:=List Nat×List Value×DState
theorem zkB {w:World}:∀ {l:List DState} {F:List Nat} {xs:List Value},Cells F w xs l→∃ z:List Zp,F=z.flatMap (·.1)∧xs=z.flatMap (·.2.1)∧l=z.map (·.2.2)∧∀ t∈z,rep t.1 w t.2.1 t.2.2
 | [],_,_,⟨rfl,rfl⟩=>⟨[],rfl,rfl,rfl,by simp⟩
 | x :: l,_,_,⟨F1,F2,c1,c2,rfl,rfl,h1,h2⟩=>by
   obtain ⟨z,rfl,rfl,rfl,hz⟩:=zkB h2
   refine ⟨(F1,c1,x) :: z,rfl,rfl,rfl,fun t ht=>?_⟩
   rcases List.mem_cons.1 ht with rfl | ht
   · exact h1
   exact hz t ht
theorem zkC {w:World}:∀ {z:List Zp},(∀ t∈z,rep t.1 w t.2.1 t.2.2)→Cells (z.flatMap (·.1)) w (z.flatMap (·.2.1)) (z.map (·.2.2))
 | [],_=>⟨rfl,rfl⟩
 | t :: z,h=>⟨t.1,z.flatMap (·.1),t.2.1,z.flatMap (·.2.1),rfl,rfl,h t (by simp),zkC fun t' ht=>h t' (by simp [ht])⟩
theorem zoy {w:World}:∀ {z:List Zp},(∀ t∈z,rep t.1 w t.2.1 t.2.2)→(z.flatMap (·.2.1)).length=z.length*3
 | [],_=>rfl
 | t :: z,h=>by
   have h1:=zoy (z:=z) fun t' ht=>h t' (by simp [ht])
   have h2:t.2.1.length=3:=Rep.len (h t (by simp))
   rw [List.flatMap_cons,List.length_append,h1,h2,List.length_cons];omega
theorem zpi {z z':List Zp} (h:z'.Sublist z):(z'.flatMap (·.1)).Sublist (z.flatMap (·.1)):=by
 induction h with
 | slnil=>exact List.Sublist.refl _
 | cons t h ih=>rw [List.flatMap_cons];exact ih.trans (List.sublist_append_right _ _)
 | cons_cons t h ih=>rw [List.flatMap_cons,List.flatMap_cons];exact List.Sublist.append (List.Sublist.refl _) ih
theorem zoz {w:World} {z:List Zp} {b o k:Nat} (hz:∀ t∈z,rep t.1 w t.2.1 t.2.2) (hr:w.rangeAt b o (z.flatMap (·.2.1))) (hk:k<z.length):w.rangeAt b (o+k*3) z[k].2.1:=by
 have e:z=z.take k++(z[k] :: z.drop (k+1)):=by simp
 rw [e,List.flatMap_append,List.flatMap_cons] at hr
 have h1:=zoy (z:=z.take k) fun t ht=>hz t (List.mem_of_mem_take ht)
 have h2:=(zar (zar hr).2).1
 rw [h1,List.length_take,Nat.min_eq_left (by omega)] at h2
 exact h2
theorem zoA {lo:Nat} {w:World} {v:Value} {l:List DState} (h:Own lo w v l):∃ (z:List Zp) (a:Option Addr) (cap:Nat),v=.slice a z.length cap∧l=z.map (·.2.2)∧(∀ t∈z,rep t.1 w t.2.1 t.2.2)∧(z.flatMap (·.1)).Nodup∧Wr (z.flatMap (·.1)) w∧(∀ b∈z.flatMap (·.1),lo≤b∧b<w.heap.size)∧(z=[]∨∃ b o,a=some ⟨b,o,none⟩∧w.rangeAt b o (z.flatMap (·.2.1))):=by
 obtain ⟨F,⟨⟨cs,hr0,rfl⟩,hn,hw⟩,hF⟩:=h
 have hlt:=Rep.lt hr0
 obtain ⟨a,cap,Fi,xs,rfl,h1,h2,hc,h4⟩:=hr0
 rcases h4 with ⟨rfl,rfl⟩ | ⟨b,o,rfl,rfl,hr,hb⟩
 · exact ⟨[],a,cap,rfl,rfl,by simp,by simp,Wr.nil w,by simp,.inl rfl⟩
 obtain ⟨z,rfl,rfl,rfl,hz⟩:=zkB hc
 refine ⟨z,_,cap,by rw [List.length_map];rfl,rfl,hz,(List.nodup_cons.1 hn).2,hw.sub (by simp +contextual),fun c hcm=>⟨hF c (by simp [hcm]),hlt c (by simp [hcm])⟩,.inr ⟨b,o,rfl,hr⟩⟩
theorem zoB {P:Program} {w0 w:World} {t e:TypeId} {by_:Nat} {z:List Zp} {a:Option Addr} {cap k:Nat} {K:Value→Prop} (ht:P.underlying t=some (.slice e)) (he:tyI P e=some (3,by_,true)) (hz:∀ t∈z,rep t.1 w0 t.2.1 t.2.2)
   (ha:z=[]∨∃ b o,a=some ⟨b,o,none⟩∧w0.rangeAt b o (z.flatMap (·.2.1))) (hx:Ext w0 w) (hk:k<z.length) (kk:Is w0 (mkv DState z[k].2.1) z[k].2.2→K (mkv DState z[k].2.1)) :
   RD P (Instr.indexAt t (.slice a z.length cap) (.int .i64 (k:Int))) w fun p=>RD P (Instr.loadAt e p) w K:=by
 rcases ha with rfl | ⟨b,o,rfl,hr⟩
 · simp at hk
 have h1:=zoz hz hr hk
 have h2:=hz _ (List.getElem_mem hk)
 refine zbb (v:=.pointer (some ⟨b,o+k*3,none⟩)) (fun w' _=>?_) ?_
 · rw [zbz ht he (by omega) (by omega)];simp
 exact zbb (fun w' hx'=>zdw he (zbw h2 (hx.trans hx')) (zbj h1 (hx.trans hx'))) (kk ⟨_,_,h2,rfl⟩)
theorem zh0 (l:List Raw3) (x:Raw3):zm6 (l++[x])=zm6 l++zrm x:=by simp [zm6]
def qz (c:DCode) (t:Zp):Bool:=zjw c t.2.2
theorem zmg {w0 w:World} {c:DCode} {m:Int} {z:List Zp} {v:Value} {lo hi base e:Nat} {rs:List Raw3} (hl:zbs c m=z.map (·.2.2)) (hz:∀ t∈z,rep t.1 w0 t.2.1 t.2.2) (hn:(z.flatMap (·.1)).Nodup) (hw:Wr (z.flatMap (·.1)) w0) (hb:∀ b∈z.flatMap (·.1),base≤b∧b<w0.heap.size) (hx:Ext w0 w)
   (hR:RowI lo hi e w v rs) (hlo:w0.heap.size≤lo) (hbase:base≤w0.heap.size) (hrs:zm6 rs=(z.filter (qz c)).flatMap (·.2.1)):Own base w v (zhZ c m):=by
 have hsub:=zpi (z':=z.filter (qz c)) List.filter_sublist
 have he:zhZ c m=(z.filter (qz c)).map (·.2.2):=by
   unfold zhZ;rw [hl,List.filter_map];rfl
 rw [he]
 refine zph (α:=DState) rfl hR (Fp:=(z.filter (qz c)).flatMap (·.1)) ?_ (hn.sublist hsub) ((hw.sub fun b hb'=>hsub.subset hb').ext hx) (fun b hb'=>by have:=hb b (hsub.subset hb');omega) (fun b hb'=>(hb b (hsub.subset hb')).1) (by omega)
 rw [hrs]
 exact (zkC fun t ht=>hz t (List.mem_filter.1 ht).1).keep fun b hb'=>hx.heap (hb b (hsub.subset hb')).2
theorem zjx {w W0:World} {v0:Value} {c:DCode} {m:Int} (h0:Is W0 v0 c) (e0:Ext W0 w) (hwc:zgh c≤1048576) :
   CALL Tryz.prog 33 [v0,.int .i64 m] w fun r w'=>Ext w w'∧Own w.heap.size w' r (zhZ c m)∧(CodeR c→TrOk c (za0 m) (zbW c (za0 m))):=by
 refine F33_call ?_
 unfold F33
 refine zbR h0 e0 fun w1 hx1 hA=>?_
 have hs1:=hx1.size
 refine zab zcx hA (Ext.refl _) fun v11 h11=>?_
 refine (zeP h11 (Ext.refl _) hwc).mono ?_
 rintro _ w2 ⟨hx2,⟨a14,rfl,o14⟩,hok⟩
 have hs2:=hx2.size
 refine za3 rfl ?_
 refine za3 rfl ?_
 have hright:=zfi hok
 have hlen:=zgW hok
 refine zae u46 o14.is ?_
 obtain ⟨z,a,cap,rfl,hl,hz,hn,hw,hb,ha⟩:=zoA o14
 have hzl:(zbs c m).length=z.length:=by rw [hl,List.length_map]
 rw [hzl]
 refine zaF z.length (fun k us w'=>us=[us.headD undef,.int .i64 (k:Int)]∧∃ (v:Value) (lo hi:Nat) (rs:List Raw3),us.headD undef=v∧Ext w2 w'∧RowI lo hi 33 w' v rs∧w2.heap.size≤lo∧lo≤hi∧hi≤w'.heap.size∧zm6 rs=((z.take k).filter (qz c)).flatMap (·.2.1)∧rs.length≤k) 0 (Nat.zero_le _)
   ⟨by simp,_,w2.heap.size,w2.heap.size,[],rfl,Ext.refl _,zcS _ _ _ _,by omega,by omega,by omega,by simp [zm6],by simp⟩ ?_
 rintro k mk u w3 hkm ⟨hu,v,lo,hi,rs,hv,hx3,hR,hb1,hb2,hb3,hrs,hrl⟩
 simp only [List.map_cons,List.map_nil,List.headD_cons,List.cons.injEq,and_true,true_and] at hu hv
 rw [hu,hv]
 have hs3:=hx3.size
 refine zai ?_
 refine br (fun hlt=>?_) (fun hge=>?_)
 case refine_2=>
   rw [List.take_of_length_le (by omega)] at hrs
   exact ⟨hx1.trans (hx2.trans hx3),(zmg hl hz hn hw hb hx3 hR hb1 (by omega) hrs).mono (by omega),hok⟩
 have hk:k<z.length:=by omega
 have hsr:=hright z[k].2.2 (by rw [hl];exact List.mem_map.2 ⟨z[k],List.getElem_mem hk,rfl⟩)
 refine zoB u46 zbf hz ha hx3 hk fun hI=>?_
 obtain ⟨x,hx1',hx3'⟩:=zrv (hz _ (List.getElem_mem hk))
 generalize hvv:mkv DState z[k].2.1=vv at *
 refine zes zro rfl zbf rfl hI hx3 fun w4 hx4 hA4 hV4=>?_
 have hs4:=hx4.size
 refine zab zcx hA (hx2.trans (hx3.trans hx4)) fun v22 h22=>?_
 refine zaB hV4 (Ext.refl _) ?_
 refine (ziw h22 (hx2.trans (hx3.trans hx4)) hI (hx3.trans hx4) hsr.1 hsr.2).mono ?_
 rintro r24 w5 ⟨hx5,o24⟩
 have hs5:=hx5.size
 refine zae u25 o24.is ?_
 refine zag ?_
 have htk:z.take (k+1)=z.take k++[z[k]]:=List.take_succ_eq_append_getElem hk
 refine br (fun hst=>?_) (fun hgo=>?_)
 · have hq:qz c z[k]=true:=decide_eq_true (by omega)
   refine zaB hV4 hx5 ?_
   refine zhH (α:=Raw3) u46 zbf z33 zq1 (by decide) ((hR.ext hx4).ext hx5) (hx3' w5.heap.size w5.heap.size w5) (by rw [zak];omega) (by omega) fun v30 w6 lo6 hi6 hc6 r6 hd6=>?_
   have hs6:=hc6.size
   refine zal (by omega) ?_
   refine ⟨mk-1,by omega,k+1,by omega,by simp,v30,lo6,hi6,rs++[x],rfl,Ext.chgI (hx3.trans (hx4.trans hx5)) hc6 (by omega),r6,by omega,by omega,by omega,?_,by simp;omega⟩
   rw [zh0,hrs,htk,List.filter_append,List.flatMap_append,hx1']
   simp [hq]
 have hq:qz c z[k]=false:=decide_eq_false (by omega)
 refine zal (by omega) ?_
 refine ⟨mk-1,by omega,k+1,by omega,by simp,v,lo,hi,rs,rfl,hx3.trans (hx4.trans hx5),(hR.ext hx4).ext hx5,by omega,by omega,by omega,?_,by omega⟩
 rw [hrs,htk,List.filter_append,List.flatMap_append]
 simp [hq]
theorem zjy {w W0:World} {v0:Value} {c:DCode} {m:Int} (h0:Is W0 v0 c) (e0:Ext W0 w) (hwc:zgh c≤1048576) :
   CALL Tryz.prog 34 [v0,.int .i64 m] w fun r w'=>Ext w w'∧Own w.heap.size w' r (zhZ c m)∧(CodeR c→TrOk c (za0 m) (zbW c (za0 m))):=by
 refine F34_call ?_
 unfold F34
 refine zbR h0 e0 fun w1 hx1 hA=>?_
 have hs1:=hx1.size
 refine zbq (α:=Raw3) u46 zbf fun a9 w1' hx1' r9=>?_
 have hs1':=hx1'.size
 refine zab zcx hA hx1' fun v11 h11=>?_
 refine (zeQ h11 hx1' hwc).mono ?_
 rintro _ w2 ⟨hx2,⟨a14,rfl,o14⟩,hok⟩
 have hs2:=hx2.size
 refine za3 rfl ?_
 refine za3 rfl ?_
 have hright:=zfi hok
 have hlen:=zgW hok
 have oI:=o14.is
 obtain ⟨z,a,cap,rfl,hl,hz,hn,hw,hb,ha⟩:=zoA o14
 have hzl:(zbs c m).length=z.length:=by rw [hl,List.length_map]
 refine zaF z.length (fun k us w'=>us=[us.headD undef,.int .i64 (k:Int)]∧∃ (v:Value) (lo hi:Nat) (rs:List Raw3),us.headD undef=v∧Ext w2 w'∧RowI lo hi 33 w' v rs∧w2.heap.size≤lo∧lo≤hi∧hi≤w'.heap.size∧zm6 rs=((z.take k).filter (qz c)).flatMap (·.2.1)∧rs.length≤k) 0 (Nat.zero_le _)
   ⟨by simp,_,w2.heap.size,w2.heap.size,[],rfl,Ext.refl _,zdy _ _ _ _ _,by omega,by omega,by omega,by simp [zm6],by simp⟩ ?_
 rintro k mk u w3 hkm ⟨hu,v,lo,hi,rs,hv,hx3,hR,hb1,hb2,hb3,hrs,hrl⟩
 simp only [List.map_cons,List.map_nil,List.headD_cons,List.cons.injEq,and_true,true_and] at hu hv
 rw [hu,hv]
 have hs3:=hx3.size
 refine zae u46 oI ?_
 rw [hzl]
 refine zai ?_
 refine br (fun hlt=>?_) (fun hge=>?_)
 case refine_2=>
   rw [List.take_of_length_le (by omega)] at hrs
   exact ⟨hx1.trans (hx1'.trans (hx2.trans hx3)),(zmg hl hz hn hw hb hx3 hR hb1 (by omega) hrs).mono (by omega),hok⟩
 have hk:k<z.length:=by omega
 have hsr:=hright z[k].2.2 (by rw [hl];exact List.mem_map.2 ⟨z[k],List.getElem_mem hk,rfl⟩)
 obtain ⟨x,hx1x,hx3'⟩:=zrv (hz _ (List.getElem_mem hk))
 have hx4:=zah w3
 have hs4:=hx4.size
 refine zab zcx hA (hx1'.trans (hx2.trans (hx3.trans hx4))) fun v22 h22=>?_
 refine zoB u46 zbf hz ha (hx3.trans hx4) hk fun hI=>?_
 refine (zlr h22 (hx1'.trans (hx2.trans (hx3.trans hx4))) hI (hx3.trans hx4) hsr.1 hsr.2).mono ?_
 rintro r24 w5 ⟨hx5,o24⟩
 have hs5:=hx5.size
 refine zae u25 o24.is ?_
 refine zag ?_
 have htk:z.take (k+1)=z.take k++[z[k]]:=List.take_succ_eq_append_getElem hk
 refine br (fun hst=>?_) (fun hgo=>?_)
 · have hq:qz c z[k]=true:=decide_eq_true (by omega)
   refine zoB u46 zbf hz ha (hx3.trans (hx4.trans hx5)) hk fun hI2=>?_
   refine zhH (α:=Raw3) u46 zbf z33 zq1 (by decide) ((hR.ext hx4).ext hx5) (hx3' w5.heap.size w5.heap.size w5) (by rw [zak];omega) (by omega) fun v30 w6 lo6 hi6 hc6 r6 hd6=>?_
   have hs6:=hc6.size
   refine zal (by omega) ?_
   refine ⟨mk-1,by omega,k+1,by omega,by simp,v30,lo6,hi6,rs++[x],rfl,Ext.chgI (hx3.trans (hx4.trans hx5)) hc6 (by omega),r6,by omega,by omega,by omega,?_,by simp;omega⟩
   rw [zh0,hrs,htk,List.filter_append,List.flatMap_append,hx1x]
   simp [hq]
 have hq:qz c z[k]=false:=decide_eq_false (by omega)
 refine zal (by omega) ?_
 refine ⟨mk-1,by omega,k+1,by omega,by simp,v,lo,hi,rs,rfl,hx3.trans (hx4.trans hx5),(hR.ext hx4).ext hx5,by omega,by omega,by omega,?_,by omega⟩
 rw [hrs,htk,List.filter_append,List.flatMap_append]
 simp [hq]
def F5 (a0:Value) (w:World) (R:VW):Prop:=
 cL 9 [a0] w fun x25 w=>
 BR x25
 (R (Value.bool true) w)
 (cL 10 [a0] w fun x27 w=>
 oP (Instr.alloc 28 true (.tuple #[])) w fun x3 w=>
 oS 28 x3 x27 w fun w=>
 cL 10 [a0] w fun x29 w=>
 oP (Instr.alloc 28 true (.tuple #[])) w fun x4 w=>
 oS 28 x4 x29 w fun w=>
 cL 27 [a0] w fun x31 w=>
 rL 28 x3 w fun x33=>
 cL 28 [x33,(iV 30)] w fun x34 w=>
 rE x34 0 w fun x35=>
 rE x34 1 w fun x36=>
 rL 28 x4 w fun x38=>
 cL 29 [x38,(iV 30)] w fun x39 w=>
 rE x39 0 w fun x40=>
 rE x39 1 w fun x41=>
 rN 46 3 x35 w fun x43=>
 rN 46 3 x40 w fun x45=>
 rB .neq 3 T0 T0 x43 x45 w fun x46=>
 BR x46
 (R (Value.bool false) w)
 (rB .neq 4 T0 T0 x36 x41 w fun x50=>
 BR x50
 (R (Value.bool false) w)
 (LOOPI [10] [(iV 0)] w fun u11 w next11=>
 rN 46 3 x40 w fun x54=>
 rC (u11 10) x54 w fun x55=>
 BR x55
 ((fun w=>rX 46 x35 (u11 10) w fun x60=>
 rL 33 x60 w fun x61=>
 rX 46 x40 (u11 10) w fun x64=>
 rL 33 x64 w fun x65=>
 cL 25 [x61,x65] w fun x66 w=>
 rD (Op.unary .not x66) w fun x67=>
 BR x67
 (R (Value.bool false) w)
 (rA (u11 10) (iV 1) w fun x57=>
 next11 [x57] w)) (World.drew1 w))
 (rX 25 x31 (iV 0) w fun x69=>
 rL 3 x69 w fun x70=>
 rN 46 3 x40 w fun x72=>
 rB .rem 3 T0 T0 x70 x72 w fun x73=>
 (fun w=>rL 28 x3 w fun x75=>
 rX 46 x40 x73 w fun x78=>
 rL 33 x78 w fun x79=>
 cL 30 [x75,x79,(iV 30)] w fun x80 w=>
 rE x80 0 w fun x81=>
 rE x80 1 w fun x82=>
 rL 28 x4 w fun x83=>
 cL 31 [x83] w fun x84 w=>
 oP (Instr.alloc 33 true (.tuple #[])) w fun x14 w=>
 oS 33 x14 x84 w fun w=>
 LOOPI [15] [(iV 0)] w fun u19 w next19=>
 rN 25 3 x81 w fun x87=>
 rC (u19 15) x87 w fun x88=>
 BR x88
 ((fun w=>rL 28 x3 w fun x92=>
 rL 33 x14 w fun x93=>
 rX 25 x81 (u19 15) w fun x96=>
 rL 3 x96 w fun x97=>
 cL 19 [x92,x93,x97] w fun x98 w=>
 rE x98 0 w fun x99=>
 rE x98 1 w fun x100=>
 oS 33 x14 x99 w fun w=>
 rD (Op.unary .not x100) w fun x102=>
 BR x102
 (R (Value.bool false) w)
 (rA (u19 15) (iV 1) w fun x90=>
 next19 [x90] w)) (World.drew1 w))
 ((fun w=>rD (Op.unary .not x82) w fun x104=>
 BR x104
 (R (Value.bool false) w)
 (rL 33 x14 w fun x106=>
 rX 46 x40 x73 w fun x109=>
 rL 33 x109 w fun x110=>
 cL 26 [x106,x110] w fun x111 w=>
 rD (Op.unary .not x111) w fun x112=>
 BR x112
 (R (Value.bool false) w)
 (JOIN [] (fun J38=>
 LOOPI [17] [(iV 0)] w fun u28 w next28=>
 rX 46 x40 x73 w fun x117=>
 rF 33 x117 2 w fun x118=>
 rL 31 x118 w fun x119=>
 rN 31 3 x119 w fun x120=>
 rC (u28 17) x120 w fun x121=>
 BR x121
 (BR x41
 ((fun w0=>PAR w0 [[(0,128)],[(1,129)],[(2,130)],[(3,131),(1,129),(2,130)],[(4,132),(3,131)],[(5,133)],[(6,134),(0,128),(4,132),(5,133)],[(7,127),(6,134)],[(8,135),(7,127)],[(9,136),(7,127)],[(10,18)]] (fun Q=>
 (∀ (u30:Env) (T:Nat→Nat×Nat) (w:World),Ext w0 w→zaA [] w0.heap.size w.heap.size T→(True)→(fun w1=>rL 28 x3 w fun x128=>
 Ext w1 w∧Q 0 (upd u30 128 x128) (zbv T 0 (w1.heap.size,w.heap.size)) w) w) ∧
 (∀ (u30:Env) (T:Nat→Nat×Nat) (w:World),Ext w0 w→zaA [] w0.heap.size w.heap.size T→(True)→(fun w1=>Ext w1 w∧Q 1 (upd u30 129 x40) (zbv T 1 (w1.heap.size,w.heap.size)) w) w) ∧
 (∀ (u30:Env) (T:Nat→Nat×Nat) (w:World),Ext w0 w→zaA [] w0.heap.size w.heap.size T→(True)→(fun w1=>Ext w1 w∧Q 2 (upd u30 130 x73) (zbv T 2 (w1.heap.size,w.heap.size)) w) w) ∧
 (∀ (u30:Env) (T:Nat→Nat×Nat) (w:World),Ext w0 w→zaA [1,2] w0.heap.size w.heap.size T→(Q 1 u30 T w∧Q 2 u30 T w∧True)→(fun w1=>rX 46 (u30 129) (u30 130) w fun x131=>
 Ext w1 w∧Q 3 (upd u30 131 x131) (zbv T 3 (w1.heap.size,w.heap.size)) w) w) ∧
 (∀ (u30:Env) (T:Nat→Nat×Nat) (w:World),Ext w0 w→zaA [3] w0.heap.size w.heap.size T→(Q 3 u30 T w∧True)→(fun w1=>rL 33 (u30 131) w fun x132=>
 Ext w1 w∧Q 4 (upd u30 132 x132) (zbv T 4 (w1.heap.size,w.heap.size)) w) w) ∧
 (∀ (u30:Env) (T:Nat→Nat×Nat) (w:World),Ext w0 w→zaA [] w0.heap.size w.heap.size T→(True)→(fun w1=>Ext w1 w∧Q 5 (upd u30 133 (u28 17)) (zbv T 5 (w1.heap.size,w.heap.size)) w) w) ∧
 (∀ (u30:Env) (T:Nat→Nat×Nat) (w:World),Ext w0 w→zaA [0,4,5] w0.heap.size w.heap.size T→(Q 0 u30 T w∧Q 4 u30 T w∧Q 5 u30 T w∧True)→(fun w1=>cL 19 [(u30 128),(u30 132),(u30 133)] w fun x134 w=>
 Ext w1 w∧Q 6 (upd u30 134 x134) (zbv T 6 (w1.heap.size,w.heap.size)) w) w) ∧
 (∀ (u30:Env) (T:Nat→Nat×Nat) (w:World),Ext w0 w→zaA [6] w0.heap.size w.heap.size T→(Q 6 u30 T w∧True)→(fun w1=>Ext w1 w∧Q 7 (upd u30 127 (u30 134)) (zbv T 7 (w1.heap.size,w.heap.size)) w) w) ∧
 (∀ (u30:Env) (T:Nat→Nat×Nat) (w:World),Ext w0 w→zaA [7] w0.heap.size w.heap.size T→(Q 7 u30 T w∧True)→(fun w1=>rE (u30 127) 0 w fun x135=>
 Ext w1 w∧Q 8 (upd u30 135 x135) (zbv T 8 (w1.heap.size,w.heap.size)) w) w) ∧
 (∀ (u30:Env) (T:Nat→Nat×Nat) (w:World),Ext w0 w→zaA [7] w0.heap.size w.heap.size T→(Q 7 u30 T w∧True)→(fun w1=>rE (u30 127) 1 w fun x136=>
 Ext w1 w∧Q 9 (upd u30 136 x136) (zbv T 9 (w1.heap.size,w.heap.size)) w) w) ∧
 (∀ (u30:Env) (T:Nat→Nat×Nat) (w:World),Ext w0 w→zaA [] w0.heap.size w.heap.size T→(True)→(fun w1=>oP (Instr.alloc 33 true (.tuple #[])) w fun x18 w=>
 Ext w1 w∧Q 10 (upd u30 18 x18) (zbv T 10 (w1.heap.size,w.heap.size)) w) w) ∧
 True)
 (fun Q=>∀ (u30:Env) (T:Nat→Nat×Nat) (w:World),Ext w0 w→zaA [0,1,2,3,4,5,6,7,8,9,10] w0.heap.size w.heap.size T→(Q 0 u30 T w∧Q 1 u30 T w∧Q 2 u30 T w∧Q 3 u30 T w∧Q 4 u30 T w∧Q 5 u30 T w∧Q 6 u30 T w∧Q 7 u30 T w∧Q 8 u30 T w∧Q 9 u30 T w∧Q 10 u30 T w∧True) →
 oS 33 (u30 18) (u30 135) w fun w=>
 rD (Op.unary .not (u30 136)) w fun x138=>
 LOOPI [20,21] [x138,(iV 0)] w fun u33 w next33=>
 rN 46 3 x40 w fun x141=>
 rC (u33 21) x141 w fun x142=>
 BR x142
 (rD (Op.unary .not (u33 20)) w fun x145=>
 BR x145
 ((fun w=>rL 33 (u30 18) w fun x149=>
 rX 46 x40 (u33 21) w fun x152=>
 rL 33 x152 w fun x153=>
 cL 32 [x149,x153] w fun x154 w=>
 rA (u33 21) (iV 1) w fun x148=>
 next33 [x154,x148] w) (World.drew1 w))
 (rD (Op.unary .not (u33 20)) w fun x156=>
 BR x156
 (R (Value.bool false) w)
 (rA (u28 17) (iV 1) w fun x126=>
 next28 [x126] w)))
 (rD (Op.unary .not (u33 20)) w fun x156=>
 BR x156
 (R (Value.bool false) w)
 (rA (u28 17) (iV 1) w fun x126=>
 next28 [x126] w)))) (World.drew1 w))
 (J38 [] w))
 (J38 [] w)) (fun u38 w=>
 rL 28 x3 w fun x157=>
 cL 33 [x157,(iV 30)] w fun x158 w=>
 LOOPI [23] [(iV 0)] w fun u40 w next40=>
 rN 46 3 x158 w fun x161=>
 rC (u40 23) x161 w fun x162=>
 BR x162
 ((fun w=>rL 28 x3 w fun x165=>
 rX 46 x158 (u40 23) w fun x168=>
 rL 33 x168 w fun x169=>
 cL 16 [x165,x169] w fun x170 w=>
 rN 25 3 x170 w fun x171=>
 rB .gtr 3 T0 U0 x171 (iV 0) w fun x172=>
 BR x172
 (R (Value.bool false) w)
 (rA (u40 23) (iV 1) w fun x164=>
 next40 [x164] w)) (World.drew1 w))
 (rN 46 3 x158 w fun x174=>
 rL 28 x4 w fun x175=>
 cL 34 [x175,(iV 30)] w fun x176 w=>
 rN 46 3 x176 w fun x177=>
 rB .eql 3 T0 T0 x174 x177 w fun x178=>
 R x178 w))))) (World.drew1 w))) (World.drew1 w)))))
def cfg5:Cfg:=⟨extL,[(38,182687704666342095588026464779021255471678750724,[])],[(11,295143401579725456388,[10]),(19,10141166116199607543840035143684,[15]),(28,182687704666342095588026464779021255471678750724,[17]),(33,45671229268303262111891978031187824102953975808,[20,21]),(40,11971890662196091254465484307195432355511571434176516,[23])],[(13,[0,1,2,3,4,5,6,7,8,9],0),(16,[0,1,2,3,4,5,6,7,8,9,10],0),(22,[0,1,2,3,4,5,6,7,8,9,10,11],0),(25,[0,1,2,3,4,5,6,7,8,9,10],0),(35,[0,1,2,3,4,5,6],0),(42,[0,1,2,3,4,5,6,7],0)],[(30,174054430680060024061516111701349440946176,11)],[],[]⟩
theorem F5_call {a0:Value} {w:World} {R:VW} (h:F5 a0 w R):cL 5 [a0] w R:=co (g:=cfg5) Tryz.func5 (by kernel_rfl) (by kernel_rfl) (by kernel_rfl) h
theorem zmh {α:Type} [DecidableEq α] {s:α}:∀ {l:List α},0≤ze8 s l→l[(ze8 s l).toNat]?=some s
 | [],h=>by simp [ze8] at h
 | x :: l,h=>by
   have e:ze8 s (x :: l)=if x=s then 0 else if ze8 s l<0 then -1 else ze8 s l+1:=rfl
   by_cases h1:x=s
   · rw [e,if_pos h1,h1];rfl
   rw [e,if_neg h1] at h ⊢
   by_cases h2:ze8 s l<0
   · rw [if_pos h2] at h;omega
   rw [if_neg h2]
   have ih:=zmh (s:=s) (l:=l) (by omega)
   have:(ze8 s l+1).toNat=(ze8 s l).toNat+1:=by omega
   rw [this,List.getElem?_cons_succ];exact ih
theorem zkD (m:Int):1≤za0 m:=by
 have:=zcR m
 unfold za0;omega
theorem zoC {c:DCode} {s:DState} {m:Int} (hc:CodeR c) (hs:s∈(zbW c (za0 m)).states) :
   (ze9 c s m).foldl (zby c) (zbO c)=s∧∀ k (hk:k<(ze9 c s m).length),GoR c (((ze9 c s m).take k).foldl (zby c) (zbO c)) (ze9 c s m)[k]:=by
 have hS:=(zkv (c:=c) (M:=za0 m) (zkD m)).1
 have h0:=zep.2 hs
 have h1:=(zoq (s:=s) (l:=(zbW c (za0 m)).states)).2
 have h2:=zmh h0
 obtain ⟨n,hn⟩:∃ n:Nat,ze8 s (zbW c (za0 m)).states=n:=⟨_,(Int.toNat_of_nonneg h0).symm⟩
 rw [hn,Int.toNat_natCast] at h2
 have hnl:n<(zbW c (za0 m)).states.length:=by omega
 have hm:=hS.many
 have e:ze9 c s m=(zc5 (zbW c (za0 m)) (za0 m) (n:Int)).reverse:=by unfold ze9;rw [if_pos ⟨hc,hs⟩,hn]
 have hb:=ziG hS (za0 m) n hnl (by omega)
 have hst:zcr (zbW c (za0 m)) n=s:=by
   rw [←zcG hnl];rw [List.getElem?_eq_getElem hnl] at h2;exact Option.some.inj h2
 rw [hst] at hb
 rw [e]
 exact hb
theorem zqY {a b c d:Value} (h:Value.tuple #[a,b]=.tuple #[c,d]):a=c∧b=d:=by
 simpa using h
def nxQ (c:DCode) (s x:DState) (t at_:Nat) (d:Bool) (v40:Value) (w0:World):ParQ:=fun i u T w=>match i with
 | 0=>Is w0 (u 128) c
 | 1=>u 129=v40
 | 2=>u 130=.int .i64 (at_:Int)
 | 3=>∃ b o,u 131=.pointer (some ⟨b,o,none⟩)∧At w0 b o s
 | 4=>Is w0 (u 132) s
 | 5=>u 133=.int .i64 (t:Int)
 | 6=>∃ a,u 134=.tuple #[a,.bool d]∧OwnI (T 6).1 (T 6).2 w a x
 | 7=>∃ a,u 127=.tuple #[a,.bool d]∧OwnI (T 6).1 (T 6).2 w a x
 | 8=>∃ b,u 127=.tuple #[u 135,b]
 | 9=>∃ a,u 127=.tuple #[a,u 136]
 | 10=>∃ g,u 18=.pointer (some ⟨g,0,none⟩)∧(T 10).1≤g∧g<(T 10).2∧VarI (T 10).1 (T 10).2 w g (RepZ.zv:DState)
 | _=>True
set_option maxRecDepth 20000 in
theorem zoD {w W:World} {v0:Value} {bs:List UInt8} (h0:Is W v0 bs) (e0:Ext W w):CALL Tryz.prog 5 [v0] w fun r w'=>Ext w w'∧(r=.bool true):=by
  refine F5_call ?_
  unfold F5
  refine (zqW h0 e0).mono ?_
  rintro _ w1 ⟨hx1,rfl⟩
  refine br (fun _=>⟨hx1,rfl⟩) (fun hb=>?_)
  have hlen:bs.length≤1048576:=by omega
  have hc:=(ziB bs).1
  have hw:=zmW bs
  have hd:=fun {w2:World} (hx:Ext w w2)=>zlw h0 (e0.trans hx) hlen
  generalize zcq bs=c at *
  have hpl:(zhU bs).length=12:=zgT bs 10000 12 _
  have hpin:∀ x∈zhU bs,0≤x∧x<10000:=zhT bs (by omega) 12 _
  have hdp:=fun {w2:World} (hx:Ext w w2)=>zju h0 (e0.trans hx) hlen
  generalize zhU bs=ps at *
  have hsr:=zhR hc
  obtain ⟨f,hf⟩:∃ f,f=zbW c (za0 30):=⟨_,rfl⟩
  obtain ⟨hS,hCl⟩:=zkv (c:=c) (M:=za0 30) (zkD 30)
  have hso:zbs c 30=f.states:=by unfold zbs;rw [if_pos hc,hf]
  have hwo:zdV c 30=f.whole:=by unfold zdV;rw [if_pos hc,hf]
  have heo:zhZ c 30=f.states.filter (zjw c):=by unfold zhZ;rw [hso]
  rw [←hf] at hS hCl
  have hwl:=fun {s:DState} (hs:s∈f.states)=>zoC (m:=30) hc (hf▸hs)
  have hmi:∀ {s:DState},s∈f.states→zkz c s 30=true:=fun {s} hs=>decide_eq_true ⟨hc,hf▸hs⟩
  refine (hd hx1).mono ?_
  rintro v16 w2 ⟨hx2,o16⟩
  refine zes zpT rfl zcx rfl o16.is (Ext.refl _) fun w3 hx3 hA3 hV3=>?_
  have hx13:=hx1.trans (hx2.trans hx3)
  refine (hd hx13).mono ?_
  rintro v18 w4 ⟨hx4,o18⟩
  refine zes zpT rfl zcx rfl o18.is (Ext.refl _) fun w5 hx5 hA4 hV4=>?_
  have hx35:=hx4.trans hx5
  refine (hdp (hx13.trans hx35)).mono ?_
  rintro v31 w6 ⟨hx6,o31⟩
  have h31:=o31.is
  refine zab zcx hA3 (hx35.trans hx6) fun v33 h33=>?_
  refine (zeP h33 (hx35.trans hx6) hw).mono ?_
  rintro _ w7 ⟨hx7,⟨v35,rfl,o35⟩,hT⟩
  have hT:=hT hc
  rw [←hf] at hT
  rw [hso] at o35
  refine za3 rfl ?_
  refine za3 rfl ?_
  have h35:=o35.is
  refine zab zcx hA4 (hx6.trans hx7) fun v38 h38=>?_
  refine (zeQ h38 (hx6.trans hx7) hw).mono ?_
  rintro _ w8 ⟨hx8,⟨v40,rfl,o40⟩,-⟩
  rw [hso] at o40
  rw [hwo]
  refine za3 rfl ?_
  refine za3 rfl ?_
  have h40:=o40.is
  have hx58:Ext w5 w8:=hx6.trans (hx7.trans hx8)
  have hx38:=hx35.trans hx58
  have hx18:=hx13.trans hx38
  refine zae u46 h35 ?_
  refine zae u46 h40 ?_
  refine zaY ?_
  refine br (fun h=>absurd rfl h) (fun _=>?_)
  refine znF u4 ?_
  refine br (fun h=>absurd rfl h) (fun _=>?_)
  refine zaF f.states.length (fun k us w'=>us=[.int .i64 (k:Int)]∧k≤f.states.length∧Ext w8 w') 0 (Nat.zero_le _) ⟨rfl,Nat.zero_le _,Ext.refl _⟩ ?_
  rintro k m u w9 hkm ⟨hu,hkl,hx9⟩
  simp only [List.map_cons,List.map_nil,List.cons.injEq,and_true] at hu
  rw [hu]
  have hmany:=hT.many
  have hM30:za0 30≤150:=by have:=zcR 30;unfold za0;omega
  refine zae u46 h40 ?_
  refine zai ?_
  refine br (fun hlt=>?_) (fun _=>?_)
  · have hk:k<f.states.length:=by omega
    have hx10:=zah w9
    refine zad u46 zbf h35 hk fun b60 o60 hA60=>?_
    refine zab zbf hA60 (hx8.trans (hx9.trans hx10)) fun v61 h61=>?_
    refine zad u46 zbf h40 hk fun b64 o64 hA64=>?_
    refine zab zbf hA64 (hx9.trans hx10) fun v65 h65=>?_
    refine (zkm h61 (hx8.trans (hx9.trans hx10)) h65 (hx9.trans hx10)).mono ?_
    rintro _ w11 ⟨hx11,rfl⟩
    refine zau ?_
    refine br (fun h=>absurd rfl h) (fun _=>?_)
    refine zal (by omega) ?_
    exact ⟨m-1,by omega,k+1,by omega,rfl,by omega,hx9.trans (hx10.trans hx11)⟩
  clear hkm hkl
  have hx89:=hx9
  have h80:(0:Int).toNat<ps.length:=by rw [hpl];decide
  refine zas u25 ty3 h31 (Int.le_refl 0) h80 fun b69 o69 hA69=>?_
  have hx69:=hx7.trans (hx8.trans hx89)
  refine zac ty3 hA69 hx69 fun hI70=>?_
  obtain ⟨hp0,hp1⟩:=hpin _ (List.getElem_mem h80)
  generalize ps[(0:Int).toNat]=p0 at *
  refine zae u46 h40 ?_
  refine zie (by omega) ?_
  obtain ⟨j,hj,hjl⟩:∃ j:Nat,p0.tmod (f.states.length:Int)=j∧j<f.states.length:=by
    have e1:p0.tmod (f.states.length:Int)=p0%(f.states.length:Int):=Int.tmod_eq_emod_of_nonneg hp0
    have e2:=Int.emod_nonneg p0 (b:=(f.states.length:Int)) (by omega)
    have e3:=Int.emod_lt_of_pos p0 (b:=(f.states.length:Int)) (by omega)
    exact ⟨(p0%(f.states.length:Int)).toNat,by omega,by omega⟩
  rw [hj]
  have hmem:=List.getElem_mem hjl
  obtain ⟨S,hSe⟩:∃ S,S=f.states[j]:=⟨_,rfl⟩
  rw [←hSe] at hmem
  have hSr:=hT.right S hmem
  obtain ⟨hway,hwgo⟩:=hwl hmem
  have hS6:S.stacks.length≤6:=hSr.2.2.1.2
  have hclo:f.whole=true→∀ t:Nat,t<S.stacks.length→GoR c S t→zby c S t∈f.states:=fun h t ht hg=>by
    have:=hCl h j hjl hjl t
    rw [←zcG hjl,←hSe] at this
    exact this ht hg
  have hxd:=zah w9
  have hx8d:=hx89.trans hxd
  have hx3d:=hx38.trans hx8d
  refine zab zcx hA3 hx3d fun v75 h75=>?_
  refine zad u46 zbf h40 hjl fun b78 o78 hA78=>?_
  rw [←hSe] at hA78
  refine zab zbf hA78 hx8d fun v79 h79=>?_
  refine (zkA h75 hx3d h79 hx8d hw).mono ?_
  rintro _ w10 ⟨hx10,v81,rfl,o81⟩
  have hwlen:=zox c S 30
  rw [hmi hmem]
  generalize ze9 c S 30=way at *
  have h81:=o81.is
  refine za3 rfl ?_
  refine za3 rfl ?_
  have hx810:=hx8d.trans hx10
  refine zab zcx hA4 (hx58.trans hx810) fun v83 h83=>?_
  refine (zfg h83 (hx58.trans hx810) hw).mono ?_
  rintro v84 w11 ⟨hx11,o84⟩
  have hse:zgC c=zbO c:=by unfold zgC;rw [if_pos hc]
  rw [hse] at o84
  refine zc8 (α:=DState) znG fun w12 hx12 hv12=>?_
  refine zaP zbf hv12 (o84.toI.ext hx12) (.inr (Nat.le_refl _)) fun w13 hc13 hv13=>?_
  have hx1113:Ext w11 w13:=hx12.chgI hc13 (Nat.le_refl _)
  have hx811:=hx810.trans hx11
  refine zaF way.length (fun k us w'=>us=[.int .i64 (k:Int)]∧k≤way.length∧Ext w11 w'∧zaK c ((way.take k).foldl (zby c) (zbO c))∧∃ lo hi,VarI lo hi w' w11.heap.size ((way.take k).foldl (zby c) (zbO c))) 0 (Nat.zero_le _) ⟨rfl,Nat.zero_le _,hx1113,hsr,_,_,hv13⟩ ?_
  rintro k2 m2 u2 w14 hkm2 ⟨hu2,hkl2,hx14,hkr,lo,hi,hv⟩
  have hg14:=hv.lt
  simp only [List.map_cons,List.map_nil,List.cons.injEq,and_true] at hu2
  rw [hu2]
  refine zae u25 h81 ?_
  refine zai ?_
  refine br (fun hlt2=>?_) (fun hge2=>?_)
  · have hk:k2<way.length:=by omega
    have hkg:=hwgo k2 hk
    have hx15:=zah w14
    have hs15:=hx15.size
    have hx1115:=hx14.trans hx15
    refine zab zcx hA3 (hx38.trans (hx811.trans hx1115)) fun v92 h92=>?_
    refine zeB zbf hv hx15 fun v93 h93=>?_
    refine zad u25 ty3 h81 hk fun b96 o96 hA96=>?_
    refine zac ty3 hA96 (hx11.trans hx1115) fun hI97=>?_
    refine (zf5 h92 (hx38.trans (hx811.trans hx1115)) h93.is hx15 (zjo hc hkr)).mono ?_
    rintro _ w16 ⟨hx16,v99,rfl,o99⟩
    have hst:zgU c ((way.take k2).foldl (zby c) (zbO c)) way[k2]=(way.take (k2+1)).foldl (zby c) (zbO c):=by
      unfold zgU;rw [if_pos ⟨⟨hc,hkr⟩,hkg⟩,List.take_succ_eq_append_getElem hk,List.foldl_append];rfl
    have hsr':zaK c ((way.take (k2+1)).foldl (zby c) (zbO c)):=by
      rw [List.take_succ_eq_append_getElem hk,List.foldl_append];exact ziA hc hkr hkg
    rw [hst] at o99
    refine za3 rfl ?_
    refine za3 rfl ?_
    refine zaP zbf (hv.ext (hx15.trans hx16)) o99.toI (.inl (by omega)) fun w17 hc17 hv17=>?_
    refine zau ?_
    refine br (fun h=>absurd ⟨⟨hc,hkr⟩,hkg⟩ h) (fun _=>?_)
    refine zal (by omega) ?_
    exact ⟨m2-1,by omega,k2+1,by omega,rfl,by omega,(hx1115.trans hx16).chgI hc17 (Nat.le_refl _),hsr',_,_,hv17⟩
  have hk2:k2=way.length:=by omega
  rw [hk2,List.take_length,hway] at hv
  have hx15:=zah w14
  have hx1115:=hx14.trans hx15
  have hx815:=hx811.trans hx1115
  refine zbt ?_
  refine zdN (fun h=>by cases h) (fun _=>?_)
  refine zeB zbf hv hx15 fun v106 h106=>?_
  refine zad u46 zbf h40 hjl fun b109 o109 hA109=>?_
  rw [←hSe] at hA109
  refine zab zbf hA109 hx815 fun v110 h110=>?_
  refine (zeu h106.is hx15 h110 hx815).mono ?_
  rintro _ w16 ⟨hx16,rfl⟩
  refine zau ?_
  refine br (fun h=>absurd rfl h) (fun _=>?_)
  have hx816:=hx815.trans hx16
  refine JOIN.mk (fun us w'=>us=[]∧Ext w16 w') ?_ ?_
  · refine zaF S.stacks.length (fun k us w'=>us=[.int .i64 (k:Int)]∧k≤S.stacks.length∧Ext w16 w') 0 (Nat.zero_le _) ⟨rfl,Nat.zero_le _,Ext.refl _⟩ ?_
    rintro t m3 u3 w17 hkm3 ⟨hu3,hkl3,hx17⟩
    simp only [List.map_cons,List.map_nil,List.cons.injEq,and_true] at hu3
    rw [hu3]
    have hx817:=hx816.trans hx17
    refine zad u46 zbf h40 hjl fun b117 o117 hA117=>?_
    rw [←hSe] at hA117
    refine zaa zaC ?_
    refine zab zc1 (zaq hA117) hx817 fun v119 h119=>?_
    refine zae u31 h119 ?_
    refine zai ?_
    refine br (fun hlt3=>?_) (fun _=>⟨rfl,hx17⟩)
    refine zdN (fun hwh=>?_) (fun _=>⟨rfl,hx17⟩)
    have htl:t<S.stacks.length:=by omega
    have hxe:=zah w17
    have hse17:=hxe.size
    have hx8e:=hx817.trans hxe
    have hx3e:=hx38.trans hx8e
    obtain ⟨d,hdd⟩:∃ d,d=decide ((CodeR c∧zaK c S)∧GoR c S t):=⟨_,rfl⟩
    obtain ⟨X,hX⟩:∃ X,X=zgU c S t:=⟨_,rfl⟩
    have hXm:d=true→X∈f.states:=fun h=>by
      rw [hdd] at h
      have hg:=of_decide_eq_true h
      rw [hX,show zgU c S t=zby c S t from if_pos hg]
      exact hclo hwh t htl hg.2
    refine PAR.mk (nxQ c S X t j d v40 (World.drew1 w17)) ?_ ?_ ?_
    · intro i u u' T T' wa wb hxa hxb hd hq
      match i,hd,hq with
      | 0,hd,hq=>have e1:=(hd (0,128) (by decide)).1;show Is _ (u' 128) _;simp only [e1];exact hq
      | 1,hd,hq=>exact (hd (1,129) (by decide)).1.trans hq
      | 2,hd,hq=>exact (hd (2,130) (by decide)).1.trans hq
      | 3,hd,⟨b,o,q1,q2⟩=>exact ⟨b,o,(hd (3,131) (by decide)).1.trans q1,q2⟩
      | 4,hd,hq=>have e1:=(hd (4,132) (by decide)).1;show Is _ (u' 132) _;simp only [e1];exact hq
      | 5,hd,hq=>exact (hd (5,133) (by decide)).1.trans hq
      | 6,hd,⟨a,q1,q2⟩=>
        obtain ⟨e1,e2⟩:=hd (6,134) (by decide)
        simp only at e1 e2
        exact ⟨a,e1.trans q1,by rw [e2];exact q2.ext hxb⟩
      | 7,hd,⟨a,q1,q2⟩=>
        have e1:=(hd (7,127) (by decide)).1
        have e2:=(hd (6,134) (by decide)).2
        simp only at e1 e2
        exact ⟨a,e1.trans q1,by rw [e2];exact q2.ext hxb⟩
      | 8,hd,⟨b,q1⟩=>
        have e1:=(hd (8,135) (by decide)).1
        have e2:=(hd (7,127) (by decide)).1
        simp only at e1 e2
        exact ⟨b,by rw [e1,e2];exact q1⟩
      | 9,hd,⟨b,q1⟩=>
        have e1:=(hd (9,136) (by decide)).1
        have e2:=(hd (7,127) (by decide)).1
        simp only at e1 e2
        exact ⟨b,by rw [e1,e2];exact q1⟩
      | 10,hd,⟨g,q1,q2,q3,q4⟩=>
        obtain ⟨e1,e2⟩:=hd (10,18) (by decide)
        simp only at e1 e2
        exact ⟨g,e1.trans q1,by rw [e2];exact q2,by rw [e2];exact q3,by rw [e2];exact q4.ext hxb⟩
      | n+11,_,_=>trivial
    · refine ⟨fun u T w' hx _ _=>?_,fun u T w' hx _ _=>?_,fun u T w' hx _ _=>?_,fun u T w' hx _ hp=>?_,fun u T w' hx _ hp=>?_,fun u T w' hx _ _=>?_,fun u T w' hx _ hp=>?_,fun u T w' hx _ hp=>?_,fun u T w' hx _ hp=>?_,fun u T w' hx _ hp=>?_,fun u T w' hx _ _=>?_,trivial⟩
      · exact zab zcx hA3 (hx3e.trans hx) fun v h=>⟨Ext.refl _,(h.ext hx3e:Is _ v c)⟩
      · exact ⟨Ext.refl _,rfl⟩
      · exact ⟨Ext.refl _,rfl⟩
      · have q1:u 129=v40:=hp.1
        have q2:u 130=.int .i64 (j:Int):=hp.2.1
        rw [q1,q2]
        refine zad u46 zbf (h40.ext hx8e) hjl fun b o hA=>⟨Ext.refl _,⟨b,o,rfl,?_⟩⟩
        rw [←hSe] at hA
        exact hA
      · obtain ⟨b,o,q1,q2⟩:=(hp.1:∃ b o,u 131=.pointer (some ⟨b,o,none⟩)∧At _ b o S)
        rw [q1]
        exact zab zbf q2 hx fun v h=>⟨Ext.refl _,h⟩
      · exact ⟨Ext.refl _,rfl⟩
      · have q0:Is _ (u 128) c:=hp.1
        have q4:Is _ (u 132) S:=hp.2.1
        have q5:u 133=.int .i64 (t:Int):=hp.2.2.1
        rw [q5]
        refine (zf5 q0 hx q4 hx (zjo hc hSr)).mono ?_
        rintro r w20 ⟨hx20,a,rfl,oa⟩
        rw [←hX] at oa
        exact ⟨hx20,⟨a,by rw [hdd];rfl,oa.toI⟩⟩
      · exact ⟨Ext.refl _,hp.1⟩
      · obtain ⟨a,q1,q2⟩:=(hp.1:∃ a,u 127=.tuple #[a,.bool d]∧OwnI (T 6).1 (T 6).2 w' a X)
        rw [q1]
        exact za3 rfl ⟨Ext.refl _,⟨_,q1⟩⟩
      · obtain ⟨a,q1,q2⟩:=(hp.1:∃ a,u 127=.tuple #[a,.bool d]∧OwnI (T 6).1 (T 6).2 w' a X)
        rw [q1]
        exact za3 rfl ⟨Ext.refl _,⟨a,q1⟩⟩
      refine zc8 (α:=DState) znG fun w7 hx7 hv7=>⟨hx7,⟨w'.heap.size,rfl,Nat.le_refl _,hv7.lt,hv7.mono hx7.size (Nat.le_refl _)⟩⟩
    rintro u4 T w18 hx18' hap ⟨-,-,-,-,-,-,-,⟨a,e7,oa⟩,⟨b',e8⟩,⟨a',e9⟩,⟨g,e10,hg0,hg1,hvz⟩,-⟩
    have t6:=hap.1 6 (by decide)
    have t10:=hap.1 10 (by decide)
    have d610:=hap.2 6 (by decide) 10 (by decide) (by decide)
    have f1:=(zqY (e7.symm.trans e8)).1
    have f2:=(zqY (e7.symm.trans e9)).2
    rw [←f1,←f2,e10]
    refine zaP zbf hvz oa (by omega) fun w19 hc19 hv19=>?_
    have hxe19:Ext (World.drew1 w17) w19:=hx18'.chgI hc19 (by omega)
    have hx819:=hx8e.trans hxe19
    refine zbt ?_
    refine zaF f.states.length (fun k us w'=>∃ b:Bool,us=[.bool b,.int .i64 (k:Int)]∧k≤f.states.length∧Ext w19 w'∧(b=false→X∈f.states∧X∉f.states.take k)) 0 (Nat.zero_le _) ⟨!d,rfl,Nat.zero_le _,Ext.refl _,fun h=>⟨hXm (by simpa using h),by simp⟩⟩ ?_
    rintro i m4 u5 w20 hkm4 ⟨b,hu5,hil,hx20,hbf⟩
    simp only [List.map_cons,List.map_nil,List.cons.injEq,and_true] at hu5
    rw [hu5.1,hu5.2]
    have hfin:∀ w21:World,Ext w16 w21→b=true→RD Tryz.prog (Op.unary .not (.bool b)) w21 fun x156=>BR x156 (Ext w w21∧Value.bool false=.bool true) (RD Tryz.prog (bin .add 3 (.tmp 0) (.const undef) (.int .i64 (t:Int)) (Value.int .i64 1)) w21 fun x126=>∃ m',m'<m3∧∃ k',k'+m'=S.stacks.length∧[x126]=[.int .i64 (k':Int)]∧k'≤S.stacks.length∧Ext w16 w21):=fun w21 hx21 hb=>by
      subst hb
      refine zbt ?_
      refine zdN (fun h=>by cases h) (fun _=>?_)
      refine zal (by omega) ?_
      exact ⟨m3-1,by omega,t+1,by omega,rfl,by omega,hx21⟩
    have hx1620:Ext w16 w20:=hx17.trans (hxe.trans (hxe19.trans hx20))
    refine zae u46 h40 ?_
    refine zai ?_
    refine br (fun hlt4=>?_) (fun hge4=>?_)
    · have hi':i<f.states.length:=by omega
      refine zbt ?_
      refine zdN (fun hnb=>?_) (fun hnb=>?_)
      · have hb:b=false:=by simpa using hnb
        obtain ⟨hb1,hb2⟩:=hbf hb
        have hx21:=zah w20
        refine zeB zbf hv19 (hx20.trans hx21) fun v149 h149=>?_
        refine zad u46 zbf h40 hi' fun b152 o152 hA152=>?_
        refine zab zbf hA152 (hx819.trans (hx20.trans hx21)) fun v153 h153=>?_
        refine (zev h149.is (hx20.trans hx21) h153 (hx819.trans (hx20.trans hx21))).mono ?_
        rintro _ w22 ⟨hx22,rfl⟩
        refine zal (by omega) ?_
        refine ⟨m4-1,by omega,i+1,by omega,_,rfl,by omega,hx20.trans (hx21.trans hx22),fun h=>⟨hb1,?_⟩⟩
        have hne:¬X=f.states[i]:=of_decide_eq_false h
        rw [List.take_succ_eq_append_getElem hi',List.mem_append]
        rintro (h | h)
        · exact hb2 h
        simp only [List.mem_cons,List.not_mem_nil,or_false] at h
        exact hne h
      exact hfin w20 hx1620 (by simpa using hnb)
    refine hfin w20 hx1620 ?_
    cases b with
    | true=>rfl
    | false=>
      obtain ⟨hb1,hb2⟩:=hbf rfl
      rw [List.take_of_length_le (by omega)] at hb2
      exact absurd hb1 hb2
  rintro u6 w17 ⟨-,hx17⟩
  have hx817:=hx816.trans hx17
  refine zab zcx hA3 (hx38.trans hx817) fun v157 h157=>?_
  refine (zjx h157 (hx38.trans hx817) hw).mono ?_
  rintro v158 w18 ⟨hx18',o158,-⟩
  rw [heo] at o158
  have h158:=o158.is
  have hel:(f.states.filter (zjw c)).length≤f.states.length:=List.length_filter_le _ _
  refine zaF (f.states.filter (zjw c)).length (fun k us w'=>us=[.int .i64 (k:Int)]∧k≤(f.states.filter (zjw c)).length∧Ext w18 w') 0 (Nat.zero_le _) ⟨rfl,Nat.zero_le _,Ext.refl _⟩ ?_
  rintro k4 m5 u7 w19 hkm5 ⟨hu7,hkl7,hx19⟩
  simp only [List.map_cons,List.map_nil,List.cons.injEq,and_true] at hu7
  rw [hu7]
  have hx819:=hx817.trans (hx18'.trans hx19)
  refine zae u46 h158 ?_
  refine zai ?_
  refine br (fun hlt5=>?_) (fun _=>?_)
  · have hk:k4<(f.states.filter (zjw c)).length:=by omega
    have hx20:=zah w19
    obtain ⟨hz1,hz2⟩:=List.mem_filter.1 (List.getElem_mem hk)
    refine zab zcx hA3 (hx38.trans (hx819.trans hx20)) fun v165 h165=>?_
    refine zad u46 zbf h158 hk fun b168 o168 hA168=>?_
    refine zab zbf hA168 (hx19.trans hx20) fun v169 h169=>?_
    refine (zh6 h165 (hx38.trans (hx819.trans hx20)) h169 (hx19.trans hx20)).mono ?_
    rintro v170 w21 ⟨hx21,o170⟩
    have hr0:(zhO c (f.states.filter (zjw c))[k4]).length=0:=by
      have hz3:(ziv c (f.states.filter (zjw c))[k4]).length=0:=of_decide_eq_true hz2
      unfold zhO;rw [if_pos ⟨hc,hT.right _ hz1⟩];exact hz3
    refine zae u25 o170.is ?_
    refine zci ?_
    refine br (fun h=>absurd h (by omega)) (fun _=>?_)
    refine zal (by omega) ?_
    exact ⟨m5-1,by omega,k4+1,by omega,rfl,by omega,hx19.trans (hx20.trans hx21)⟩
  refine zae u46 h158 ?_
  refine zab zcx hA4 (hx58.trans hx819) fun v175 h175=>?_
  refine (zjy h175 (hx58.trans hx819) hw).mono ?_
  rintro v176 w20 ⟨hx20,o176,-⟩
  rw [heo] at o176
  refine zae u46 o176.is ?_
  refine zag ?_
  exact ⟨hx18.trans (hx819.trans hx20),by simp⟩
theorem zpj {P:Program} {t:TypeId} (ht:P.underlying t=some (.int .u8)) (n:Nat):zjH P t UInt8 n:=by
 intro H enc w spare held cs y h
 obtain ⟨m,rfl,_,hw⟩:=DataW.trod_int ht h
 have hm:0≤m∧m≤255:=by simpa [Lit.wf,IntKind.min,IntKind.max,IntKind.signed,IntKind.bits] using hw
 refine ⟨[],UInt8.ofNat m.toNat,rfl,?_⟩
 have:((UInt8.ofNat m.toNat).toNat:Int)=m:=by
   have:(UInt8.ofNat m.toNat).toNat=m.toNat:=by simp;omega
   omega
 rw [this]
theorem zqf:∀ n,zjH Tryz.prog 22 (List UInt8) n:=zhj u22 (by kernel_rfl) (zpj u5)
end Go.Proofs.YtbnjpfjjmhodnaaGreat
namespace Go.Proofs.YtbnjpfjjmhodnaaGreat
open Go
theorem zbr {a b:Bool} (h:a=true) (k:b=true):(a&&b)=true:=by rw [h,k];rfl
theorem zqg:laidOutB Tryz.prog=true:=by kernel_rfl
theorem zqh:mapsRowed Tryz.prog=true:=by kernel_rfl
theorem zpk:(Rows.fnMachinesRow.plainKeys == Tryz.prog.plainKeys)=true:=by kernel_rfl
theorem zpl:Tryz.prog.stopsHeard=true:=by kernel_rfl
theorem zqZ:Tryz.prog.mayEnter=true:=by kernel_rfl
theorem zqi:(Rows.fnMachinesRow.lifted == Tryz.prog.liftsFinal)=true:=by kernel_rfl
theorem zqj:(Tryz.prog.make == some Rows.fnMachinesRow.make)=true:=by kernel_rfl
end Go.Proofs.YtbnjpfjjmhodnaaGreat
namespace Go.Proofs.YtbnjpfjjmhodnaaGreat.fnStates
open Go.ChangeShapes Go.WideShapes Go.ChangeAt Go.RowKit Go.Sh
theorem own:ownKnob Tryz.prog.godebug=none:=by kernel_rfl
theorem zqk:laidOutB Tryz.prog=true:=by kernel_rfl
set_option maxRecDepth 100000 in
theorem lifted (os:Os) (started:os.Started) (H:Type) (enc:TypeId×Value→H) :
    ReturnsInHanded {} Tryz.checked os 5 .any (Rows.fnStatesSpec.pre6 enc Tryz.prog Tryz.f5 Rows.fnStatesRow.domain false) (Rows.fnStatesSpec.post enc Tryz.prog Tryz.f5 false true false false):=by
  refine returnsInHanded_of_change (C:=Tryz.checked) own started (by kernel_rfl) Tryz.func5
    (ChangeSpec.witness6 (enc:=enc) (C:=Tryz.checked) false ⟨#[],#[.slice none 0 0],[]⟩ 8 (by kernel_rfl) (by kernel_rfl) (by kernel_rfl) (by kernel_rfl)) ?_
  intro W base args ds gs before hval0 hW hcnd _
  have hval:∀ (j:Nat) t v,Tryz.f5.params[j]?=some t→args[j]?=some v→Value.okWide Tryz.prog W .any base t v:=hval0
  have hW':=hW
  obtain ⟨p,q,hA0,hV,rfl,hfz,hnd⟩:=hW
  have hA:DataW.TrodAll enc Tryz.prog W 0 (fun _=>true) true Tryz.f5.params.toList args.toList ds p:=hA0
  rw [Tryz.params5] at hA hval
  obtain ⟨v0,vs0,d0,ds0,p0,q0,hargs,rfl,rfl,h0,r0⟩:=trodAll_cons hA
  obtain ⟨rfl,rfl,rfl⟩:=trodAll_nil r0
  obtain rfl:args=#[v0]:=by cases args;simp_all
  obtain ⟨rfl,rfl⟩:=trodVars_none hV
  have lt0:∀ x∈p0,x.block<W.heap.size:=by obtain ⟨m,hm⟩:=h0;exact DataW.trod_lt m _ _ _ hm
  obtain ⟨x0,i0⟩:=zkS (α:=UInt8) u22 zqf (hval 0 22 v0 rfl rfl) h0
  clear hA0 hval0
  obtain ⟨hcall⟩:=zoD i0 (Ext.refl W)
  refine hcall.mono fun e W' ⟨v,he,bel,hv⟩=>?_
  subst he hv
  exact ⟨_,rfl,_,_,_,[],_,[],hW',trodAll_mk1 (shut_bool Tryz.underlying4 _),(trodAll_cons_mk (Below.trod zqk (by kernel_rfl) (of_decide_eq_true (by kernel_rfl)) h0 bel lt0) trodAll_mk0),rfl,bel.frame _,fun h=>by cases h⟩
theorem zoE:(Rows.fnStatesRow.inPlace == Tryz.prog.inPlace 5)=true:=by kernel_rfl
theorem zkE:(Rows.fnStatesRow.unfollowed == Tryz.prog.unfollowed 5)=true:=by kernel_rfl
theorem zm7:(Rows.fnStatesRow.recurses == Tryz.prog.recurses 5)=true:=by kernel_rfl
theorem zql:(Rows.fnStatesRow.named == Tryz.prog.varsNamed 5)=true:=by kernel_rfl
theorem closed:joinedFacts Tryz.prog 5 Tryz.f5 Rows.fnStatesSpec Rows.fnStatesRow=true:=by
 unfold joinedFacts
 exact (zbr (zbr (zbr (zbr (zbr (zbr (zbr (zbr (zbr (zbr (zbr (zbr (zbr (zbr (zbr (zbr (zbr (zbr (zbr (zbr (zbr (zbr (zbr (zbr (zbr (zbr (zbr (zbr (zbr (zbr (zbr (by kernel_rfl) zqg) zqh) (by kernel_rfl)) (by kernel_rfl)) (by kernel_rfl)) (by kernel_rfl)) (by kernel_rfl)) (by kernel_rfl)) zoE) zkE) zm7) zql) (by kernel_rfl)) (by kernel_rfl)) (by kernel_rfl)) (by kernel_rfl)) (by kernel_rfl)) (by kernel_rfl)) (by kernel_rfl)) (by kernel_rfl)) (by kernel_rfl)) zpk) (by kernel_rfl)) zpl) zqZ) zqi) zqj) (by kernel_rfl)) (by kernel_rfl)) (by kernel_rfl)) (by kernel_rfl))
theorem over:Rows.fnStatesRow.holds Tryz.pinned (OpenSpec.ofChange Rows.fnStatesSpec):=
 OpenClaim.holds_of_wide 5 Tryz.f5 rfl rfl rfl rfl rfl rfl rfl ⟨rfl,rfl,rfl,rfl,rfl⟩ rfl rfl rfl rfl rfl (by kernel_rfl) Tryz.func5 closed
   (of_decide_eq_true (by kernel_rfl)) (by unfold Func.isWrapper;first | (rw [if_pos (by decide +kernel)];kernel_rfl) | (rw [if_neg (by decide +kernel)];exact ⟨rfl,rfl⟩))
   (fun os started H enc _=>lifted os started H enc)
theorem proved:Rows.FnStatesSaid:=over
end Go.Proofs.YtbnjpfjjmhodnaaGreat.fnStates
