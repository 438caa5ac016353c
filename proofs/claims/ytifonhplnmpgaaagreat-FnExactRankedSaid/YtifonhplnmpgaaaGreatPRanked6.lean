/-
  The law FnExactRanked of the given program returns true for every input, and its arguments read afterwards as before: the given statement Rows.FnExactRankedSaid.
-/
import Derived.Test.YtifonhplnmpgaaaGreatPRanked5
set_option linter.unusedVariables false
set_option linter.unusedSimpArgs false
set_option linter.unusedSectionVars false
namespace Go.Proofs.YtifonhplnmpgaaaGreat
open Go Go.Sh Go.Proofs
open Rep (rep)
def F129 (a0:Value) (w:World) (R:VW):Prop:=
 oP (Instr.box 32 a0) w fun x1 w=>
 (fun w0=>PAR w0 [[(0,12)],[(1,13)],[(2,14),(1,13)],[(3,15),(2,14)],[(4,16),(3,15),(3,15)],[(5,17)],[(6,18),(5,17)],[(7,19),(6,18)],[(8,20),(7,19),(7,19)]] (fun Q=>
 (∀ (u1:Env) (T:Nat→Nat×Nat) (w:World),Ext w0 w→zby [] w0.heap.size w.heap.size T→(True)→(fun w1=>rL 32 x1 w fun x12=>
 Ext w1 w∧Q 0 (upd u1 12 x12) (zcC T 0 (w1.heap.size,w.heap.size)) w) w) ∧
 (∀ (u1:Env) (T:Nat→Nat×Nat) (w:World),Ext w0 w→zby [] w0.heap.size w.heap.size T→(True)→(fun w1=>rF 32 x1 4 w fun x13=>
 Ext w1 w∧Q 1 (upd u1 13 x13) (zcC T 1 (w1.heap.size,w.heap.size)) w) w) ∧
 (∀ (u1:Env) (T:Nat→Nat×Nat) (w:World),Ext w0 w→zby [1] w0.heap.size w.heap.size T→(Q 1 u1 T w∧True)→(fun w1=>rL 30 (u1 13) w fun x14=>
 Ext w1 w∧Q 2 (upd u1 14 x14) (zcC T 2 (w1.heap.size,w.heap.size)) w) w) ∧
 (∀ (u1:Env) (T:Nat→Nat×Nat) (w:World),Ext w0 w→zby [2] w0.heap.size w.heap.size T→(Q 2 u1 T w∧True)→(fun w1=>rN 30 3 (u1 14) w fun x15=>
 Ext w1 w∧Q 3 (upd u1 15 x15) (zcC T 3 (w1.heap.size,w.heap.size)) w) w) ∧
 (∀ (u1:Env) (T:Nat→Nat×Nat) (w:World),Ext w0 w→zby [3,3] w0.heap.size w.heap.size T→(Q 3 u1 T w∧Q 3 u1 T w∧True)→(fun w1=>oP (Instr.makeSlice 101 (u1 15) (u1 15)) w fun x16 w=>
 Ext w1 w∧Q 4 (upd u1 16 x16) (zcC T 4 (w1.heap.size,w.heap.size)) w) w) ∧
 (∀ (u1:Env) (T:Nat→Nat×Nat) (w:World),Ext w0 w→zby [] w0.heap.size w.heap.size T→(True)→(fun w1=>rF 32 x1 4 w fun x17=>
 Ext w1 w∧Q 5 (upd u1 17 x17) (zcC T 5 (w1.heap.size,w.heap.size)) w) w) ∧
 (∀ (u1:Env) (T:Nat→Nat×Nat) (w:World),Ext w0 w→zby [5] w0.heap.size w.heap.size T→(Q 5 u1 T w∧True)→(fun w1=>rL 30 (u1 17) w fun x18=>
 Ext w1 w∧Q 6 (upd u1 18 x18) (zcC T 6 (w1.heap.size,w.heap.size)) w) w) ∧
 (∀ (u1:Env) (T:Nat→Nat×Nat) (w:World),Ext w0 w→zby [6] w0.heap.size w.heap.size T→(Q 6 u1 T w∧True)→(fun w1=>rN 30 3 (u1 18) w fun x19=>
 Ext w1 w∧Q 7 (upd u1 19 x19) (zcC T 7 (w1.heap.size,w.heap.size)) w) w) ∧
 (∀ (u1:Env) (T:Nat→Nat×Nat) (w:World),Ext w0 w→zby [7,7] w0.heap.size w.heap.size T→(Q 7 u1 T w∧Q 7 u1 T w∧True)→(fun w1=>oP (Instr.makeSlice 23 (u1 19) (u1 19)) w fun x20 w=>
 Ext w1 w∧Q 8 (upd u1 20 x20) (zcC T 8 (w1.heap.size,w.heap.size)) w) w) ∧
 True)
 (fun Q=>∀ (u1:Env) (T:Nat→Nat×Nat) (w:World),Ext w0 w→zby [0,1,2,3,4,5,6,7,8] w0.heap.size w.heap.size T→(Q 0 u1 T w∧Q 1 u1 T w∧Q 2 u1 T w∧Q 3 u1 T w∧Q 4 u1 T w∧Q 5 u1 T w∧Q 6 u1 T w∧Q 7 u1 T w∧Q 8 u1 T w∧True) →
 rD (Instr.build 159 #[(0,(u1 12)),(1,(u1 16)),(2,(u1 20)),(3,(Value.bool true))]) w fun x21=>
 oP (Instr.box 159 x21) w fun x22 w=>
 rL 32 x1 w fun x23=>
 cL 151 [x23] w fun x24 w=>
 cL 176 [x24] w fun x25 w=>
 LOOPI [5] [(iV 0)] w fun u4 w next4=>
 rN 23 3 x25 w fun x28=>
 rC (u4 5) x28 w fun x29=>
 BR x29
 ((fun w=>rF 32 x1 3 w fun x33=>
 rL 23 x33 w fun x34=>
 rX 23 x25 (u4 5) w fun x37=>
 rL 3 x37 w fun x38=>
 rX 23 x34 x38 w fun x39=>
 rL 3 x39 w fun x40=>
 cL 177 [x22,x40,(iV 0)] w fun x41 w=>
 rA (u4 5) (iV 1) w fun x31=>
 next4 [x31] w) (World.drew1 w))
 (LOOPI [] [] w fun u7 w next7=>
 NIL x22 <|
 rF 159 x22 3 w fun x44=>
 rL 4 x44 w fun x45=>
 BR x45
 (NIL x22 <|
 rF 159 x22 3 w fun x48=>
 oS 4 x48 (Value.bool false) w fun w=>
 LOOPI [6] [(iV 0)] w fun u10 w next10=>
 rF 32 x1 4 w fun x50=>
 rL 30 x50 w fun x51=>
 rN 30 3 x51 w fun x52=>
 rC (u10 6) x52 w fun x53=>
 BR x53
 (NIL x22 <|
 rF 159 x22 1 w fun x58=>
 rL 101 x58 w fun x59=>
 rX 101 x59 (u10 6) w fun x61=>
 rL 4 x61 w fun x62=>
 rD (Op.unary .not x62) w fun x63=>
 BR x63
 (rA (u10 6) (iV 1) w fun x55=>
 next10 [x55] w)
 (rF 32 x1 4 w fun x64=>
 rL 30 x64 w fun x65=>
 rX 30 x65 (u10 6) w fun x67=>
 rL 111 x67 w fun x68=>
 oP (Instr.alloc 111 true (.tuple #[])) w fun x7 w=>
 oS 111 x7 x68 w fun w=>
 NIL x22 <|
 rF 159 x22 2 w fun x71=>
 rL 23 x71 w fun x72=>
 rX 23 x72 (u10 6) w fun x74=>
 rL 3 x74 w fun x75=>
 JOIN [8] (fun J25=>
 rF 111 x7 0 w fun x76=>
 rL 3 x76 w fun x77=>
 rB .eql 3 T0 U0 x77 (iV 6) w fun x79=>
 BR x79
 (rF 111 x7 1 w fun x81=>
 rL 3 x81 w fun x82=>
 cL 102 [x82] w fun x83 w=>
 rB .or 3 T0 T0 x75 x83 w fun x84=>
 J25 [x84] w)
 (rB .eql 3 T0 U0 x77 (iV 7) w fun x86=>
 BR x86
 (rF 111 x7 1 w fun x88=>
 rL 3 x88 w fun x89=>
 cL 102 [x89] w fun x90 w=>
 cL 178 [x75,x90] w fun x91 w=>
 J25 [x91] w)
 (rB .eql 3 T0 U0 x77 (iV 4) w fun x93=>
 BR x93
 (rF 32 x1 3 w fun x95=>
 rL 23 x95 w fun x96=>
 rF 111 x7 1 w fun x97=>
 rL 3 x97 w fun x98=>
 rX 23 x96 x98 w fun x99=>
 rL 3 x99 w fun x100=>
 cL 177 [x22,x100,x75] w fun x102 w=>
 rL 32 x1 w fun x103=>
 rF 111 x7 1 w fun x104=>
 rL 3 x104 w fun x105=>
 cL 124 [x103,x105] w fun x106 w=>
 NIL x22 <|
 rF 159 x22 1 w fun x109=>
 rL 101 x109 w fun x110=>
 rX 101 x110 x106 w fun x112=>
 rL 4 x112 w fun x113=>
 rD (Op.unary .not x113) w fun x114=>
 BR x114
 (rA (u10 6) (iV 1) w fun x55=>
 next10 [x55] w)
 (NIL x22 <|
 rF 159 x22 2 w fun x117=>
 rL 23 x117 w fun x118=>
 rX 23 x118 x106 w fun x120=>
 rL 3 x120 w fun x121=>
 J25 [x121] w))
 (J25 [x75] w)))) (fun u25 w=>
 rL 32 x1 w fun x122=>
 cL 179 [x122,(u10 6)] w fun x124 w=>
 LOOPI [11] [(iV 0)] w fun u27 w next27=>
 rN 23 3 x124 w fun x127=>
 rC (u27 11) x127 w fun x128=>
 BR x128
 (rX 23 x124 (u27 11) w fun x134=>
 rL 3 x134 w fun x135=>
 cL 177 [x22,x135,(u25 8)] w fun x137 w=>
 rA (u27 11) (iV 1) w fun x130=>
 next27 [x130] w)
 (rA (u10 6) (iV 1) w fun x55=>
 next10 [x55] w))))
 (next7 [] w))
 (R x22 w)))) (World.drew1 w)
def cfg129:Cfg:=⟨extL,[(25,5316911983139587933751502326797959936,[8])],[(4,4397979402272,[5]),(7,348449143727040986586495598005732602023872,[]),(10,348449143727040986586495597447180695113664,[6]),(27,348406608431175869278562676184201677506560,[11])],[(6,[0,1,2,3,4,5,6,7,8,9],0)],[(1,8384520,9)],[],[]⟩
theorem F129_call {a0:Value} {w:World} {R:VW} (h:F129 a0 w R):cL 129 [a0] w R:=co (g:=cfg129) Tryz.func129 (by kernel_rfl) (by kernel_rfl) (by kernel_rfl) h
open Rep (rep)
def lkQ (c:DCode) (g1 n:Nat) (w0:World):ParQ:=fun i u T w=>match i with
 | 0=>Is w0 (u 12) c
 | 1=>u 13=.pointer (some ⟨g1,0+4,none⟩)
 | 2=>Is w0 (u 14) c.ins
 | 3=>u 15=.int .i64 (n:Int)
 | 4=>∃ g,u 16=.slice (some ⟨g,0,none⟩) n n∧(T 4).1≤g∧g<(T 4).2∧Mine [g] w (.slice (some ⟨g,0,none⟩) n n) (List.replicate n false)
 | 5=>u 17=.pointer (some ⟨g1,0+4,none⟩)
 | 6=>Is w0 (u 18) c.ins
 | 7=>u 19=.int .i64 (n:Int)
 | 8=>∃ g,u 20=.slice (some ⟨g,0,none⟩) n n∧(T 8).1≤g∧g<(T 8).2∧Mine [g] w (.slice (some ⟨g,0,none⟩) n n) (zaF (List.replicate n 0))
 | _=>True
theorem znf {w W0:World} {v0:Value} {c:DCode} (h0:Is W0 v0 c) (e0:Ext W0 w) (hc:CodeR c) :
   CALL Tryz.prog 129 [v0] w fun r w'=>Ext w w'∧∃ gw,r=.pointer (some ⟨gw,0,none⟩)∧At w' gw (0+5) (zfd c)∧At w' gw (0+6) (zaF (zi9 c)):=by
 refine F129_call ?_
 unfold F129
 have h8:=hc.1.procs8
 have hil:=hc.f.ins
 have hz0:=(zgO hc h8.2).2.2
 have hrep:=HP.start (c:=c)
 refine zdm h0 e0 fun w1 hx1 hA=>?_
 have hs1:=hx1.size
 have hn:c.ins.length=c.ins.length:=rfl
 generalize hnn:c.ins.length=n at hn
 rw [hnn] at hil hrep
 have hx1d:=zan w1
 refine PAR.mk (lkQ c w.heap.size n (World.drew1 w1)) ?_ ?_ ?_
 · intro i u u' T T' wa wb hxa hxb hd hq
   match i,hd,hq with
   | 0,hd,hq=>have:=(hd (0,12) (by decide)).1;show Is _ (u' 12) _;simp only [this];exact hq
   | 1,hd,hq=>exact (hd (1,13) (by decide)).1.trans hq
   | 2,hd,hq=>have:=(hd (2,14) (by decide)).1;show Is _ (u' 14) _;simp only [this];exact hq
   | 3,hd,hq=>exact (hd (3,15) (by decide)).1.trans hq
   | 4,hd,⟨g,q1,q2,q3,q4⟩=>
     obtain ⟨e1,e2⟩:=hd (4,16) (by decide)
     simp only at e1 e2
     exact ⟨g,e1.trans q1,by rw [e2];exact q2,by rw [e2];exact q3,q4.ext hxb⟩
   | 5,hd,hq=>exact (hd (5,17) (by decide)).1.trans hq
   | 6,hd,hq=>have:=(hd (6,18) (by decide)).1;show Is _ (u' 18) _;simp only [this];exact hq
   | 7,hd,hq=>exact (hd (7,19) (by decide)).1.trans hq
   | 8,hd,⟨g,q1,q2,q3,q4⟩=>
     obtain ⟨e1,e2⟩:=hd (8,20) (by decide)
     simp only at e1 e2
     exact ⟨g,e1.trans q1,by rw [e2];exact q2,by rw [e2];exact q3,q4.ext hxb⟩
   | n+9,_,_=>trivial
 · refine ⟨fun u T w' hx _ _=>?_,fun u T w' hx _ _=>?_,fun u T w' hx _ hp=>?_,fun u T w' hx _ hp=>?_,fun u T w' hx _ hp=>?_,fun u T w' hx _ _=>?_,fun u T w' hx _ hp=>?_,fun u T w' hx _ hp=>?_,fun u T w' hx _ hp=>?_,trivial⟩
   · exact zab zdh hA (hx1d.trans hx) fun v6 h6=>⟨Ext.refl _,h6.ext hx1d⟩
   · exact zaa zaK ⟨Ext.refl _,rfl⟩
   · have q0:u 13=_:=hp.1
     rw [q0]
     exact zab zdn (zak hA) (hx1d.trans hx) fun v6 h6=>⟨Ext.refl _,h6.ext hx1d⟩
   · have q1:Is _ (u 14) c.ins:=hp.1
     exact zae u30 q1 (by rw [hnn];exact ⟨Ext.refl _,rfl⟩)
   · have q2:u 15=_:=hp.1
     rw [q2]
     exact zeg (by omega) (by omega) fun w4 hx4 r=>⟨hx4,_,rfl,Nat.le_refl _,r.lt _ (List.mem_singleton.2 rfl),r⟩
   · exact zaa zaK ⟨Ext.refl _,rfl⟩
   · have q0:u 17=_:=hp.1
     rw [q0]
     exact zab zdn (zak hA) (hx1d.trans hx) fun v6 h6=>⟨Ext.refl _,h6.ext hx1d⟩
   · have q1:Is _ (u 18) c.ins:=hp.1
     exact zae u30 q1 (by rw [hnn];exact ⟨Ext.refl _,rfl⟩)
   have q2:u 19=_:=hp.1
   rw [q2]
   exact zfa (by omega) (by omega) fun w4 hx4 r=>⟨hx4,_,rfl,Nat.le_refl _,r.lt _ (List.mem_singleton.2 rfl),r⟩
 rintro u T w2 hx2 hap ⟨hq0,-,-,-,⟨g,q16,hga,hgb,hMg⟩,-,-,-,⟨h,q20,hha,hhb,hMh⟩,-⟩
 have hq0:Is (World.drew1 w1) (u 12) c:=hq0
 have t4:=hap.1 4 (by decide)
 have t8:=hap.1 8 (by decide)
 have d48:=hap.2 4 (by decide) 8 (by decide) (by decide)
 have hx12:=hx1d.trans hx2
 have hsd:(World.drew1 w1).heap.size=w1.heap.size:=rfl
 rw [q16,q20]
 obtain ⟨a0,a1,a2,a3,a4,n0,n1,n2,n3,n4,k0,k1,k2,k3,k4,hcv⟩:=zho hq0
 rw [hcv]
 refine zec (cells:=#[.slice a0 n0 k0,.slice a1 n1 k1,.slice a2 n2 k2,.slice a3 n3 k3,.slice a4 n4 k4,.slice (some ⟨g,0,none⟩) n n,.slice (some ⟨h,0,none⟩) n n,.bool true]) (by kernel_rfl) ?_
 refine zjS fun w3 hx3 hB3=>?_
 have H3:LW w1 w3 w2.heap.size g h n [.slice a0 n0 k0,.slice a1 n1 k1,.slice a2 n2 k2,.slice a3 n3 k3,.slice a4 n4 k4] (List.replicate n false) (List.replicate n 0) true:=⟨hx12.trans hx3,hB3,hMg.ext hx3,hMh.ext hx3,rfl,by omega,by omega,by omega,hx12.size,by omega,by omega⟩
 generalize [Value.slice a0 n0 k0,.slice a1 n1 k1,.slice a2 n2 k2,.slice a3 n3 k3,.slice a4 n4 k4]=kc at *
 generalize w2.heap.size=gw at *
 refine zab zdh hA H3.ext fun v23 h23=>?_
 refine (zki h23 H3.ext hc).mono ?_
 rintro v24 w4 ⟨hx4,ho4⟩
 refine (zd1 ho4.is (Ext.refl _) (by rw [zas];omega)).mono ?_
 rintro v25 w5 ⟨hx5,ho5⟩
 rw [zas,zgz] at ho5
 have H4:=H3.step hx4
 have H5:=H4.step hx5
 have hL:∀ p,p∈zbw c.procs.length (RootP c)↔RootP c p:=fun p=>by rw [za1];exact ⟨fun h=>h.2,fun h=>⟨h.lt hc,h⟩⟩
 have hLl:(zbw c.procs.length (RootP c)).length≤8:=Nat.le_trans zbU h8.1
 generalize zbw c.procs.length (RootP c)=L at *
 have hgw4:=H4.blk.lt
 have hg4:=H4.mks.lt g (by simp)
 have hh4:=H4.mine.lt h (by simp)
 have hrl:(List.replicate n 0).length=n:=by simp
 have hr64:∀ x∈List.replicate n 0,x<64:=fun x hx=>by rw [(List.mem_replicate.1 hx).2];omega
 have hset0:∀ i,i<n→(List.replicate n 0).set i (zaG (List.replicate n 0) i ||| 0)=List.replicate n 0:=fun i hi=>by rw [Nat.or_zero,zif (by rw [hrl];exact hi)]
 have hmz:∀ i l,i<c.ins.length→(zaG (List.replicate n 0) i).testBit l=true→MayP c i l:=fun i l hi hb=>(hrep.snd i l hi hb).1
 generalize List.replicate n 0=out at *
 refine zaq L.length (fun k us w'=>∃ ms,us=[.int .i64 (k:Int)]∧k≤L.length∧LW w1 w' gw g h n kc ms out true∧OwnI w4.heap.size w5.heap.size w' v25 (zaF L)∧ms.length=n∧(∀ i,mkd ms i→MetP c i)∧∀ p∈L.take k,mkd ms (eN c p)) 0 (Nat.zero_le _) ⟨_,rfl,Nat.zero_le _,H5,ho5.toI,by simp,fun i h=>absurd h zbk,by simp⟩ ?_
 rintro k mk u6 w6 hkm ⟨ms,hu,hkl,H6,hO6,hl6,hsn6,hrt6⟩
 simp only [List.map_cons,List.map_nil,List.cons.injEq,and_true] at hu
 rw [hu]
 refine zae u23 hO6.is ?_
 rw [zag]
 refine zah ?_
 refine br (fun hlt=>?_) (fun hge=>?_)
 · have hk:k<L.length:=by omega
   have hxd:=zan w6
   have H7:=H6.step hxd
   have hO7:=hO6.ext hxd
   generalize World.drew1 w6=w7 at *
   refine zaa zaO ?_
   refine zab zbv (zal hA) H7.ext fun v34 h34=>?_
   refine zac u23 ty3 (i:=k) hO7.is (by rw [zag];exact hk) fun b2 o2 hA2=>?_
   rw [zaY] at hA2
   refine zad ty3 hA2 (Ext.refl _) fun _=>?_
   have htk:=fun x=>zb5 hk (x:=x)
   have hrp:=(hL L[k]).1 (List.getElem_mem hk)
   generalize L[k]=p at *
   have hpe:p<c.entry.length:=by rw [hc.2.1.1];exact hrp.lt hc
   obtain ⟨he1,he2,_⟩:=zfF hc hpe
   refine zac u23 ty3 h34 hpe fun b5 o5 hA5=>?_
   rw [zbf hpe,he1] at hA5
   refine zad ty3 hA5 H7.ext fun _=>?_
   refine (zgR (i:=eN c p) (m:=0) H7 (by omega) hl6 hrl hr64 (by omega)).mono ?_
   rintro _ w8 ⟨rfl,H8,hc8⟩
   rw [hset0 _ (by omega)] at H8
   refine zaf (by omega) ?_
   refine ⟨mk-1,by omega,k+1,by omega,_,rfl,by omega,H8,hO7.chgF hc8 (by simp;omega),by simp [hl6],fun i hi=>?_,fun q hq=>?_⟩
   · rcases (zbE (by rw [hl6];omega)).1 hi with h | h
     · exact hsn6 i h
     rw [h];exact .root hrp
   rcases (htk q).1 hq with h | h
   · exact zdb (hrt6 q h)
   rw [h];exact (zbE (by rw [hl6];omega)).2 (.inr rfl)
 have hrt:∀ p,RootP c p→mkd ms (eN c p):=fun p hp=>hrt6 p (by rw [List.take_of_length_le (by omega)];exact (hL p).2 hp)
 have hT:LP c ms out false ms out 0:=⟨by rw [hl6,hnn],by rw [hrl,hnn],hr64,hsn6,hmz,hrt,fun e=>(by cases e),fun _=>⟨rfl,rfl,fun i hi=>by omega⟩⟩
 clear hu hkm hO6 hset0
 refine LOOPI.mk (fun m us w'=>∃ (ms:List Bool) (out:List Nat) (nw:Bool),us=[]∧m=(n*64-(zfI ms+out.sum))+(if nw then 1 else 0)∧LW w1 w' gw g h n kc ms out nw∧LP c ms out false ms out 0∧(nw=false→ms=zfd c∧out=zi9 c)) (n*64-(zfI ms+out.sum)+1) ⟨ms,out,true,rfl,rfl,H6,hT,fun e=>by cases e⟩ ?_
 rintro m u9 w9 ⟨ms,out,nw,hu,hm,H9,hT9,hend⟩
 have hbnd:∀ {ms0 ms:List Bool} {out0 out:List Nat} {nw:Bool} {k:Nat},LP c ms0 out0 nw ms out k→zfI ms+out.sum≤n*64:=fun {ms0 ms out0 out nw k} hP=>by
   have h1:=zdP ms
   rw [hP.len,hnn] at h1
   have h2:=sum_le (l:=out) (b:=63) fun x hx=>by have:=hP.lt x hx;omega
   rw [hP.leno,hnn] at h2
   omega
 refine NIL.mk rfl ?_
 refine zaa zhH ?_
 refine zap ty4 H9.blk H9.c7 ?_
 refine zb8 (fun hag=>?_) (fun hag=>?_)
 case refine_2=>
   obtain ⟨hm1,hm2⟩:=hend hag
   refine ⟨hx1.trans H9.ext,gw,rfl,zds H9.blk H9.c5 ?_,zds H9.blk H9.c6 ?_⟩
   · rw [←hm1];exact H9.mks.is
   rw [←hm2];exact H9.mine.is
 rw [hag,if_pos rfl] at hm
 have hb9:=hbnd hT9
 refine NIL.mk rfl ?_
 refine zaa zhH ?_
 refine zcg (α:=Raw) (lo:=0) (hi:=0) ty4 rfl rfl H9.blk H9.l8 (zci rfl) fun w10 hc10 hB10=>?_
 have H10:=H9.news hc10.one hB10
 refine zaq n (fun k us w'=>∃ (ms':List Bool) (out':List Nat) (nw':Bool),us=[.int .i64 (k:Int)]∧k≤n∧LW w1 w' gw g h n kc ms' out' nw'∧LP c ms out nw' ms' out' k) 0 (Nat.zero_le _) ⟨ms,out,false,rfl,Nat.zero_le _,H10,hT9⟩ ?_
 rintro k mk u11 w11 hkm ⟨ms11,out11,nw11,hu,hkl,H11,hT11⟩
 simp only [List.map_cons,List.map_nil,List.cons.injEq,and_true] at hu
 rw [hu]
 refine zaa zaK ?_
 refine zab zdn (zak hA) H11.ext fun v51 h51=>?_
 refine zae u30 h51 ?_
 rw [hnn]
 refine zah ?_
 refine br (fun hlt=>?_) (fun hge=>?_)
 case refine_2=>
   have hke:k=n:=by omega
   rw [hke] at hT11
   have hb11:=hbnd hT11
   refine ⟨(n*64-(zfI ms11+out11.sum))+(if nw11 then 1 else 0),?_,ms11,out11,nw11,rfl,rfl,H11,hT11.again,fun e=>?_⟩
   · cases nw11 with
     | true=>have:=hT11.yes rfl;simp;omega
     | false=>rw [(hT11.no rfl).1,(hT11.no rfl).2.1];simp;omega
   rw [e,←hnn] at hT11
   exact hT11.fin hc
 have hk:k<n:=by omega
 have hkn:k<c.ins.length:=by omega
 have hl11:ms11.length=n:=by rw [hT11.len,hnn]
 have hlo11:out11.length=n:=by rw [hT11.leno,hnn]
 refine NIL.mk rfl ?_
 refine zaa zfj ?_
 refine zap zck H11.blk H11.c5 ?_
 refine zac zdi ty4 (i:=k) H11.mks.is (by rw [hl11];exact hk) fun b4 o4 hA4=>?_
 refine zaX ty4 hA4 (Ext.refl _) ?_
 refine zaW ?_
 have hmk11:=za5 (ms:=ms11) (i:=k) (by rw [hl11];exact hk)
 refine zb8 (fun hf=>?_) (fun hf=>?_)
 · have hnm:¬mkd ms11 k:=by rw [hmk11];simpa using hf
   refine zaf (by omega) ?_
   exact ⟨mk-1,by omega,k+1,by omega,ms11,out11,nw11,rfl,by omega,H11,hT11.skip hnm⟩
 have hym:mkd ms11 k:=by rw [hmk11];simpa using hf
 have hMk:=hT11.snd k hym
 refine zaa zaK ?_
 refine zab zdn (zak hA) H11.ext fun v65 h65=>?_
 refine zac u30 zaR h65 hkn fun b3 o3 hA3=>?_
 rw [zaS] at hA3
 refine zab zaR hA3 H11.ext fun v32 h32=>?_
 refine zct zfD rfl zaR rfl h32 H11.ext fun w12 hx12' hAI hV12=>?_
 have H12:=H11.step hx12'
 have hAB12:=zey h32 hV12 rfl
 refine NIL.mk rfl ?_
 refine zaa zdx ?_
 refine zap zbv H12.blk H12.c6 ?_
 refine zac u23 ty3 (i:=k) H12.mine.is (by rw [zag,hlo11];exact hk) fun b5 o5 hA5=>?_
 rw [zbu] at hA5
 refine zad ty3 hA5 (Ext.refl _) fun _=>?_
 have hk64:=hT11.lt0 k
 have hkz:nw11=false→zaG out11 k=zaG out k:=fun e=>by rw [(hT11.no e).2.1]
 have hkm8:∀ l,l<6→(zaG out11 k).testBit l=true→MayP c k l:=fun l hl hb=>hT11.sndm k l hkn hb
 generalize hh0:zaG out11 k=h0 at *
 refine JOIN.mk (fun us w'=>∃ (m:Nat) (ms':List Bool) (out':List Nat) (nw':Bool),us=[.int .i64 (m:Int)]∧LW w1 w' gw g h n kc ms' out' nw'∧LP c ms out nw' ms' out' k∧m<64∧CR c out k h0 m nw'∧((zaj c k).op=4→mkd ms' (eN c (agN c k))∧zem h0 (zaG out' (eN c (agN c k))))∧(∀ l,l<6→m.testBit l=true→∀ j∈zaz c k,MayP c j l)∧∀ j∈zaz c k,MetP c j) ?_ ?_
 · have haf:aft c [] k h0=if (zaj c k).op=6 then h0 ||| 2^agN c k else if (zaj c k).op=7 then zhM h0 (2^agN c k) else if (zaj c k).op=4 then (h0 &&& (tbl [] (agN c k)).1) ||| (tbl [] (agN c k)).2 else h0:=rfl
   have hgo:¬(zaj c k).op=4→∀ w',LW w1 w' gw g h n kc ms11 out11 nw11→aft c [] k h0<64→∃ (m:Nat) (ms':List Bool) (out':List Nat) (nw':Bool),[Value.int .i64 (aft c [] k h0:Nat)]=[.int .i64 (m:Int)]∧LW w1 w' gw g h n kc ms' out' nw'∧LP c ms out nw' ms' out' k∧m<64∧CR c out k h0 m nw'∧((zaj c k).op=4→mkd ms' (eN c (agN c k))∧zem h0 (zaG out' (eN c (agN c k))))∧(∀ l,l<6→m.testBit l=true→∀ j∈zaz c k,MayP c j l)∧∀ j∈zaz c k,MetP c j:=fun h4 w' hW' hlt'=>
     ⟨_,ms11,out11,nw11,rfl,hW',hT11,hlt',fun e=>⟨hkz e,fun h=>absurd h h4,fun _=>by rw [hkz e]⟩,fun h=>absurd h h4,fun l hl hb j hj=>zm8 h4 hMk hj (hkm8 l hl) hb,fun j hj=>.next hMk h4 hj⟩
   refine zaa zaL ?_
   refine zad ty3 (zat hAI) (Ext.refl _) fun _=>?_
   refine zao ?_
   refine br (fun c6=>?_) (fun c6=>?_)
   · obtain ⟨ha,_,hq⟩:=zcU hc hkn (.inl c6)
     have hp:=zia hq
     rw [if_pos c6] at haf
     refine zaa zbi ?_
     refine zad ty3 (zaJ hAI) (Ext.refl _) fun _=>?_
     rw [ha]
     refine (zgB (by omega)).mono ?_
     rintro _ w13 ⟨hx13,rfl⟩
     refine zfY (m:=h0) (n:=2^agN c k) (by omega) (by omega) ?_
     have:=hgo (by omega) w13 (H12.step hx13) (by rw [haf];exact zoX hk64 hq)
     rw [haf] at this
     exact this
   rw [if_neg c6] at haf
   refine zao ?_
   refine br (fun c7=>?_) (fun c7=>?_)
   · obtain ⟨ha,_,hq⟩:=zcU hc hkn (.inr c7)
     have hp:=zia hq
     rw [if_pos c7] at haf
     refine zaa zbi ?_
     refine zad ty3 (zaJ hAI) (Ext.refl _) fun _=>?_
     rw [ha]
     refine (zgB (by omega)).mono ?_
     rintro _ w13 ⟨hx13,rfl⟩
     refine (zlD hk64 hp).mono ?_
     rintro _ w14 ⟨hx14,rfl⟩
     rw [zkh hk64 hp]
     have:=hgo (by omega) w14 ((H12.step hx13).step hx14) (by rw [haf];exact Nat.lt_of_le_of_lt (zgb _ _) hk64)
     rw [haf] at this
     exact this
   rw [if_neg c7] at haf
   refine zao ?_
   refine br (fun c4=>?_) (fun c4=>?_)
   · obtain ⟨ha1,ha2⟩:=zd3 hc hkn (.inl c4)
     have hpe:agN c k<c.entry.length:=by rw [hc.2.1.1];exact ha2
     obtain ⟨he1,he2,_⟩:=zfF hc hpe
     obtain ⟨hz1,hz2,hz3⟩:=zgO hc ha2
     refine zaa zaO ?_
     refine zab zbv (zal hA) H12.ext fun v66 h66=>?_
     refine zaa zbi ?_
     refine zad ty3 (zaJ hAI) (Ext.refl _) fun _=>?_
     rw [ha1]
     refine zac u23 ty3 h66 hpe fun b5 o5 hA5=>?_
     rw [zbf hpe,he1] at hA5
     refine zad ty3 hA5 H12.ext fun _=>?_
     refine (zgR (i:=eN c (agN c k)) (m:=h0) H12 (by omega) hl11 hlo11 hT11.lt hk64).mono ?_
     rintro _ w13 ⟨rfl,H13,hc13⟩
     have hmE:MetP c (eN c (agN c k)):=.call hMk c4
     have hT13:=hT11.put he2 hk64 hmE fun l hl hb=>.call hMk c4 (hkm8 l hl hb)
     have hF1:=zfA (out:=out11) (m:=h0) (i:=eN c (agN c k)) (by rw [hlo11];omega)
     have hF0:mkd (ms11.set (eN c (agN c k)) true) (eN c (agN c k)):=(zbE (by rw [hl11];omega)).2 (.inr rfl)
     have hz13:zny ms11 out11 nw11 (eN c (agN c k)) h0=false→nw11=false:=znd
     generalize zny ms11 out11 nw11 (eN c (agN c k)) h0=nw13 at *
     generalize out11.set (eN c (agN c k)) (zaG out11 (eN c (agN c k)) ||| h0)=out13 at *
     generalize ms11.set (eN c (agN c k)) true=ms13 at *
     have hgI:w11.heap.size<w12.heap.size:=hV12.lt
     have hne:w11.heap.size∉[gw,g,h]:=by have h1:=H11.mks.lt g (by simp);have h2:=H11.mine.lt h (by simp);have h3:=H11.blk.lt;simp;omega
     have hAI13:=(hAB12.keep (hc13.block _ hgI hne)).at H13.ext
     refine zab zdh hA H13.ext fun v76 h76=>?_
     refine zaa zbi ?_
     refine zad ty3 (zaJ hAI13) (Ext.refl _) fun _=>?_
     rw [ha1]
     refine (zgw h76 H13.ext (p:=(agN c k:Int)) (by omega) (by omega) hc.2.1.nonneg).mono ?_
     rintro _ w14 ⟨hx14,rfl⟩
     have H14:=H13.step hx14
     rw [hz2]
     have hl13:ms13.length=n:=by rw [hT13.len,hnn]
     have hlo13:out13.length=n:=by rw [hT13.leno,hnn]
     refine NIL.mk rfl ?_
     refine zaa zfj ?_
     refine zap zck H14.blk H14.c5 ?_
     refine zac zdi ty4 (i:=zN c (agN c k)) H14.mks.is (by rw [hl13];omega) fun b6 o6 hA6=>?_
     refine zaX ty4 hA6 (Ext.refl _) ?_
     refine zaW ?_
     have hmk13:=za5 (ms:=ms13) (i:=zN c (agN c k)) (by rw [hl13];omega)
     refine zb8 (fun hf13=>?_) (fun hf13=>?_)
     · have hnm:¬mkd ms13 (zN c (agN c k)):=by rw [hmk13];simpa using hf13
       refine zaf (by omega) ?_
       refine ⟨mk-1,by omega,k+1,by omega,ms13,out13,nw13,rfl,by omega,H14,LP.close (h0:=h0) (m:=zaG out (zN c (agN c k))) hT13 (fun e=>⟨hkz (hz13 e),fun _=>rfl,fun h=>absurd c4 h⟩) (fun _=>⟨hF0,hF1⟩) fun h=>absurd (h c4) hnm⟩
     have hyz:mkd ms13 (zN c (agN c k)):=by rw [hmk13];simpa using hf13
     have hMz:=hT13.snd _ hyz
     refine NIL.mk rfl ?_
     refine zaa zdx ?_
     refine zap zbv H14.blk H14.c6 ?_
     refine zac u23 ty3 (i:=zN c (agN c k)) H14.mine.is (by rw [zag,hlo13];omega) fun b7 o7 hA7=>?_
     rw [zbu] at hA7
     refine zad ty3 hA7 (Ext.refl _) fun _=>?_
     exact ⟨zaG out13 (zN c (agN c k)),ms13,out13,nw13,rfl,H14,hT13,hT13.lt0 _,fun e=>⟨hkz (hz13 e),fun _=>by rw [(hT13.no e).2.1],fun h=>absurd c4 h⟩,fun _=>⟨hF0,hF1⟩,fun l hl hb j hj=>.back hMk c4 hMz (hT13.sndm _ l (by omega) hb) hj,fun j hj=>.back hMk c4 hMz hj⟩
   rw [if_neg c4] at haf
   have:=hgo c4 w12 H12 (by rw [haf];exact hk64)
   rw [haf] at this
   exact this
 rintro us w14 ⟨m,ms14,out14,nw14,hus,H14,hT14,hm64,hC14,hF14,hmay,hnx⟩
 simp only [List.map_cons,List.map_nil,List.cons.injEq,and_true] at hus
 rw [hus]
 refine zab zdh hA H14.ext fun v122 h122=>?_
 refine (zhk h122 H14.ext hc hkn).mono ?_
 rintro v86 w15 ⟨hx15,ho15⟩
 have H15:=H14.step hx15
 have hl2:=zd0 c k
 have hnl:=fun {j:Nat} (hj:j∈zaz c k)=>(zcF hc hkn hj).1
 have hclose:=fun {ms o:List Bool} {out0 out1:List Nat} {ag:Bool} (hP:LP c ms out0 ag o out1 k)=>LP.close (h0:=h0) (m:=m) hP
 generalize hNx:zaz c k=N at *
 refine zaq N.length (fun q us w'=>∃ (ms':List Bool) (out':List Nat) (nw':Bool),us=[.int .i64 (q:Int)]∧q≤N.length∧LW w1 w' gw g h n kc ms' out' nw'∧LP c ms out nw' ms' out' k∧CR c out k h0 m nw'∧((zaj c k).op=4→mkd ms' (eN c (agN c k))∧zem h0 (zaG out' (eN c (agN c k))))∧(∀ j∈N.take q,mkd ms' j∧zem m (zaG out' j))∧OwnI w14.heap.size w15.heap.size w' v86 (zaF N)) 0 (Nat.zero_le _) ⟨ms14,out14,nw14,rfl,Nat.zero_le _,H15,hT14,hC14,hF14,by simp,ho15.toI⟩ ?_
 rintro q mq u w16 hqm ⟨ms16,out16,nw16,hu,hql,H16,hT16,hC16,hF16,hq16,hO16⟩
 simp only [List.map_cons,List.map_nil,List.cons.injEq,and_true] at hu
 rw [hu]
 refine zae u23 hO16.is ?_
 rw [zag]
 refine zah ?_
 refine br (fun hlt=>?_) (fun hge=>?_)
 case refine_2=>
   refine zaf (by omega) ?_
   rw [List.take_of_length_le (by omega)] at hq16
   exact ⟨mk-1,by omega,k+1,by omega,ms16,out16,nw16,rfl,by omega,H16,hclose hT16 hC16 hF16 fun _=>hNx▸hq16⟩
 have hq:q<N.length:=by omega
 refine zac u23 ty3 (i:=q) hO16.is (by rw [zag];exact hq) fun b7 o7 hA7=>?_
 rw [zaY] at hA7
 refine zad ty3 hA7 (Ext.refl _) fun _=>?_
 have htq:=fun x=>zb5 hq (x:=x)
 have hj:=List.getElem_mem hq
 have hjl:=hnl hj
 have hmj:=fun l hl hb=>hmay l hl hb _ hj
 have hmet:=hnx _ hj
 generalize N[q]=j at *
 have hl16:ms16.length=n:=by rw [hT16.len,hnn]
 have hlo16:out16.length=n:=by rw [hT16.leno,hnn]
 refine (zgR (i:=j) (m:=m) H16 (by omega) hl16 hlo16 hT16.lt hm64).mono ?_
 rintro _ w17 ⟨rfl,H17,hc17⟩
 refine zaf (by omega) ?_
 have hg14:=H14.mks.lt g (by simp)
 have hh14:=H14.mine.lt h (by simp)
 have hgw14:=H14.blk.lt
 have hjo:j<out16.length:=by omega
 refine ⟨mq-1,by omega,q+1,by omega,_,_,_,rfl,by omega,H17,hT16.put hjl hm64 hmet hmj,fun e=>hC16 (znd e),fun h4=>⟨zdb (hF16 h4).1,zne hjo (hF16 h4).2⟩,fun i hi=>?_,hO16.chgF hc17 (by simp;omega)⟩
 rcases (htq i).1 hi with h | h
 · exact ⟨zdb (hq16 i h).1,zne hjo (hq16 i h).2⟩
 subst h;exact ⟨(zbE (by rw [hl16];omega)).2 (.inr rfl),zfA hjo⟩
end Go.Proofs.YtifonhplnmpgaaaGreat
namespace Go.Sh
open Rep (rep)
theorem Blk.uniq {w:World} {g e:Nat} {cs cs':List Value} (h:Blk g e w cs) (h':Blk g e w cs'):cs'=cs:=by
 unfold Blk at h h'
 rw [h] at h'
 simp only [Option.some.injEq,Obj.cells.injEq] at h'
 have:=h'.1
 simpa using this.symm
theorem zk3 {w:World} {g e:Nat} {cs ds:List Value} (h:Blk g e w (cs++ds)):w.rangeAt g 0 cs:=(zaE h.range).1
end Go.Sh
namespace Go.Proofs.YtifonhplnmpgaaaGreat
open Go Go.Sh Go.Proofs
open Rep (rep)
structure WB (W0 w:World) (b e:Nat) (c:DCode) (kc:List Value) (m:Nat) (x6 x7 x8 x9 x10:Value):Prop where
 ext:Ext W0 w
 blk:Blk b e w (kc++[.slice (some ⟨m,0,none⟩) c.ins.length c.ins.length,x6,x7,x8,x9,x10])
 code:∃ F,rep F W0 kc c
 live:Mine [m] w (.slice (some ⟨m,0,none⟩) c.ins.length c.ins.length) (zb0 c.ins.length (zgM c))
 b0:W0.heap.size≤b
 m0:W0.heap.size≤m
 ne:b≠m
section
variable {W0 w w':World} {b e m:Nat} {c:DCode} {kc:List Value} {x6 x7 x8 x9 x10:Value}
theorem WB.k5 (h:WB W0 w b e c kc m x6 x7 x8 x9 x10):kc.length=5:=by obtain ⟨F,hr⟩:=h.code;exact Rep.len hr
theorem WB.cell (h:WB W0 w b e c kc m x6 x7 x8 x9 x10) (i:Nat):(kc++[Value.slice (some ⟨m,0,none⟩) c.ins.length c.ins.length,x6,x7,x8,x9,x10])[5+i]?=[Value.slice (some ⟨m,0,none⟩) c.ins.length c.ins.length,x6,x7,x8,x9,x10][i]?:=by
 rw [List.getElem?_append_right (by rw [h.k5];omega),h.k5,Nat.add_sub_cancel_left]
theorem WB.code_at (h:WB W0 w b e c kc m x6 x7 x8 x9 x10):At w b 0 c:=by
 obtain ⟨F,hr⟩:=h.code
 exact ⟨F,kc,zbC hr h.ext,zk3 h.blk⟩
theorem WB.wl (h:WB W0 w b e c kc m x6 x7 x8 x9 x10):WL w b c:=⟨h.code_at,zds h.blk (h.cell 0) h.live.is⟩
theorem WB.step (h:WB W0 w b e c kc m x6 x7 x8 x9 x10) (hx:Ext w w'):WB W0 w' b e c kc m x6 x7 x8 x9 x10:=⟨h.ext.trans hx,h.blk.ext hx,h.code,h.live.ext hx,h.b0,h.m0,h.ne⟩
theorem WB.chg {F:List Nat} (h:WB W0 w b e c kc m x6 x7 x8 x9 x10) (hc:Chg F w w') (hF:∀ x∈F,W0.heap.size≤x∧x≠b∧x≠m):WB W0 w' b e c kc m x6 x7 x8 x9 x10:=
 ⟨h.ext.chgF hc fun x hx=>(hF x hx).1,h.blk.chgF hc fun hb=>(hF b hb).2.1 rfl,h.code,h.live.keep fun x hx=>by
   simp only [List.mem_cons,List.not_mem_nil,or_false] at hx;subst hx
   exact hc.block x (h.live.lt x (by simp)) fun hm=>(hF x hm).2.2 rfl,h.b0,h.m0,h.ne⟩
theorem WB.cells {y6 y7 y8 y9 y10:Value} (h:WB W0 w b e c kc m x6 x7 x8 x9 x10) (hc:ChgI b (b+1) w w') (hB:Blk b e w' (kc++[.slice (some ⟨m,0,none⟩) c.ins.length c.ins.length,y6,y7,y8,y9,y10])):WB W0 w' b e c kc m y6 y7 y8 y9 y10:=
 ⟨h.ext.chgI hc h.b0,hB,h.code,h.live.keep fun x hx=>by
   simp only [List.mem_cons,List.not_mem_nil,or_false] at hx;subst hx
   exact hc.block x (h.live.lt x (by simp)) (by have:=h.ne;omega),h.b0,h.m0,h.ne⟩
theorem WB.set (h:WB W0 w b e c kc m x6 x7 x8 x9 x10) (i:Nat) (v:Value):(kc++[Value.slice (some ⟨m,0,none⟩) c.ins.length c.ins.length,x6,x7,x8,x9,x10]).set (5+i) v=kc++[Value.slice (some ⟨m,0,none⟩) c.ins.length c.ins.length,x6,x7,x8,x9,x10].set i v:=by
 rw [List.set_append_right _ _ (by rw [h.k5];omega),h.k5,Nat.add_sub_cancel_left]
end
def CS (c:DCode) (out:List Nat) (D:Nat→Nat→Prop):Prop:=out.length=c.procs.length∧∀ q,q<c.procs.length→zaG out q=zbF (D q) c.procs.length
theorem CS.mono {c:DCode} {out:List Nat} {D D':Nat→Nat→Prop} (h:CS c out D) (hD:∀ q r,q<c.procs.length→r<c.procs.length→(D q r↔D' q r)):CS c out D':=⟨h.1,fun q hq=>by rw [h.2 q hq];exact zaU fun r hr=>hD q r hq hr⟩
theorem CS.set {c:DCode} {out:List Nat} {D D':Nat→Nat→Prop} (h:CS c out D) {p a:Nat} (hp:p<c.procs.length) (ha:a<c.procs.length) (hD:∀ q r,D' q r↔D q r∨(q=p∧r=a)):CS c (out.set p (zaG out p ||| 2^a)) D':=by
 refine ⟨by simp [h.1],fun q hq=>?_⟩
 rw [zc8 (by rw [h.1];exact hp)]
 split
 · rename_i e
   subst e
   rw [h.2 p hp]
   refine zcM fun r=>?_
   rw [Nat.testBit_or,Nat.testBit_two_pow,Bool.or_eq_true,zaA,decide_eq_true_eq,hD]
   constructor
   · rintro (⟨h1,h2⟩ | rfl)
     · exact ⟨h1,.inl h2⟩
     exact ⟨ha,.inr ⟨rfl,rfl⟩⟩
   rintro ⟨h1,h2 | ⟨_,h2⟩⟩
   · exact .inl ⟨h1,h2⟩
   exact .inr h2.symm
 rename_i e
 rw [h.2 q hq]
 exact zaU fun r hr=>⟨fun h=>(hD q r).2 (.inl h),fun h=>((hD q r).1 h).resolve_right fun h=>e h.1.symm⟩
theorem CS.lt0 {c:DCode} {out:List Nat} {D:Nat→Nat→Prop} (h:CS c out D) (h8:c.procs.length≤8) {q:Nat} (hq:q<c.procs.length):zaG out q<256:=by rw [h.2 q hq];exact zcI h8
theorem CS.zero {c:DCode} {D:Nat→Nat→Prop} (hD:∀ q r,¬D q r):CS c (List.replicate c.procs.length 0) D:=⟨by simp,fun q hq=>by
 rw [←zbI (by simp;exact hq),List.getElem_replicate]
 exact zcM fun r=>by simp [hD]⟩
theorem CS.eq_cls {c:DCode} {out:List Nat} {op:Int} (h:CS c out fun q r=>zjz c q op r):out=cls c op:=by
 refine List.ext_getElem (by rw [h.1,zft]) fun i h1 h2=>?_
 have hi:i<c.procs.length:=by rw [←h.1];exact h1
 rw [zbI h1,zbI h2,zo1 hi,h.2 i hi]
def zlG (j:Nat):Nat:=if j=11 then 6 else if j=14 then 7 else 8
def zp3 (j:Nat):Prop:=j=11∨j=14∨j=17
def fcB (W:World) (b e:Nat) (hd:List Value) (t9 t10:Value) (w:World):Prop:=ChgI b (b+1) W w∧∃ x6 x7 x8,Blk b e w (hd++[x6,x7,x8,t9,t10])
def fcR (b e:Nat) (j:Nat) (w w':World):Prop:=(zp3 j∧ChgI b (b+1) w w'∧∀ cs,Blk b e w cs→∃ v,Blk b e w' (cs.set (zlG j) v))∨(¬zp3 j∧Ext w w')
def fcQ (b e n:Nat):ParQ:=fun i u T w=>match i with
 | 0=>u 17=.pointer (some ⟨b,0,none⟩)
 | 1=>u 18=.pointer (some ⟨b,0,none⟩)
 | 2=>u 19=.pointer (some ⟨b,0,none⟩)
 | 3=>u 20=.int .i64 (n:Int)
 | 4=>∃ g,u 21=.slice (some ⟨g,0,none⟩) n n∧(T 4).1≤g∧g<(T 4).2∧g≠b∧Mine [g] w (.slice (some ⟨g,0,none⟩) n n) (zaF (List.replicate n 0))
 | 5=>u 22=.int .i64 (n:Int)
 | 6=>∃ g,u 23=.slice (some ⟨g,0,none⟩) n n∧(T 6).1≤g∧g<(T 6).2∧g≠b∧Mine [g] w (.slice (some ⟨g,0,none⟩) n n) (zaF (List.replicate n 0))
 | 7=>u 24=.int .i64 (n:Int)
 | 8=>∃ g,u 25=.slice (some ⟨g,0,none⟩) n n∧(T 8).1≤g∧g<(T 8).2∧g≠b∧Mine [g] w (.slice (some ⟨g,0,none⟩) n n) (zaF (List.replicate n 0))
 | 9=>u 26=.pointer (some ⟨b,0,none⟩)
 | 10=>u 27=.pointer (some ⟨b,0+6,none⟩)
 | 11=>∃ cs,Blk b e w cs∧cs[6]?=some (u 21)
 | 12=>u 28=.pointer (some ⟨b,0,none⟩)
 | 13=>u 29=.pointer (some ⟨b,0+7,none⟩)
 | 14=>∃ cs,Blk b e w cs∧cs[7]?=some (u 23)
 | 15=>u 30=.pointer (some ⟨b,0,none⟩)
 | 16=>u 31=.pointer (some ⟨b,0+8,none⟩)
 | 17=>∃ cs,Blk b e w cs∧cs[8]?=some (u 25)
 | _=>True
section
variable {b e n:Nat} {w w':World}
theorem fcR.sz {j:Nat} (h:fcR b e j w w'):w.heap.size≤w'.heap.size:=by
 rcases h with ⟨_,h,_⟩ | ⟨_,h⟩
 · exact h.size
 exact h.size
theorem fcR.chg {j:Nat} (h:fcR b e j w w'):ChgI b (b+1) w w':=by
 rcases h with ⟨_,h,_⟩ | ⟨_,h⟩
 · exact h
 exact h.toI
theorem fcR.mine {j g:Nat} {l:List Int} {v:Value} (h:fcR b e j w w') (hg:g≠b) (hm:Mine [g] w v l):Mine [g] w' v l:=hm.keep fun x hx=>by
 simp only [List.mem_cons,List.not_mem_nil,or_false] at hx;subst hx
 exact h.chg.block x (hm.lt x (by simp)) (by omega)
theorem fcR.cell {j:Nat} {u:Value} {k:Nat} (h:fcR b e j w w') (hij:zp3 j→zlG j≠k) (hc:∃ cs,Blk b e w cs∧cs[k]?=some u):∃ cs,Blk b e w' cs∧cs[k]?=some u:=by
 obtain ⟨cs,hB,hk⟩:=hc
 rcases h with ⟨hs,_,h⟩ | ⟨_,h⟩
 · obtain ⟨v,hv⟩:=h cs hB
   exact ⟨_,hv,by rw [List.getElem?_set_ne (hij hs)];exact hk⟩
 exact ⟨cs,hB.ext h,hk⟩
theorem fcB.step {W:World} {hd:List Value} {t9 t10:Value} {j:Nat} (h6:hd.length=6) (h:fcB W b e hd t9 t10 w) (hR:fcR b e j w w'):fcB W b e hd t9 t10 w':=by
 obtain ⟨hc,x6,x7,x8,hB⟩:=h
 refine ⟨hc.trans hR.chg,?_⟩
 rcases hR with ⟨hs,_,hR⟩ | ⟨_,hR⟩
 · obtain ⟨v,hv⟩:=hR _ hB
   rcases hs with rfl | rfl | rfl
   · refine ⟨v,x7,x8,?_⟩
     rw [List.set_append_right _ _ (by rw [h6];decide),h6] at hv
     exact hv
   · refine ⟨x6,v,x8,?_⟩
     rw [List.set_append_right _ _ (by rw [h6];decide),h6] at hv
     exact hv
   refine ⟨x6,x7,v,?_⟩
   rw [List.set_append_right _ _ (by rw [h6];decide),h6] at hv
   exact hv
 exact ⟨x6,x7,x8,hB.ext hR⟩
theorem fcR.ext {j:Nat} (hj:¬zp3 j) (hx:Ext w w'):fcR b e j w w':=.inr ⟨hj,hx⟩
end
theorem zig {W:World} {b e n j:Nat} {hd:List Value} {t9 t10:Value} {w:World} {g:Nat} {K:World→Prop} (hs:zp3 j) (h6:hd.length=6) (hB:fcB W b e hd t9 t10 w) (k:∀ w',fcR b e j w w'→(∃ cs,Blk b e w' cs∧cs[zlG j]?=some (.slice (some ⟨g,0,none⟩) n n))→K w') :
   OPU Tryz.prog (Instr.storeAt 23 (.pointer (some ⟨b,0+zlG j,none⟩)) (.slice (some ⟨g,0,none⟩) n n)) w K:=by
 obtain ⟨hc,x6,x7,x8,hB⟩:=hB
 have hlt:zlG j<(hd++[x6,x7,x8,t9,t10]).length:=by
   rw [List.length_append,h6]
   show zlG j<11
   rcases hs with rfl | rfl | rfl<;>decide
 rw [Nat.zero_add]
 refine zcg (α:=Raw) (lo:=0) (hi:=0) zbv rfl rfl hB hlt (zci rfl) fun w2 hc2 hB2=>?_
 have hR:fcR b e j w w2:=.inl ⟨hs,hc2,fun cs hcs=>by
   have:=hB.uniq hcs
   subst this
   exact ⟨_,hB2⟩⟩
 exact k w2 hR ⟨_,hB2,by rw [List.getElem?_set_self hlt]⟩
theorem zpJ {sets:List Nat} {r:Nat} (l:List Int):(orL sets l).testBit r=true↔∃ x∈l,(zaG sets x.toNat).testBit r=true:=by
 have key:∀ (l:List Int) (a:Nat),(l.foldl (fun a i=>a ||| sets.getD i.toNat 0) a).testBit r=true↔a.testBit r=true∨∃ x∈l,(zaG sets x.toNat).testBit r=true:=fun l=>by
   induction l with
   | nil=>simp
   | cons i l ih=>
     intro a
     rw [List.foldl_cons,ih,Nat.testBit_or,Bool.or_eq_true,or_assoc]
     refine or_congr Iff.rfl ?_
     simp only [List.mem_cons,exists_eq_or_imp]
     exact Iff.rfl
 have:=key l 0
 simpa [orL] using this
theorem zfR {sets:List Nat} {m n r:Nat} (hm:m<2^n) (hn:n≤62):(orL sets (zba m)).testBit r=true↔∃ i,i<n∧m.testBit i=true∧(zaG sets i).testBit r=true:=by
 rw [zpJ,zhN hm (by omega)]
 constructor
 · rintro ⟨x,hx,h⟩
   obtain ⟨i,h1,rfl,h3⟩:=zb4.1 hx
   exact ⟨i,h1,h3,by simpa using h⟩
 rintro ⟨i,h1,h2,h3⟩
 exact ⟨(i:Int),zb4.2 ⟨i,h1,rfl,h2⟩,by simpa using h3⟩
theorem zkj {m n:Nat} (h:∀ r,m.testBit r=true→r<n):m<2^n:=Nat.lt_pow_two_of_testBit _ fun i hi=>by
 cases e:m.testBit i
 · rfl
 have:=h i e;omega
def F79 (a0:Value) (w:World) (R:VW):Prop:=
 NIL a0 <|
 rF 114 a0 0 w fun x13=>
 rF 32 x13 2 w fun x14=>
 rL 22 x14 w fun x15=>
 rN 22 3 x15 w fun x16=>
 (fun w0=>GPAR w0 [[(0,17)],[(1,18)],[(2,19)],[(3,20)],[(4,21),(3,20),(3,20)],[(5,22)],[(6,23),(5,22),(5,22)],[(7,24)],[(8,25),(7,24),(7,24)],[(9,26),(0,17),(0,17),(3,20),(4,21)],[(10,27),(9,26),(0,17),(3,20),(4,21)],[(10,27),(4,21),(0,17),(3,20),(4,21)],[(12,28),(1,18),(0,17),(1,18),(3,20),(4,21),(5,22),(6,23),(9,26),(10,27)],[(13,29),(12,28),(0,17),(1,18),(3,20),(4,21),(5,22),(6,23),(9,26),(10,27)],[(13,29),(6,23),(0,17),(1,18),(3,20),(4,21),(5,22),(6,23),(9,26),(10,27)],[(15,30),(2,19),(0,17),(1,18),(2,19),(3,20),(4,21),(5,22),(6,23),(7,24),(8,25),(9,26),(10,27),(12,28),(13,29)],[(16,31),(15,30),(0,17),(1,18),(2,19),(3,20),(4,21),(5,22),(6,23),(7,24),(8,25),(9,26),(10,27),(12,28),(13,29)],[(16,31),(8,25),(0,17),(1,18),(2,19),(3,20),(4,21),(5,22),(6,23),(7,24),(8,25),(9,26),(10,27),(12,28),(13,29)]] (fun B R Q=>
 (∀ (u1:Env) (T:Nat→Nat×Nat) (w:World),B w→w0.heap.size≤w.heap.size→zby [] w0.heap.size w.heap.size T→(True)→(fun w1=>R 0 w1 w∧Q 0 (upd u1 17 a0) (zcC T 0 (w1.heap.size,w.heap.size)) w) w) ∧
 (∀ (u1:Env) (T:Nat→Nat×Nat) (w:World),B w→w0.heap.size≤w.heap.size→zby [] w0.heap.size w.heap.size T→(True)→(fun w1=>R 1 w1 w∧Q 1 (upd u1 18 a0) (zcC T 1 (w1.heap.size,w.heap.size)) w) w) ∧
 (∀ (u1:Env) (T:Nat→Nat×Nat) (w:World),B w→w0.heap.size≤w.heap.size→zby [] w0.heap.size w.heap.size T→(True)→(fun w1=>R 2 w1 w∧Q 2 (upd u1 19 a0) (zcC T 2 (w1.heap.size,w.heap.size)) w) w) ∧
 (∀ (u1:Env) (T:Nat→Nat×Nat) (w:World),B w→w0.heap.size≤w.heap.size→zby [] w0.heap.size w.heap.size T→(True)→(fun w1=>R 3 w1 w∧Q 3 (upd u1 20 x16) (zcC T 3 (w1.heap.size,w.heap.size)) w) w) ∧
 (∀ (u1:Env) (T:Nat→Nat×Nat) (w:World),B w→w0.heap.size≤w.heap.size→zby [3,3] w0.heap.size w.heap.size T→(Q 3 u1 T w∧Q 3 u1 T w∧True)→(fun w1=>oP (Instr.makeSlice 23 (u1 20) (u1 20)) w fun x21 w=>
 R 4 w1 w∧Q 4 (upd u1 21 x21) (zcC T 4 (w1.heap.size,w.heap.size)) w) w) ∧
 (∀ (u1:Env) (T:Nat→Nat×Nat) (w:World),B w→w0.heap.size≤w.heap.size→zby [] w0.heap.size w.heap.size T→(True)→(fun w1=>R 5 w1 w∧Q 5 (upd u1 22 x16) (zcC T 5 (w1.heap.size,w.heap.size)) w) w) ∧
 (∀ (u1:Env) (T:Nat→Nat×Nat) (w:World),B w→w0.heap.size≤w.heap.size→zby [5,5] w0.heap.size w.heap.size T→(Q 5 u1 T w∧Q 5 u1 T w∧True)→(fun w1=>oP (Instr.makeSlice 23 (u1 22) (u1 22)) w fun x23 w=>
 R 6 w1 w∧Q 6 (upd u1 23 x23) (zcC T 6 (w1.heap.size,w.heap.size)) w) w) ∧
 (∀ (u1:Env) (T:Nat→Nat×Nat) (w:World),B w→w0.heap.size≤w.heap.size→zby [] w0.heap.size w.heap.size T→(True)→(fun w1=>R 7 w1 w∧Q 7 (upd u1 24 x16) (zcC T 7 (w1.heap.size,w.heap.size)) w) w) ∧
 (∀ (u1:Env) (T:Nat→Nat×Nat) (w:World),B w→w0.heap.size≤w.heap.size→zby [7,7] w0.heap.size w.heap.size T→(Q 7 u1 T w∧Q 7 u1 T w∧True)→(fun w1=>oP (Instr.makeSlice 23 (u1 24) (u1 24)) w fun x25 w=>
 R 8 w1 w∧Q 8 (upd u1 25 x25) (zcC T 8 (w1.heap.size,w.heap.size)) w) w) ∧
 (∀ (u1:Env) (T:Nat→Nat×Nat) (w:World),B w→w0.heap.size≤w.heap.size→zby [0,0,3,4] w0.heap.size w.heap.size T→(Q 0 u1 T w∧Q 0 u1 T w∧Q 3 u1 T w∧Q 4 u1 T w∧True)→(fun w1=>NIL (u1 17) <|
 R 9 w1 w∧Q 9 (upd u1 26 (u1 17)) (zcC T 9 (w1.heap.size,w.heap.size)) w) w) ∧
 (∀ (u1:Env) (T:Nat→Nat×Nat) (w:World),B w→w0.heap.size≤w.heap.size→zby [9,0,3,4] w0.heap.size w.heap.size T→(Q 9 u1 T w∧Q 0 u1 T w∧Q 3 u1 T w∧Q 4 u1 T w∧True)→(fun w1=>rF 114 (u1 26) 2 w fun x27=>
 R 10 w1 w∧Q 10 (upd u1 27 x27) (zcC T 10 (w1.heap.size,w.heap.size)) w) w) ∧
 (∀ (u1:Env) (T:Nat→Nat×Nat) (w:World),B w→w0.heap.size≤w.heap.size→zby [10,4,0,3,4] w0.heap.size w.heap.size T→(Q 10 u1 T w∧Q 4 u1 T w∧Q 0 u1 T w∧Q 3 u1 T w∧Q 4 u1 T w∧True)→(fun w1=>oS 23 (u1 27) (u1 21) w fun w=>
 R 11 w1 w∧Q 11 u1 (zcC T 11 (w1.heap.size,w.heap.size)) w) w) ∧
 (∀ (u1:Env) (T:Nat→Nat×Nat) (w:World),B w→w0.heap.size≤w.heap.size→zby [1,0,1,3,4,5,6,9,10,11] w0.heap.size w.heap.size T→(Q 1 u1 T w∧Q 0 u1 T w∧Q 1 u1 T w∧Q 3 u1 T w∧Q 4 u1 T w∧Q 5 u1 T w∧Q 6 u1 T w∧Q 9 u1 T w∧Q 10 u1 T w∧Q 11 u1 T w∧True)→(fun w1=>NIL (u1 18) <|
 R 12 w1 w∧Q 12 (upd u1 28 (u1 18)) (zcC T 12 (w1.heap.size,w.heap.size)) w) w) ∧
 (∀ (u1:Env) (T:Nat→Nat×Nat) (w:World),B w→w0.heap.size≤w.heap.size→zby [12,0,1,3,4,5,6,9,10,11] w0.heap.size w.heap.size T→(Q 12 u1 T w∧Q 0 u1 T w∧Q 1 u1 T w∧Q 3 u1 T w∧Q 4 u1 T w∧Q 5 u1 T w∧Q 6 u1 T w∧Q 9 u1 T w∧Q 10 u1 T w∧Q 11 u1 T w∧True)→(fun w1=>rF 114 (u1 28) 3 w fun x29=>
 R 13 w1 w∧Q 13 (upd u1 29 x29) (zcC T 13 (w1.heap.size,w.heap.size)) w) w) ∧
 (∀ (u1:Env) (T:Nat→Nat×Nat) (w:World),B w→w0.heap.size≤w.heap.size→zby [13,6,11,0,1,3,4,5,6,9,10,11] w0.heap.size w.heap.size T→(Q 13 u1 T w∧Q 6 u1 T w∧Q 11 u1 T w∧Q 0 u1 T w∧Q 1 u1 T w∧Q 3 u1 T w∧Q 4 u1 T w∧Q 5 u1 T w∧Q 6 u1 T w∧Q 9 u1 T w∧Q 10 u1 T w∧Q 11 u1 T w∧True)→(fun w1=>oS 23 (u1 29) (u1 23) w fun w=>
 R 14 w1 w∧Q 14 u1 (zcC T 14 (w1.heap.size,w.heap.size)) w) w) ∧
 (∀ (u1:Env) (T:Nat→Nat×Nat) (w:World),B w→w0.heap.size≤w.heap.size→zby [2,0,1,2,3,4,5,6,7,8,9,10,11,12,13,14] w0.heap.size w.heap.size T→(Q 2 u1 T w∧Q 0 u1 T w∧Q 1 u1 T w∧Q 2 u1 T w∧Q 3 u1 T w∧Q 4 u1 T w∧Q 5 u1 T w∧Q 6 u1 T w∧Q 7 u1 T w∧Q 8 u1 T w∧Q 9 u1 T w∧Q 10 u1 T w∧Q 11 u1 T w∧Q 12 u1 T w∧Q 13 u1 T w∧Q 14 u1 T w∧True)→(fun w1=>NIL (u1 19) <|
 R 15 w1 w∧Q 15 (upd u1 30 (u1 19)) (zcC T 15 (w1.heap.size,w.heap.size)) w) w) ∧
 (∀ (u1:Env) (T:Nat→Nat×Nat) (w:World),B w→w0.heap.size≤w.heap.size→zby [15,0,1,2,3,4,5,6,7,8,9,10,11,12,13,14] w0.heap.size w.heap.size T→(Q 15 u1 T w∧Q 0 u1 T w∧Q 1 u1 T w∧Q 2 u1 T w∧Q 3 u1 T w∧Q 4 u1 T w∧Q 5 u1 T w∧Q 6 u1 T w∧Q 7 u1 T w∧Q 8 u1 T w∧Q 9 u1 T w∧Q 10 u1 T w∧Q 11 u1 T w∧Q 12 u1 T w∧Q 13 u1 T w∧Q 14 u1 T w∧True)→(fun w1=>rF 114 (u1 30) 4 w fun x31=>
 R 16 w1 w∧Q 16 (upd u1 31 x31) (zcC T 16 (w1.heap.size,w.heap.size)) w) w) ∧
 (∀ (u1:Env) (T:Nat→Nat×Nat) (w:World),B w→w0.heap.size≤w.heap.size→zby [16,8,14,0,1,2,3,4,5,6,7,8,9,10,11,12,13,14] w0.heap.size w.heap.size T→(Q 16 u1 T w∧Q 8 u1 T w∧Q 14 u1 T w∧Q 0 u1 T w∧Q 1 u1 T w∧Q 2 u1 T w∧Q 3 u1 T w∧Q 4 u1 T w∧Q 5 u1 T w∧Q 6 u1 T w∧Q 7 u1 T w∧Q 8 u1 T w∧Q 9 u1 T w∧Q 10 u1 T w∧Q 11 u1 T w∧Q 12 u1 T w∧Q 13 u1 T w∧Q 14 u1 T w∧True)→(fun w1=>oS 23 (u1 31) (u1 25) w fun w=>
 R 17 w1 w∧Q 17 u1 (zcC T 17 (w1.heap.size,w.heap.size)) w) w) ∧
 True)
 (fun B Q=>∀ (u1:Env) (T:Nat→Nat×Nat) (w:World),B w→w0.heap.size≤w.heap.size→zby [0,1,2,3,4,5,6,7,8,9,10,11,12,13,14,15,16,17] w0.heap.size w.heap.size T→(Q 0 u1 T w∧Q 1 u1 T w∧Q 2 u1 T w∧Q 3 u1 T w∧Q 4 u1 T w∧Q 5 u1 T w∧Q 6 u1 T w∧Q 7 u1 T w∧Q 8 u1 T w∧Q 9 u1 T w∧Q 10 u1 T w∧Q 11 u1 T w∧Q 12 u1 T w∧Q 13 u1 T w∧Q 14 u1 T w∧Q 15 u1 T w∧Q 16 u1 T w∧Q 17 u1 T w∧True) →
 LOOPI [33] [(iV 0)] w fun u3 w next3=>
 rC (u3 33) x16 w fun x34=>
 BR x34
 (cL 137 [a0,(u3 33)] w fun x38 w=>
 rN 23 3 x38 w fun x39=>
 LOOPI [40] [(iV 0)] w fun u6 w next6=>
 rC (u6 40) x39 w fun x41=>
 BR x41
 (rX 23 x38 (u6 40) w fun x42=>
 rL 3 x42 w fun x43=>
 NIL a0 <|
 rF 114 a0 0 w fun x46=>
 rF 32 x46 4 w fun x47=>
 rL 30 x47 w fun x48=>
 rX 30 x48 x43 w fun x50=>
 rL 111 x50 w fun x51=>
 oP (Instr.alloc 111 true (.tuple #[])) w fun x6 w=>
 oS 111 x6 x51 w fun w=>
 JOIN [] (fun J11=>
 rF 111 x6 0 w fun x52=>
 rL 3 x52 w fun x53=>
 rB .eql 3 T0 U0 x53 (iV 4) w fun x54=>
 BR x54
 ((fun w=>NIL a0 <|
 rF 114 a0 2 w fun x57=>
 rL 23 x57 w fun x58=>
 rX 23 x58 (u3 33) w fun x60=>
 rL 3 x60 w fun x61=>
 rF 111 x6 1 w fun x62=>
 rL 3 x62 w fun x63=>
 rD (convert 3 121 x63) w fun x64=>
 rB .shl 3 U0 T0 (iV 1) x64 w fun x65=>
 rB .or 3 T0 T0 x61 x65 w fun x66=>
 rX 23 x58 (u3 33) w fun x67=>
 oS 3 x67 x66 w fun w=>
 J11 [] w) (World.drew1 w))
 (J11 [] w)) (fun u11 w=>
 rF 111 x6 0 w fun x68=>
 rL 3 x68 w fun x69=>
 rB .eql 3 T0 U0 x69 (iV 5) w fun x70=>
 BR x70
 ((fun w=>NIL a0 <|
 rF 114 a0 3 w fun x73=>
 rL 23 x73 w fun x74=>
 rX 23 x74 (u3 33) w fun x76=>
 rL 3 x76 w fun x77=>
 rF 111 x6 1 w fun x78=>
 rL 3 x78 w fun x79=>
 rD (convert 3 121 x79) w fun x80=>
 rB .shl 3 U0 T0 (iV 1) x80 w fun x81=>
 rB .or 3 T0 T0 x77 x81 w fun x82=>
 rX 23 x74 (u3 33) w fun x83=>
 oS 3 x83 x82 w fun w=>
 rA (u6 40) (iV 1) w fun x84=>
 next6 [x84] w) (World.drew1 w))
 (rA (u6 40) (iV 1) w fun x84=>
 next6 [x84] w)))
 (rA (u3 33) (iV 1) w fun x85=>
 next3 [x85] w))
 (LOOPI [87] [(iV 0)] w fun u16 w next16=>
 rC (u16 87) x16 w fun x88=>
 BR x88
 (rD (convert 3 121 (u16 87)) w fun x91=>
 rB .shl 3 U0 T0 (iV 1) x91 w fun x92=>
 LOOPI [8,9] [x92,(Value.bool true)] w fun u20 w next20=>
 BR (u20 9)
 (NIL a0 <|
 rF 114 a0 2 w fun x97=>
 rL 23 x97 w fun x98=>
 cL 138 [x98,(u20 8)] w fun x100 w=>
 rB .or 3 T0 T0 (u20 8) x100 w fun x101=>
 rB .neq 3 T0 T0 x101 (u20 8) w fun x104=>
 next20 [x101,x104] w)
 (NIL a0 <|
 rF 114 a0 4 w fun x108=>
 rL 23 x108 w fun x109=>
 rX 23 x109 (u16 87) w fun x112=>
 oS 3 x112 (u20 8) w fun w=>
 rA (u16 87) (iV 1) w fun x113=>
 next16 [x113] w))
 (R (Value.tuple #[]) w)))) (World.drew1 w)
def cfg79:Cfg:={ ext:=extL,joins:=[(11,295143401579725455360,[])],loops:=[(3,77371252455336258591260776,[33]),(6,38685626227667034078969952,[40]),(16,20769187279396805603449450954491776,[87]),(20,81119734894292398653589812152064,[8,9])],draws:=[(10,[0,1,2,3,4,5,6,7,8,9,10,11,12,13],0),(12,[0,1,2,3,4,5,6,7,8,9,10,11,12,13],0)],pars:=[],gpars:=[(1,4294836224)] }
theorem F79_call {a0:Value} {w:World} {R:VW} (h:F79 a0 w R):cL 79 [a0] w R:=co (g:=cfg79) Tryz.func79 (by kernel_rfl) (by kernel_rfl) (by kernel_rfl) h
open Rep (rep)
abbrev sl (g n:Nat):Value:=.slice (some ⟨g,0,none⟩) n n
structure FC (W0 w:World) (b e:Nat) (c:DCode) (kc:List Value) (m g6 g7 g8:Nat) (c6 c7 c8:List Nat) (x9 x10:Value):Prop where
 wb:WB W0 w b e c kc m (sl g6 c.procs.length) (sl g7 c.procs.length) (sl g8 c.procs.length) x9 x10
 m6:Mine [g6] w (sl g6 c.procs.length) (zaF c6)
 m7:Mine [g7] w (sl g7 c.procs.length) (zaF c7)
 m8:Mine [g8] w (sl g8 c.procs.length) (zaF c8)
 n6:W0.heap.size≤g6∧g6≠b∧g6≠m
 n7:W0.heap.size≤g7∧g7≠b∧g7≠m
 n8:W0.heap.size≤g8∧g8≠b∧g8≠m
 d67:g6≠g7
 d68:g6≠g8
 d78:g7≠g8
section
variable {W0 w w':World} {b e m g6 g7 g8:Nat} {c:DCode} {kc:List Value} {c6 c7 c8:List Nat} {x9 x10:Value}
theorem zcH {F:List Nat} {g:Nat} {v:Value} {l:List Int} (hm:Mine [g] w v l) (hc:Chg F w w') (hg:g∉F):Mine [g] w' v l:=hm.keep fun x hx=>by
 simp only [List.mem_cons,List.not_mem_nil,or_false] at hx;subst hx
 exact hc.block x (hm.lt x (by simp)) hg
theorem FC.step (h:FC W0 w b e c kc m g6 g7 g8 c6 c7 c8 x9 x10) (hx:Ext w w'):FC W0 w' b e c kc m g6 g7 g8 c6 c7 c8 x9 x10:=⟨h.wb.step hx,h.m6.ext hx,h.m7.ext hx,h.m8.ext hx,h.n6,h.n7,h.n8,h.d67,h.d68,h.d78⟩
theorem FC.set6 {i v:Nat} (h:FC W0 w b e c kc m g6 g7 g8 c6 c7 c8 x9 x10) (hc:Chg [g6] w w') (hm:Mine [g6] w' (sl g6 c.procs.length) ((zaF c6).set i (v:Int))):FC W0 w' b e c kc m g6 g7 g8 (c6.set i v) c7 c8 x9 x10:=
 ⟨h.wb.chg hc (by simp [h.n6]),by rw [ze7];exact hm,zcH h.m7 hc (by simp [Ne.symm h.d67]),zcH h.m8 hc (by simp [Ne.symm h.d68]),h.n6,h.n7,h.n8,h.d67,h.d68,h.d78⟩
theorem FC.set7 {i v:Nat} (h:FC W0 w b e c kc m g6 g7 g8 c6 c7 c8 x9 x10) (hc:Chg [g7] w w') (hm:Mine [g7] w' (sl g7 c.procs.length) ((zaF c7).set i (v:Int))):FC W0 w' b e c kc m g6 g7 g8 c6 (c7.set i v) c8 x9 x10:=
 ⟨h.wb.chg hc (by simp [h.n7]),zcH h.m6 hc (by simp [h.d67]),by rw [ze7];exact hm,zcH h.m8 hc (by simp [Ne.symm h.d78]),h.n6,h.n7,h.n8,h.d67,h.d68,h.d78⟩
theorem FC.set8 {i v:Nat} (h:FC W0 w b e c kc m g6 g7 g8 c6 c7 c8 x9 x10) (hc:Chg [g8] w w') (hm:Mine [g8] w' (sl g8 c.procs.length) ((zaF c8).set i (v:Int))):FC W0 w' b e c kc m g6 g7 g8 c6 c7 (c8.set i v) x9 x10:=
 ⟨h.wb.chg hc (by simp [h.n8]),zcH h.m6 hc (by simp [h.d68]),zcH h.m7 hc (by simp [h.d78]),by rw [ze7];exact hm,h.n6,h.n7,h.n8,h.d67,h.d68,h.d78⟩
end
theorem WB.ins {W0 w:World} {b e m:Nat} {c:DCode} {kc:List Value} {x6 x7 x8 x9 x10:Value} (h:WB W0 w b e c kc m x6 x7 x8 x9 x10):∃ v,(kc++[Value.slice (some ⟨m,0,none⟩) c.ins.length c.ins.length,x6,x7,x8,x9,x10])[0+0+4]?=some v∧Is W0 v c.ins:=by
 obtain ⟨F,hr⟩:=h.code
 obtain ⟨F0,c0,F1,c1,F2,c2,F3,c3,F4,c4,rfl,rfl,⟨_,_,_,_,rfl,_⟩,⟨_,_,_,_,rfl,_⟩,⟨_,_,_,_,rfl,_⟩,⟨_,_,_,_,rfl,_⟩,hr4⟩:=zgn hr
 have hr4':=hr4
 obtain ⟨_,_,_,_,rfl,_⟩:=hr4
 exact ⟨_,rfl,_,_,hr4',rfl⟩
def fcD (c:DCode) (op:Int) (p:Nat) (M:List Nat) (j:Nat):Nat→Nat→Prop:=fun q r=>(q<p∧zjz c q op r)∨(q=p∧∃ i∈M.take j,(zaj c i).op=op∧agN c i=r)
theorem zo6 {c:DCode} {op:Int} {p:Nat} {M:List Nat} {j i:Nat} (htj:∀ x,x∈M.take (j+1)↔x∈M.take j∨x=i) (hn:¬(zaj c i).op=op) (q r:Nat):fcD c op p M j q r↔fcD c op p M (j+1) q r:=by
 unfold fcD
 refine or_congr Iff.rfl (and_congr Iff.rfl ?_)
 constructor
 · rintro ⟨x,hx,h⟩;exact ⟨x,(htj x).2 (.inl hx),h⟩
 rintro ⟨x,hx,h⟩
 rcases (htj x).1 hx with hx | rfl
 · exact ⟨x,hx,h⟩
 exact absurd h.1 hn
theorem zng {c:DCode} {op:Int} {p:Nat} {M:List Nat} {j i:Nat} (htj:∀ x,x∈M.take (j+1)↔x∈M.take j∨x=i) (hy:(zaj c i).op=op) (q r:Nat):fcD c op p M (j+1) q r↔fcD c op p M j q r∨(q=p∧r=agN c i):=by
 unfold fcD
 constructor
 · rintro (h | ⟨h1,x,hx,h⟩)
   · exact .inl (.inl h)
   rcases (htj x).1 hx with hx | rfl
   · exact .inl (.inr ⟨h1,x,hx,h⟩)
   exact .inr ⟨h1,h.2.symm⟩
 rintro ((h | ⟨h1,x,hx,h⟩) | ⟨h1,h2⟩)
 · exact .inl h
 · exact .inr ⟨h1,x,(htj x).2 (.inl hx),h⟩
 exact .inr ⟨h1,i,(htj i).2 (.inr rfl),hy,h2.symm⟩
theorem znh {c:DCode} (hc:CodeR c) {op:Int} (hop:op=4∨op=5) {p:Nat} {M:List Nat} (hp:p<c.procs.length) (hM:∀ i,i∈M↔zbJ c p i) (q r:Nat):fcD c op p M M.length q r↔fcD c op (p+1) [] 0 q r:=by
 have key:(∃ i∈M.take M.length,(zaj c i).op=op∧agN c i=r)↔zjz c p op r:=by
   rw [List.take_length]
   constructor
   · rintro ⟨i,hi,h1,h2⟩
     have hl:=(hM i).1 hi
     have hin:=(zgC hc (by rw [hc.2.1.1];exact hp) hl).1
     exact ⟨i,hin,hl,h1,by rw [(zd3 hc hin (by omega)).1,h2]⟩
   rintro ⟨i,hin,hl,h1,h2⟩
   have:=(zd3 hc hin (by omega)).1
   exact ⟨i,(hM i).2 hl,h1,by omega⟩
 unfold fcD
 constructor
 · rintro (h | ⟨rfl,h⟩)
   · exact .inl ⟨by omega,h.2⟩
   exact .inl ⟨by omega,key.1 h⟩
 rintro (⟨h1,h2⟩ | ⟨_,x,hx,_⟩)
 · by_cases e:q=p
   · subst e;exact .inr ⟨rfl,key.2 h2⟩
   exact .inl ⟨by omega,h2⟩
 simp at hx
theorem zni {c:DCode} {op:Int} {p:Nat} {M:List Nat} (q r:Nat):fcD c op p [] 0 q r↔fcD c op p M 0 q r:=by
 unfold fcD;simp
theorem CS.done {c:DCode} {op:Int} {out:List Nat} (h:CS c out (fcD c op c.procs.length [] 0)):out=cls c op:=
 CS.eq_cls (op:=op) (h.mono fun q r hq hr=>by unfold fcD;simp [hq])
structure UM (c:DCode) (p m:Nat):Prop where
 lt:m<2^c.procs.length
 self:m.testBit p=true
 snd:∀ r,m.testBit r=true→FromP c p r
theorem UM.start {c:DCode} {p:Nat} (hp:p<c.procs.length):UM c p (2^p):=⟨Nat.pow_lt_pow_right (by omega) hp,by simp [Nat.testBit_two_pow],fun r hr=>by simp [Nat.testBit_two_pow] at hr;exact .inl hr.symm⟩
theorem zih {c:DCode} {op:Int} {q r:Nat} (hq:q<c.procs.length):(zaG (cls c op) q).testBit r=true↔r<c.procs.length∧zjz c q op r:=by rw [zo1 hq,zaA]
theorem UM.more {c:DCode} (h8:c.procs.length≤8) {p m:Nat} (h:UM c p m):UM c p (m ||| orL (cls c 4) (zba m)):=by
 have hb:∀ r,(orL (cls c 4) (zba m)).testBit r=true→∃ i,i<c.procs.length∧m.testBit i=true∧r<c.procs.length∧zjz c i 4 r:=fun r hr=>by
   obtain ⟨i,h1,h2,h3⟩:=(zfR h.lt (by omega)).1 hr
   exact ⟨i,h1,h2,(zih h1).1 h3⟩
 refine ⟨Nat.or_lt_two_pow h.lt (zkj fun r hr=>by obtain ⟨i,_,_,h3,_⟩:=hb r hr;exact h3),by rw [Nat.testBit_or,h.self];rfl,fun r hr=>?_⟩
 rw [Nat.testBit_or,Bool.or_eq_true] at hr
 rcases hr with hr | hr
 · exact h.snd r hr
 obtain ⟨i,h1,h2,h3,h4⟩:=hb r hr
 exact (h.snd i h2).call h3 h4
theorem UM.fin {c:DCode} (h8:c.procs.length≤8) {p m:Nat} (h:UM c p m) (he:m ||| orL (cls c 4) (zba m)=m):m=zbF (FromP c p) c.procs.length:=by
 have hlt:∀ r,m.testBit r=true→r<c.procs.length:=fun r hr=>Decidable.byContradiction fun hn=>by
   have:=Nat.testBit_lt_two_pow (Nat.lt_of_lt_of_le h.lt (Nat.pow_le_pow_right (by omega) (by omega:c.procs.length≤r)))
   rw [this] at hr;cases hr
 refine zcM fun r=>⟨fun hr=>⟨hlt r hr,h.snd r hr⟩,fun ⟨_,hf⟩=>?_⟩
 have step:∀ i j,m.testBit i=true→j∈zi8 c i→m.testBit j=true:=fun i j hi hj=>by
   obtain ⟨hj1,hj2⟩:=za1.1 hj
   rw [←he,Nat.testBit_or,(zfR h.lt (by omega)).2 ⟨i,hlt i hi,hi,(zih (hlt i hi)).2 ⟨hj1,hj2⟩⟩]
   simp
 rcases hf with rfl | hf
 · exact h.self
 exact hf.keeps (p:=fun i=>m.testBit i=true) h.self step
theorem zk4 {c:DCode} (h8:c.procs.length≤8) (op:Int):∀ x∈cls c op,x<256:=fun x hx=>by
 obtain ⟨q,_,rfl⟩:=List.mem_map.1 hx
 exact zcI h8
theorem zqq {c:DCode} (h8:c.procs.length≤8):∀ x∈frs c,x<256:=fun x hx=>by
 obtain ⟨q,_,rfl⟩:=List.mem_map.1 hx
 exact zcI h8
theorem zjr {w W0:World} {b e m:Nat} {c:DCode} {kc:List Value} {x6 x7 x8 x9 x10:Value} (H:WB W0 w b e c kc m x6 x7 x8 x9 x10) (hc:CodeR c) :
   CALL Tryz.prog 79 [.pointer (some ⟨b,0,none⟩)] w fun r w'=>r=.tuple #[]∧∃ g6 g7 g8,FC W0 w' b e c kc m g6 g7 g8 (cls c 4) (cls c 5) (frs c) x9 x10:=by
 refine F79_call ?_
 unfold F79
 have h8:=hc.1.procs8
 have hil:=hc.f.ins
 refine NIL.mk rfl ?_
 refine zaa zbO ?_
 refine zaa zbS ?_
 refine zab zb1 (zaw H.code_at) (Ext.refl _) fun v15 h15=>?_
 refine zae u22 h15 ?_
 have hxd:=zan w
 have H1:=H.step hxd
 have h6:(kc++[sl m c.ins.length]).length=6:=by rw [List.length_append,H.k5];rfl
 have hB0:fcB (World.drew1 w) b e (kc++[sl m c.ins.length]) x9 x10 (World.drew1 w):=⟨ChgI.refl _,x6,x7,x8,by rw [List.append_assoc];exact H1.blk⟩
 have hbl:=H1.blk.lt
 have hsd:(World.drew1 w).heap.size=w.heap.size:=rfl
 refine GPAR.mk (fcB (World.drew1 w) b e (kc++[sl m c.ins.length]) x9 x10) (fcR b e) (fcQ b e c.procs.length) hB0 (fun j w1 w2 h1 h2=>h1.step h6 h2) (fun j w1 w2 h=>h.sz) ?_ ?_ ?_
 · intro i j u u' T T' wa wb hij hBa hR hd hq
   match i,hij,hd,hq with
   | 0,_,hd,hq=>exact (hd (0,17) (by decide)).1.trans hq
   | 1,_,hd,hq=>exact (hd (1,18) (by decide)).1.trans hq
   | 2,_,hd,hq=>exact (hd (2,19) (by decide)).1.trans hq
   | 3,_,hd,hq=>exact (hd (3,20) (by decide)).1.trans hq
   | 4,_,hd,⟨g,q1,q2,q3,q4,q5⟩=>
     obtain ⟨e1,e2⟩:=hd (4,21) (by decide)
     simp only at e1 e2
     exact ⟨g,e1.trans q1,by rw [e2];exact q2,by rw [e2];exact q3,q4,hR.mine q4 q5⟩
   | 5,_,hd,hq=>exact (hd (5,22) (by decide)).1.trans hq
   | 6,_,hd,⟨g,q1,q2,q3,q4,q5⟩=>
     obtain ⟨e1,e2⟩:=hd (6,23) (by decide)
     simp only at e1 e2
     exact ⟨g,e1.trans q1,by rw [e2];exact q2,by rw [e2];exact q3,q4,hR.mine q4 q5⟩
   | 7,_,hd,hq=>exact (hd (7,24) (by decide)).1.trans hq
   | 8,_,hd,⟨g,q1,q2,q3,q4,q5⟩=>
     obtain ⟨e1,e2⟩:=hd (8,25) (by decide)
     simp only at e1 e2
     exact ⟨g,e1.trans q1,by rw [e2];exact q2,by rw [e2];exact q3,q4,hR.mine q4 q5⟩
   | 9,_,hd,hq=>exact (hd (9,26) (by decide)).1.trans hq
   | 10,_,hd,hq=>exact (hd (10,27) (by decide)).1.trans hq
   | 11,hij,hd,hq=>
     have e1:=(hd (4,21) (by decide)).1
     simp only at e1
     show ∃ cs,Blk b e wb cs∧cs[6]?=some (u' 21)
     rw [e1]
     exact hR.cell (fun hs=>by rcases hs with rfl | rfl | rfl<;>first | exact absurd rfl hij | decide) hq
   | 12,_,hd,hq=>exact (hd (12,28) (by decide)).1.trans hq
   | 13,_,hd,hq=>exact (hd (13,29) (by decide)).1.trans hq
   | 14,hij,hd,hq=>
     have e1:=(hd (6,23) (by decide)).1
     simp only at e1
     show ∃ cs,Blk b e wb cs∧cs[7]?=some (u' 23)
     rw [e1]
     exact hR.cell (fun hs=>by rcases hs with rfl | rfl | rfl<;>first | exact absurd rfl hij | decide) hq
   | 15,_,hd,hq=>exact (hd (15,30) (by decide)).1.trans hq
   | 16,_,hd,hq=>exact (hd (16,31) (by decide)).1.trans hq
   | 17,hij,hd,hq=>
     have e1:=(hd (8,25) (by decide)).1
     simp only at e1
     show ∃ cs,Blk b e wb cs∧cs[8]?=some (u' 25)
     rw [e1]
     exact hR.cell (fun hs=>by rcases hs with rfl | rfl | rfl<;>first | exact absurd rfl hij | decide) hq
   | n+18,_,_,_=>trivial
 · have nf:∀ j,j≠11→j≠14→j≠17→¬zp3 j:=fun j a b d h=>by rcases h with h | h | h<;>contradiction
   refine ⟨?_,?_,?_,?_,?_,?_,?_,?_,?_,?_,?_,?_,?_,?_,?_,?_,?_,?_,trivial⟩
   · exact fun u T w' hB hs _ _=>⟨.ext (nf _ (by decide) (by decide) (by decide)) (Ext.refl _),rfl⟩
   · exact fun u T w' hB hs _ _=>⟨.ext (nf _ (by decide) (by decide) (by decide)) (Ext.refl _),rfl⟩
   · exact fun u T w' hB hs _ _=>⟨.ext (nf _ (by decide) (by decide) (by decide)) (Ext.refl _),rfl⟩
   · exact fun u T w' hB hs _ _=>⟨.ext (nf _ (by decide) (by decide) (by decide)) (Ext.refl _),rfl⟩
   · intro u T w' hB hs _ hp
     have q2:u 20=_:=hp.1
     rw [q2]
     exact zfa h8.2 (by omega) fun w4 hx4 r=>⟨.ext (nf _ (by decide) (by decide) (by decide)) hx4,_,rfl,Nat.le_refl _,r.lt _ (List.mem_singleton.2 rfl),by obtain ⟨_,_,_,_,hb⟩:=hB;have:=hb.lt;omega,r⟩
   · exact fun u T w' hB hs _ _=>⟨.ext (nf _ (by decide) (by decide) (by decide)) (Ext.refl _),rfl⟩
   · intro u T w' hB hs _ hp
     have q2:u 22=_:=hp.1
     rw [q2]
     exact zfa h8.2 (by omega) fun w4 hx4 r=>⟨.ext (nf _ (by decide) (by decide) (by decide)) hx4,_,rfl,Nat.le_refl _,r.lt _ (List.mem_singleton.2 rfl),by obtain ⟨_,_,_,_,hb⟩:=hB;have:=hb.lt;omega,r⟩
   · exact fun u T w' hB hs _ _=>⟨.ext (nf _ (by decide) (by decide) (by decide)) (Ext.refl _),rfl⟩
   · intro u T w' hB hs _ hp
     have q2:u 24=_:=hp.1
     rw [q2]
     exact zfa h8.2 (by omega) fun w4 hx4 r=>⟨.ext (nf _ (by decide) (by decide) (by decide)) hx4,_,rfl,Nat.le_refl _,r.lt _ (List.mem_singleton.2 rfl),by obtain ⟨_,_,_,_,hb⟩:=hB;have:=hb.lt;omega,r⟩
   · intro u T w' hB hs _ hp
     have q:u 17=_:=hp.1
     rw [q]
     exact NIL.mk rfl ⟨.ext (nf _ (by decide) (by decide) (by decide)) (Ext.refl _),rfl⟩
   · intro u T w' hB hs _ hp
     have q:u 26=_:=hp.1
     rw [q]
     exact zaa zjN ⟨.ext (nf _ (by decide) (by decide) (by decide)) (Ext.refl _),rfl⟩
   · intro u T w' hB hs _ hp
     have q:u 27=_:=hp.1
     obtain ⟨g,q1,_⟩:=hp.2.1
     rw [q,q1]
     refine zig (j:=11) (.inl rfl) h6 hB fun w2 hR hQ=>⟨hR,?_⟩
     show ∃ cs,Blk b e w2 cs∧cs[6]?=some (u 21)
     rw [q1];exact hQ
   · intro u T w' hB hs _ hp
     have q:u 18=_:=hp.1
     rw [q]
     exact NIL.mk rfl ⟨.ext (nf _ (by decide) (by decide) (by decide)) (Ext.refl _),rfl⟩
   · intro u T w' hB hs _ hp
     have q:u 28=_:=hp.1
     rw [q]
     exact zaa zjO ⟨.ext (nf _ (by decide) (by decide) (by decide)) (Ext.refl _),rfl⟩
   · intro u T w' hB hs _ hp
     have q:u 29=_:=hp.1
     obtain ⟨g,q1,_⟩:=hp.2.1
     rw [q,q1]
     refine zig (j:=14) (.inr (.inl rfl)) h6 hB fun w2 hR hQ=>⟨hR,?_⟩
     show ∃ cs,Blk b e w2 cs∧cs[7]?=some (u 23)
     rw [q1];exact hQ
   · intro u T w' hB hs _ hp
     have q:u 19=_:=hp.1
     rw [q]
     exact NIL.mk rfl ⟨.ext (nf _ (by decide) (by decide) (by decide)) (Ext.refl _),rfl⟩
   · intro u T w' hB hs _ hp
     have q:u 30=_:=hp.1
     rw [q]
     exact zaa zjP ⟨.ext (nf _ (by decide) (by decide) (by decide)) (Ext.refl _),rfl⟩
   intro u T w' hB hs _ hp
   have q:u 31=_:=hp.1
   obtain ⟨g,q1,_⟩:=hp.2.1
   rw [q,q1]
   refine zig (j:=17) (.inr (.inr rfl)) h6 hB fun w2 hR hQ=>⟨hR,?_⟩
   show ∃ cs,Blk b e w2 cs∧cs[8]?=some (u 25)
   rw [q1];exact hQ
 rintro u T w2 hB hs hap ⟨-,-,-,-,⟨g6,q21,ha6,hb6,hn6,hM6⟩,-,⟨g7,q23,ha7,hb7,hn7,hM7⟩,-,⟨g8,q25,ha8,hb8,hn8,hM8⟩,-,-,⟨cs6,hB6,hc6⟩,-,-,⟨cs7,hB7,hc7⟩,-,-,⟨cs8,hB8,hc8⟩,-⟩
 have t4:=hap.1 4 (by decide)
 have t6:=hap.1 6 (by decide)
 have t8:=hap.1 8 (by decide)
 have d46:=hap.2 4 (by decide) 6 (by decide) (by decide)
 have d48:=hap.2 4 (by decide) 8 (by decide) (by decide)
 have d68:=hap.2 6 (by decide) 8 (by decide) (by decide)
 obtain ⟨hch,y6,y7,y8,hBB⟩:=hB
 have u6:=hBB.uniq hB6
 have u7:=hBB.uniq hB7
 have u8:=hBB.uniq hB8
 subst u6 u7 u8
 rw [List.getElem?_append_right (by rw [h6];decide),h6,q21] at hc6
 rw [List.getElem?_append_right (by rw [h6];decide),h6,q23] at hc7
 rw [List.getElem?_append_right (by rw [h6];decide),h6,q25] at hc8
 have e6:y6=sl g6 c.procs.length:=by simpa using hc6
 have e7:y7=sl g7 c.procs.length:=by simpa using hc7
 have e8:y8=sl g8 c.procs.length:=by simpa using hc8
 subst e6 e7 e8
 rw [List.append_assoc] at hBB
 have hW2:=H1.cells hch hBB
 have hml:=H1.live.lt m (by simp)
 have hb0:=H.b0
 have hF2:FC W0 w2 b e c kc m g6 g7 g8 (List.replicate c.procs.length 0) (List.replicate c.procs.length 0) (List.replicate c.procs.length 0) x9 x10:=⟨hW2,hM6,hM7,hM8,⟨by omega,hn6,by omega⟩,⟨by omega,hn7,by omega⟩,⟨by omega,hn8,by omega⟩,by omega,by omega,by omega⟩
 clear hc6 hc7 hc8 hB6 hB7 hB8 hBB hW2 hch H1 hB0 hap d46 d48 d68 t4 t6 t8
 have hz:∀ op,CS c (List.replicate c.procs.length 0) (fcD c op 0 [] 0):=fun op=>CS.zero fun q r h=>by unfold fcD at h;simp at h
 have hz4:=hz 4
 have hz5:=hz 5
 have hc8l:(List.replicate c.procs.length 0).length=c.procs.length:=by simp
 refine zaq c.procs.length (fun k us w'=>∃ c6 c7,us=[.int .i64 (k:Int)]∧k≤c.procs.length∧FC W0 w' b e c kc m g6 g7 g8 c6 c7 (List.replicate c.procs.length 0) x9 x10∧CS c c6 (fcD c 4 k [] 0)∧CS c c7 (fcD c 5 k [] 0)) 0 (Nat.zero_le _) ⟨_,_,rfl,Nat.zero_le _,hF2,hz4,hz5⟩ ?_
 rintro p mk u3 w3 hkm ⟨c6,c7,hu,hkl,hF3,hC6,hC7⟩
 simp only [List.map_cons,List.map_nil,List.cons.injEq,and_true] at hu
 rw [hu]
 refine zah ?_
 refine br (fun hlt=>?_) (fun hge=>?_)
 · have hp:p<c.procs.length:=by omega
   have hpe:p<c.entry.length:=by rw [hc.2.1.1];exact hp
   refine (zm4 hF3.wb.wl (Ext.refl _) hc hp).mono ?_
   rintro v38 w4 ⟨hx4,ho4⟩
   have hF4:=hF3.step hx4
   have hM:∀ i,i∈zbw c.ins.length (zbJ c p)↔zbJ c p i:=fun i=>by rw [za1];exact ⟨fun h=>h.2,fun h=>⟨(zgC hc hpe h).1,h⟩⟩
   have hMl:(zbw c.ins.length (zbJ c p)).length≤1500:=Nat.le_trans zbU hil
   generalize zbw c.ins.length (zbJ c p)=M at *
   have hg6:=hF3.m6.lt g6 (by simp)
   have hg7:=hF3.m7.lt g7 (by simp)
   refine zae u23 ho4.is ?_
   rw [zag]
   refine zaq M.length (fun j us w'=>∃ c6 c7,us=[.int .i64 (j:Int)]∧j≤M.length∧FC W0 w' b e c kc m g6 g7 g8 c6 c7 (List.replicate c.procs.length 0) x9 x10∧CS c c6 (fcD c 4 p M j)∧CS c c7 (fcD c 5 p M j)∧OwnI w3.heap.size w4.heap.size w' v38 (zaF M)) 0 (Nat.zero_le _) ⟨c6,c7,rfl,Nat.zero_le _,hF4,hC6.mono fun q r _ _=>zni q r,hC7.mono fun q r _ _=>zni q r,ho4.toI⟩ ?_
   rintro j mj u5 w5 hjm ⟨c65,c75,hu,hjl,hF5,hC65,hC75,hO5⟩
   simp only [List.map_cons,List.map_nil,List.cons.injEq,and_true] at hu
   rw [hu]
   refine zah ?_
   refine br (fun hlt5=>?_) (fun hge5=>?_)
   case refine_2=>
     have hje:j=M.length:=by omega
     rw [hje] at hC65 hC75
     refine zaf (by omega) ?_
     exact ⟨mk-1,by omega,p+1,by omega,c65,c75,rfl,by omega,hF5,hC65.mono fun q r _ _=>znh hc (.inl rfl) hp hM q r,hC75.mono fun q r _ _=>znh hc (.inr rfl) hp hM q r⟩
   have hj:j<M.length:=by omega
   refine zac u23 ty3 (i:=j) hO5.is (by rw [zag];exact hj) fun b2 o2 hA2=>?_
   rw [zaY] at hA2
   refine zad ty3 hA2 (Ext.refl _) fun _=>?_
   have htj:=fun x=>zb5 hj (x:=x)
   have hiv:=(hM M[j]).1 (List.getElem_mem hj)
   generalize M[j]=i at *
   have hin:=(zgC hc hpe hiv).1
   obtain ⟨v4,hv4,hi4⟩:=hF5.wb.ins
   refine NIL.mk rfl ?_
   refine zaa zbO ?_
   refine zaa zaK ?_
   refine zap zdn hF5.wb.blk hv4 ?_
   refine zac u30 zaR hi4 hin fun b3 o3 hA3=>?_
   rw [zaS] at hA3
   refine zab zaR hA3 hF5.wb.ext fun v51 h51=>?_
   refine zct zfD rfl zaR rfl h51 hF5.wb.ext fun w6 hx6 hAI hV6=>?_
   have hF6:=hF5.step hx6
   have hO6:=hO5.ext hx6
   have hAB6:=zey h51 hV6 rfl
   have hgI:=hV6.lt
   have hgI0:w5.heap.size≠g6:=by have:=hF5.m6.lt g6 (by simp);omega
   generalize w5.heap.size=gI at *
   refine JOIN.mk (fun us w'=>∃ c6',FC W0 w' b e c kc m g6 g7 g8 c6' c75 (List.replicate c.procs.length 0) x9 x10∧CS c c6' (fcD c 4 p M (j+1))∧OwnI w3.heap.size w4.heap.size w' v38 (zaF M)∧AtB W0 w' gI 0 (zaj c i)) ?_ ?_
   · refine zaa zaL ?_
     refine zad ty3 (zat hAI) (Ext.refl _) fun _=>?_
     refine zao ?_
     refine br (fun c4=>?_) (fun c4=>?_)
     · obtain ⟨ha1,ha2⟩:=zd3 hc hin (.inl c4)
       have hxd:=zan w6
       have hF7:=hF6.step hxd
       have hO7:=hO6.ext hxd
       have hAB7:=hAB6.ext hxd
       have hgI7:gI<(World.drew1 w6).heap.size:=Nat.lt_of_lt_of_le hgI hxd.size
       generalize World.drew1 w6=w7 at *
       have hpl:p<c65.length:=by rw [hC65.1];exact hp
       refine NIL.mk rfl ?_
       refine zaa zjN ?_
       refine zap zbv hF7.wb.blk (hF7.wb.cell 1) ?_
       refine zac u23 ty3 (i:=p) hF7.m6.is (by rw [zag];exact hpl) fun b4 o4 hA4=>?_
       rw [zbu] at hA4
       refine zad ty3 hA4 (Ext.refl _) fun _=>?_
       have h256:=hC65.lt0 h8.1 hp
       refine zaa zbi ?_
       refine zad ty3 (zaJ hAI) hxd fun _=>?_
       rw [ha1]
       have hpw:2^agN c i<256:=Nat.lt_of_lt_of_le (Nat.pow_lt_pow_right (by omega) ha2) (Nat.pow_le_pow_right (n:=2) (by omega) h8.1)
       refine zbD (by kernel_rfl) zik (by omega) ?_
       refine zew (by omega) ?_
       refine zfY (m:=zaG c65 p) (n:=2^agN c i) (by omega) (by omega) ?_
       have hor:zaG c65 p ||| 2^agN c i<256:=Nat.or_lt_two_pow (n:=8) h256 hpw
       refine zch (α:=Int) rfl u23 ty3 hp ?_
       refine zbx (α:=Int) rfl ty3 hF7.m6 (by rw [zag,hC65.1]) hp (zel (v:=zaG c65 p ||| 2^agN c i) (by omega)) fun w8 hc8 hm8=>?_
       have hF8:=hF7.set6 (v:=zaG c65 p ||| 2^agN c i) hc8 hm8
       exact ⟨_,hF8,hC65.set hp ha2 fun q r=>zng htj c4 q r,hO7.chgF hc8 (by simp;omega),hAB7.keep (hc8.block gI hgI7 (by simp;exact hgI0))⟩
     exact ⟨c65,hF6,hC65.mono fun q r _ _=>zo6 htj c4 q r,hO6,hAB6⟩
   rintro u9 w9 ⟨c69,hF9,hC69,hO9,hAB9⟩
   have hAI9:=hAB9.at hF9.wb.ext
   refine zaa zaL ?_
   refine zad ty3 (zat hAI9) (Ext.refl _) fun _=>?_
   refine zao ?_
   refine br (fun c5=>?_) (fun c5=>?_)
   · obtain ⟨ha1,ha2⟩:=zd3 hc hin (.inr c5)
     have hxd:=zan w9
     have hF10:=hF9.step hxd
     have hO10:=hO9.ext hxd
     generalize World.drew1 w9=w10 at *
     have hpl:p<c75.length:=by rw [hC75.1];exact hp
     refine NIL.mk rfl ?_
     refine zaa zjO ?_
     refine zap zbv hF10.wb.blk (hF10.wb.cell 2) ?_
     refine zac u23 ty3 (i:=p) hF10.m7.is (by rw [zag];exact hpl) fun b4 o4 hA4=>?_
     rw [zbu] at hA4
     refine zad ty3 hA4 (Ext.refl _) fun _=>?_
     have h256:=hC75.lt0 h8.1 hp
     refine zaa zbi ?_
     refine zad ty3 (zaJ hAI9) hxd fun _=>?_
     rw [ha1]
     have hpw:2^agN c i<256:=Nat.lt_of_lt_of_le (Nat.pow_lt_pow_right (by omega) ha2) (Nat.pow_le_pow_right (n:=2) (by omega) h8.1)
     refine zbD (by kernel_rfl) zik (by omega) ?_
     refine zew (by omega) ?_
     refine zfY (m:=zaG c75 p) (n:=2^agN c i) (by omega) (by omega) ?_
     have hor:zaG c75 p ||| 2^agN c i<256:=Nat.or_lt_two_pow (n:=8) h256 hpw
     refine zch (α:=Int) rfl u23 ty3 hp ?_
     refine zbx (α:=Int) rfl ty3 hF10.m7 (by rw [zag,hC75.1]) hp (zel (v:=zaG c75 p ||| 2^agN c i) (by omega)) fun w11 hc11 hm11=>?_
     have hF11:=hF10.set7 (v:=zaG c75 p ||| 2^agN c i) hc11 hm11
     refine zaf (by omega) ?_
     exact ⟨mj-1,by omega,j+1,by omega,c69,_,rfl,by omega,hF11,hC69,hC75.set hp ha2 fun q r=>zng htj c5 q r,hO10.chgF hc11 (by simp;omega)⟩
   refine zaf (by omega) ?_
   exact ⟨mj-1,by omega,j+1,by omega,c69,c75,rfl,by omega,hF9,hC69,hC75.mono fun q r _ _=>zo6 htj c5 q r,hO9⟩
 have hke:p=c.procs.length:=by omega
 rw [hke] at hC6 hC7
 rw [hC6.done,hC7.done] at hF3
 clear hC6 hC7 hF2 hkm hu
 have hCz:CS c (List.replicate c.procs.length 0) (fun q r=>q<0∧FromP c q r):=CS.zero fun q r h=>by omega
 generalize List.replicate c.procs.length 0=c8 at *
 refine zaq c.procs.length (fun k us w'=>∃ c8,us=[.int .i64 (k:Int)]∧k≤c.procs.length∧FC W0 w' b e c kc m g6 g7 g8 (cls c 4) (cls c 5) c8 x9 x10∧CS c c8 (fun q r=>q<k∧FromP c q r)) 0 (Nat.zero_le _) ⟨_,rfl,Nat.zero_le _,hF3,hCz⟩ ?_
 rintro k mk u4 w4 hkm ⟨c84,hu,hkl,hF4,hC84⟩
 simp only [List.map_cons,List.map_nil,List.cons.injEq,and_true] at hu
 rw [hu]
 refine zah ?_
 refine br (fun hlt4=>?_) (fun hge4=>?_)
 case refine_2=>
   have hke:k=c.procs.length:=by omega
   rw [hke] at hC84
   have:c84=frs c:=by
     refine List.ext_getElem (by rw [hC84.1,zib]) fun i h1 h2=>?_
     have hi:i<c.procs.length:=by rw [←hC84.1];exact h1
     rw [zbI h1,zbI h2,zo2 hi,hC84.2 i hi]
     exact zaU fun r _=>⟨fun h=>h.2,fun h=>⟨hi,h⟩⟩
   rw [this] at hF4
   exact ⟨rfl,g6,g7,g8,hF4⟩
 have hk:k<c.procs.length:=by omega
 refine zbD (by kernel_rfl) zik (by omega) ?_
 refine zew (by omega) ?_
 have hU:=UM.start (c:=c) hk
 have h8':2^c.procs.length≤256:=Nat.pow_le_pow_right (n:=2) (by omega) h8.1
 refine LOOPI.mk (fun mm us w'=>∃ (s:Nat) (ag:Bool),us=[.int .i64 (s:Int),.bool ag]∧mm=(256-s)+(if ag then 1 else 0)∧FC W0 w' b e c kc m g6 g7 g8 (cls c 4) (cls c 5) c84 x9 x10∧UM c k s∧(ag=false→s=zbF (FromP c k) c.procs.length)) (256-2^k+1) ⟨2^k,true,rfl,rfl,hF4,hU,fun e=>by cases e⟩ ?_
 rintro mm u5 w5 ⟨s,ag,hu,hm,hF5,hU5,hend⟩
 obtain ⟨hu1,hu2⟩:=zcO hu
 rw [hu1,hu2]
 have hs256:s<256:=Nat.lt_of_lt_of_le hU5.lt h8'
 refine zb8 (fun hag=>?_) (fun hag=>?_)
 · rw [hag,if_pos rfl] at hm
   refine NIL.mk rfl ?_
   refine zaa zjN ?_
   refine zap zbv hF5.wb.blk (hF5.wb.cell 1) ?_
   refine (zfr hF5.m6.is (Ext.refl _) (zk4 h8.1 4) (by rw [zft];exact h8.1) (m:=s) (by rw [zft];exact hU5.lt)).mono ?_
   rintro _ w6 ⟨hx6,rfl⟩
   have hF6:=hF5.step hx6
   have hor:=zmS (zk4 h8.1 4) (zba s)
   have hU6:=hU5.more h8.1
   have hfin:=hU5.fin h8.1
   have hgt:=fun h=>zov (m:=orL (cls c 4) (zba s)) (n:=s) h
   refine zfY (m:=s) (n:=orL (cls c 4) (zba s)) (by omega) (by omega) ?_
   have hor2:s ||| orL (cls c 4) (zba s)<256:=Nat.or_lt_two_pow (n:=8) hs256 hor
   generalize s ||| orL (cls c 4) (zba s)=t at *
   refine zaI ?_
   by_cases hts:t=s
   · refine ⟨256-t,by omega,t,_,rfl,?_,hF6,hU6,fun _=>by rw [hts];exact hfin hts⟩
     rw [hts];simp
   have hd:decide ((t:Int)≠(s:Int))=true:=decide_eq_true fun h=>hts (Int.ofNat_inj.1 h)
   have:=hgt hts
   rw [hd]
   exact ⟨256-t+1,by omega,t,true,rfl,rfl,hF6,hU6,fun e=>by cases e⟩
 have hse:=hend hag
 have hpl:k<c84.length:=by rw [hC84.1];exact hk
 refine NIL.mk rfl ?_
 refine zaa zjP ?_
 refine zap zbv hF5.wb.blk (hF5.wb.cell 3) ?_
 refine zch (α:=Int) rfl u23 ty3 hk ?_
 refine zbx (α:=Int) rfl ty3 hF5.m8 (by rw [zag,hC84.1]) hk (zel (v:=s) (by omega)) fun w6 hc6 hm6=>?_
 have hF6:=hF5.set8 (v:=s) hc6 hm6
 refine zaf (by omega) ?_
 refine ⟨mk-1,by omega,k+1,by omega,_,rfl,by omega,hF6,by simp [hC84.1],fun q hq=>?_⟩
 rw [zc8 hpl]
 split
 · rename_i e
   subst e
   rw [hse]
   exact zaU fun r _=>⟨fun h=>⟨by omega,h⟩,fun h=>h.2⟩
 rename_i e
 rw [hC84.2 q hq]
 exact zaU fun r _=>⟨fun h=>⟨by omega,h.2⟩,fun h=>⟨by omega,h.2⟩⟩
def F139 (a0:Value) (w:World) (R:VW):Prop:=
 NIL a0 <|
 rF 114 a0 0 w fun x5=>
 rF 32 x5 2 w fun x6=>
 rL 22 x6 w fun x7=>
 cL 186 [x7,(Value.string (ByteArray.mk #[109,97,105,110]))] w fun x8 w=>
 R x8 w
def cfg139:Cfg:=⟨extL,[],[],[],[],[],[]⟩
theorem F139_call {a0:Value} {w:World} {R:VW} (h:F139 a0 w R):cL 139 [a0] w R:=co (g:=cfg139) Tryz.func139 (by kernel_rfl) (by kernel_rfl) (by kernel_rfl) h
def F80 (a0:Value) (w:World) (R:VW):Prop:=
 cL 139 [a0] w fun x6 w=>
 rD (convert 3 121 x6) w fun x7=>
 rB .shl 3 U0 T0 (iV 1) x7 w fun x8=>
 LOOPI [2,3] [x8,(Value.bool true)] w fun u2 w next2=>
 BR (u2 3)
 (NIL a0 <|
 rF 114 a0 4 w fun x13=>
 rL 23 x13 w fun x14=>
 cL 138 [x14,(u2 2)] w fun x16 w=>
 NIL a0 <|
 rF 114 a0 6 w fun x18=>
 oS 3 x18 x16 w fun w=>
 (fun w=>NIL a0 <|
 rF 114 a0 3 w fun x22=>
 rL 23 x22 w fun x23=>
 NIL a0 <|
 rF 114 a0 6 w fun x26=>
 rL 3 x26 w fun x27=>
 (fun w_=>cL 138 [x23,x27] w_ fun x28 w=>
 Ext w_ w ∧
 rB .or 3 T0 T0 (u2 2) x28 w fun x29=>
 rB .neq 3 T0 T0 x29 (u2 2) w fun x32=>
 next2 [x29,x32] w) w) (World.drew1 w))
 (NIL a0 <|
 rF 114 a0 5 w fun x37=>
 oS 3 x37 (u2 2) w fun w=>
 R (Value.tuple #[]) w)
def cfg80:Cfg:=⟨extL,[],[(2,17179868700,[2,3])],[(4,[0,1,2,3,4,5,6,7,8,9,10,11],512)],[],[],[]⟩
theorem F80_call {a0:Value} {w:World} {R:VW} (h:F80 a0 w R):cL 80 [a0] w R:=co (g:=cfg80) Tryz.func80 (by kernel_rfl) (by kernel_rfl) (by kernel_rfl) h
def F42 (a0:Value) (w:World) (R:VW):Prop:=
 oP (Instr.box 32 a0) w fun x1 w=>
 rL 32 x1 w fun x7=>
 cL 77 [x7] w fun x8 w=>
 rD (Op.unary .not x8) w fun x9=>
 BR x9
 (R (Value.tuple #[(Value.pointer none),(Value.bool false)]) w)
 ((fun w=>rL 32 x1 w fun x10=>
 rF 32 x1 4 w fun x11=>
 rL 30 x11 w fun x12=>
 rN 30 3 x12 w fun x13=>
 (fun w_=>oP (Instr.makeSlice 101 x13 x13) w_ fun x14 w=>
 Ext w_ w ∧
 (rD (Instr.build 114 #[(0,x10),(1,x14)]) w fun x15=>
 oP (Instr.box 114 x15) w fun x16 w=>
 rF 32 x1 3 w fun x17=>
 rL 23 x17 w fun x18=>
 rN 23 3 x18 w fun x19=>
 LOOPI [20] [(iV 0)] w fun u5 w next5=>
 rC (u5 20) x19 w fun x21=>
 BR x21
 (rX 23 x18 (u5 20) w fun x22=>
 rL 3 x22 w fun x23=>
 NIL x16 <|
 rF 114 x16 1 w fun x26=>
 rL 101 x26 w fun x27=>
 rX 101 x27 x23 w fun x29=>
 oS 4 x29 (Value.bool true) w fun w=>
 NIL x16 <|
 rF 114 x16 1 w fun x33=>
 rL 101 x33 w fun x34=>
 cL 78 [x16,x34,x23] w fun x36 w=>
 rA (u5 20) (iV 1) w fun x37=>
 next5 [x37] w)
 (cL 79 [x16] w fun x39 w=>
 cL 80 [x16] w fun x41 w=>
 R (Value.tuple #[x16,(Value.bool true)]) w))) w) (World.drew1 w))
def cfg42:Cfg:=⟨extL,[],[(5,274876858432,[20])],[(3,[0,1,2,3,4,5,6,7],16)],[],[],[]⟩
theorem F42_call {a0:Value} {w:World} {R:VW} (h:F42 a0 w R):cL 42 [a0] w R:=co (g:=cfg42) Tryz.func42 (by kernel_rfl) (by kernel_rfl) (by kernel_rfl) h
open Rep (rep)
theorem zo7 {w:World} {g e o:Nat} {cs:List Value} {x:Int} (hB:Blk g e w cs) (ho:cs[o]?=some (.int .i64 x)) (hx:I64 x):At w g o x:=by
 refine ⟨[],[.int .i64 x],⟨rfl,rfl,hx⟩,fun i u hi=>?_⟩
 have:i=0:=by
   cases i with
   | zero=>rfl
   | succ i=>simp at hi
 subst this
 simp only [List.getElem?_cons_zero,Option.some.injEq] at hi
 subst hi
 have:=hB.range o _ ho
 rw [Nat.zero_add] at this
 exact this
section
variable {W0 w w':World} {b e m g6 g7 g8:Nat} {c:DCode} {kc:List Value} {c6 c7 c8:List Nat} {x9 x10 y9 y10:Value}
theorem FC.cells (h:FC W0 w b e c kc m g6 g7 g8 c6 c7 c8 x9 x10) (hc:ChgI b (b+1) w w') (hB:Blk b e w' (kc++[.slice (some ⟨m,0,none⟩) c.ins.length c.ins.length,sl g6 c.procs.length,sl g7 c.procs.length,sl g8 c.procs.length,y9,y10])):FC W0 w' b e c kc m g6 g7 g8 c6 c7 c8 y9 y10:=
 ⟨h.wb.cells hc hB,zcH h.m6 hc.one (by simp [h.n6]),zcH h.m7 hc.one (by simp [h.n7]),zcH h.m8 hc.one (by simp [h.n8]),h.n6,h.n7,h.n8,h.d67,h.d68,h.d78⟩
theorem FC.store9 {x:Nat} {K:World→Prop} (h:FC W0 w b e c kc m g6 g7 g8 c6 c7 c8 x9 x10) (k:∀ w',FC W0 w' b e c kc m g6 g7 g8 c6 c7 c8 (.int .i64 (x:Int)) x10→K w'):OPU Tryz.prog (Instr.storeAt 3 (.pointer (some ⟨b,0+9,none⟩)) (.int .i64 (x:Int))) w K:=by
 have hl:9<(kc++[Value.slice (some ⟨m,0,none⟩) c.ins.length c.ins.length,sl g6 c.procs.length,sl g7 c.procs.length,sl g8 c.procs.length,x9,x10]).length:=by rw [List.length_append,h.wb.k5];simp
 refine zcg (α:=Raw) (lo:=0) (hi:=0) ty3 rfl rfl h.wb.blk hl (zci rfl) fun w2 hc2 hB2=>?_
 have:=h.wb.set 4 (.int .i64 (x:Int))
 rw [show 5+4=0+9 by omega] at this
 rw [this] at hB2
 exact k w2 (h.cells hc2 hB2)
theorem FC.store10 {x:Nat} {K:World→Prop} (h:FC W0 w b e c kc m g6 g7 g8 c6 c7 c8 x9 x10) (k:∀ w',FC W0 w' b e c kc m g6 g7 g8 c6 c7 c8 x9 (.int .i64 (x:Int))→K w'):OPU Tryz.prog (Instr.storeAt 3 (.pointer (some ⟨b,0+10,none⟩)) (.int .i64 (x:Int))) w K:=by
 have hl:10<(kc++[Value.slice (some ⟨m,0,none⟩) c.ins.length c.ins.length,sl g6 c.procs.length,sl g7 c.procs.length,sl g8 c.procs.length,x9,x10]).length:=by rw [List.length_append,h.wb.k5];simp
 refine zcg (α:=Raw) (lo:=0) (hi:=0) ty3 rfl rfl h.wb.blk hl (zci rfl) fun w2 hc2 hB2=>?_
 have:=h.wb.set 5 (.int .i64 (x:Int))
 rw [show 5+5=0+10 by omega] at this
 rw [this] at hB2
 exact k w2 (h.cells hc2 hB2)
end
theorem zkk {w:World} {b:Nat} {c:DCode} (hA:At w b 0 c) (hc:CodeR c) :
   CALL Tryz.prog 139 [.pointer (some ⟨b,0,none⟩)] w fun r w'=>Ext w w'∧r=.int .i64 (zfG c:Nat):=by
 refine F139_call ?_
 unfold F139
 refine NIL.mk rfl ?_
 refine zaa zbO ?_
 refine zaa zbS ?_
 refine zab zb1 (zaw hA) (Ext.refl _) fun v15 h15=>?_
 refine (zgq h15 (Ext.refl _)).mono ?_
 rintro _ w2 ⟨hx2,rfl⟩
 have:=(ze8 hc).1
 unfold zg0 at this
 rw [this]
 exact ⟨hx2,rfl⟩
structure RM (c:DCode) (r:Nat):Prop where
 lt:r<2^c.procs.length
 self:r.testBit (zfG c)=true
 snd:∀ q,r.testBit q=true→RootP c q
noncomputable def usR (c:DCode) (r:Nat):Nat:=orL (frs c) (zba r)
theorem znj {c:DCode} {q r:Nat} (hq:q<c.procs.length):(zaG (frs c) q).testBit r=true↔r<c.procs.length∧FromP c q r:=by rw [zo2 hq,zaA]
theorem zii {c:DCode} (h8:c.procs.length≤8) {r p:Nat} (h:RM c r):(usR c r).testBit p=true↔∃ q,q<c.procs.length∧r.testBit q=true∧p<c.procs.length∧FromP c q p:=by
 unfold usR
 rw [zfR h.lt (by omega)]
 exact ⟨fun ⟨i,h1,h2,h3⟩=>⟨i,h1,h2,(znj h1).1 h3⟩,fun ⟨i,h1,h2,h3⟩=>⟨i,h1,h2,(znj h1).2 h3⟩⟩
theorem zo8 {c:DCode} (h8:c.procs.length≤8) {r:Nat} (h:RM c r):usR c r<2^c.procs.length:=zkj fun p hp=>by
 obtain ⟨_,_,_,h3,_⟩:=(zii h8 h).1 hp;exact h3
theorem RM.start {c:DCode} (hc:CodeR c):RM c (2^zfG c):=⟨Nat.pow_lt_pow_right (by omega) (ze8 hc).2,by simp [Nat.testBit_two_pow],fun q hq=>by simp [Nat.testBit_two_pow] at hq;exact hq▸.main⟩
theorem RM.more_bit {c:DCode} (h8:c.procs.length≤8) {r q:Nat} (h:RM c r):(orL (cls c 5) (zba (usR c r))).testBit q=true↔∃ p,p<c.procs.length∧(usR c r).testBit p=true∧q<c.procs.length∧zjz c p 5 q:=by
 rw [zfR (zo8 h8 h) (by omega)]
 exact ⟨fun ⟨i,h1,h2,h3⟩=>⟨i,h1,h2,(zih h1).1 h3⟩,fun ⟨i,h1,h2,h3⟩=>⟨i,h1,h2,(zih h1).2 h3⟩⟩
theorem RM.more {c:DCode} (h8:c.procs.length≤8) {r:Nat} (h:RM c r):RM c (r ||| orL (cls c 5) (zba (usR c r))):=by
 refine ⟨Nat.or_lt_two_pow h.lt (zkj fun q hq=>by obtain ⟨_,_,_,h3,_⟩:=(h.more_bit h8).1 hq;exact h3),by rw [Nat.testBit_or,h.self];rfl,fun q hq=>?_⟩
 rw [Nat.testBit_or,Bool.or_eq_true] at hq
 rcases hq with hq | hq
 · exact h.snd q hq
 obtain ⟨p,h1,h2,h3,h4⟩:=(h.more_bit h8).1 hq
 obtain ⟨s,h5,h6,_,h7⟩:=(zii h8 h).1 h2
 exact .spawn (h.snd s h6) h7 h4 h3
theorem RM.fin {c:DCode} (hc:CodeR c) (h8:c.procs.length≤8) {r:Nat} (h:RM c r) (he:r ||| orL (cls c 5) (zba (usR c r))=r):r=zfb c∧usR c r=zlF c:=by
 have hall:∀ q,RootP c q→r.testBit q=true:=fun q hq=>by
   induction hq with
   | main=>exact h.self
   | @spawn s p q h0 h1 h2 hq ih=>
     have hs:=h0.lt hc
     rw [←he,Nat.testBit_or,(h.more_bit h8).2 ⟨p,h1.lt hs,(zii h8 h).2 ⟨s,hs,ih,h1.lt hs,h1⟩,hq,h2⟩]
     simp
 refine ⟨zcM fun q=>⟨fun hq=>⟨(h.snd q hq).lt hc,h.snd q hq⟩,fun hq=>hall q hq.2⟩,zcM fun p=>?_⟩
 rw [zii h8 h]
 constructor
 · rintro ⟨q,h1,h2,h3,h4⟩
   exact ⟨h3,q,h.snd q h2,h4⟩
 rintro ⟨h3,q,h1,h2⟩
 exact ⟨q,h1.lt hc,hall q h1,h3,h2⟩
theorem zjs {w W0:World} {b e m g6 g7 g8:Nat} {c:DCode} {kc:List Value} {x9 x10:Value} (H:FC W0 w b e c kc m g6 g7 g8 (cls c 4) (cls c 5) (frs c) x9 x10) (hc:CodeR c) :
   CALL Tryz.prog 80 [.pointer (some ⟨b,0,none⟩)] w fun r w'=>r=.tuple #[]∧FC W0 w' b e c kc m g6 g7 g8 (cls c 4) (cls c 5) (frs c) (.int .i64 (zfb c:Nat)) (.int .i64 (zlF c:Nat)):=by
 refine F80_call ?_
 unfold F80
 have h8:=hc.1.procs8
 have hml:=(ze8 hc).2
 refine (zkk H.wb.code_at hc).mono ?_
 rintro _ w1 ⟨hx1,rfl⟩
 have H1:=H.step hx1
 refine zbD (by kernel_rfl) zik (by omega) ?_
 refine zew (by omega) ?_
 have hR:=RM.start hc
 have h8':2^c.procs.length≤256:=Nat.pow_le_pow_right (n:=2) (by omega) h8.1
 refine LOOPI.mk (fun mm us w'=>∃ (s:Nat) (ag:Bool) (y:Value),us=[.int .i64 (s:Int),.bool ag]∧mm=(256-s)+(if ag then 1 else 0)∧FC W0 w' b e c kc m g6 g7 g8 (cls c 4) (cls c 5) (frs c) x9 y∧RM c s∧(ag=false→s=zfb c∧y=.int .i64 (zlF c:Nat))) (256-2^zfG c+1) ⟨2^zfG c,true,x10,rfl,rfl,H1,hR,fun e=>by cases e⟩ ?_
 rintro mm u2 w2 ⟨s,ag,y,hu,hm,H2,hR2,hend⟩
 obtain ⟨hu1,hu2⟩:=zcO hu
 rw [hu1,hu2]
 have hs256:s<256:=Nat.lt_of_lt_of_le hR2.lt h8'
 refine zb8 (fun hag=>?_) (fun hag=>?_)
 · rw [hag,if_pos rfl] at hm
   refine NIL.mk rfl ?_
   refine zaa zjP ?_
   refine zap zbv H2.wb.blk (H2.wb.cell 3) ?_
   refine (zfr H2.m8.is (Ext.refl _) (zqq h8.1) (by rw [zib];exact h8.1) (m:=s) (by rw [zib];exact hR2.lt)).mono ?_
   rintro _ w3 ⟨hx3,rfl⟩
   have H3:=H2.step hx3
   have hul:=zo8 h8.1 hR2
   have hu256:usR c s<256:=Nat.lt_of_lt_of_le hul h8'
   have hue:orL (frs c) (zba s)=usR c s:=rfl
   rw [hue]
   refine NIL.mk rfl ?_
   refine zaa zmb ?_
   refine H3.store10 fun w4 H4=>?_
   have hxd:=zan w4
   have H5:=H4.step hxd
   generalize World.drew1 w4=w5 at *
   refine NIL.mk rfl ?_
   refine zaa zjO ?_
   refine zap zbv H5.wb.blk (H5.wb.cell 2) ?_
   refine NIL.mk rfl ?_
   refine zaa zmb ?_
   refine zap ty3 H5.wb.blk (H5.wb.cell 5) ?_
   refine (zfr H5.m7.is (Ext.refl _) (zk4 h8.1 5) (by rw [zft];exact h8.1) (m:=usR c s) (by rw [zft];exact hul)).mono ?_
   rintro _ w6 ⟨hx6,rfl⟩
   have H6:=H5.step hx6
   have hor:=zmS (zk4 h8.1 5) (zba (usR c s))
   have hR6:=hR2.more h8.1
   have hfin:=hR2.fin hc h8.1
   have hgt:=fun h=>zov (m:=orL (cls c 5) (zba (usR c s))) (n:=s) h
   refine ⟨hx6,?_⟩
   refine zfY (m:=s) (n:=orL (cls c 5) (zba (usR c s))) (by omega) (by omega) ?_
   have hor2:s ||| orL (cls c 5) (zba (usR c s))<256:=Nat.or_lt_two_pow (n:=8) hs256 hor
   generalize s ||| orL (cls c 5) (zba (usR c s))=t at *
   refine zaI ?_
   by_cases hts:t=s
   · refine ⟨256-t,by omega,t,_,_,rfl,?_,H6,hR6,fun _=>?_⟩
     · rw [hts];simp
     rw [(hfin hts).2]
     exact ⟨by rw [hts];exact (hfin hts).1,rfl⟩
   have hd:decide ((t:Int)≠(s:Int))=true:=decide_eq_true fun h=>hts (Int.ofNat_inj.1 h)
   have:=hgt hts
   rw [hd]
   exact ⟨256-t+1,by omega,t,true,_,rfl,rfl,H6,hR6,fun e=>by cases e⟩
 obtain ⟨hse,hye⟩:=hend hag
 rw [hye] at H2
 refine NIL.mk rfl ?_
 refine zaa zma ?_
 refine H2.store9 fun w3 H3=>?_
 rw [hse] at H3
 exact ⟨rfl,H3⟩
theorem FC.wat {W0 w:World} {b e m g6 g7 g8:Nat} {c:DCode} {kc:List Value} (H:FC W0 w b e c kc m g6 g7 g8 (cls c 4) (cls c 5) (frs c) (.int .i64 (zfb c:Nat)) (.int .i64 (zlF c:Nat))) (h8:c.procs.length≤8):WAt w b c:=by
 have h1:zfb c<256:=zcI h8
 have h2:zlF c<256:=zcI h8
 exact ⟨H.wb.wl,zds H.wb.blk (H.wb.cell 1) H.m6.is,zds H.wb.blk (H.wb.cell 2) H.m7.is,zds H.wb.blk (H.wb.cell 3) H.m8.is,zo7 H.wb.blk (H.wb.cell 4) (by unfold I64;omega),zo7 H.wb.blk (H.wb.cell 5) (by unfold I64;omega)⟩
theorem zlH {w W0:World} {v0:Value} {c:DCode} (h0:Is W0 v0 c) (e0:Ext W0 w) :
   CALL Tryz.prog 42 [v0] w fun r w'=>Ext w w'∧((¬CodeR c∧r=.tuple #[.pointer none,.bool false])∨(CodeR c∧∃ b,r=.tuple #[.pointer (some ⟨b,0,none⟩),.bool true]∧WAt w' b c)):=by
 refine F42_call ?_
 unfold F42
 refine zdm h0 e0 fun w1 hx1 hA=>?_
 refine zab zdh hA (Ext.refl _) fun v7 h7=>?_
 refine (zh5 h7 (Ext.refl _)).mono ?_
 rintro _ w2 ⟨hx2,rfl⟩
 refine zar ?_
 refine br (fun hn=>?_) (fun hy=>?_)
 · exact ⟨hx1.trans hx2,.inl ⟨hn,rfl⟩⟩
 have hc:CodeR c:=Decidable.not_not.1 hy
 have h8:=hc.1.procs8
 have hil:=hc.f.ins
 have hz0:=(zgO hc h8.2).2.2
 have hxd:=zan w2
 have hx3:=hx2.trans hxd
 generalize World.drew1 w2=w3 at *
 refine zab zdh hA hx3 fun v10 h10=>?_
 refine zaa zaK ?_
 refine zab zdn (zak hA) hx3 fun v12 h12=>?_
 refine zae u30 h12 ?_
 refine zeg (by omega) (by omega) fun w4 hx4 hM4=>?_
 have hs4:=hx4.size
 have hm4:=hM4.lt _ (List.mem_singleton.2 rfl)
 generalize hm:w3.heap.size=m at *
 have h10':=h10.ext hx3
 have hcells:=zho h10'
 obtain ⟨F,kc,hr,hkc⟩:=h10'
 obtain ⟨a0,a1,a2,a3,a4,n0,n1,n2,n3,n4,k0,k1,k2,k3,k4,hcv⟩:=hcells
 have hkce:kc=[.slice a0 n0 k0,.slice a1 n1 k1,.slice a2 n2 k2,.slice a3 n3 k3,.slice a4 n4 k4]:=by
   rw [hkc] at hcv
   have:(Value.agg kc.toArray)=.agg #[.slice a0 n0 k0,.slice a1 n1 k1,.slice a2 n2 k2,.slice a3 n3 k3,.slice a4 n4 k4]:=hcv
   simpa using this
 rw [hcv]
 refine ⟨hx4,?_⟩
 refine zec (cells:=#[.slice a0 n0 k0,.slice a1 n1 k1,.slice a2 n2 k2,.slice a3 n3 k3,.slice a4 n4 k4,sl m c.ins.length,.slice none 0 0,.slice none 0 0,.slice none 0 0,.int .i64 0,.int .i64 0]) (by kernel_rfl) ?_
 refine zjS fun w5 hx5 hB5=>?_
 have hB5':Blk w4.heap.size 114 w5 (kc++[sl m c.ins.length,.slice none 0 0,.slice none 0 0,.slice none 0 0,.int .i64 0,.int .i64 0]):=by rw [hkce];exact hB5
 have hk5:kc.length=5:=Rep.len hr
 clear hB5 hcv hkc
 have hM5:=hM4.ext hx5
 have hx35:Ext w3 w5:=hx4.trans hx5
 generalize hb:w4.heap.size=b at *
 refine zaa zaO ?_
 refine zab zbv (zal hA) (hx3.trans hx35) fun v18 h18=>?_
 have h18:=h18.ext hx3
 refine zae u23 h18 ?_
 have hel:c.entry.length=c.procs.length:=hc.2.1.1
 rw [hel]
 have hrep0:List.replicate c.ins.length false=zb0 c.ins.length (fun i=>∃ p,p<0∧zbJ c p i):=zdf _ fun i ⟨p,h,_⟩=>by omega
 rw [hrep0] at hM5
 have hcell0:∀ {x1 x2 x3 x4 x5:Value},(kc++[sl m c.ins.length,x1,x2,x3,x4,x5])[0+5]?=some (sl m c.ins.length):=by intros;rw [List.getElem?_append_right (by rw [hk5];omega),hk5];rfl
 refine zaq c.procs.length (fun k us w'=>us=[.int .i64 (k:Int)]∧k≤c.procs.length∧Ext w3 w'∧Blk b 114 w' (kc++[sl m c.ins.length,.slice none 0 0,.slice none 0 0,.slice none 0 0,.int .i64 0,.int .i64 0])∧Mine [m] w' (sl m c.ins.length) (zb0 c.ins.length fun i=>∃ p,p<k∧zbJ c p i)) 0 (Nat.zero_le _) ⟨rfl,Nat.zero_le _,hx35,hB5',hM5⟩ ?_
 rintro k mk u w6 hkm ⟨hu,hkl,hx6,hB6,hM6⟩
 simp only [List.map_cons,List.map_nil,List.cons.injEq,and_true] at hu
 rw [hu]
 refine zah ?_
 refine br (fun hlt=>?_) (fun hge=>?_)
 · have hk:k<c.procs.length:=by omega
   have hke:k<c.entry.length:=by omega
   obtain ⟨he1,he2,he3⟩:=zfF hc hke
   refine zac u23 ty3 (i:=k) h18 hke fun b5 o5 hA5=>?_
   rw [zbf hke,he1] at hA5
   refine zad ty3 hA5 hx6 fun _=>?_
   refine NIL.mk rfl ?_
   refine zaa zjM ?_
   refine zap zck hB6 hcell0 ?_
   refine zch (α:=Bool) rfl zdi ty4 he2 ?_
   refine zbx (α:=Bool) rfl ty4 hM6 zas he2 za8 fun w7 hc7 hm7=>?_
   have hB7:=hB6.chgF hc7 (by simp;omega)
   have hx7:Ext w3 w7:=hx6.chgF hc7 (by simp [hm])
   have hmk7:∀ i,mkd ((zb0 c.ins.length fun i=>∃ p,p<k∧zbJ c p i).set (eN c k) true) i↔(i<c.ins.length∧∃ p,p<k∧zbJ c p i)∨i=eN c k:=fun i=>by
     rw [zbE (by rw [zas];exact he2),zbl]
   have hl7:((zb0 c.ins.length fun i=>∃ p,p<k∧zbJ c p i).set (eN c k) true).length=c.ins.length:=by rw [List.length_set,zas]
   generalize (zb0 c.ins.length fun i=>∃ p,p<k∧zbJ c p i).set (eN c k) true=ms7 at *
   refine NIL.mk rfl ?_
   refine zaa zjM ?_
   refine zap zck hB7 hcell0 ?_
   have hK7:KAt w3 w7 b c:=⟨F,kc,hr,zk3 hB7,hB7.lt⟩
   refine (zmQ hK7 hx7 hc rfl he2 hm7 hl7 (by omega) (by omega) ?_).mono ?_
   · intro i hi hne j hj
     rcases (hmk7 i).1 hi with ⟨h1,p,h2,h3⟩ | h
     · have hil:=zcF hc h1 hj
       exact (hmk7 j).2 (.inl ⟨hil.1,p,h2,zmT h3 hj⟩)
     exact absurd h hne
   rintro _ w8 ⟨rfl,hc8,hM8⟩
   have hset:(zb0 c.ins.length fun i=>mkd ms7 i∨RP (zaz c) (eN c k) i)=zb0 c.ins.length fun i=>∃ p,p<k+1∧zbJ c p i:=zaT fun i hi=>by
     rw [hmk7]
     constructor
     · rintro ((⟨_,p,h2,h3⟩ | h) | h)
       · exact ⟨p,by omega,h3⟩
       · exact ⟨k,by omega,.inl h⟩
       exact ⟨k,by omega,.inr h⟩
     rintro ⟨p,h2,h3⟩
     by_cases e:p=k
     · subst e
       rcases h3 with h3 | h3
       · exact .inl (.inr h3)
       exact .inr h3
     exact .inl (.inl ⟨hi,p,by omega,h3⟩)
   rw [hset] at hM8
   refine zaf (by omega) ?_
   exact ⟨mk-1,by omega,k+1,by omega,rfl,by omega,hx7.chgI hc8 (by omega),hB7.chgI hc8 (by omega),hM8⟩
 have hke:k=c.procs.length:=by omega
 have hal:(zb0 c.ins.length fun i=>∃ p,p<k∧zbJ c p i)=zb0 c.ins.length (zgM c):=by rw [hke];rfl
 rw [hal] at hM6
 have HW:WB w3 w6 b 114 c kc m (.slice none 0 0) (.slice none 0 0) (.slice none 0 0) (.int .i64 0) (.int .i64 0):=⟨hx6,hB6,⟨F,hr⟩,hM6,by omega,by omega,by omega⟩
 refine (zjr HW hc).mono ?_
 rintro _ w7 ⟨rfl,g6,g7,g8,H7⟩
 refine (zjs H7 hc).mono ?_
 rintro _ w8 ⟨rfl,H8⟩
 exact ⟨hx1.trans (hx3.trans H8.wb.ext),.inr ⟨hc,b,rfl,H8.wat h8.1⟩⟩
def F46 (a0:Value) (w:World) (R:VW):Prop:=
 cL 86 [a0] w fun x11 w=>
 cL 87 [a0,x11] w fun x14 w=>
 NIL a0 <|
 rF 114 a0 0 w fun x17=>
 rF 32 x17 4 w fun x18=>
 rL 30 x18 w fun x19=>
 rN 30 3 x19 w fun x20=>
 LOOPI [5,21] [(Value.slice none 0 0),(iV 0)] w fun u5 w next5=>
 rC (u5 21) x20 w fun x22=>
 BR x22
 (rX 30 x19 (u5 21) w fun x24=>
 rL 111 x24 w fun x25=>
 oP (Instr.alloc 111 true (.tuple #[])) w fun x7 w=>
 oS 111 x7 x25 w fun w=>
 rF 111 x7 0 w fun x26=>
 rL 3 x26 w fun x27=>
 rB .neq 3 T0 U0 x27 (iV 6) w fun x28=>
 BR x28
 (rA (u5 21) (iV 1) w fun x55=>
 next5 [(u5 5),x55] w)
 (rX 101 x11 (u5 21) w fun x32=>
 rL 4 x32 w fun x33=>
 rD (Op.unary .not x33) w fun x34=>
 BR x34
 (rA (u5 21) (iV 1) w fun x55=>
 next5 [(u5 5),x55] w)
 (rX 23 x14 (u5 21) w fun x38=>
 rL 3 x38 w fun x39=>
 cL 66 [x39] w fun x40 w=>
 rN 23 3 x40 w fun x41=>
 LOOPI [5,42] [(u5 5),(iV 0)] w fun u9 w next9=>
 rC (u9 42) x41 w fun x43=>
 BR x43
 (rX 23 x40 (u9 42) w fun x44=>
 rL 3 x44 w fun x45=>
 rF 111 x7 1 w fun x48=>
 rL 3 x48 w fun x49=>
 rD (Instr.build 104 #[(0,x45),(1,x49),(2,(u5 21))]) w fun x51=>
 oP (Instr.buildSlice 72 1 #[(0,x51)]) w fun x52 w=>
 oP (Builtin.append_ #[72,72] 72 [(u9 5),x52].toArray) w fun x53 w=>
 rA (u9 42) (iV 1) w fun x54=>
 next9 [x53,x54] w)
 (rA (u5 21) (iV 1) w fun x55=>
 next5 [(u9 5),x55] w))))
 (cL 88 [(u5 5),(Value.func (.func 89) #[] #[])] w fun x57 w=>
 R (u5 5) w)
def cfg46:Cfg:=⟨extL,[],[(5,72057594035831520,[5,21]),(9,36024398972453408,[5,42])],[],[],[],[]⟩
theorem F46_call {a0:Value} {w:World} {R:VW} (h:F46 a0 w R):cL 46 [a0] w R:=co (g:=cfg46) Tryz.func46 (by kernel_rfl) (by kernel_rfl) (by kernel_rfl) h
open Rep (rep)
theorem zo9 {w:World} {a b d:Int} (ha:I64 a) (hb:I64 b) (hd:I64 d):Is w (.agg #[.int .i64 a,.int .i64 b,.int .i64 d]) (⟨a,b,d⟩:DOrder):=
 ⟨[],_,⟨[],[],[.int .i64 a],_,rfl,rfl,⟨rfl,rfl,ha⟩,⟨[],[],[.int .i64 b],_,rfl,rfl,⟨rfl,rfl,hb⟩,⟨rfl,rfl,hd⟩⟩⟩,rfl⟩
structure OI (wb w:World) (out:Value) (L:List DOrder):Prop where
 ext:Ext wb w
 row:∃ lo hi,wb.heap.size≤lo∧hi≤w.heap.size∧RowI lo hi 104 w out L
theorem OI.step {wb w w':World} {out:Value} {L:List DOrder} (h:OI wb w out L) (hx:Ext w w'):OI wb w' out L:=by
 obtain ⟨lo,hi,h1,h2,hr⟩:=h.row
 exact ⟨h.ext.trans hx,lo,hi,h1,Nat.le_trans h2 hx.size,hr.ext hx⟩
theorem OI.own {wb w:World} {out:Value} {L:List DOrder} (h:OI wb w out L):Own wb.heap.size w out L:=by
 obtain ⟨lo,hi,h1,h2,hr⟩:=h.row
 exact hr.own.own.mono (by omega)
theorem zjt {w W0:World} {b:Nat} {c:DCode} (hW:WAt W0 b c) (e0:Ext W0 w) (hc:CodeR c) :
   CALL Tryz.prog 46 [.pointer (some ⟨b,0,none⟩)] w fun r w'=>Ext w w'∧Own w.heap.size w' r (zcG c):=by
 refine F46_call ?_
 unfold F46
 have hil:=hc.f.ins
 have hcode:=hW.wl.code
 refine (zqo hW e0 hc).mono ?_
 rintro v11 w1 ⟨hx1,ho1⟩
 refine (zqp hW (e0.trans hx1) ho1.is (Ext.refl _) hc).mono ?_
 rintro v14 w2 ⟨hx2,ho2⟩
 have hx12:=hx1.trans hx2
 have hMe:=ho1.is.ext hx2
 have hMa:=ho2.is
 have hs12:=hx12.size
 refine NIL.mk rfl ?_
 refine zaa zbO ?_
 refine zaa zaK ?_
 refine zab zdn (zak hcode) (e0.trans hx12) fun v19 h19=>?_
 refine zae u30 h19 ?_
 have hml:(zfd c).length=c.ins.length:=by unfold zfd;rw [zas]
 have hbl:=zoq c
 have hO0:OI w2 w2 (.slice none 0 0) (zjA c 0):=⟨Ext.refl _,w2.heap.size,w2.heap.size,Nat.le_refl _,Nat.le_refl _,zdy _ _ _ _⟩
 refine zaq c.ins.length (fun k us w'=>∃ out,us=[out,.int .i64 (k:Int)]∧k≤c.ins.length∧OI w2 w' out (zjA c k)) 0 (Nat.zero_le _) ⟨_,rfl,Nat.zero_le _,hO0⟩ ?_
 rintro k mk u w3 hkm ⟨out,hu,hkl,hO3⟩
 obtain ⟨hu1,hu2⟩:=zcO hu
 rw [hu1,hu2]
 have hsuc:zjA c (k+1)=zjA c k++zlP c k:=zei k
 have hblk:=hbl k
 refine zah ?_
 refine br (fun hlt=>?_) (fun hge=>?_)
 case refine_2=>
   have hke:k=c.ins.length:=by omega
   rw [hke] at hO3 hblk
   obtain ⟨lo,hi,h1,h2,hr⟩:=hO3.row
   refine (zoo hr.own (by omega)).mono ?_
   rintro _ w4 ⟨hc4,ho4⟩
   rw [zm1 hc] at ho4
   exact ⟨(hx12.trans hO3.ext).chgI hc4 (by omega),ho4.own.mono (by omega)⟩
 have hk:k<c.ins.length:=by omega
 refine zac u30 zaR h19 hk fun b3 o3 hA3=>?_
 rw [zaS] at hA3
 refine zab zaR hA3 ((e0.trans hx12).trans hO3.ext) fun v25 h25=>?_
 refine zct zfD rfl zaR rfl h25 ((e0.trans hx12).trans hO3.ext) fun w4 hx4 hAI hV4=>?_
 have hO4:=hO3.step hx4
 have hgl:w3.heap.size<w4.heap.size:=hV4.lt
 have hAB4:=zey h25 hV4 rfl
 have hmk:=za5 (ms:=zfd c) (i:=k) (by rw [hml];exact hk)
 have hiff:(zfd c)[k]=true↔MetP c k:=by
   rw [←hmk];unfold zfd;rw [zbl];exact ⟨fun h=>h.2,fun h=>⟨by omega,h⟩⟩
 refine zaa zaL ?_
 refine zad ty3 (zat hAI) (Ext.refl _) fun _=>?_
 refine zaI ?_
 have hno:¬(MetP c k∧(zaj c k).op=6)→zjA c (k+1)=zjA c k:=fun h=>by
   rw [hsuc];unfold zlP;rw [if_neg h,List.append_nil]
 refine br (fun hne=>?_) (fun heq=>?_)
 · refine zaf (by omega) ?_
   exact ⟨mk-1,by omega,k+1,by omega,out,rfl,by omega,by rw [hno fun h=>hne h.2];exact hO4⟩
 have h6:(zaj c k).op=6:=Decidable.not_not.1 heq
 refine zac zdi ty4 (i:=k) hMe (by rw [hml];exact hk) fun b4 o4 hA4=>?_
 refine zaX ty4 hA4 hO4.ext ?_
 refine zaW ?_
 refine zb8 (fun hf=>?_) (fun hf=>?_)
 · have hnm:¬MetP c k:=fun h=>by rw [hiff.2 h] at hf;cases hf
   refine zaf (by omega) ?_
   exact ⟨mk-1,by omega,k+1,by omega,out,rfl,by omega,by rw [hno fun h=>hnm h.1];exact hO4⟩
 have hMk:MetP c k:=hiff.1 (by simpa using hf)
 have hag:=(zcU hc hk (.inl h6)).1
 have hA:zlP c k=(zba (zaG (zi9 c) k)).map (zo0 c k):=by unfold zlP;rw [if_pos ⟨hMk,h6⟩]
 rw [hA] at hsuc
 refine zac u23 ty3 (i:=k) hMa (by rw [zag,zfO];exact hk) fun b5 o5 hA5=>?_
 rw [zbu] at hA5
 refine zad ty3 hA5 hO4.ext fun _=>?_
 have hm64:=zeG (zmU c) k
 generalize hmm:zaG (zi9 c) k=m at *
 refine (zgA (m:=m) (by omega)).mono ?_
 rintro v40 w5 ⟨hx5,ho5⟩
 have hO5:=hO4.step hx5
 have hBl:=zdo m 64
 have hbL:(zba m).length≤64:=hBl
 refine zae u23 ho5.is ?_
 obtain ⟨Fb,hmb,hFb⟩:=ho5
 have hs5:=hx5.size
 have hlb:=hmb.lt
 refine zaq (zba m).length (fun j us w'=>∃ out',us=[out',.int .i64 (j:Int)]∧j≤(zba m).length∧Ext w2 w'∧w5.heap.size≤w'.heap.size∧Mine Fb w' v40 (zba m)∧AtB W0 w' w3.heap.size 0 (zaj c k)∧∃ lo hi,w2.heap.size≤lo∧hi≤w'.heap.size∧RowI lo hi 104 w' out' (zjA c k++((zba m).take j).map (zo0 c k))∧(w3.heap.size<lo∨hi≤w3.heap.size)∧∀ b∈Fb,b<lo∨hi≤b) 0 (Nat.zero_le _) ⟨out,rfl,Nat.zero_le _,hO5.ext,Nat.le_refl _,hmb,hAB4.ext hx5,?_⟩ ?_
 · obtain ⟨lo,hi,h1,h2,hr⟩:=hO3.row
   refine ⟨lo,hi,h1,by omega,by simpa using (hr.ext (hx4.trans hx5)),.inr h2,fun b hb=>.inr ?_⟩
   have:=hFb b hb
   omega
 rintro j mj u6 w6 hjm ⟨out6,hu6,hjl,hx26,hs56,hM6,hAB6,lo,hi,h1,h2,hr6,hd3,hdb⟩
 obtain ⟨hu61,hu62⟩:=zcO hu6
 rw [hu61,hu62]
 refine zah ?_
 refine br (fun hlt6=>?_) (fun hge6=>?_)
 case refine_2=>
   refine zaf (by omega) ?_
   refine ⟨mk-1,by omega,k+1,by omega,out6,rfl,by omega,?_⟩
   rw [hsuc]
   rw [List.take_of_length_le (by omega)] at hr6
   exact ⟨hx26,lo,hi,h1,h2,hr6⟩
 have hj:j<(zba m).length:=by omega
 refine zac u23 ty3 (i:=j) hM6.is hj fun b6 o6 hA6=>?_
 refine zad ty3 hA6 (Ext.refl _) fun _=>?_
 have hAI6:=hAB6.at ((e0.trans hx12).trans hx26)
 refine zaa zbi ?_
 refine zad ty3 (zaJ hAI6) (Ext.refl _) fun _=>?_
 refine zec (cells:=#[.int .i64 (zba m)[j],.int .i64 (zaj c k).arg,.int .i64 (k:Int)]) (by kernel_rfl) ?_
 obtain ⟨l,hl,hbit⟩:=(zjl hm64).1 (List.getElem_mem hj)
 have hl6:=zd2 hm64 hbit
 have hW:zo0 c k (zba m)[j]=⟨(zba m)[j],(zaj c k).arg,k⟩:=by unfold zo0;rw [hag]
 have hag6:=(zcU hc hk (.inl h6)).2.2
 have hlen:(zjA c k++((zba m).take j).map (zo0 c k)).length≤200000:=by
   simp only [List.length_append,List.length_map,List.length_take];omega
 refine zdr (x:=(⟨(zba m)[j],(zaj c k).arg,k⟩:DOrder)) u72 zix zqT zqh (by decide) hr6 (lo2:=0) (hi2:=0) (zfP (zo9 (by unfold I64;omega) (by unfold I64;omega) (by unfold I64;omega))) (by rw [zam];omega) (by omega) fun v' w' lo' hi' hc7 hr' hd7=>?_
 have hs7:=hc7.size
 have hs26:=hx26.size
 refine zaf (by omega) ?_
 refine ⟨mj-1,by omega,j+1,by omega,v',rfl,by omega,hx26.chgI hc7 h1,by omega,hM6.keep fun b hb=>?_,hAB6.keep ?_,lo',hi',by omega,by omega,?_,by omega,fun b hb=>?_⟩
 · exact hc7.block b (hM6.lt b hb) (hdb b hb)
 · exact hc7.block _ (by omega) hd3
 · rw [List.take_succ_eq_append_getElem hj,List.map_append,←List.append_assoc]
   simp only [List.map_cons,List.map_nil]
   rw [hW];exact hr'
 have:=hdb b hb
 have:=hM6.lt b hb
 omega
def F45 (a0:Value) (w:World) (R:VW):Prop:=
 rN 72 3 a0 w fun x8=>
 LOOPI [3,9] [(Value.slice none 0 0),(iV 0)] w fun u3 w next3=>
 rC (u3 9) x8 w fun x10=>
 BR x10
 (rX 72 a0 (u3 9) w fun x11=>
 rL 104 x11 w fun x12=>
 oP (Instr.alloc 104 true (.tuple #[])) w fun x5 w=>
 oS 104 x5 x12 w fun w=>
 rF 104 x5 0 w fun x13=>
 rL 3 x13 w fun x14=>
 rF 104 x5 1 w fun x15=>
 rL 3 x15 w fun x16=>
 rD (Instr.build 106 #[(0,x14),(1,x16)]) w fun x17=>
 oP (Instr.alloc 106 true (.tuple #[])) w fun x6 w=>
 oS 106 x6 x17 w fun w=>
 rL 106 x6 w fun x19=>
 cL 85 [(u3 3),x19] w fun x20 w=>
 rD (Op.unary .not x20) w fun x21=>
 BR x21
 (rL 106 x6 w fun x23=>
 oP (Instr.buildSlice 62 1 #[(0,x23)]) w fun x24 w=>
 oP (Builtin.append_ #[62,62] 62 [(u3 3),x24].toArray) w fun x25 w=>
 rA (u3 9) (iV 1) w fun x26=>
 next3 [x25,x26] w)
 (rA (u3 9) (iV 1) w fun x26=>
 next3 [(u3 3),x26] w))
 (R (u3 3) w)
def cfg45:Cfg:=⟨extL,[],[(3,134217320,[3,9])],[],[],[],[]⟩
theorem F45_call {a0:Value} {w:World} {R:VW} (h:F45 a0 w R):cL 45 [a0] w R:=co (g:=cfg45) Tryz.func45 (by kernel_rfl) (by kernel_rfl) (by kernel_rfl) h
open Rep (rep)
theorem zgS {w W1:World} {v1:Value} {c:DCode} (h1:Is W1 v1 (zcG c)) (e1:Ext W1 w) (hc:CodeR c) :
   CALL Tryz.prog 45 [v1] w fun r w'=>Ext w w'∧∃ A,AInv (zcG c) A∧Own w.heap.size w' r A:=by
 refine F45_call ?_
 unfold F45
 have hol:=zkX hc
 have h6l:=hc.1.locks6
 refine zae u72 h1 ?_
 refine zaq (zcG c).length (fun k us w'=>∃ out A,us=[out,.int .i64 (k:Int)]∧k≤(zcG c).length∧Ext w w'∧RowI w.heap.size w'.heap.size 106 w' out A∧AInv ((zcG c).take k) A) 0 (Nat.zero_le _) ⟨_,[],rfl,Nat.zero_le _,Ext.refl _,zdy _ _ _ _,by rw [List.take_zero];exact AInv.start⟩ ?_
 rintro k mk q w2 hkm ⟨out,A,hq,hkl,hx2,hr2,hI⟩
 obtain ⟨hq1,hq2⟩:=zcO hq
 rw [hq1,hq2]
 have hs2:=hx2.size
 refine zah ?_
 refine br (fun hlt=>?_) (fun hge=>?_)
 case refine_2=>
   have hke:k=(zcG c).length:=by omega
   rw [hke,List.take_length] at hI
   exact ⟨hx2,A,hI,hr2.own.own⟩
 have hk:k<(zcG c).length:=by omega
 have hso:((zcG c).take k++[(zcG c)[k]]).Pairwise ltO:=by
   rw [←List.take_succ_eq_append_getElem hk]
   exact (zkf c).sublist (List.take_sublist _ _)
 have hlenA:=zh9 h6l hI.pw (hI.rng hc)
 refine zac u72 zix h1 hk fun b3 o3 hA3=>?_
 refine zab zix hA3 (e1.trans hx2) fun v12 h12=>?_
 refine zct zqG rfl zix rfl h12 (e1.trans hx2) fun w3 hx3 hAt3 hV3=>?_
 refine zaa zhF ?_
 refine zad ty3 (zgE hAt3) (Ext.refl _) fun hI0=>?_
 refine zaa zhG ?_
 refine zad ty3 (zgF hAt3) (Ext.refl _) fun hI1=>?_
 refine zec (cells:=#[.int .i64 (zcG c)[k].fr,.int .i64 (zcG c)[k].to]) (by kernel_rfl) ?_
 have hIs:Is w3 (.agg #[.int .i64 (zcG c)[k].fr,.int .i64 (zcG c)[k].to]) (zen (zcG c)[k]):=zhb.2 ⟨rfl,hI0,hI1⟩
 refine zct znN rfl zcx rfl hIs (Ext.refl _) fun w4 hx4 hAt4 hV4=>?_
 refine zab zcx hAt4 (Ext.refl _) fun v19 h19=>?_
 have hr4:=(hr2.ext hx3).ext hx4
 refine (zgZ hr4.is (Ext.refl _) h19 (Ext.refl _)).mono ?_
 rintro _ w5 ⟨hx5,rfl⟩
 have hx25:=(hx3.trans hx4).trans hx5
 refine zar ?_
 refine br (fun hno=>?_) (fun hyes=>?_)
 · refine zab zcx hAt4 hx5 fun v23 h23=>?_
   have hs25:=hx25.size
   refine zcP (lo2:=w5.heap.size) (hi2:=w5.heap.size) (x:=zen (zcG c)[k]) u62 zcx zqU zqi (by decide) (hr4.ext hx5) (by omega) (zfP (h23.ext hx5)) (by omega) (by omega) (by rw [zam];omega) (by omega) fun v' w9 hc9 hr9=>?_
   refine zaf (by omega) ?_
   refine ⟨mk-1,by omega,k+1,by omega,v',A++[zen (zcG c)[k]],rfl,by omega,(hx2.trans hx25).chgI hc9 (Nat.le_refl _),hr9,?_⟩
   rw [List.take_succ_eq_append_getElem hk]
   exact hI.new hso hno
 have hyes:=Decidable.not_not.1 hyes
 refine zaf (by omega) ?_
 refine ⟨mk-1,by omega,k+1,by omega,out,A,rfl,by omega,hx2.trans hx25,(hr4.ext hx5).mono (Nat.le_refl _) hx25.size,?_⟩
 rw [List.take_succ_eq_append_getElem hk]
 exact hI.old hyes
theorem zfS {c:DCode} (hc:CodeR c) {A:List DArc} (h:AInv (zcG c) A):(∀ a∈A,(0≤a.fr∧a.fr<c.locks.length)∧0≤a.to∧a.to<c.locks.length)∧A.length≤2000:=by
 have h1:AInv ((zcG c).take (zcG c).length) A:=by rw [List.take_length];exact h
 have h2:=h1.rng hc
 have:=zh9 hc.1.locks6 h.pw h2
 exact ⟨h2,by omega⟩
open Classical in
noncomputable def zkl (c:DCode) (k:Nat):List (List Nat):=((zaD c).take k).filter fun p=>decide (zkD (nxL c) p)
theorem zow {c:DCode} {k:Nat} (hk:k<(zaD c).length) (h:zkD (nxL c) (zaD c)[k]):zkl c (k+1)=zkl c k++[(zaD c)[k]]:=by
 unfold zkl
 rw [List.take_succ_eq_append_getElem hk,List.filter_append]
 simp [h]
theorem zpK {c:DCode} {k:Nat} (hk:k<(zaD c).length) (h:¬zkD (nxL c) (zaD c)[k]):zkl c (k+1)=zkl c k:=by
 unfold zkl
 rw [List.take_succ_eq_append_getElem hk,List.filter_append]
 simp [h]
theorem zk5 (c:DCode) (k:Nat):(zkl c k).length≤k:=Nat.le_trans (List.length_filter_le _ _) (by rw [List.length_take];omega)
theorem zkm {c:DCode} {cs:List (List Int)} (hp:cs.Perm ((zkl c (zaD c).length).map zaF)) (hs:cs.Pairwise fun a b=>hd0 a<hd0 b):cs=(zfz c).map zaF:=by
 refine zgL hs (by rw [List.pairwise_map];exact zm3 c) fun x=>?_
 rw [hp.mem_iff]
 simp only [List.mem_map,zlC]
 unfold zkl
 rw [List.take_length]
 simp only [List.mem_filter,decide_eq_true_eq]
theorem zox {α:Type} {f:α→List Nat} {Z:List α} {z:α} (hz:z∈Z) (h:(Z.flatMap f).Nodup):(f z).Nodup:=by
 obtain ⟨l1,l2,rfl⟩:=List.append_of_mem hz
 rw [List.flatMap_append,List.nodup_append] at h
 have h2:=h.2.1
 rw [List.flatMap_cons,List.nodup_append] at h2
 exact h2.1
theorem znk {w:World} {v:Value} {l:List (List Int)} {F:List Nat} (hM:Mine F w v l):∃ Z:List (List Nat×Value×List Int),l=Z.map (·.2.2)∧(∀ z∈Z,Mine z.1 w z.2.1 z.2.2)∧(Z.flatMap (·.1)).Nodup∧(∀ c∈Z.flatMap (·.1),c∈F) ∧
   (Z≠[]→∃ b o cap,v=.slice (some ⟨b,o,none⟩) l.length cap∧b∈F∧b∉Z.flatMap (·.1)∧w.rangeAt b o (Z.map (·.2.1))):=by
 obtain ⟨⟨c0,⟨a,cap,Fi,xs,rfl,h1,h2,hc,h4⟩,rfl⟩,hnd,hw⟩:=hM
 obtain ⟨Z,rfl,rfl,rfl,hZ⟩:=zeH hc
 rcases h4 with ⟨h4,rfl⟩ | ⟨b,o,rfl,rfl,hr,hbl⟩
 · have:Z=[]:=by simpa using h4
   subst this
   exact ⟨[],rfl,by simp,by simp,by simp,fun h=>absurd rfl h⟩
 rw [List.nodup_cons] at hnd
 have hsub:∀ z∈Z,∀ c∈z.1,c∈Z.flatMap (·.1):=fun z hz c hc=>List.mem_flatMap.2 ⟨z,hz,hc⟩
 refine ⟨Z,rfl,fun z hz=>⟨⟨_,hZ z hz,rfl⟩,?_,hw.sub fun c hc=>List.mem_cons_of_mem _ (hsub z hz c hc)⟩,hnd.2,fun c hc=>List.mem_cons_of_mem _ hc,fun _=>⟨b,o,cap,rfl,by simp,hnd.1,hr⟩⟩
 exact zox (f:=(·.1)) hz hnd.2
def F43 (a0:Value) (w:World) (R:VW):Prop:=
 (fun w=>NIL a0 <|
 rF 114 a0 0 w fun x10=>
 rF 32 x10 1 w fun x11=>
 rL 22 x11 w fun x12=>
 rN 22 3 x12 w fun x13=>
 (fun w_=>cL 46 [a0] w_ fun x15 w=>
 Ext w_ w ∧
 (fun w_=>cL 45 [x15] w_ fun x16 w=>
 Ext w_ w ∧
 cL 44 [x13,x16] w fun x19 w=>
 rN 39 3 x19 w fun x20=>
 LOOPI [5,21] [(Value.slice none 0 0),(iV 0)] w fun u4 w next4=>
 rC (u4 21) x20 w fun x22=>
 BR x22
 (rX 39 x19 (u4 21) w fun x23=>
 rL 23 x23 w fun x24=>
 cL 81 [x13,x16,x24] w fun x28 w=>
 BR x28
 (oP (Instr.buildSlice 39 1 #[(0,x24)]) w fun x31 w=>
 oP (Builtin.append_ #[39,39] 39 [(u4 5),x31].toArray) w fun x32 w=>
 rA (u4 21) (iV 1) w fun x33=>
 next4 [x32,x33] w)
 (rA (u4 21) (iV 1) w fun x33=>
 next4 [(u4 5),x33] w))
 (cL 82 [(u4 5),(Value.func (.func 83) #[] #[])] w fun x35 w=>
 R (u4 5) w)) w) w) (World.drew1 w)
def cfg43:Cfg:=⟨extL,[],[(4,17177772192,[5,21])],[(1,[0,1,2,3,4,5,6,7,8,9,10],384)],[],[],[]⟩
theorem F43_call {a0:Value} {w:World} {R:VW} (h:F43 a0 w R):cL 43 [a0] w R:=co (g:=cfg43) Tryz.func43 (by kernel_rfl) (by kernel_rfl) (by kernel_rfl) h
def F10 (a0:Value) (w:World) (R:VW):Prop:=
 oP (Instr.box 32 a0) w fun x1 w=>
 rL 32 x1 w fun x10=>
 cL 42 [x10] w fun x11 w=>
 rE x11 0 w fun x12=>
 rE x11 1 w fun x13=>
 rD (Op.unary .not x13) w fun x15=>
 BR x15
 (R (Value.tuple #[(Value.slice none 0 0),(Value.bool false)]) w)
 (cL 43 [x12] w fun x18 w=>
 rN 39 3 x18 w fun x19=>
 rB .gtr 3 T0 U0 x19 (iV 0) w fun x20=>
 BR x20
 (R (Value.tuple #[(Value.slice none 0 0),(Value.bool false)]) w)
 ((fun w=>rF 32 x1 1 w fun x22=>
 rL 22 x22 w fun x23=>
 rN 22 3 x23 w fun x24=>
 (fun w_=>cL 46 [x12] w_ fun x26 w=>
 Ext w_ w ∧
 (fun w_=>cL 45 [x26] w_ fun x27 w=>
 Ext w_ w ∧
 (fun w_=>cL 44 [x24,x27] w_ fun x28 w=>
 Ext w_ w ∧
 rN 39 3 x28 w fun x29=>
 LOOPI [6,30] [(Value.slice none 0 0),(iV 0)] w fun u6 w next6=>
 rC (u6 30) x29 w fun x31=>
 BR x31
 (rX 39 x28 (u6 30) w fun x32=>
 rL 23 x32 w fun x33=>
 oP (Builtin.append_ #[23,23] 23 [(u6 6),x33].toArray) w fun x36 w=>
 rA (u6 30) (iV 1) w fun x37=>
 next6 [x36,x37] w)
 (R (Value.tuple #[(u6 6),(Value.bool true)]) w)) w) w) w) (World.drew1 w)))
def cfg10:Cfg:=⟨extL,[],[(6,273804165440,[6,30])],[(5,[0,1,2,3,8,4,5,6,7],112)],[],[],[]⟩
theorem F10_call {a0:Value} {w:World} {R:VW} (h:F10 a0 w R):cL 10 [a0] w R:=co (g:=cfg10) Tryz.func10 (by kernel_rfl) (by kernel_rfl) (by kernel_rfl) h
open Rep (rep)
theorem zju {α β:Type} {f:α→List β} {l:List α} {k:Nat} {x:β} (h:x∈(l.take k).flatMap f):x∈l.flatMap f:=by
 obtain ⟨z,hz,hx⟩:=List.mem_flatMap.1 h
 exact List.mem_flatMap.2 ⟨z,List.mem_of_mem_take hz,hx⟩
theorem zlI {α:Type} {f:α→List Nat} {l:List α} {k:Nat} (hk:k<l.length) (hn:(l.flatMap f).Nodup):∀ c∈f l[k],c∉(l.take k).flatMap f:=fun c hc h=>by
 have e:l=l.take k++l[k] :: l.drop (k+1):=by rw [←List.drop_eq_getElem_cons hk,List.take_append_drop]
 rw [e,List.flatMap_append,List.nodup_append] at hn
 exact hn.2.2 c h c (by rw [List.flatMap_cons];exact List.mem_append_left _ hc) rfl
theorem zcr {α β:Type} {f:α→List β} {l:List α} {k:Nat} (hk:k<l.length):(l.take (k+1)).flatMap f=(l.take k).flatMap f++f l[k]:=by
 rw [List.take_succ_eq_append_getElem hk,List.flatMap_append];simp
theorem znl {w W0:World} {b:Nat} {c:DCode} (hW:WAt W0 b c) (e0:Ext W0 w) (hc:CodeR c) :
   CALL Tryz.prog 43 [.pointer (some ⟨b,0,none⟩)] w fun r w'=>Ext w w'∧Own w.heap.size w' r ((zfz c).map zaF):=by
 refine F43_call ?_
 unfold F43
 have h6l:=hc.1.locks6
 have hcode:=hW.wl.code
 have hxd:=zan w
 generalize World.drew1 w=w1 at *
 refine NIL.mk rfl ?_
 refine zaa zbO ?_
 refine zaa zb2 ?_
 refine zab zb1 (zaB hcode) (e0.trans hxd) fun v12 h12=>?_
 refine zae u22 h12 ?_
 refine (zjt hW (e0.trans hxd) hc).mono ?_
 rintro v15 w2 ⟨hx2,ho2⟩
 refine ⟨hx2,?_⟩
 refine (zgS ho2.is (Ext.refl _) hc).mono ?_
 rintro v16 w3 ⟨hx3,A,hAI,ho3⟩
 refine ⟨hx3,?_⟩
 obtain ⟨hAr,hAl⟩:=zfS hc hAI
 refine (zge ho3.is (Ext.refl _) (by omega) hAr hAl).mono ?_
 rintro v19 w4 ⟨hx4,ho4⟩
 rw [zej hc hAI] at ho4
 have hx03:=(hxd.trans hx2).trans hx3
 have hs3:=hx03.size
 have hs4:=hx4.size
 obtain ⟨F,hM,hF⟩:=ho4
 change Mine F w4 v19 ((zaD c).map zaF) at hM
 have hll:=zcW c
 refine zae u39 hM.is ?_
 rw [List.length_map]
 obtain ⟨Z,hZl,hZ,hZn,hZF,hZs⟩:=znk hM
 have hZlen:Z.length=(zaD c).length:=by have:=congrArg List.length hZl;simpa using this.symm
 refine zaq (zaD c).length (fun k us w'=>∃ out FO,us=[out,.int .i64 (k:Int)]∧k≤(zaD c).length∧Ext w3 w'∧w4.heap.size≤w'.heap.size∧RowG FO 23 w' out ((zkl c k).map zaF)∧FO.Nodup∧(∀ x∈FO,x∈(Z.take k).flatMap (·.1)∨w4.heap.size≤x)∧∀ x,x<w4.heap.size→x∉(Z.take k).flatMap (·.1)→w'.heap[x]?=w4.heap[x]?) 0 (Nat.zero_le _) ⟨_,[],rfl,Nat.zero_le _,hx4,Nat.le_refl _,.inl ⟨none,rfl,by simp [zkl],rfl⟩,List.nodup_nil,by simp,fun _ _ _=>rfl⟩ ?_
 rintro k mk q w5 hkm ⟨out,FO,hq,hkl,hx5,hs5,hr5,hn5,hFO,hkeep⟩
 obtain ⟨hq1,hq2⟩:=zcO hq
 rw [hq1,hq2]
 have hcl:=zk5 c k
 have hFOge:∀ x∈FO,w3.heap.size≤x:=fun x hx=>by
   rcases hFO x hx with h | h
   · exact hF x (hZF x (zju h))
   omega
 refine zah ?_
 refine br (fun hlt=>?_) (fun hge=>?_)
 case refine_2=>
   have hke:k=(zaD c).length:=by omega
   rw [hke] at hr5
   have hown:OwnI w3.heap.size w5.heap.size w5 out ((zkl c (zaD c).length).map zaF):=⟨FO,⟨hr5.own,hn5,hr5.wr⟩,fun x hx=>⟨hFOge x hx,hr5.lt x hx⟩⟩
   have hin:∀ p∈zkl c (zaD c).length,p∈zaD c:=fun p hp=>by
     unfold zkl at hp
     exact List.mem_of_mem_take (List.mem_filter.1 hp).1
   refine (zor hown (by rw [List.length_map];have:=zk5 c (zaD c).length;omega) (fun x hx=>?_) (fun x hx=>?_) ?_).mono ?_
   · obtain ⟨p,hp,rfl⟩:=List.mem_map.1 hx
     obtain ⟨n,_,h2,_⟩:=zek (hin p hp)
     intro e
     have h3:p=[]:=List.eq_nil_of_length_eq_zero (by rw [←zag,e];rfl)
     rw [h3] at h2;cases h2
   · obtain ⟨p,hp,rfl⟩:=List.mem_map.1 hx
     obtain ⟨n,h1,_,h2⟩:=zek (hin p hp)
     rw [zda h1];omega
   · rw [List.pairwise_map]
     unfold zkl
     exact ((zjo c).sublist (List.take_sublist _ _)).filter _
   rintro _ w6 ⟨hc6,cs',ho6,hp6,hs6⟩
   rw [zkm hp6 hs6] at ho6
   exact ⟨(hx03.trans hx5).chgI hc6 hs3,ho6.own.mono hs3⟩
 have hk:k<(zaD c).length:=by omega
 have hkZ:k<Z.length:=by omega
 obtain ⟨b9,o9,cap,rfl,hbF,hbZ,hrZ⟩:=hZs (List.ne_nil_of_length_pos (by omega))
 have hzk:=hZ _ (List.getElem_mem hkZ)
 have hlk:Z[k].2.2=zaF (zaD c)[k]:=by
   have h1:((zaD c).map zaF)[k]?=(Z.map (·.2.2))[k]?:=by rw [hZl]
   rw [List.getElem?_map,List.getElem?_map,List.getElem?_eq_getElem hk,List.getElem?_eq_getElem hkZ] at h1
   simpa using h1.symm
 have hap:=zlI (f:=(·.1)) hkZ hZn
 have hzk5:Mine Z[k].1 w5 Z[k].2.1 Z[k].2.2:=hzk.keep fun x hx=>hkeep x (hzk.lt x hx) (hap x hx)
 have hb5:w5.heap[b9]?=w4.heap[b9]?:=hkeep b9 (hM.lt b9 hbF) fun h=>hbZ (zju h)
 have hr9:w5.rangeAt b9 (o9+k*1) [Z[k].2.1]:=fun j v hj=>by
   cases j with
   | zero=>
     simp only [List.getElem?_cons_zero,Option.some.injEq] at hj
     subst hj
     rw [World.cell?_of_block (w:=w4) hb5,Nat.mul_one,Nat.add_zero]
     exact hrZ k _ (by rw [List.getElem?_map,List.getElem?_eq_getElem hkZ];rfl)
   | succ j=>simp at hj
 refine zaQ (v:=.pointer (some ⟨b9,o9+k*1,none⟩)) (fun w' _=>by rw [zcs u39 zbv (by omega) (by rw [List.length_map];omega)];simp) ?_
 refine znH (α:=List Int) zbv (by
   obtain ⟨cs,hr,hv⟩:=hzk5.own
   obtain ⟨v,rfl⟩:∃ v,cs=[v]:=List.length_eq_one_iff.1 (Rep.len hr)
   have:Z[k].2.1=v:=hv
   rw [this];exact hr) hr9 ?_
 change CALL Tryz.prog _ [_,_,Z[k].2.1] w5 _
 rw [hlk] at hzk5
 refine (zh6 ho3.is hx5 hzk5.is (Ext.refl _) (by omega) hAr hAl (zco (List.getElem_mem hk)).2 (by have:=(zco (List.getElem_mem hk)).1;omega)).mono ?_
 rintro _ w6 ⟨hx6,bb,rfl,hbb⟩
 rw [zej hc hAI] at hbb
 have hs6:=hx6.size
 have hr6:=hr5.keep fun x hx=>hx6.heap (hr5.lt x hx)
 have hkeep6:∀ x,x<w4.heap.size→x∉(Z.take k).flatMap (·.1)→w6.heap[x]?=w4.heap[x]?:=fun x hx hn=>(hx6.heap (by omega)).trans (hkeep x hx hn)
 refine zb8 (fun hy=>?_) (fun hn=>?_)
 · have hcy:=hbb.1 hy
   refine zkL (K:=fun w1 r w2=>_) u39 zbv z23 zqw (by decide) hr6 hn5 (hzk5.ext hx6) (fun x hx hxF=>?_) (by rw [List.length_map,zam];omega) (by rw [List.length_map];omega) (fun w7 v' w8 G' hx7 hc8 hR8 hN8 hs8=>?_) fun s w7 _ h=>h
   · rcases hFO x hxF with h | h
     · exact hap x hx h
     have:=hzk.lt x hx;omega
   refine zaf (by omega) ?_
   refine ⟨mk-1,by omega,k+1,by omega,v',G',rfl,by omega,((hx5.trans hx6).trans hx7).chg_trans hc8 hFOge,?_,?_,hN8,fun x hx=>?_,fun x hx hn=>?_⟩
   · have:=hx7.size;have:=hc8.size;omega
   · rw [zow hk hcy,List.map_append];exact hR8
   · rw [zcr hkZ]
     rcases hs8 x hx with h | h | h
     · rcases hFO x h with h | h
       · exact .inl (List.mem_append_left _ h)
       exact .inr h
     · exact .inl (List.mem_append_right _ h)
     exact .inr (by omega)
   rw [zcr hkZ] at hn
   have hn1:x∉(Z.take k).flatMap (·.1):=fun h=>hn (List.mem_append_left _ h)
   have hnF:x∉FO:=fun h=>by
     rcases hFO x h with h | h
     · exact hn1 h
     omega
   have h7:=hx7.size
   rw [hc8.block x (by omega) hnF,hx7.heap (by omega)]
   exact hkeep6 x hx hn1
 have hcy:¬zkD (nxL c) (zaD c)[k]:=fun h=>by rw [hbb.2 h] at hn;cases hn
 refine zaf (by omega) ?_
 refine ⟨mk-1,by omega,k+1,by omega,out,FO,rfl,by omega,hx5.trans hx6,by omega,by rw [zpK hk hcy];exact hr6,hn5,fun x hx=>?_,fun x hx hn=>?_⟩
 · rw [zcr hkZ]
   rcases hFO x hx with h | h
   · exact .inl (List.mem_append_left _ h)
   exact .inr h
 rw [zcr hkZ] at hn
 exact hkeep6 x hx fun h=>hn (List.mem_append_left _ h)
open Classical in
def okR (c:DCode):Prop:=CodeR c∧zfz c=[]
open Classical in
noncomputable def zcX (c:DCode):List Int:=if okR c then zaF (zpH c) else []
open Classical in
noncomputable def zoy (c:DCode):Bool:=decide (okR c)
theorem znm (c:DCode) (hc:CodeR c):(zpH c).length≤36:=by
 have h6:=hc.1.locks6
 have h1:=flat_len (m:=c.locks.length) (l:=zaD c) fun p hp=>(zco hp).1
 have h2:=zcW c
 have:(zaD c).length*c.locks.length≤6*6:=Nat.mul_le_mul (by omega) h6
 unfold zpH;omega
theorem zkn (c:DCode):(zcX c).length≤36:=by
 unfold zcX;split
 · rename_i h;rw [zag];exact znm c h.1
 simp
theorem zhp {l:List (List Nat)} {k:Nat} (hk:k<l.length):zaF ((l.take (k+1)).flatten)=zaF ((l.take k).flatten)++zaF l[k]:=by
 rw [List.take_succ_eq_append_getElem hk,List.flatten_append,zbK];simp
theorem zfB {c:DCode} (hc:CodeR c) (k:Nat):((zaD c).take k).flatten.length≤36:=by
 have h6:=hc.1.locks6
 have h1:=flat_len (m:=c.locks.length) (l:=(zaD c).take k) fun p hp=>(zco (List.mem_of_mem_take hp)).1
 have h2:=zcW c
 have h3:((zaD c).take k).length≤6:=by rw [List.length_take];omega
 have:((zaD c).take k).length*c.locks.length≤6*6:=Nat.mul_le_mul h3 h6
 omega
theorem zfc {w W0:World} {v0:Value} {c:DCode} (h0:Is W0 v0 c) (e0:Ext W0 w) :
   CALL Tryz.prog 10 [v0] w fun r w'=>Ext w w'∧∃ v,r=.tuple #[v,.bool (zoy c)]∧Own w.heap.size w' v (zcX c):=by
 refine F10_call ?_
 unfold F10
 refine zdm h0 e0 fun w1 hx1 hA=>?_
 refine zab zdh hA (Ext.refl _) fun v6 h6=>?_
 refine (zlH h6 (Ext.refl _)).mono ?_
 rintro r7 w2 ⟨hx2,hr⟩
 have hs1:=hx1.size
 have hs2:=hx2.size
 have hno:¬okR c→Ext w w2∧∃ v,Value.tuple #[.slice none 0 0,.bool false]=.tuple #[v,.bool (zoy c)]∧Own w.heap.size w2 v (zcX c):=fun h=>
   ⟨hx1.trans hx2,.slice none 0 0,by unfold zoy;simp only [h,decide_false],by unfold zcX;rw [if_neg h];exact zjJ rfl⟩
 rcases hr with ⟨hn,rfl⟩ | ⟨hc,b,rfl,hW⟩
 · refine zbz rfl ?_
   refine zbz rfl ?_
   refine zaW ?_
   refine zb8 (fun _=>?_) (fun h=>by cases h)
   exact hno fun h=>hn h.1
 refine zbz rfl ?_
 refine zbz rfl ?_
 refine zaW ?_
 refine zb8 (fun h=>by cases h) (fun _=>?_)
 refine (znl hW (Ext.refl _) hc).mono ?_
 rintro v18 w3 ⟨hx3,ho3⟩
 refine zae u39 ho3.is ?_
 rw [List.length_map]
 refine zb9 ?_
 refine br (fun hg=>?_) (fun hg=>?_)
 · have h:¬okR c:=fun h=>by rw [h.2] at hg;simp at hg
   exact ⟨(hx1.trans hx2).trans hx3,.slice none 0 0,by unfold zoy;simp only [h,decide_false],by unfold zcX;rw [if_neg h];exact zjJ rfl⟩
 have hok:okR c:=⟨hc,List.eq_nil_of_length_eq_zero (by omega)⟩
 have h6l:=hc.1.locks6
 have hxd:=zan w3
 generalize World.drew1 w3=w4 at *
 refine zaa zb2 ?_
 refine zab zb1 (zaB hA) ((hx2.trans hx3).trans hxd) fun v23 h23=>?_
 refine zae u22 h23 ?_
 refine (zjt hW (hx3.trans hxd) hc).mono ?_
 rintro v26 w5 ⟨hx5,ho5⟩
 refine ⟨hx5,?_⟩
 refine (zgS ho5.is (Ext.refl _) hc).mono ?_
 rintro v27 w6 ⟨hx6,A,hAI,ho6⟩
 refine ⟨hx6,?_⟩
 obtain ⟨hAr,hAl⟩:=zfS hc hAI
 refine (zge ho6.is (Ext.refl _) (by omega) hAr hAl).mono ?_
 rintro v28 w7 ⟨hx7,ho7⟩
 rw [zej hc hAI] at ho7
 change Own w6.heap.size w7 v28 ((zaD c).map zaF) at ho7
 refine ⟨hx7,?_⟩
 have hx27:=(((hx2.trans hx3).trans hxd).trans hx5).trans (hx6.trans hx7)
 have hs27:=hx27.size
 have hll:=zcW c
 refine zae u39 ho7.is ?_
 rw [List.length_map]
 refine zaq (zaD c).length (fun k us w'=>∃ out,us=[out,.int .i64 (k:Int)]∧k≤(zaD c).length∧Ext w7 w'∧RowI w7.heap.size w'.heap.size 3 w' out (zaF ((zaD c).take k).flatten)) 0 (Nat.zero_le _) ⟨_,rfl,Nat.zero_le _,Ext.refl _,by rw [List.take_zero];exact zdy _ _ _ _⟩ ?_
 rintro k mk q w8 hkm ⟨out,hq,hkl,hx8,hr8⟩
 obtain ⟨hq1,hq2⟩:=zcO hq
 rw [hq1,hq2]
 have hs8:=hx8.size
 refine zah ?_
 refine br (fun hlt=>?_) (fun hge=>?_)
 · have hk:k<(zaD c).length:=by omega
   have hfl:=zfB hc k
   have hpl:=(zco (List.getElem_mem hk)).1
   refine zac (i:=k) u39 zbv ho7.is (by rw [List.length_map];exact hk) fun b3 o3 hA3=>?_
   refine zab zbv hA3 hx8 fun v33 h33=>?_
   rw [List.getElem_map] at h33
   refine zfk u23 ty3 zc3 hr8 hs8 h33 hx8 (by rw [zag,zag,zam];omega) (by rw [zag,zag];omega) fun v36 w9 hc9 hr9=>?_
   refine zaf (by omega) ?_
   refine ⟨mk-1,by omega,k+1,by omega,v36,rfl,by omega,hx8.chgI hc9 (Nat.le_refl _),?_⟩
   rw [zhp hk]
   exact hr9
 have hke:k=(zaD c).length:=by omega
 rw [hke,List.take_length] at hr8
 refine ⟨(hx1.trans hx27).trans hx8,out,by unfold zoy;simp only [hok,decide_true],?_⟩
 unfold zcX;rw [if_pos hok]
 exact hr8.own.own.mono (by omega)
def F75 (a0:Value) (w:World) (R:VW):Prop:=
 oP (Instr.box 32 a0) w fun x1 w=>
 oP (Instr.buildSlice 72 0 #[]) w fun x8 w=>
 rL 32 x1 w fun x9=>
 cL 129 [x9] w fun x10 w=>
 LOOPI [3,5] [x8,(iV 0)] w fun u4 w next4=>
 rF 32 x1 1 w fun x12=>
 rL 22 x12 w fun x13=>
 rN 22 3 x13 w fun x14=>
 rC (u4 5) x14 w fun x15=>
 BR x15
 (LOOPI [3,6] [(u4 3),(iV 0)] w fun u7 w next7=>
 rF 32 x1 1 w fun x19=>
 rL 22 x19 w fun x20=>
 rN 22 3 x20 w fun x21=>
 rC (u7 6) x21 w fun x22=>
 BR x22
 (LOOPI [3,7] [(u7 3),(iV 0)] w fun u10 w next10=>
 rF 32 x1 4 w fun x26=>
 rL 30 x26 w fun x27=>
 rN 30 3 x27 w fun x28=>
 rC (u10 7) x28 w fun x29=>
 BR x29
 (NIL x10 <|
 rF 159 x10 1 w fun x34=>
 rL 101 x34 w fun x35=>
 rX 101 x35 (u10 7) w fun x37=>
 rL 4 x37 w fun x38=>
 BR x38
 (rF 32 x1 4 w fun x40=>
 rL 30 x40 w fun x41=>
 rX 30 x41 (u10 7) w fun x43=>
 rF 111 x43 0 w fun x44=>
 rL 3 x44 w fun x45=>
 rB .eql 3 T0 U0 x45 (iV 6) w fun x46=>
 BR x46
 (rF 32 x1 4 w fun x49=>
 rL 30 x49 w fun x50=>
 rX 30 x50 (u10 7) w fun x52=>
 rF 111 x52 1 w fun x53=>
 rL 3 x53 w fun x54=>
 rB .eql 3 T0 T0 x54 (u7 6) w fun x56=>
 BR x56
 (NIL x10 <|
 rF 159 x10 2 w fun x61=>
 rL 23 x61 w fun x62=>
 rX 23 x62 (u10 7) w fun x64=>
 rL 3 x64 w fun x65=>
 cL 130 [x65,(u4 5)] w fun x67 w=>
 BR x67
 (rD (Instr.build 104 #[(0,(u4 5)),(1,(u7 6)),(2,(u10 7))]) w fun x73=>
 oP (Instr.buildSlice 72 1 #[(0,x73)]) w fun x74 w=>
 oP (Builtin.append_ #[72,72] 72 [(u10 3),x74].toArray) w fun x75 w=>
 rA (u10 7) (iV 1) w fun x31=>
 next10 [x75,x31] w)
 (rA (u10 7) (iV 1) w fun x31=>
 next10 [(u10 3),x31] w))
 (rA (u10 7) (iV 1) w fun x31=>
 next10 [(u10 3),x31] w))
 (rA (u10 7) (iV 1) w fun x31=>
 next10 [(u10 3),x31] w))
 (rA (u10 7) (iV 1) w fun x31=>
 next10 [(u10 3),x31] w))
 (rA (u7 6) (iV 1) w fun x24=>
 next7 [(u10 3),x24] w))
 (rA (u4 5) (iV 1) w fun x17=>
 next4 [(u7 3),x17] w))
 (R (u4 3) w)
def cfg75:Cfg:=⟨extL,[],[(4,75557863725914323417320,[3,5]),(7,75557863725914323157192,[3,6]),(10,75557863725914289864840,[3,7])],[],[],[],[]⟩
theorem F75_call {a0:Value} {w:World} {R:VW} (h:F75 a0 w R):cL 75 [a0] w R:=co (g:=cfg75) Tryz.func75 (by kernel_rfl) (by kernel_rfl) (by kernel_rfl) h
open Rep (rep)
theorem znn {w W0:World} {v0:Value} {c:DCode} (h0:Is W0 v0 c) (e0:Ext W0 w) (hc:CodeR c) :
   CALL Tryz.prog 75 [v0] w fun r w'=>Ext w w'∧Own w.heap.size w' r (zcG c):=by
 refine F75_call ?_
 unfold F75
 have hil:=hc.f.ins
 have h6l:=hc.1.locks6
 refine zdm h0 e0 fun w1 hx1 hA=>?_
 refine zbA (α:=DOrder) u72 zix fun a8 w2 hx2 hr2=>?_
 have hx12:=hx1.trans hx2
 refine zab zdh hA hx2 fun v9 h9=>?_
 refine (znf h9 hx2 hc).mono ?_
 rintro _ w3 ⟨hx3,gw,rfl,hmet,hmay⟩
 have hx13:=hx12.trans hx3
 have hx23:=hx2.trans hx3
 have hs2:=hx12.size
 have hml:(zfd c).length=c.ins.length:=by unfold zfd;rw [zas]
 generalize hwb:w3=wb at *
 have hI0:OI wb wb (.slice (some a8) 0 0) ((List.range 0).flatMap (ze9 c)):=⟨Ext.refl _,wb.heap.size,wb.heap.size,Nat.le_refl _,Nat.le_refl _,zcc _ _ _ _ _⟩
 refine zaq c.locks.length (fun k us w'=>∃ out,us=[out,.int .i64 (k:Int)]∧k≤c.locks.length∧OI wb w' out ((List.range k).flatMap (ze9 c))) 0 (Nat.zero_le _) ⟨_,rfl,Nat.zero_le _,hI0⟩ ?_
 rintro fr mk u w4 hkm ⟨out,hu,hkl,hO4⟩
 obtain ⟨hu1,hu2⟩:=zcO hu
 rw [hu1,hu2]
 refine zaa zb2 ?_
 refine zab zb1 (zaB hA) (hx23.trans hO4.ext) fun v13 h13=>?_
 refine zae u22 h13 ?_
 refine zah ?_
 refine br (fun hlt=>?_) (fun hge=>?_)
 case refine_2=>
   have hke:fr=c.locks.length:=by omega
   rw [hke] at hO4
   exact ⟨hx13.trans hO4.ext,hO4.own.mono (by have:=hx13.size;omega)⟩
 have hfr:fr<c.locks.length:=by omega
 refine zaq c.locks.length (fun k us w'=>∃ out,us=[out,.int .i64 (k:Int)]∧k≤c.locks.length∧OI wb w' out ((List.range fr).flatMap (ze9 c)++(List.range k).flatMap (zgI c fr))) 0 (Nat.zero_le _) ⟨_,rfl,Nat.zero_le _,by simpa using hO4⟩ ?_
 rintro to mk7 u7 w7 hkm7 ⟨out7,hu7,hkl7,hO7⟩
 obtain ⟨hu71,hu72⟩:=zcO hu7
 rw [hu71,hu72]
 refine zaa zb2 ?_
 refine zab zb1 (zaB hA) (hx23.trans hO7.ext) fun v20 h20=>?_
 refine zae u22 h20 ?_
 refine zah ?_
 refine br (fun hlt7=>?_) (fun hge7=>?_)
 case refine_2=>
   have hke:to=c.locks.length:=by omega
   rw [hke] at hO7
   refine zaf (by omega) ?_
   exact ⟨mk-1,by omega,fr+1,by omega,out7,rfl,by omega,by rw [zei];exact hO7⟩
 have hto:to<c.locks.length:=by omega
 refine zaq c.ins.length (fun k us w'=>∃ out,us=[out,.int .i64 (k:Int)]∧k≤c.ins.length∧OI wb w' out ((List.range fr).flatMap (ze9 c)++(List.range to).flatMap (zgI c fr)++(List.range k).flatMap (zdH c fr to))) 0 (Nat.zero_le _) ⟨_,rfl,Nat.zero_le _,by simpa using hO7⟩ ?_
 rintro i mk10 u10 w10 hkm10 ⟨out10,hu10,hkl10,hO10⟩
 obtain ⟨hu101,hu102⟩:=zcO hu10
 rw [hu101,hu102]
 have hx210:=hx23.trans hO10.ext
 refine zaa zaK ?_
 refine zab zdn (zak hA) hx210 fun v27 h27=>?_
 refine zae u30 h27 ?_
 refine zah ?_
 refine br (fun hlt10=>?_) (fun hge10=>?_)
 case refine_2=>
   have hke:i=c.ins.length:=by omega
   rw [hke] at hO10
   refine zaf (by omega) ?_
   exact ⟨mk7-1,by omega,to+1,by omega,out10,rfl,by omega,by rw [zei,←List.append_assoc];exact hO10⟩
 have hi:i<c.ins.length:=by omega
 have hsuc:(List.range fr).flatMap (ze9 c)++(List.range to).flatMap (zgI c fr)++(List.range (i+1)).flatMap (zdH c fr to)=(List.range fr).flatMap (ze9 c)++(List.range to).flatMap (zgI c fr)++(List.range i).flatMap (zdH c fr to)++zdH c fr to i:=by
   rw [zei,←List.append_assoc]
 have hlen:((List.range fr).flatMap (ze9 c)++(List.range to).flatMap (zgI c fr)++(List.range i).flatMap (zdH c fr to)).length≤100000:=by
   have h1:=zjk hil h6l fr
   have h2:=zjj hil fr to
   have h3:=zji c fr to i
   simp only [List.length_append];omega
 generalize (List.range fr).flatMap (ze9 c)++(List.range to).flatMap (zgI c fr)=Lp at *
 have hno:¬OrdP c fr to i→Lp++(List.range (i+1)).flatMap (zdH c fr to)=Lp++(List.range i).flatMap (zdH c fr to):=fun h=>by
   rw [hsuc];unfold zdH;rw [if_neg h,List.append_nil]
 have hyes:OrdP c fr to i→Lp++(List.range (i+1)).flatMap (zdH c fr to)=Lp++(List.range i).flatMap (zdH c fr to)++[mkO fr to i]:=fun h=>by
   rw [hsuc];congr 1;unfold zdH;rw [if_pos h]
 refine NIL.mk rfl ?_
 refine zaa zfj ?_
 refine zab zck hmet hO10.ext fun v35 hMe=>?_
 have hmk:=za5 (ms:=zfd c) (i:=i) (by rw [hml];exact hi)
 have hiff:(zfd c)[i]=true↔MetP c i:=by
   rw [←hmk];unfold zfd;rw [zbl];exact ⟨fun h=>h.2,fun h=>⟨by omega,h⟩⟩
 refine zac zdi ty4 (i:=i) hMe (by rw [hml];exact hi) fun b4 o4 hA4=>?_
 refine zaX ty4 hA4 hO10.ext ?_
 refine zb8 (fun ht=>?_) (fun hf=>?_)
 case refine_2=>
   have hnm:¬MetP c i:=fun h=>by rw [hiff.2 h] at hf;cases hf
   refine zaf (by omega) ?_
   exact ⟨mk10-1,by omega,i+1,by omega,out10,rfl,by omega,by rw [hno fun h=>hnm h.1];exact hO10⟩
 have hM:=hiff.1 ht
 refine zaa zaK ?_
 refine zab zdn (zak hA) hx210 fun v41 h41=>?_
 refine zac u30 zaR h41 hi fun b3 o3 hA3=>?_
 rw [zaS] at hA3
 refine zaa zaL ?_
 refine zad ty3 (zat hA3) hx210 fun _=>?_
 refine zao ?_
 refine br (fun h6=>?_) (fun h6=>?_)
 case refine_2=>
   refine zaf (by omega) ?_
   exact ⟨mk10-1,by omega,i+1,by omega,out10,rfl,by omega,by rw [hno fun h=>h6 h.2.1];exact hO10⟩
 obtain ⟨hag,_,hag6⟩:=zcU hc hi (.inl h6)
 refine zaa zaK ?_
 refine zab zdn (zak hA) hx210 fun v50 h50=>?_
 refine zac u30 zaR h50 hi fun b5 o5 hA5=>?_
 rw [zaS] at hA5
 refine zaa zbi ?_
 refine zad ty3 (zaJ hA5) hx210 fun _=>?_
 refine zao ?_
 refine br (fun hto'=>?_) (fun hto'=>?_)
 case refine_2=>
   refine zaf (by omega) ?_
   exact ⟨mk10-1,by omega,i+1,by omega,out10,rfl,by omega,by rw [hno fun h=>hto' (by rw [hag,h.2.2.1])];exact hO10⟩
 refine NIL.mk rfl ?_
 refine zaa zdx ?_
 refine zab zbv hmay hO10.ext fun v62 hMa=>?_
 refine zac u23 ty3 (i:=i) hMa (by rw [zag,zfO];exact hi) fun b6 o6 hA6=>?_
 rw [zbu] at hA6
 refine zad ty3 hA6 hO10.ext fun _=>?_
 have hm64:=zeG (zmU c) i
 refine (zof (m:=zaG (zi9 c) i) (i:=fr) (by omega) (by omega)).mono ?_
 rintro _ w11 ⟨hx11,rfl⟩
 have hbit:(zaG (zi9 c) i).testBit fr=true↔MayP c i fr:=by
   rw [zj9 hi,zoY];exact ⟨fun h=>h.2,fun h=>⟨by omega,h⟩⟩
 have hO11:=hO10.step hx11
 refine zb8 (fun hb=>?_) (fun hb=>?_)
 case refine_2=>
   refine zaf (by omega) ?_
   exact ⟨mk10-1,by omega,i+1,by omega,out10,rfl,by omega,by rw [hno fun h=>by rw [hbit.2 h.2.2.2] at hb;cases hb];exact hO11⟩
 have hP:OrdP c fr to i:=⟨hM,h6,by omega,hbit.1 hb⟩
 refine zec (cells:=#[.int .i64 fr,.int .i64 to,.int .i64 i]) (by kernel_rfl) ?_
 obtain ⟨lo,hi',h1,h2,hr⟩:=hO11.row
 refine zdr (x:=(mkO fr to i:DOrder)) u72 zix zqT zqh (by decide) hr (lo2:=0) (hi2:=0) (zfP (zo9 (by unfold I64;omega) (by unfold I64;omega) (by unfold I64;omega))) (by rw [zam];omega) (by omega) fun v' w' lo' hi2' hc7 hr' hd7=>?_
 have hs7:=hc7.size
 have hs11:=hO11.ext.size
 refine zaf (by omega) ?_
 refine ⟨mk10-1,by omega,i+1,by omega,v',rfl,by omega,hO11.ext.chgI hc7 h1,lo',hi2',by omega,by omega,?_⟩
 rw [hyes hP];exact hr'
open Classical in
def F38 (a0:Value) (w:World) (R:VW):Prop:=
 oP (Instr.box 32 a0) w fun x1 w=>
 oP (Instr.buildSlice 62 0 #[]) w fun x7 w=>
 rL 32 x1 w fun x8=>
 cL 75 [x8] w fun x9 w=>
 LOOPI [3,5] [x7,(iV 0)] w fun u4 w next4=>
 rN 72 3 x9 w fun x12=>
 rC (u4 5) x12 w fun x13=>
 BR x13
 ((fun w=>rX 72 x9 (u4 5) w fun x18=>
 rF 104 x18 0 w fun x19=>
 rL 3 x19 w fun x20=>
 rX 72 x9 (u4 5) w fun x23=>
 rF 104 x23 1 w fun x24=>
 rL 3 x24 w fun x25=>
 rD (Instr.build 106 #[(0,x20),(1,x25)]) w fun x26=>
 (fun w_=>oP (Instr.alloc 106 true (.tuple #[])) w_ fun x6 w=>
 Ext w_ w ∧
 (oS 106 x6 x26 w fun w=>
 (fun w=>rN 62 3 (u4 3) w fun x28=>
 rB .eql 3 T0 U0 x28 (iV 0) w fun x29=>
 BR x29
 (rL 106 x6 w fun x41=>
 oP (Instr.buildSlice 62 1 #[(0,x41)]) w fun x42 w=>
 oP (Builtin.append_ #[62,62] 62 [(u4 3),x42].toArray) w fun x43 w=>
 rA (u4 5) (iV 1) w fun x15=>
 next4 [x43,x15] w)
 (rN 62 3 (u4 3) w fun x33=>
 rB .sub 3 T0 U0 x33 (iV 1) w fun x34=>
 rX 62 (u4 3) x34 w fun x35=>
 rL 106 x35 w fun x36=>
 rL 106 x6 w fun x37=>
 rB .neq 106 T0 T0 x36 x37 w fun x38=>
 BR x38
 (rL 106 x6 w fun x41=>
 oP (Instr.buildSlice 62 1 #[(0,x41)]) w fun x42 w=>
 oP (Builtin.append_ #[62,62] 62 [(u4 3),x42].toArray) w fun x43 w=>
 rA (u4 5) (iV 1) w fun x15=>
 next4 [x43,x15] w)
 (rA (u4 5) (iV 1) w fun x15=>
 next4 [(u4 3),x15] w))) (World.drew1 w))) w) (World.drew1 w))
 (R (u4 3) w)
def cfg38:Cfg:=⟨extL,[],[(4,17592186043496,[3,5])],[(6,[0,1,2,3,4,5,6,7,8,9,10,11,12],2048),(7,[0,1,2,3,4,5,6,7,8,9,10,11,12],0)],[],[],[]⟩
theorem F38_call {a0:Value} {w:World} {R:VW} (h:F38 a0 w R):cL 38 [a0] w R:=co (g:=cfg38) Tryz.func38 (by kernel_rfl) (by kernel_rfl) (by kernel_rfl) h
def F36 (a0:Value) (w:World) (R:VW):Prop:=
 oP (Instr.box 32 a0) w fun x1 w=>
 rL 32 x1 w fun x8=>
 cL 38 [x8] w fun x9 w=>
 rF 32 x1 1 w fun x10=>
 rL 22 x10 w fun x11=>
 rN 22 3 x11 w fun x12=>
 cL 37 [x12,x9] w fun x14 w=>
 oP (Instr.buildSlice 39 0 #[]) w fun x15 w=>
 LOOPI [5,6] [x15,(iV 0)] w fun u5 w next5=>
 rF 32 x1 1 w fun x17=>
 rL 22 x17 w fun x18=>
 rN 22 3 x18 w fun x19=>
 rC (u5 6) x19 w fun x20=>
 BR x20
 (LOOPI [5,7] [(u5 5),(iV 0)] w fun u8 w next8=>
 rN 39 3 x14 w fun x25=>
 rC (u8 7) x25 w fun x26=>
 BR x26
 ((fun w=>rX 39 x14 (u8 7) w fun x31=>
 rL 23 x31 w fun x32=>
 rX 23 x32 (iV 0) w fun x33=>
 rL 3 x33 w fun x34=>
 rB .eql 3 T0 T0 x34 (u5 6) w fun x36=>
 BR x36
 (rF 32 x1 1 w fun x38=>
 rL 22 x38 w fun x39=>
 rN 22 3 x39 w fun x40=>
 rX 39 x14 (u8 7) w fun x44=>
 rL 23 x44 w fun x45=>
 cL 72 [x40,x9,x45] w fun x46 w=>
 BR x46
 (oP (Instr.buildSlice 23 0 #[]) w fun x49 w=>
 rX 39 x14 (u8 7) w fun x52=>
 rL 23 x52 w fun x53=>
 oP (Builtin.append_ #[23,23] 23 [x49,x53].toArray) w fun x54 w=>
 oP (Instr.buildSlice 39 1 #[(0,x54)]) w fun x55 w=>
 oP (Builtin.append_ #[39,39] 39 [(u8 5),x55].toArray) w fun x56 w=>
 rA (u8 7) (iV 1) w fun x28=>
 next8 [x56,x28] w)
 (rA (u8 7) (iV 1) w fun x28=>
 next8 [(u8 5),x28] w))
 (rA (u8 7) (iV 1) w fun x28=>
 next8 [(u8 5),x28] w)) (World.drew1 w))
 (rA (u5 6) (iV 1) w fun x22=>
 next5 [(u8 5),x22] w))
 (R (u5 5) w)
def cfg36:Cfg:=⟨extL,[],[(5,144115188075790560,[5,6]),(8,144115188067467424,[5,7])],[(10,[0,1,2,3,4,5,6,7,8,9,10,11,12,13,14,15,16,17,18],0)],[],[],[]⟩
theorem F36_call {a0:Value} {w:World} {R:VW} (h:F36 a0 w R):cL 36 [a0] w R:=co (g:=cfg36) Tryz.func36 (by kernel_rfl) (by kernel_rfl) (by kernel_rfl) h
def F8 (a0:Value) (w:World) (R:VW):Prop:=
 oP (Instr.box 32 a0) w fun x1 w=>
 oP (Instr.buildSlice 23 0 #[]) w fun x7 w=>
 rL 32 x1 w fun x8=>
 cL 35 [x8] w fun x9 w=>
 rD (Op.unary .not x9) w fun x10=>
 BR x10
 (R (Value.tuple #[x7,(Value.bool false)]) w)
 (rL 32 x1 w fun x12=>
 cL 36 [x12] w fun x13 w=>
 rN 39 3 x13 w fun x14=>
 rB .gtr 3 T0 U0 x14 (iV 0) w fun x15=>
 BR x15
 (R (Value.tuple #[x7,(Value.bool false)]) w)
 ((fun w=>rF 32 x1 1 w fun x18=>
 rL 22 x18 w fun x19=>
 rN 22 3 x19 w fun x20=>
 rL 32 x1 w fun x21=>
 (fun w_=>cL 38 [x21] w_ fun x22 w=>
 Ext w_ w ∧
 cL 37 [x20,x22] w fun x23 w=>
 LOOPI [4,6] [x7,(iV 0)] w fun u6 w next6=>
 rN 39 3 x23 w fun x26=>
 rC (u6 6) x26 w fun x27=>
 BR x27
 (rX 39 x23 (u6 6) w fun x33=>
 rL 23 x33 w fun x34=>
 oP (Builtin.append_ #[23,23] 23 [(u6 4),x34].toArray) w fun x35 w=>
 rA (u6 6) (iV 1) w fun x29=>
 next6 [x35,x29] w)
 (R (Value.tuple #[(u6 4),(Value.bool true)]) w)) w) (World.drew1 w)))
def cfg8:Cfg:=⟨extL,[],[(6,68702699600,[4,6])],[(4,[0,1,2,3,4,5,6],16)],[],[],[]⟩
theorem F8_call {a0:Value} {w:World} {R:VW} (h:F8 a0 w R):cL 8 [a0] w R:=co (g:=cfg8) Tryz.func8 (by kernel_rfl) (by kernel_rfl) (by kernel_rfl) h
open Rep (rep)
theorem zhq {w W0:World} {v0:Value} {c:DCode} (h0:Is W0 v0 c) (e0:Ext W0 w) (hc:CodeR c) :
   CALL Tryz.prog 38 [v0] w fun r w'=>Ext w w'∧∃ A,AInv (zcG c) A∧Own w.heap.size w' r A:=by
 refine F38_call ?_
 unfold F38
 have hol:=zkX hc
 have h6l:=hc.1.locks6
 refine zdm h0 e0 fun w1 hx1 hA=>?_
 refine zbA (α:=DArc) u62 zcx fun a8 w2 hx2 hr2=>?_
 refine zab zdh hA hx2 fun v8 h8=>?_
 refine (znn h8 hx2 hc).mono ?_
 rintro v9 w3 ⟨hx3,ho3⟩
 have h9:=ho3.is
 have hx13:=(hx1.trans hx2).trans hx3
 have hs13:=hx13.size
 refine zaq (zcG c).length (fun k us w'=>∃ out A,us=[out,.int .i64 (k:Int)]∧k≤(zcG c).length∧Ext w3 w'∧RowI w3.heap.size w'.heap.size 106 w' out A∧AInv ((zcG c).take k) A) 0 (Nat.zero_le _) ⟨_,[],rfl,Nat.zero_le _,Ext.refl _,zcc _ _ _ _ _,by rw [List.take_zero];exact AInv.start⟩ ?_
 rintro k mk q w4 hkm ⟨out,A,hq,hkl,hx4,hr4,hI⟩
 obtain ⟨hq1,hq2⟩:=zcO hq
 rw [hq1,hq2]
 have hs4:=hx4.size
 refine zae u72 h9 ?_
 refine zah ?_
 refine br (fun hlt=>?_) (fun hge=>?_)
 case refine_2=>
   have hke:k=(zcG c).length:=by omega
   rw [hke,List.take_length] at hI
   exact ⟨hx13.trans hx4,A,hI,hr4.own.own.mono hs13⟩
 have hk:k<(zcG c).length:=by omega
 have hso:((zcG c).take k++[(zcG c)[k]]).Pairwise ltO:=by
   rw [←List.take_succ_eq_append_getElem hk]
   exact (zkf c).sublist (List.take_sublist _ _)
 have hlenA:=zh9 h6l hI.pw (hI.rng hc)
 have hxd:=zan w4
 generalize World.drew1 w4=w5 at *
 have e5:=hx4.trans hxd
 refine zac u72 zix h9 hk fun b3 o3 hA3=>?_
 refine zaa zhF ?_
 refine zad ty3 (zgE hA3) e5 fun hI0=>?_
 refine zac u72 zix h9 hk fun b4 o4 hA4=>?_
 refine zaa zhG ?_
 refine zad ty3 (zgF hA4) e5 fun hI1=>?_
 refine zec (cells:=#[.int .i64 (zcG c)[k].fr,.int .i64 (zcG c)[k].to]) (by kernel_rfl) ?_
 have hIs:Is w5 (.agg #[.int .i64 (zcG c)[k].fr,.int .i64 (zcG c)[k].to]) (zen (zcG c)[k]):=zhb.2 ⟨rfl,hI0,hI1⟩
 refine zpj znN rfl zcx rfl hIs (Ext.refl _) fun w6 hx6 hAt6 hV6=>?_
 have hxd2:=zan w6
 generalize World.drew1 w6=w7 at *
 have hr7:=((hr4.ext hxd).ext hx6).ext hxd2
 have hx47:=(hxd.trans hx6).trans hxd2
 have hs47:=hx47.size
 have hpush:zen (zcG c)[k]∉A→RD Tryz.prog (Instr.loadAt 106 (.pointer (some ⟨w5.heap.size,0,none⟩))) w7 fun x41=>OP Tryz.prog (Instr.buildSlice 62 1 #[(0,x41)]) w7 fun x42 w=>OP Tryz.prog (Builtin.append_ #[62,62] 62 [out,x42].toArray) w fun x43 w=>RD Tryz.prog (bin .add 3 (.tmp 0) (.const undef) (.int .i64 (k:Int)) (.int .i64 1)) w fun x15=>∃ m',m'<mk∧∃ k',k'+m'=(zcG c).length∧∃ out A,[x43,x15]=[out,.int .i64 (k':Int)]∧k'≤(zcG c).length∧Ext w3 w∧RowI w3.heap.size w.heap.size 106 w out A∧AInv ((zcG c).take k') A:=fun hno=>by
   refine zab zcx hAt6 hxd2 fun v23 h23=>?_
   refine zcP (lo2:=w7.heap.size) (hi2:=w7.heap.size) (x:=zen (zcG c)[k]) u62 zcx zqU zqi (by decide) hr7 (by omega) (zfP (h23.ext hxd2)) (by omega) (by omega) (by rw [zam];omega) (by omega) fun v' w9 hc9 hr9=>?_
   refine zaf (by omega) ?_
   refine ⟨mk-1,by omega,k+1,by omega,v',A++[zen (zcG c)[k]],rfl,by omega,(hx4.trans hx47).chgI hc9 (Nat.le_refl _),hr9,?_⟩
   rw [List.take_succ_eq_append_getElem hk]
   exact hI.new hso hno
 refine zae u62 hr7.is ?_
 refine zao ?_
 refine br (fun h0=>?_) (fun hn0=>?_)
 · have:A=[]:=List.eq_nil_of_length_eq_zero (by omega)
   exact hpush (by rw [this];simp)
 have hlast:=hI.last hso (by omega)
 refine zae u62 hr7.is ?_
 refine za9 (by unfold I64;omega) ?_
 rw [show ((A.length:Int)-1)=((A.length-1:Nat):Int) by omega]
 refine zac (i:=A.length-1) u62 zcx hr7.is (by omega) fun b8 o8 hA8=>?_
 refine zab zcx hA8 (Ext.refl _) fun v36 h36=>?_
 refine zab zcx hAt6 hxd2 fun v37 h37=>?_
 refine zls h36 h37 ?_
 refine br (fun hne=>?_) (fun heq=>?_)
 · exact hpush fun h=>hne (hlast.2 h)
 have hyes:=hlast.1 (Decidable.not_not.1 heq)
 refine zaf (by omega) ?_
 refine ⟨mk-1,by omega,k+1,by omega,out,A,rfl,by omega,hx4.trans hx47,hr7.mono (Nat.le_refl _) hs47,?_⟩
 rw [List.take_succ_eq_append_getElem hk]
 exact hI.old hyes
open Classical in
noncomputable def zgT (c:DCode) (n:Nat):List (List Nat):=(List.range n).flatMap fun n=>(zaD c).filter fun p=>decide (p.head?=some n∧zkD (nxL c) p)
open Classical in
noncomputable def zdF (c:DCode) (n k:Nat):List (List Nat):=((zaD c).take k).filter fun p=>decide (p.head?=some n∧zkD (nxL c) p)
theorem zko (c:DCode) (n:Nat):zgT c (n+1)=zgT c n++zdF c n (zaD c).length:=by
 unfold zgT zdF
 rw [List.range_succ,List.flatMap_append,List.take_length];simp
theorem zlJ {c:DCode} {n k:Nat} (hk:k<(zaD c).length) (h:(zaD c)[k].head?=some n∧zkD (nxL c) (zaD c)[k]):zdF c n (k+1)=zdF c n k++[(zaD c)[k]]:=by
 unfold zdF
 rw [List.take_succ_eq_append_getElem hk,List.filter_append]
 simp [h]
theorem zno {c:DCode} {n k:Nat} (hk:k<(zaD c).length) (h:¬((zaD c)[k].head?=some n∧zkD (nxL c) (zaD c)[k])):zdF c n (k+1)=zdF c n k:=by
 unfold zdF
 rw [List.take_succ_eq_append_getElem hk,List.filter_append]
 simp [h]
theorem zlK (c:DCode) (n k:Nat):(zdF c n k).length≤k:=Nat.le_trans (List.length_filter_le _ _) (by rw [List.length_take];omega)
open Classical in
theorem zlL {c:DCode} (hc:CodeR c) (n:Nat):(zgT c n).length≤n*6:=by
 have h6:=hc.1.locks6
 have hll:=zcW c
 have:=zfs (l:=List.range n) (B:=6) (f:=fun n=>(zaD c).filter fun p=>decide (p.head?=some n∧zkD (nxL c) p)) fun a _=>Nat.le_trans (List.length_filter_le _ _) (by omega)
 rw [List.length_range] at this;exact this
theorem zjv {w W0:World} {v0:Value} {c:DCode} (h0:Is W0 v0 c) (e0:Ext W0 w) (hc:CodeR c) :
   CALL Tryz.prog 36 [v0] w fun r w'=>Ext w w'∧Own w.heap.size w' r ((zfz c).map zaF):=by
 refine F36_call ?_
 unfold F36
 have h6l:=hc.1.locks6
 refine zdm h0 e0 fun w1 hx1 hA=>?_
 refine zab zdh hA (Ext.refl _) fun v8 h8=>?_
 refine (zhq h8 (Ext.refl _) hc).mono ?_
 rintro v9 w2 ⟨hx2,A,hAI,ho2⟩
 obtain ⟨hAr,hAl⟩:=zfS hc hAI
 refine zaa zb2 ?_
 refine zab zb1 (zaB hA) hx2 fun v11 h11=>?_
 refine zae u22 h11 ?_
 refine (zhl ho2.is (Ext.refl _) (by omega) hAr hAl).mono ?_
 rintro v14 w3 ⟨hx3,ho3⟩
 rw [zej hc hAI] at ho3
 change Own w2.heap.size w3 v14 ((zaD c).map zaF) at ho3
 have hx13:=(hx1.trans hx2).trans hx3
 have hs13:=hx13.size
 have hll:=zcW c
 refine zbA (α:=List Int) u39 zbv fun a9 w4 hx4 hr4=>?_
 refine zaq c.locks.length (fun n us w'=>∃ out,us=[out,.int .i64 (n:Int)]∧n≤c.locks.length∧Ext w3 w'∧RowI w3.heap.size w'.heap.size 23 w' out ((zgT c n).map zaF)) 0 (Nat.zero_le _) ⟨_,rfl,Nat.zero_le _,hx4,zcc _ _ _ _ _⟩ ?_
 rintro n mn q w5 hnm ⟨out,hq,hnl,hx5,hr5⟩
 obtain ⟨hq1,hq2⟩:=zcO hq
 rw [hq1,hq2]
 refine zaa zb2 ?_
 refine zab zb1 (zaB hA) ((hx2.trans hx3).trans hx5) fun v18 h18=>?_
 refine zae u22 h18 ?_
 refine zah ?_
 refine br (fun hlt=>?_) (fun hge=>?_)
 case refine_2=>
   have hne:n=c.locks.length:=by omega
   rw [hne] at hr5
   exact ⟨hx13.trans hx5,hr5.own.own.mono hs13⟩
 have hn:n<c.locks.length:=by omega
 have hKl:=zlL hc n
 refine zaq (zaD c).length (fun k us w'=>∃ out,us=[out,.int .i64 (k:Int)]∧k≤(zaD c).length∧Ext w3 w'∧RowI w3.heap.size w'.heap.size 23 w' out ((zgT c n++zdF c n k).map zaF)) 0 (Nat.zero_le _) ⟨_,rfl,Nat.zero_le _,hx5,by simpa [zdF] using hr5⟩ ?_
 rintro k mk q8 w6 hkm ⟨out8,hq8,hkl,hx6,hr6⟩
 obtain ⟨hq81,hq82⟩:=zcO hq8
 rw [hq81,hq82]
 have hIl:=zlK c n k
 refine zae u39 ho3.is ?_
 rw [List.length_map]
 refine zah ?_
 refine br (fun hlt6=>?_) (fun hge6=>?_)
 case refine_2=>
   have hke:k=(zaD c).length:=by omega
   rw [hke,←zko] at hr6
   refine zaf (by omega) ?_
   exact ⟨mn-1,by omega,n+1,by omega,out8,rfl,by omega,hx6,hr6⟩
 have hk:k<(zaD c).length:=by omega
 obtain ⟨hpl,hpb⟩:=zco (List.getElem_mem hk)
 obtain ⟨hd,hhd,hdm,hdl⟩:=zek (List.getElem_mem hk)
 have hkm2:k<((zaD c).map zaF).length:=by rw [List.length_map];exact hk
 have hxd:=zan w6
 generalize World.drew1 w6=w7 at *
 have hx7:=hx6.trans hxd
 have hr7:=hr6.ext hxd
 have hs7:=hxd.size
 have hs36:=hx6.size
 have hpos:0<(zaF (zaD c)[k]).length:=by
   rw [zag];exact List.length_pos_of_mem hdm
 have hg0:(zaF (zaD c)[k])[0]'hpos=(hd:Int):=by
   rw [←zkg (List.ne_nil_of_length_pos hpos)];exact zda hhd
 have hnext:¬((zaD c)[k].head?=some n∧zkD (nxL c) (zaD c)[k])→∀ w8,Ext w7 w8→∃ m',m'<mk∧∃ k',k'+m'=(zaD c).length∧∃ out,[out8,Value.int .i64 ((k+1:Nat):Int)]=[out,.int .i64 (k':Int)]∧k'≤(zaD c).length∧Ext w3 w8∧RowI w3.heap.size w8.heap.size 23 w8 out ((zgT c n++zdF c n k').map zaF):=fun h w8 hx8=>
   ⟨mk-1,by omega,k+1,by omega,out8,rfl,by omega,hx7.trans hx8,by rw [zno hk h];exact (hr7.ext hx8).mono (Nat.le_refl _) (by have:=hx8.size;omega)⟩
 refine zac (i:=k) u39 zbv ho3.is hkm2 fun b3 o3 hA3=>?_
 rw [List.getElem_map] at hA3
 refine zab zbv hA3 hx7 fun v32 h32=>?_
 refine zac (i:=0) u23 ty3 h32 hpos fun b4 o4 hA4=>?_
 rw [hg0] at hA4
 refine zad ty3 hA4 hx7 fun _=>?_
 refine zao ?_
 refine br (fun heq=>?_) (fun hne=>?_)
 case refine_2=>
   refine zaf (by omega) ?_
   refine hnext (fun h=>hne ?_) _ (Ext.refl _)
   rw [hhd] at h
   have:=Option.some.inj h.1
   omega
 have hdn:hd=n:=by omega
 rw [hdn] at hhd
 refine zaa zb2 ?_
 refine zab zb1 (zaB hA) ((hx2.trans hx3).trans hx7) fun v39 h39=>?_
 refine zae u22 h39 ?_
 refine zac (i:=k) u39 zbv ho3.is hkm2 fun b5 o5 hA5=>?_
 rw [List.getElem_map] at hA5
 refine zab zbv hA5 hx7 fun v45 h45=>?_
 refine (zh7 ho2.is (hx3.trans hx7) h45 hx7 (by omega) hAr hAl hpb (by omega)).mono ?_
 rintro _ w8 ⟨hx8,bb,rfl,hbb⟩
 rw [zej hc hAI] at hbb
 refine zb8 (fun hy=>?_) (fun hno=>?_)
 case refine_2=>
   refine zaf (by omega) ?_
   exact hnext (fun h=>by rw [hbb.2 h.2] at hno;cases hno) _ hx8
 have hcy:=hbb.1 hy
 have hs8:=hx8.size
 refine zbA (α:=Int) u23 ty3 fun a10 w9 hx9 hr9=>?_
 have hs9:=hx9.size
 have hx39:=(hx7.trans hx8).trans hx9
 refine zac (i:=k) u39 zbv ho3.is hkm2 fun b6 o6 hA6=>?_
 rw [List.getElem_map] at hA6
 refine zab zbv hA6 hx39 fun v53 h53=>?_
 refine zfk u23 ty3 zc3 hr9 (Nat.le_refl _) h53 hx39 (by rw [zag,zam];simp;omega) (by rw [zag];simp;omega) fun v54 w10 hc10 hr10=>?_
 rw [List.nil_append] at hr10
 have hs10:=hc10.size
 have hr10':=((hr7.ext hx8).ext hx9).chg hc10 (by omega)
 have hx3x:=hx39.chgI hc10 (by omega)
 have hsx:=hx3x.size
 refine zcP (lo2:=w9.heap.size) (hi2:=w10.heap.size) (x:=zaF (zaD c)[k]) u39 zbv z23 zqw (by decide) hr10' (by omega) hr10.own (by omega) (by omega) (by rw [List.length_map,List.length_append,zam];omega) (by rw [List.length_map,List.length_append];omega) fun v56 w11 hc11 hr11=>?_
 refine zaf (by omega) ?_
 refine ⟨mk-1,by omega,k+1,by omega,v56,rfl,by omega,hx3x.chgI hc11 (Nat.le_refl _),?_⟩
 rw [zlJ hk ⟨hhd,hcy⟩,←List.append_assoc,List.map_append]
 exact hr11
theorem zij {w W0:World} {v0:Value} {c:DCode} (h0:Is W0 v0 c) (e0:Ext W0 w) :
   CALL Tryz.prog 8 [v0] w fun r w'=>Ext w w'∧∃ v,r=.tuple #[v,.bool (zoy c)]∧Own w.heap.size w' v (zcX c):=by
 refine F8_call ?_
 unfold F8
 refine zdm h0 e0 fun w1 hx1 hA=>?_
 refine zbA (α:=Int) u23 ty3 fun a7 wb hxb hrb=>?_
 refine zab zdh hA hxb fun v8 h8=>?_
 refine (zh2 h8 hxb).mono ?_
 rintro _ w2 ⟨hx2,rfl⟩
 have hs1:=hx1.size
 have hsb:=hxb.size
 have hs2:=hx2.size
 have hno:¬okR c→∀ w9,Ext w2 w9→Ext w w9∧∃ v,Value.tuple #[.slice (some a7) 0 0,.bool false]=.tuple #[v,.bool (zoy c)]∧Own w.heap.size w9 v (zcX c):=fun h w9 hx9=>
   ⟨(hx1.trans hxb).trans (hx2.trans hx9),.slice (some a7) 0 0,by unfold zoy;simp only [h,decide_false],by unfold zcX;rw [if_neg h];exact (ziy (lo:=w9.heap.size) (hi:=w9.heap.size) _).own.mono (by have:=hx9.size;omega)⟩
 refine zar ?_
 refine br (fun hn=>hno (fun h=>hn h.1) _ (Ext.refl _)) (fun hy=>?_)
 have hc:=Decidable.not_not.1 hy
 refine zab zdh hA (hxb.trans hx2) fun v12 h12=>?_
 refine (zjv h12 (hxb.trans hx2) hc).mono ?_
 rintro v13 w3 ⟨hx3,ho3⟩
 refine zae u39 ho3.is ?_
 rw [List.length_map]
 refine zb9 ?_
 refine br (fun hg=>hno (fun h=>by rw [h.2] at hg;simp at hg) _ hx3) (fun hg=>?_)
 have hok:okR c:=⟨hc,List.eq_nil_of_length_eq_zero (by omega)⟩
 have h6l:=hc.1.locks6
 have hxd:=zan w3
 generalize World.drew1 w3=w4 at *
 have hxb4:=((hxb.trans hx2).trans hx3).trans hxd
 refine zaa zb2 ?_
 refine zab zb1 (zaB hA) hxb4 fun v19 h19=>?_
 refine zae u22 h19 ?_
 refine zab zdh hA hxb4 fun v21 h21=>?_
 refine (zhq h21 hxb4 hc).mono ?_
 rintro v22 w6 ⟨hx6,A,hAI,ho6⟩
 refine ⟨hx6,?_⟩
 obtain ⟨hAr,hAl⟩:=zfS hc hAI
 refine (zhl ho6.is (Ext.refl _) (by omega) hAr hAl).mono ?_
 rintro v23 w7 ⟨hx7,ho7⟩
 rw [zej hc hAI] at ho7
 change Own w6.heap.size w7 v23 ((zaD c).map zaF) at ho7
 have hx17:=(hx1.trans hxb4).trans (hx6.trans hx7)
 have hs17:=hx17.size
 have hll:=zcW c
 refine zaq (zaD c).length (fun k us w'=>∃ out,us=[out,.int .i64 (k:Int)]∧k≤(zaD c).length∧Ext w7 w'∧RowI w7.heap.size w'.heap.size 3 w' out (zaF ((zaD c).take k).flatten)) 0 (Nat.zero_le _) ⟨_,rfl,Nat.zero_le _,Ext.refl _,by rw [List.take_zero];exact zcc _ _ _ _ _⟩ ?_
 rintro k mk q w8 hkm ⟨out,hq,hkl,hx8,hr8⟩
 obtain ⟨hq1,hq2⟩:=zcO hq
 rw [hq1,hq2]
 have hs8:=hx8.size
 refine zae u39 ho7.is ?_
 rw [List.length_map]
 refine zah ?_
 refine br (fun hlt=>?_) (fun hge=>?_)
 · have hk:k<(zaD c).length:=by omega
   have hfl:=zfB hc k
   have hpl:=(zco (List.getElem_mem hk)).1
   refine zac (i:=k) u39 zbv ho7.is (by rw [List.length_map];exact hk) fun b3 o3 hA3=>?_
   refine zab zbv hA3 hx8 fun v34 h34=>?_
   rw [List.getElem_map] at h34
   refine zfk u23 ty3 zc3 hr8 hs8 h34 hx8 (by rw [zag,zag,zam];omega) (by rw [zag,zag];omega) fun v36 w9 hc9 hr9=>?_
   refine zaf (by omega) ?_
   refine ⟨mk-1,by omega,k+1,by omega,v36,rfl,by omega,hx8.chgI hc9 (Nat.le_refl _),?_⟩
   rw [zhp hk]
   exact hr9
 have hke:k=(zaD c).length:=by omega
 rw [hke,List.take_length] at hr8
 refine ⟨hx17.trans hx8,out,by unfold zoy;simp only [hok,decide_true],?_⟩
 unfold zcX;rw [if_pos hok]
 exact hr8.own.own.mono (by omega)
end Go.Proofs.YtifonhplnmpgaaaGreat
namespace Go.Sh
open Rep (rep)
instance:Rep UInt8 where
 size:=1
 agg:=false
 rep F _ cs x:=F=[]∧cs=[.int .u8 (x.toNat:Int)]
 pos:=by decide
 sz _:=rfl
 len:=by rintro _ _ _ _ ⟨_,rfl⟩;rfl
 one:=by rintro _ _ _ _ ⟨_,rfl⟩ v hv;simp at hv;subst hv;rfl
 keep:=by rintro _ _ _ _ _ h _;exact h
 lt:=by rintro _ _ _ _ ⟨rfl,_⟩ b hb;cases hb
instance:Flat UInt8:=⟨fun h=>h.1⟩
instance:RepZ UInt8:=⟨0,[.int .u8 0],fun _=>⟨rfl,rfl⟩⟩
section
variable {P:Program} {w w0:World} {K:Value→Prop} {t:TypeId} {x y:Operand}
theorem zpL {b:UInt8}:Mine [] w (.int .u8 (b.toNat:Int)) b:=⟨⟨_,⟨rfl,rfl⟩,rfl⟩,List.nodup_nil,Wr.nil w⟩
theorem zpM {lo hi:Nat} {b:UInt8}:OwnI lo hi w (.int .u8 (b.toNat:Int)) b:=⟨[],zpL,by simp⟩
theorem zpN {src dst:TypeId} {n:Nat} (hs:(P.underlying src).isSome=true) (hd:P.underlying dst=some (.int .u8)) (hn:n<256) (k:K (.int .u8 ((UInt8.ofNat n).toNat:Int))):RD P (convert src dst (.int .i64 (n:Int))) w K:=by
 refine zaQ (fun w' _=>?_) k
 obtain ⟨d,hd'⟩:=Option.isSome_iff_exists.mp hs
 have h1:IntKind.u8.wrap (n:Int)=n:=by simp [IntKind.wrap,IntKind.signed,IntKind.bits];omega
 have h2:(UInt8.ofNat n).toNat=n:=by simp;omega
 simp [convert,run_underlying hd',run_underlying hd,Conv.intToInt,h1]
 omega
theorem zkp {src dst e:TypeId} {v:Value} {l:List UInt8} (hs:P.underlying src=some (.slice e)) (he:P.underlying e=some (.int .u8)) (hd:P.underlying dst=some .string) (h:Is w0 v l) (hx:Ext w0 w)
   (k:K (.string ⟨l.toArray⟩)):RD P (convert src dst v) w K:=by
 obtain ⟨a,cap,Fi,xs,rfl,h1,h2,hc,h4⟩:=zdd h
 have hcells:∀ {l:List UInt8} {F:List Nat} {xs:List Value},Cells F w0 xs l→xs=l.map fun b=>Value.int .u8 (b.toNat:Int):=by
   intro l
   induction l with
   | nil=>rintro _ _ ⟨_,rfl⟩;rfl
   | cons b l ih=>
     rintro _ _ ⟨F1,F2,c1,c2,_,rfl,⟨_,rfl⟩,h⟩
     rw [ih h];rfl
 have hxs:=hcells hc
 refine zaQ (fun w' hx'=>?_) k
 rcases h4 with rfl | ⟨b,o,rfl,hr,hb⟩
 · cases a with
   | none=>exact run_convert_bytes_nil w' src e hs he _ _ dst hd
   | some a=>
     rw [run_convert_bytes_string w' src dst e _ _ cap hs he hd]
     have:=run_bytesToString (P:=P) w' a 0 cap [] (by simp [loadCells,loadCellsFrom])
     exact this
 have:=run_convert_bytes_arg w' src e hs he b o l.length cap (l.map fun b=>(b.toNat:Int)) (by simp) (fun i hi=>by
   have hr':=zbo (zbo hr hx) hx'
   have:=hr' i (.int .u8 (l[i].toNat:Int)) (by rw [hxs];simp [hi])
   rw [this]
   simp [List.getD,hi]) dst hd
 rw [this]
 have e:strOfNums (l.map fun b=>(b.toNat:Int))=⟨l.toArray⟩:=by
   unfold strOfNums
   congr 2
   rw [List.map_map]
   conv=>rhs;rw [←List.map_id l]
   congr 1
   funext b
   simp
 rw [e]
theorem znp {a b:ByteArray} (h:a.size+b.size≤9223372036854775807) (k:K (.string (a++b))):RD P (bin .add t x y (.string a) (.string b)) w K:=
 zaQ (fun w' _=>by
   have hh:¬(((a.size+b.size:Nat):Int)>IntKind.i64.max):=by
     have:IntKind.i64.max=9223372036854775807:=by decide
     omega
   show (do eqGuard .add t x y (.string a) (.string b);binOp .add t (.string a) (.string b):Sem Value).run P w'=_
   simp only [eqGuard,binOp,Op.stringOp,hh,if_false]
   rfl) k
theorem zqr {a b:Int} (hb:b≠0) (h:I64 (a.tdiv b)) (k:K (.int .i64 (a.tdiv b))):RD P (bin .quo t x y (.int .i64 a) (.int .i64 b)) w K:=
 zaQ (fun w' _=>by simp [bin,eqGuard,binOp,Op.intDiv,hb,IntWalk.i64_in _ h]) k
end
end Go.Sh
namespace Go.Proofs.YtifonhplnmpgaaaGreat
open Go Go.Sh Go.Proofs
open Rep (rep)
def F92 (a0:Value) (w:World) (R:VW):Prop:=
 rB .leq 3 T0 U0 a0 (iV 0) w fun x5=>
 BR x5
 (R (Value.string (ByteArray.mk #[109,48])) w)
 (LOOPI [0,3] [a0,(Value.string (ByteArray.mk #[]))] w fun u4 w next4=>
 rB .gtr 3 T0 U0 (u4 0) (iV 0) w fun x7=>
 BR x7
 (rB .rem 3 T0 U0 (u4 0) (iV 10) w fun x9=>
 rB .add 3 U0 T0 (iV 48) x9 w fun x10=>
 rD (convert 3 5 x10) w fun x11=>
 oP (Instr.buildSlice 170 1 #[(0,x11)]) w fun x12 w=>
 rD (convert 170 9 x12) w fun x13=>
 rB .add 9 T0 T0 x13 (u4 3) w fun x15=>
 rB .quo 3 T0 U0 (u4 0) (iV 10) w fun x17=>
 next4 [x17,x15] w)
 (rB .add 9 U0 T0 (Value.string (ByteArray.mk #[109])) (u4 3) w fun x19=>
 R x19 w))
def cfg92:Cfg:=⟨extL,[],[(4,262089,[0,3])],[],[],[],[]⟩
theorem F92_call {a0:Value} {w:World} {R:VW} (h:F92 a0 w R):cL 92 [a0] w R:=co (g:=cfg92) Tryz.func92 (by kernel_rfl) (by kernel_rfl) (by kernel_rfl) h
def F49 (a0 a1:Value) (w:World) (R:VW):Prop:=
 LOOPI [1,5] [a1,(iV 0)] w fun u2 w next2=>
 rN 22 3 a0 w fun x8=>
 rC (u2 5) x8 w fun x9=>
 BR x9
 (cL 92 [(u2 1)] w fun x15 w=>
 rX 22 a0 (u2 5) w fun x16=>
 oS 9 x16 x15 w fun w=>
 rA (u2 1) (iV 1) w fun x18=>
 rA (u2 5) (iV 1) w fun x11=>
 next2 [x18,x11] w)
 (R (u2 1) w)
def cfg49:Cfg:=⟨extL,[],[(2,524258,[1,5])],[],[],[],[]⟩
theorem F49_call {a0 a1:Value} {w:World} {R:VW} (h:F49 a0 a1 w R):cL 49 [a0,a1] w R:=co (g:=cfg49) Tryz.func49 (by kernel_rfl) (by kernel_rfl) (by kernel_rfl) h
def F93 (a0 a1:Value) (w:World) (R:VW):Prop:=
 LOOPI [1,5] [a1,(iV 0)] w fun u2 w next2=>
 rN 107 3 a0 w fun x8=>
 rC (u2 5) x8 w fun x9=>
 BR x9
 (rX 107 a0 (u2 5) w fun x15=>
 rF 109 x15 0 w fun x16=>
 oS 3 x16 (u2 1) w fun w=>
 rA (u2 1) (iV 1) w fun x18=>
 rX 107 a0 (u2 5) w fun x22=>
 rF 109 x22 1 w fun x23=>
 oS 3 x23 x18 w fun w=>
 rA x18 (iV 1) w fun x25=>
 cL 92 [x25] w fun x29 w=>
 rX 107 a0 (u2 5) w fun x30=>
 rF 109 x30 2 w fun x31=>
 oS 9 x31 x29 w fun w=>
 rA x25 (iV 1) w fun x33=>
 rX 107 a0 (u2 5) w fun x36=>
 rF 109 x36 3 w fun x37=>
 rL 107 x37 w fun x38=>
 cL 93 [x38,x33] w fun x40 w=>
 rA (u2 5) (iV 1) w fun x11=>
 next2 [x40,x11] w)
 (R (u2 1) w)
def cfg93:Cfg:=⟨extL,[],[(2,2199023255522,[1,5])],[],[],[],[]⟩
theorem F93_call {a0 a1:Value} {w:World} {R:VW} (h:F93 a0 a1 w R):cL 93 [a0,a1] w R:=co (g:=cfg93) Tryz.func93 (by kernel_rfl) (by kernel_rfl) (by kernel_rfl) h
def F50 (a0 a1:Value) (w:World) (R:VW):Prop:=
 LOOPI [1,5] [a1,(iV 0)] w fun u2 w next2=>
 rN 30 3 a0 w fun x8=>
 rC (u2 5) x8 w fun x9=>
 BR x9
 (rX 30 a0 (u2 5) w fun x15=>
 rF 111 x15 0 w fun x16=>
 oS 3 x16 (u2 1) w fun w=>
 rA (u2 1) (iV 1) w fun x18=>
 rX 30 a0 (u2 5) w fun x22=>
 rF 111 x22 1 w fun x23=>
 oS 3 x23 x18 w fun w=>
 rA x18 (iV 1) w fun x25=>
 rX 30 a0 (u2 5) w fun x29=>
 rF 111 x29 2 w fun x30=>
 rF 109 x30 0 w fun x31=>
 oS 3 x31 x25 w fun w=>
 rA x25 (iV 1) w fun x33=>
 rX 30 a0 (u2 5) w fun x37=>
 rF 111 x37 2 w fun x38=>
 rF 109 x38 1 w fun x39=>
 oS 3 x39 x33 w fun w=>
 rA x33 (iV 1) w fun x41=>
 cL 92 [x41] w fun x45 w=>
 rX 30 a0 (u2 5) w fun x46=>
 rF 111 x46 2 w fun x47=>
 rF 109 x47 2 w fun x48=>
 oS 9 x48 x45 w fun w=>
 rA x41 (iV 1) w fun x50=>
 rX 30 a0 (u2 5) w fun x53=>
 rF 111 x53 2 w fun x54=>
 rF 109 x54 3 w fun x55=>
 rL 107 x55 w fun x56=>
 cL 93 [x56,x50] w fun x58 w=>
 rX 30 a0 (u2 5) w fun x62=>
 rF 111 x62 3 w fun x63=>
 oS 3 x63 x58 w fun w=>
 rA x58 (iV 1) w fun x65=>
 rA (u2 5) (iV 1) w fun x11=>
 next2 [x65,x11] w)
 (R (u2 1) w)
def cfg50:Cfg:=⟨extL,[],[(2,73786976294838206434,[1,5])],[],[],[],[]⟩
theorem F50_call {a0 a1:Value} {w:World} {R:VW} (h:F50 a0 a1 w R):cL 50 [a0,a1] w R:=co (g:=cfg50) Tryz.func50 (by kernel_rfl) (by kernel_rfl) (by kernel_rfl) h
def F13 (a0 a1:Value) (w:World) (R:VW):Prop:=
 oP (Instr.box 32 a0) w fun x2 w=>
 rF 32 x2 0 w fun x5=>
 rL 22 x5 w fun x6=>
 cL 49 [x6,a1] w fun x8 w=>
 rF 32 x2 1 w fun x9=>
 rL 22 x9 w fun x10=>
 cL 49 [x10,x8] w fun x12 w=>
 rF 32 x2 2 w fun x13=>
 rL 22 x13 w fun x14=>
 cL 49 [x14,x12] w fun x16 w=>
 rF 32 x2 3 w fun x17=>
 rL 23 x17 w fun x18=>
 cL 14 [x18,x16] w fun x20 w=>
 rF 32 x2 4 w fun x21=>
 rL 30 x21 w fun x22=>
 cL 50 [x22,x20] w fun x24 w=>
 R x24 w
def cfg13:Cfg:=⟨extL,[],[],[],[],[],[]⟩
theorem F13_call {a0 a1:Value} {w:World} {R:VW} (h:F13 a0 a1 w R):cL 13 [a0,a1] w R:=co (g:=cfg13) Tryz.func13 (by kernel_rfl) (by kernel_rfl) (by kernel_rfl) h
def F20 (a0 a1:Value) (w:World) (R:VW):Prop:=
 LOOPI [1,5] [a1,(iV 0)] w fun u2 w next2=>
 rN 39 3 a0 w fun x8=>
 rC (u2 5) x8 w fun x9=>
 BR x9
 (rX 39 a0 (u2 5) w fun x14=>
 rL 23 x14 w fun x15=>
 cL 15 [x15,(u2 1)] w fun x17 w=>
 rB .lss 3 T0 U0 x17 (iV 0) w fun x19=>
 BR x19
 (R (iV (-1)) w)
 (rA (u2 5) (iV 1) w fun x11=>
 next2 [x17,x11] w))
 (R (u2 1) w)
theorem zeI {w:World} {k:Int} (hk:k≤4611686018427387904) :
   CALL Tryz.prog 92 [.int .i64 k] w fun r w'=>Ext w w'∧∃ s,r=.string s∧s.size≤maxLen:=by
 refine F92_call ?_
 unfold F92
 refine zdM ?_
 refine br (fun h=>?_) (fun h=>?_)
 · exact ⟨Ext.refl w,_,rfl,by rw [zam];decide⟩
 have hk19:k<10^(19-0):=by
   have:(10:Int)^(19-0)=10000000000000000000:=by decide
   omega
 refine zaq 19 (fun j us w'=>∃ (q:Int) (s:ByteArray),us=[.int .i64 q,.string s]∧Ext w w'∧0≤q∧q<10^(19-j)∧s.size=j) 0 (by omega) ⟨k,_,rfl,Ext.refl w,by omega,hk19,rfl⟩ ?_
 rintro j m u w2 hkm ⟨q,s,hu,hx2,hq0,hq1,hs⟩
 obtain ⟨hu1,hu2⟩:=zcO hu
 rw [hu1,hu2]
 have hj:0<q→j<19:=fun h=>by
   rcases Nat.lt_or_ge j 19 with h' | h'
   · exact h'
   rw [show 19-j=0 by omega] at hq1;simp at hq1;omega
 have hb:q<10000000000000000000:=by
   have h2:(10:Int)^(19-j)≤10^19:=by
     have h3:(10:Nat)^(19-j)≤10^19:=Nat.pow_le_pow_right (by omega) (by omega)
     have h4:=Int.ofNat_le.2 h3
     simpa using h4
   have h3:(10:Int)^19=10000000000000000000:=by decide
   omega
 refine zb9 ?_
 refine br (fun h1=>?_) (fun h1=>?_)
 · have hj:=hj h1
   refine zp6 (by omega) ?_
   have hm:q.tmod 10=q%10:=Int.tmod_eq_emod_of_nonneg hq0
   rw [hm]
   refine zcA (by unfold I64;omega) ?_
   obtain ⟨n,hn⟩:∃ n:Nat,48+q%10=(n:Int):=⟨(48+q%10).toNat,by omega⟩
   rw [hn]
   refine zpN (by kernel_rfl) u5 (by omega) ?_
   refine zlg (α:=UInt8) zqV ty5 z5 (by decide) (zpM (lo:=w2.heap.size) (hi:=w2.heap.size)) (by omega) fun v3 w3 hx3 o3=>?_
   refine zkp zqV u5 u9 o3.is (Ext.refl w3) ?_
   have hone:ByteArray.size ⟨[UInt8.ofNat n].toArray⟩=1:=rfl
   refine znp (by omega) ?_
   have hd:q.tdiv 10=q / 10:=Int.tdiv_eq_ediv_of_nonneg hq0
   refine zqr (by omega) (by rw [hd];unfold I64;omega) ?_
   rw [hd]
   refine ⟨m-1,by omega,j+1,by omega,q / 10,_,rfl,hx2.trans hx3,by omega,?_,by rw [ByteArray.size_append];omega⟩
   rw [show 19-j=(19-(j+1))+1 by omega,Int.pow_succ] at hq1
   omega
 refine znp (by have:(ByteArray.mk #[109]).size=1:=rfl;omega) ?_
 have hj19:j≤19:=by omega
 exact ⟨hx2,_,rfl,by rw [zam,ByteArray.size_append];have:(ByteArray.mk #[109]).size=1:=rfl;omega⟩
theorem zdg {w:World} {F:List Nat} {v:Value} {l:List ByteArray} {k:Int} (h:Mine F w v l) (hn:l.length≤1048576) (hk0:0≤k) (hk1:k≤1152921504606846976) :
   CALL Tryz.prog 49 [v,.int .i64 k] w fun r w'=>r=.int .i64 (k+l.length)∧Chg F w w'∧∃ F',∃ l':List ByteArray,Mine F' w' v l'∧(∀ b∈F',b∈F)∧l'.length=l.length:=by
 refine F49_call ?_
 unfold F49
 refine zaq l.length (fun i us w'=>us=[.int .i64 (k+i),.int .i64 (i:Int)]∧Chg F w w'∧∃ F',∃ cur:List ByteArray,Mine F' w' v cur∧(∀ b∈F',b∈F)∧cur.length=l.length) 0 (Nat.zero_le _) ⟨by simp,Chg.refl _ _,F,l,h,fun _ h=>h,rfl⟩ ?_
 rintro i m u w2 hkm ⟨hu,hc2,F',cur,hm2,hF',hlen⟩
 obtain ⟨hu1,hu2⟩:=zcO hu
 rw [hu1,hu2]
 refine zae u22 hm2.is ?_
 rw [hlen]
 refine zah ?_
 refine br (fun hlt=>?_) (fun hge=>?_)
 · have hi:i<l.length:=by omega
   refine (zeI (by omega)).mono ?_
   rintro _ w3 ⟨hx3,s,rfl,hs⟩
   refine zcd u22 ty9 (hm2.ext hx3) (by omega) fun b o G hL=>?_
   refine zcu ty9 hL (zhL hs) fun w4 F4 hc4 hm4 hF4=>?_
   refine zcA (by unfold I64;omega) ?_
   refine zaf (by omega) ?_
   exact ⟨m-1,by omega,i+1,by omega,by simp [Int.add_assoc],(hc2.trans (hx3.chg F)).sub hc4 hF',F4,_,hm4,fun b hb=>hF' b (hF4 b hb),by simp [hlen]⟩
 have:i=l.length:=by omega
 subst this
 exact ⟨rfl,hc2,F',cur,hm2,hF',hlen⟩
def zjw (l:List DTerm):Prop:=∀ {w:World} {F:List Nat} {v:Value} {k:Int},Mine F w v l→wTs l≤1048576→0≤k→k+3*wTs l≤1152921504606846976 →
 CALL Tryz.prog 93 [v,.int .i64 k] w fun r w'=>∃ n:Int,r=.int .i64 n∧k≤n∧n≤k+3*wTs l∧Chg F w w'∧∃ F',∃ l':List DTerm,Mine F' w' v l'∧(∀ b∈F',b∈F)∧l'.length=l.length
theorem zkq {l:List DTerm} (ih:∀ t∈l,zjw t.kids):zjw l:=by
 intro w F v k h hn hk0 hk1
 rw [zmy] at hn hk1 ⊢
 refine F93_call ?_
 unfold F93
 refine zaq l.length (fun i us w'=>∃ q:Int,us=[.int .i64 q,.int .i64 (i:Int)]∧Chg F w w'∧k≤q∧q≤k+3*(i+sm wT (l.take i):Nat)∧∃ F',∃ cur:List DTerm,Mine F' w' v cur∧(∀ b∈F',b∈F)∧RestL i cur l) 0 (Nat.zero_le _) ⟨k,rfl,Chg.refl _ _,by omega,by simp [sm],F,l,h,fun _ h=>h,rfl,fun _ _=>rfl⟩ ?_
 rintro i m u w2 hkm ⟨q,hu,hc2,hq0,hq1,F',cur,hm2,hF',hr⟩
 obtain ⟨hu1,hu2⟩:=zcO hu
 rw [hu1,hu2]
 have hlen:=hr.1
 refine zae zdI hm2.is ?_
 rw [hlen]
 refine zah ?_
 refine br (fun hlt=>?_) (fun hge=>?_)
 · have hi:i<l.length:=by omega
   have hsum:=zf8 wT hi
   have hle:sm wT (l.take (i+1))≤sm wT l:=by
     conv=>rhs;rw [←List.take_append_drop (i+1) l]
     unfold sm
     rw [List.map_append,List.sum_append]
     omega
   have hwi:=zn6 l[i]
   have hK:=hr.keepF (f:=DTerm.kids) hi
   refine zg8 (α:=DTerm) (β:=Int) (sel:=DTerm.kind) (g:=fun a y=>.mk y a.num a.name a.kids) zdI za3 zcb ty3 (fun h=>zdS h) hm2 (by omega) (za6 (by unfold I64;omega)) fun w3 F3 hc3 hm3 hF3=>?_
   replace hK:=hK.set (x:=.mk q cur[i].num cur[i].name cur[i].kids) fun _=>rfl
   generalize hcur3:cur.set i (.mk q cur[i].num cur[i].name cur[i].kids)=cur3 at hm3 hK
   clear hcur3
   refine zcA (by unfold I64;omega) ?_
   refine zg8 (α:=DTerm) (β:=Int) (sel:=DTerm.num) (g:=fun a y=>.mk a.kind y a.name a.kids) zdI za3 zbW ty3 (fun h=>zdT h) hm3 hK.2.1 (za6 (by unfold I64;omega)) fun w4 F4 hc4 hm4 hF4=>?_
   replace hK:=hK.set (x:=.mk (cur3[i]'hK.2.1).kind (q+1) (cur3[i]'hK.2.1).name (cur3[i]'hK.2.1).kids) fun _=>rfl
   generalize hcur4:cur3.set i _=cur4 at hm4 hK
   clear hcur4
   refine zcA (by unfold I64;omega) ?_
   refine (zeI (by omega)).mono ?_
   rintro _ w5 ⟨hx5,s,rfl,hs⟩
   refine zg8 (α:=DTerm) (β:=ByteArray) (sel:=DTerm.name) (g:=fun a y=>.mk a.kind a.num y a.kids) zdI za3 zbL ty9 (fun h=>zdU h) (hm4.ext hx5) hK.2.1 (zhL hs) fun w6 F6 hc6 hm6 hF6=>?_
   replace hK:=hK.set (x:=.mk (cur4[i]'hK.2.1).kind (cur4[i]'hK.2.1).num s (cur4[i]'hK.2.1).kids) fun _=>rfl
   generalize hcur6:cur4.set i _=cur6 at hm6 hK
   clear hcur6
   refine zcA (by unfold I64;omega) ?_
   refine zcd zdI za3 hm6 hK.2.1 fun b o G hL=>?_
   refine zaa zaV ?_
   obtain ⟨G1,hL1⟩:=zdV hL
   refine zdz zcn hL1 fun u7 hM7 hG7 hb7=>?_
   obtain ⟨hR,hi6,_,hkids⟩:=hK
   rw [hkids] at hM7
   have hF26:∀ c∈F6,c∈F':=fun c hc=>hF3 c (hF4 c (hF6 c hc))
   refine (ih l[i] (List.getElem_mem hi) hM7 (by omega) (by omega) (by omega)).mono ?_
   rintro _ w8 ⟨n,rfl,hn0,hn1,hc8,F8,l8,hm8,hF8,hl8⟩
   obtain ⟨F9,hm9,hF9⟩:=hb7 w8 F8 l8 hc8 hm8 fun c hc=>.inl (hF8 c hc)
   refine zaf (by omega) ?_
   have hc26:Chg F' w2 w6:=((hc3.sub hc4 hF3).trans (hx5.chg F')).sub hc6 fun c hc=>hF3 c (hF4 c hc)
   have hc28:Chg F' w2 w8:=hc26.sub hc8 fun c hc=>hF26 c (hG7 c hc)
   refine ⟨m-1,by omega,i+1,by omega,n,rfl,hc2.sub hc28 hF',by omega,by omega,F9,_,hm9,fun c hc=>?_,hR.set1 _⟩
   rcases hF9 c hc with h | h
   · exact hF' c (hF26 c h)
   exact hF' c (hF26 c (hG7 c (hF8 c h)))
 have:i=l.length:=by omega
 subst this
 rw [List.take_length] at hq1
 exact ⟨q,rfl,hq0,by omega,hc2,F',cur,hm2,hF',hlen⟩
theorem znq (t:DTerm):zjw t.kids:=DTerm.ind (p:=fun t=>zjw t.kids) (fun t ih=>zkq ih) t
theorem zjx (l:List DTerm):zjw l:=znq (.mk 0 0 ByteArray.empty l)
theorem zkr {w:World} {F:List Nat} {v:Value} {l:List DIns} {k:Int} (h:Mine F w v l) (hn:zoR l≤1048576) (hk0:0≤k) (hk1:k≤1000000000000000000) :
   CALL Tryz.prog 50 [v,.int .i64 k] w fun r w'=>∃ n:Int,r=.int .i64 n∧k≤n∧n≤k+6*zoR l∧Chg F w w'∧∃ F',∃ l':List DIns,Mine F' w' v l'∧(∀ b∈F',b∈F)∧l'.length=l.length:=by
 unfold zoR at hn ⊢
 refine F50_call ?_
 unfold F50
 refine zaq l.length (fun i us w'=>∃ q:Int,us=[.int .i64 q,.int .i64 (i:Int)]∧Chg F w w'∧k≤q∧q≤k+6*(i+sm (fun i=>wT i.term) (l.take i):Nat)∧∃ F',∃ cur:List DIns,Mine F' w' v cur∧(∀ b∈F',b∈F)∧RestL i cur l) 0 (Nat.zero_le _) ⟨k,rfl,Chg.refl _ _,by omega,by simp [sm],F,l,h,fun _ h=>h,rfl,fun _ _=>rfl⟩ ?_
 rintro i m u w2 hkm ⟨q,hu,hc2,hq0,hq1,F',cur,hm2,hF',hr⟩
 obtain ⟨hu1,hu2⟩:=zcO hu
 rw [hu1,hu2]
 have hlen:=hr.1
 refine zae u30 hm2.is ?_
 rw [hlen]
 refine zah ?_
 refine br (fun hlt=>?_) (fun hge=>?_)
 · have hi:i<l.length:=by omega
   have hsum:=zf8 (fun i:DIns=>wT i.term) hi
   have hle:sm (fun i:DIns=>wT i.term) (l.take (i+1))≤sm (fun i:DIns=>wT i.term) l:=by
     conv=>rhs;rw [←List.take_append_drop (i+1) l]
     unfold sm
     rw [List.map_append,List.sum_append]
     omega
   have hwi:=zn6 l[i].term
   have hK:=hr.keepF (f:=fun a:DIns=>a.term.kids) hi
   refine zg8 (α:=DIns) (β:=Int) (sel:=DIns.op) (g:=fun a y=>⟨y,a.arg,a.term,a.to⟩) u30 zaR zaL ty3 (fun h=>zgk h) hm2 hK.2.1 (za6 (by unfold I64;omega)) fun w3 F3 hc3 hm3 hF3=>?_
   replace hK:=hK.set (x:=⟨q,(cur[i]'hK.2.1).arg,(cur[i]'hK.2.1).term,(cur[i]'hK.2.1).to⟩) fun _=>rfl
   generalize hcur3:cur.set i _=cur3 at hm3 hK
   clear hcur3
   refine zcA (by unfold I64;omega) ?_
   refine zg8 (α:=DIns) (β:=Int) (sel:=DIns.arg) (g:=fun a y=>⟨a.op,y,a.term,a.to⟩) u30 zaR zbi ty3 (fun h=>zgl h) hm3 hK.2.1 (za6 (by unfold I64;omega)) fun w4 F4 hc4 hm4 hF4=>?_
   replace hK:=hK.set (x:=⟨(cur3[i]'hK.2.1).op,q+1,(cur3[i]'hK.2.1).term,(cur3[i]'hK.2.1).to⟩) fun _=>rfl
   generalize hcur4:cur3.set i _=cur4 at hm4 hK
   clear hcur4
   refine zcA (by unfold I64;omega) ?_
   refine zjT (α:=DIns) (β:=Int) (sel:=fun a=>a.term.kind) (g:=fun a y=>⟨a.op,a.arg,.mk y a.term.num a.term.name a.term.kids,a.to⟩) u30 zaR zbM zcb ty3 (fun h=>by obtain ⟨G1,h1⟩:=zcT h;exact zdS h1) hm4 hK.2.1 (za6 (by unfold I64;omega)) fun w5 F5 hc5 hm5 hF5=>?_
   replace hK:=hK.set (x:=⟨(cur4[i]'hK.2.1).op,(cur4[i]'hK.2.1).arg,.mk (q+1+1) (cur4[i]'hK.2.1).term.num (cur4[i]'hK.2.1).term.name (cur4[i]'hK.2.1).term.kids,(cur4[i]'hK.2.1).to⟩) fun _=>rfl
   generalize hcur5:cur4.set i _=cur5 at hm5 hK
   clear hcur5
   refine zcA (by unfold I64;omega) ?_
   refine zjT (α:=DIns) (β:=Int) (sel:=fun a=>a.term.num) (g:=fun a y=>⟨a.op,a.arg,.mk a.term.kind y a.term.name a.term.kids,a.to⟩) u30 zaR zbM zbW ty3 (fun h=>by obtain ⟨G1,h1⟩:=zcT h;exact zdT h1) hm5 hK.2.1 (za6 (by unfold I64;omega)) fun w6 F6 hc6 hm6 hF6=>?_
   replace hK:=hK.set (x:=⟨(cur5[i]'hK.2.1).op,(cur5[i]'hK.2.1).arg,.mk (cur5[i]'hK.2.1).term.kind (q+1+1+1) (cur5[i]'hK.2.1).term.name (cur5[i]'hK.2.1).term.kids,(cur5[i]'hK.2.1).to⟩) fun _=>rfl
   generalize hcur6:cur5.set i _=cur6 at hm6 hK
   clear hcur6
   refine zcA (by unfold I64;omega) ?_
   refine (zeI (by omega)).mono ?_
   rintro _ w7 ⟨hx7,s,rfl,hs⟩
   refine zjT (α:=DIns) (β:=ByteArray) (sel:=fun a=>a.term.name) (g:=fun a y=>⟨a.op,a.arg,.mk a.term.kind a.term.num y a.term.kids,a.to⟩) u30 zaR zbM zbL ty9 (fun h=>by obtain ⟨G1,h1⟩:=zcT h;exact zdU h1) (hm6.ext hx7) hK.2.1 (zhL hs) fun w8 F8 hc8 hm8 hF8=>?_
   replace hK:=hK.set (x:=⟨(cur6[i]'hK.2.1).op,(cur6[i]'hK.2.1).arg,.mk (cur6[i]'hK.2.1).term.kind (cur6[i]'hK.2.1).term.num s (cur6[i]'hK.2.1).term.kids,(cur6[i]'hK.2.1).to⟩) fun _=>rfl
   generalize hcur8:cur6.set i _=cur8 at hm8 hK
   clear hcur8
   refine zcA (by unfold I64;omega) ?_
   refine zcd u30 zaR hm8 hK.2.1 fun b o G hL=>?_
   refine zaa zbM ?_
   refine zaa zaV ?_
   obtain ⟨G0,hL0⟩:=zcT hL
   obtain ⟨G1,hL1⟩:=zdV hL0
   refine zdz zcn hL1 fun u9 hM9 hG9 hb9=>?_
   obtain ⟨hR,hi8,_,hkids⟩:=hK
   have hkids':(cur8[i]'hi8).term.kids=l[i].term.kids:=hkids
   rw [hkids'] at hM9
   have hF28:∀ c∈F8,c∈F':=fun c hc=>hF3 c (hF4 c (hF5 c (hF6 c (hF8 c hc))))
   refine (zjx _ hM9 (by omega) (by omega) (by omega)).mono ?_
   rintro _ w10 ⟨n,rfl,hn0,hn1,hc10,F10,l10,hm10,hF10,hl10⟩
   obtain ⟨F11,hm11,hF11⟩:=hb9 w10 F10 l10 hc10 hm10 fun c hc=>.inl (hF10 c hc)
   have hF211:∀ c∈F11,c∈F':=fun c hc=>by
     rcases hF11 c hc with h | h
     · exact hF28 c h
     exact hF28 c (hG9 c (hF10 c h))
   replace hR:=hR.set1 (⟨(cur8[i]'hi8).op,(cur8[i]'hi8).arg,.mk (cur8[i]'hi8).term.kind (cur8[i]'hi8).term.num (cur8[i]'hi8).term.name l10,(cur8[i]'hi8).to⟩:DIns)
   have hi11:i<(cur8.set i (⟨(cur8[i]'hi8).op,(cur8[i]'hi8).arg,.mk (cur8[i]'hi8).term.kind (cur8[i]'hi8).term.num (cur8[i]'hi8).term.name l10,(cur8[i]'hi8).to⟩:DIns)).length:=by simpa using hi8
   generalize hcur11:cur8.set i _=cur11 at hm11 hR hi11
   clear hcur11
   have hc28:Chg F' w2 w8:=(((((hc3.sub hc4 hF3).sub hc5 fun c hc=>hF3 c (hF4 c hc)).sub hc6 fun c hc=>hF3 c (hF4 c (hF5 c hc)))).trans (hx7.chg F')).sub hc8 fun c hc=>hF3 c (hF4 c (hF5 c (hF6 c hc)))
   have hc210:Chg F' w2 w10:=hc28.sub hc10 fun c hc=>hF28 c (hG9 c hc)
   refine zg8 (α:=DIns) (β:=Int) (sel:=DIns.to) (g:=fun a y=>⟨a.op,a.arg,a.term,y⟩) u30 zaR zbN ty3 (fun h=>zgm h) hm11 hi11 (za6 (by unfold I64;omega)) fun w12 F12 hc12 hm12 hF12=>?_
   refine zcA (by unfold I64;omega) ?_
   refine zaf (by omega) ?_
   exact ⟨m-1,by omega,i+1,by omega,n+1,rfl,hc2.sub (hc210.sub hc12 hF211) hF',by omega,by omega,F12,_,hm12,fun c hc=>hF' c (hF211 c (hF12 c hc)),hR.set1 _⟩
 have:i=l.length:=by omega
 subst this
 rw [List.take_length] at hq1
 exact ⟨q,rfl,hq0,by omega,hc2,F',cur,hm2,hF',hlen⟩
theorem znr {w:World} {F:List Nat} {v:Value} {c:DCode} (h:Mine F w v c):∃ (a0 a1 a2 a3 a4:Value) (F0 F1 F2 F3 F4:List Nat),v=.agg #[a0,a1,a2,a3,a4]∧F=F0++(F1++(F2++(F3++F4)))∧F.Nodup ∧
   Mine F0 w a0 c.globals∧Mine F1 w a1 c.locks∧Mine F2 w a2 c.procs∧Mine F3 w a3 c.entry∧Mine F4 w a4 c.ins:=by
 obtain ⟨⟨cs,hr,rfl⟩,hn,hw⟩:=h
 obtain ⟨F0,c0,F1,c1,F2,c2,F3,c3,F4,c4,rfl,rfl,h0,h1,h2,h3,h4⟩:=zgn hr
 have n0:=zcv hn
 have n1:=zcv n0.2.1
 have n2:=zcv n1.2.1
 have n3:=zcv n2.2.1
 obtain ⟨a0,rfl,m0⟩:=zcQ h0 n0.1 (hw.sub (by simp +contextual))
 obtain ⟨a1,rfl,m1⟩:=zcQ h1 n1.1 (hw.sub (by simp +contextual))
 obtain ⟨a2,rfl,m2⟩:=zcQ h2 n2.1 (hw.sub (by simp +contextual))
 obtain ⟨a3,rfl,m3⟩:=zcQ h3 n3.1 (hw.sub (by simp +contextual))
 obtain ⟨a4,rfl,m4⟩:=zcQ h4 n3.2.1 (hw.sub (by simp +contextual))
 exact ⟨a0,a1,a2,a3,a4,F0,F1,F2,F3,F4,rfl,rfl,hn,m0,m1,m2,m3,m4⟩
theorem zks {w:World} {lo hi:Nat} {v:Value} {c:DCode} {k:Int} (h:OwnI lo hi w v c) (hn:zh0 c≤1048576) (hk0:0≤k) (hk1:k≤100000000000000000) :
   CALL Tryz.prog 13 [v,.int .i64 k] w fun r w'=>∃ n:Int,r=.int .i64 n∧(k≤n∧n≤k+8388608)∧ChgI lo hi w w':=by
 obtain ⟨F,hM,hF⟩:=h
 obtain ⟨a0,a1,a2,a3,a4,F0,F1,F2,F3,F4,rfl,rfl,hnd,m0,m1,m2,m3,m4⟩:=znr hM
 unfold zh0 zpr at hn
 have d0:=zcv hnd
 have d1:=zcv d0.2.1
 have d2:=zcv d1.2.1
 have d3:=zcv d2.2.1
 refine F13_call ?_
 unfold F13
 refine zjS fun w1 hx1 hB1=>?_
 have hg:∀ b∈F0++(F1++(F2++(F3++F4))),b≠w.heap.size:=fun b hb e=>by have:=hM.lt b hb;omega
 refine zaa zc4 ?_
 refine zap zb1 hB1 rfl ?_
 refine (zdg (m0.ext hx1) (by omega) (by omega) (by omega)).mono ?_
 rintro _ w2 ⟨rfl,hc2,_⟩
 have hB2:=hB1.chg hc2 fun hm=>hg _ (by simp [hm]) rfl
 have m12:=(m1.ext hx1).chgD hc2 fun b hb h0=>d0.2.2 b h0 (by simp [hb])
 have m22:=(m2.ext hx1).chgD hc2 fun b hb h0=>d0.2.2 b h0 (by simp [hb])
 have m32:=(m3.ext hx1).chgD hc2 fun b hb h0=>d0.2.2 b h0 (by simp [hb])
 have m42:=(m4.ext hx1).chgD hc2 fun b hb h0=>d0.2.2 b h0 (by simp [hb])
 refine zaa zb2 ?_
 refine zap zb1 hB2 rfl ?_
 refine (zdg m12 (by omega) (by omega) (by omega)).mono ?_
 rintro _ w3 ⟨rfl,hc3,_⟩
 have hB3:=hB2.chg hc3 fun hm=>hg _ (by simp [hm]) rfl
 have m23:=m22.chgD hc3 fun b hb h0=>d1.2.2 b h0 (by simp [hb])
 have m33:=m32.chgD hc3 fun b hb h0=>d1.2.2 b h0 (by simp [hb])
 have m43:=m42.chgD hc3 fun b hb h0=>d1.2.2 b h0 (by simp [hb])
 refine zaa zbS ?_
 refine zap zb1 hB3 rfl ?_
 refine (zdg m23 (by omega) (by omega) (by omega)).mono ?_
 rintro _ w4 ⟨rfl,hc4,_⟩
 have hB4:=hB3.chg hc4 fun hm=>hg _ (by simp [hm]) rfl
 have m34:=m33.chgD hc4 fun b hb h0=>d2.2.2 b h0 (by simp [hb])
 have m44:=m43.chgD hc4 fun b hb h0=>d2.2.2 b h0 (by simp [hb])
 refine zaa zaO ?_
 refine zap zbv hB4 rfl ?_
 refine (zf5 m34 (by omega) (by omega) (by omega)).mono ?_
 rintro _ w5 ⟨rfl,hc5,_⟩
 have hB5:=hB4.chg hc5 fun hm=>hg _ (by simp [hm]) rfl
 have m45:=m44.chgD hc5 fun b hb h0=>d3.2.2 b h0 hb
 refine zaa zaK ?_
 refine zap zdn hB5 rfl ?_
 refine (zkr m45 (by omega) (by omega) (by omega)).mono ?_
 rintro _ w6 ⟨n,rfl,hn0,hn1,hc6,_⟩
 refine ⟨n,rfl,by omega,?_⟩
 have hc:Chg (F0++(F1++(F2++(F3++F4)))) w w6:=(((((hx1.chg _).sub hc2 (by simp +contextual)).sub hc3 (by simp +contextual)).sub hc4 (by simp +contextual)).sub hc5 (by simp +contextual)).sub hc6 (by simp +contextual)
 exact hc.toI hF
theorem zlM {w:World} {lo hi:Nat} {v:Value} {l:List Int} {k:Int} (h:OwnI lo hi w v l) (hn:l.length≤1073741824) (hk0:0≤k) (hk1:k≤100000000000000000) :
   CALL Tryz.prog 14 [v,.int .i64 k] w fun r w'=>r=.int .i64 (k+l.length)∧ChgI lo hi w w'∧OwnI lo hi w' v (cnt k l.length):=by
 obtain ⟨F,hM,hF⟩:=h
 exact (zf5 hM hn hk0 (by omega)).mono fun r w' ⟨h1,h2,h3⟩=>⟨h1,h2.toI hF,h3.toS.toI hF⟩
theorem zgU {w w0:World} {v:Value} {n:Nat} {k:Int} (h:Is w0 v (cnt k n)) (hx:Ext w0 w) (hn:n≤1073741824) (hk0:0≤k) (hk1:k≤100000000000000000) :
   CALL Tryz.prog 15 [v,.int .i64 k] w fun r w'=>Ext w w'∧r=.int .i64 (k+n):=(zjL h hx hn hk0 (by omega)).mono fun r w' ⟨h1,h2⟩=>⟨h2,h1⟩
theorem zns {c:DCode} {n m:Int} (hm:m≤1048576) (h:-1≤n∧n≤m∧(0≤n→n+zh0 c≤m)) (hc:¬n<0):zh0 c≤1048576:=by
 have:=h.2.2 (by omega);omega
def F4 (a0:Value) (w:World) (R:VW):Prop:=
 oP (Instr.box 26 a0) w fun x1 w=>
 rL 26 x1 w fun x11=>
 cL 7 [x11,(iV 1048576)] w fun x13 w=>
 rB .lss 3 T0 U0 x13 (iV 0) w fun x15=>
 BR x15
 (R (Value.bool true) w)
 (rL 26 x1 w fun x16=>
 cL 9 [x16] w fun x17 w=>
 cL 16 [x17] w fun x18 w=>
 rL 26 x1 w fun x19=>
 cL 9 [x19] w fun x20 w=>
 oP (Instr.alloc 32 true (.tuple #[])) w fun x5 w=>
 oS 32 x5 x20 w fun w=>
 rL 32 x5 w fun x21=>
 cL 17 [x21] w fun x22 w=>
 cL 18 [x22,x18] w fun x25 w=>
 rD (Op.unary .not x25) w fun x26=>
 BR x26
 (R (Value.bool false) w)
 ((fun w=>rL 32 x5 w fun x27=>
 rL 26 x1 w fun x28=>
 (fun w_=>cL 9 [x28] w_ fun x29 w=>
 Ext w_ w ∧
 cL 12 [x27,x29] w fun x30 w=>
 rD (Op.unary .not x30) w fun x31=>
 BR x31
 (R (Value.bool false) w)
 (rL 32 x5 w fun x32=>
 cL 13 [x32,(iV 1)] w fun x34 w=>
 rB .lss 3 T0 U0 x34 (iV 0) w fun x36=>
 BR x36
 (R (Value.bool false) w)
 (cL 18 [x22,x18] w fun x40 w=>
 rD (Op.unary .not x40) w fun x41=>
 BR x41
 (R (Value.bool false) w)
 (cL 19 [x22,(iV 1)] w fun x45 w=>
 cL 20 [x22,(iV 1)] w fun x48 w=>
 rB .lss 3 T0 U0 x48 (iV 0) w fun x50=>
 BR x50
 (R (Value.bool false) w)
 (rB .neq 3 T0 T0 x48 x45 w fun x53=>
 BR x53
 (R (Value.bool false) w)
 (rL 26 x1 w fun x54=>
 cL 9 [x54] w fun x55 w=>
 cL 17 [x55] w fun x56 w=>
 cL 18 [x56,x18] w fun x59 w=>
 rD (Op.unary .not x59) w fun x60=>
 BR x60
 (R (Value.bool false) w)
 (cL 20 [x22,(iV 1)] w fun x63 w=>
 rB .lss 3 T0 U0 x63 (iV 0) w fun x65=>
 BR x65
 (R (Value.bool false) w)
 (rB .neq 3 T0 T0 x63 x45 w fun x68=>
 BR x68
 (R (Value.bool false) w)
 (R (Value.bool true) w))))))))) w) (World.drew1 w)))
def F3 (a0:Value) (w:World) (R:VW):Prop:=
 oP (Instr.box 26 a0) w fun x1 w=>
 rL 26 x1 w fun x14=>
 cL 7 [x14,(iV 1048576)] w fun x16 w=>
 rB .lss 3 T0 U0 x16 (iV 0) w fun x18=>
 BR x18
 (R (Value.bool true) w)
 (rL 26 x1 w fun x20=>
 cL 9 [x20] w fun x21 w=>
 cL 8 [x21] w fun x22 w=>
 rE x22 0 w fun x23=>
 rE x22 1 w fun x24=>
 rL 26 x1 w fun x25=>
 cL 9 [x25] w fun x26 w=>
 oP (Instr.alloc 32 true (.tuple #[])) w fun x6 w=>
 oS 32 x6 x26 w fun w=>
 rL 32 x6 w fun x28=>
 cL 10 [x28] w fun x29 w=>
 rE x29 0 w fun x30=>
 rE x29 1 w fun x31=>
 cL 11 [x30,x23] w fun x34 w=>
 rD (Op.unary .not x34) w fun x35=>
 BR x35
 (R (Value.bool false) w)
 (rB .neq 4 T0 T0 x31 x24 w fun x39=>
 BR x39
 (R (Value.bool false) w)
 ((fun w=>rL 32 x6 w fun x41=>
 rL 26 x1 w fun x42=>
 (fun w_=>cL 9 [x42] w_ fun x43 w=>
 Ext w_ w ∧
 cL 12 [x41,x43] w fun x44 w=>
 rD (Op.unary .not x44) w fun x45=>
 BR x45
 (R (Value.bool false) w)
 (rL 32 x6 w fun x46=>
 cL 13 [x46,(iV 1)] w fun x48 w=>
 rB .lss 3 T0 U0 x48 (iV 0) w fun x50=>
 BR x50
 (R (Value.bool false) w)
 (cL 11 [x30,x23] w fun x54 w=>
 rD (Op.unary .not x54) w fun x55=>
 BR x55
 (R (Value.bool false) w)
 (rB .neq 4 T0 T0 x31 x24 w fun x60=>
 BR x60
 (R (Value.bool false) w)
 (cL 14 [x30,(iV 1)] w fun x64 w=>
 cL 15 [x30,(iV 1)] w fun x67 w=>
 rB .lss 3 T0 U0 x67 (iV 0) w fun x69=>
 BR x69
 (R (Value.bool false) w)
 (rB .neq 3 T0 T0 x67 x64 w fun x72=>
 BR x72
 (R (Value.bool false) w)
 (rL 26 x1 w fun x74=>
 cL 9 [x74] w fun x75 w=>
 cL 10 [x75] w fun x76 w=>
 rE x76 0 w fun x77=>
 rE x76 1 w fun x78=>
 cL 11 [x77,x23] w fun x81 w=>
 rD (Op.unary .not x81) w fun x82=>
 BR x82
 (R (Value.bool false) w)
 (rB .neq 4 T0 T0 x78 x24 w fun x86=>
 BR x86
 (R (Value.bool false) w)
 (cL 15 [x30,(iV 1)] w fun x90 w=>
 rB .lss 3 T0 U0 x90 (iV 0) w fun x92=>
 BR x92
 (R (Value.bool false) w)
 (rB .neq 3 T0 T0 x90 x64 w fun x95=>
 BR x95
 (R (Value.bool false) w)
 (R (Value.bool true) w))))))))))) w) (World.drew1 w))))
def cfg3:Cfg:=⟨extL,[],[],[(10,[0,1,2,3,4],4)],[],[],[]⟩
theorem F3_call {a0:Value} {w:World} {R:VW} (h:F3 a0 w R):cL 3 [a0] w R:=co (g:=cfg3) Tryz.func3 (by kernel_rfl) (by kernel_rfl) (by kernel_rfl) h
theorem znt {w:World} {v0:Value} {W0:World} {c:DCode}  (h0:Is W0 v0 c) (e0:Ext W0 w)  :
   CALL Tryz.prog 3 [v0] w fun r w'=>Ext w w'∧(r=.bool true):=by
 refine F3_call ?_
 unfold F3
 have hs_e0:=e0.size
 refine zax zqD rfl h0 e0 fun w1_ hx1_ hA1 hV1=>?_
 have hs_hx1_:=hx1_.size
 refine zbd hV1 (Ext.refl w1_) ?_
 refine (zmB h0 (e0.trans hx1_) (by omega) (by omega)).mono ?_
 rintro _ w2_ ⟨hx2_,n16,rfl,hn16⟩
 have hs_hx2_:=hx2_.size
 refine zah ?_
 refine br (fun c1=>?_) (fun c1=>?_)
 · refine ⟨(hx1_.trans hx2_),?_⟩
   first | rfl | contradiction | (exfalso;omega)
 have hcd:=zns (by omega) hn16 c1
 have hlr:=zkn c
 refine zbd hV1 hx2_ ?_
 refine (ze3 (h0.ext (e0.trans (hx1_.trans hx2_))) (by omega)).mono ?_
 rintro r21 w3_ ⟨hx3_,o21⟩
 have o21:=o21.toI
 have hs_hx3_:=hx3_.size
 refine (zij o21.is (Ext.refl w3_)).mono ?_
 rintro _ w4_ ⟨hx4_,r22_0,rfl,o22_0⟩
 have o22_0:=o22_0.toI
 have hs_hx4_:=hx4_.size
 refine zbz rfl ?_
 refine zbz rfl ?_
 refine zbd hV1 (hx2_.trans (hx3_.trans hx4_)) ?_
 refine (ze3 (h0.ext (e0.trans (hx1_.trans (hx2_.trans (hx3_.trans hx4_))))) (by omega)).mono ?_
 rintro r26 w5_ ⟨hx5_,o26⟩
 have o26:=o26.toI
 have hs_hx5_:=hx5_.size
 refine zct zqE rfl zdh rfl o26.is (Ext.refl w5_) fun w6_ hx6_ hA6 hV6=>?_
 have hs_hx6_:=hx6_.size
 have hg6:=hV6.lt
 refine zbd hV6 (Ext.refl w6_) ?_
 refine (zfc o26.is hx6_).mono ?_
 rintro _ w7_ ⟨hx7_,r29_0,rfl,o29_0⟩
 have o29_0:=o29_0.toI
 have hs_hx7_:=hx7_.size
 refine zbz rfl ?_
 refine zbz rfl ?_
 refine (zea o29_0.is (Ext.refl w7_) o22_0.is (hx5_.trans (hx6_.trans hx7_))).mono ?_
 rintro _ w8_ ⟨hx8_,rfl⟩
 have hs_hx8_:=hx8_.size
 refine zar ?_
 refine br (fun c2=>?_) (fun c2=>?_)
 · refine ⟨(hx1_.trans (hx2_.trans (hx3_.trans (hx4_.trans (hx5_.trans (hx6_.trans (hx7_.trans hx8_))))))),?_⟩
   first | rfl | contradiction | (exfalso;omega)
 refine zhI u4 ?_
 refine br (fun c3=>?_) (fun c3=>?_)
 · refine ⟨(hx1_.trans (hx2_.trans (hx3_.trans (hx4_.trans (hx5_.trans (hx6_.trans (hx7_.trans hx8_))))))),?_⟩
   first | rfl | contradiction | (exfalso;omega)
 have hx9_:=zan w8_
 have hs_hx9_:=hx9_.size
 refine zbd hV6 (hx7_.trans (hx8_.trans hx9_)) ?_
 refine zbd hV1 (hx2_.trans (hx3_.trans (hx4_.trans (hx5_.trans (hx6_.trans (hx7_.trans (hx8_.trans hx9_))))))) ?_
 refine (ze3 (h0.ext (e0.trans (hx1_.trans (hx2_.trans (hx3_.trans (hx4_.trans (hx5_.trans (hx6_.trans (hx7_.trans (hx8_.trans hx9_)))))))))) (by omega)).mono ?_
 rintro r43 w10_ ⟨hx10_,o43⟩
 have o43:=o43.toI
 have hs_hx10_:=hx10_.size
 refine ⟨hx10_,?_⟩
 refine (zmE o26.is (hx6_.trans (hx7_.trans (hx8_.trans (hx9_.trans hx10_)))) o43.is (Ext.refl w10_)).mono ?_
 rintro _ w11_ ⟨hx11_,rfl⟩
 have hs_hx11_:=hx11_.size
 refine zar ?_
 refine br (fun c4=>?_) (fun c4=>?_)
 · refine ⟨(hx1_.trans (hx2_.trans (hx3_.trans (hx4_.trans (hx5_.trans (hx6_.trans (hx7_.trans (hx8_.trans (hx9_.trans (hx10_.trans hx11_)))))))))),?_⟩
   first | rfl | contradiction | (exfalso;omega)
 refine zbd hV6 (hx7_.trans (hx8_.trans (hx9_.trans (hx10_.trans hx11_)))) ?_
 refine (zks (o26.ext (hx6_.trans (hx7_.trans (hx8_.trans (hx9_.trans (hx10_.trans hx11_)))))) (by omega) (by omega) (by omega)).mono ?_
 rintro _ w12_ ⟨n48,rfl,hn48,hc12_⟩
 have hs_hc12_:=hc12_.size
 have o21_c12:=(o21.ext (hx4_.trans (hx5_.trans (hx6_.trans (hx7_.trans (hx8_.trans (hx9_.trans (hx10_.trans hx11_)))))))).chg hc12_ (by omega)
 have o22_0_c12:=(o22_0.ext (hx5_.trans (hx6_.trans (hx7_.trans (hx8_.trans (hx9_.trans (hx10_.trans hx11_))))))).chg hc12_ (by omega)
 have hV6_c12:=(hV6.ext (hx7_.trans (hx8_.trans (hx9_.trans (hx10_.trans hx11_))))).chgI hc12_ (by omega)
 have o29_0_c12:=(o29_0.ext (hx8_.trans (hx9_.trans (hx10_.trans hx11_)))).chg hc12_ (by omega)
 have o43_c12:=(o43.ext hx11_).chg hc12_ (by omega)
 refine zah ?_
 refine br (fun c5=>?_) (fun c5=>?_)
 · refine ⟨(Ext.chgI ((((((((((hx1_.trans hx2_).trans hx3_).trans hx4_).trans hx5_).trans hx6_).trans hx7_).trans hx8_).trans hx9_).trans hx10_).trans hx11_) hc12_ (by omega)),?_⟩
   first | rfl | contradiction | (exfalso;omega)
 refine (zea o29_0_c12.is (Ext.refl w12_) o22_0_c12.is (Ext.refl w12_)).mono ?_
 rintro _ w13_ ⟨hx13_,rfl⟩
 have hs_hx13_:=hx13_.size
 refine zar ?_
 refine br (fun c6=>?_) (fun c6=>?_)
 · refine ⟨((Ext.chgI ((((((((((hx1_.trans hx2_).trans hx3_).trans hx4_).trans hx5_).trans hx6_).trans hx7_).trans hx8_).trans hx9_).trans hx10_).trans hx11_) hc12_ (by omega)).trans hx13_),?_⟩
   first | rfl | contradiction | (exfalso;omega)
 refine zhI u4 ?_
 refine br (fun c7=>?_) (fun c7=>?_)
 · refine ⟨((Ext.chgI ((((((((((hx1_.trans hx2_).trans hx3_).trans hx4_).trans hx5_).trans hx6_).trans hx7_).trans hx8_).trans hx9_).trans hx10_).trans hx11_) hc12_ (by omega)).trans hx13_),?_⟩
   first | rfl | contradiction | (exfalso;omega)
 refine (zlM (o29_0_c12.ext hx13_) (by omega) (by omega) (by omega)).mono ?_
 rintro _ w14_ ⟨rfl,hc14_,o29_0_c14⟩
 have hs_hc14_:=hc14_.size
 have o21_c14:=(o21_c12.ext hx13_).chg hc14_ (by omega)
 have o22_0_c14:=(o22_0_c12.ext hx13_).chg hc14_ (by omega)
 have o43_c14:=(o43_c12.ext hx13_).chg hc14_ (by omega)
 refine (zgU o29_0_c14.is (Ext.refl w14_) (by omega) (by omega) (by omega)).mono ?_
 rintro _ w15_ ⟨hx15_,rfl⟩
 have hs_hx15_:=hx15_.size
 refine zah ?_
 refine br (fun c8=>?_) (fun c8=>?_)
 · refine ⟨((Ext.chgI ((Ext.chgI ((((((((((hx1_.trans hx2_).trans hx3_).trans hx4_).trans hx5_).trans hx6_).trans hx7_).trans hx8_).trans hx9_).trans hx10_).trans hx11_) hc12_ (by omega)).trans hx13_) hc14_ (by omega)).trans hx15_),?_⟩
   first | rfl | contradiction | (exfalso;omega)
 refine zaI ?_
 refine br (fun c9=>?_) (fun c9=>?_)
 · refine ⟨((Ext.chgI ((Ext.chgI ((((((((((hx1_.trans hx2_).trans hx3_).trans hx4_).trans hx5_).trans hx6_).trans hx7_).trans hx8_).trans hx9_).trans hx10_).trans hx11_) hc12_ (by omega)).trans hx13_) hc14_ (by omega)).trans hx15_),?_⟩
   first | rfl | contradiction | (exfalso;omega)
 refine zbd hV1 ((Ext.chgI ((Ext.chgI (((((((((hx2_.trans hx3_).trans hx4_).trans hx5_).trans hx6_).trans hx7_).trans hx8_).trans hx9_).trans hx10_).trans hx11_) hc12_ (by omega)).trans hx13_) hc14_ (by omega)).trans hx15_) ?_
 refine (ze3 (h0.ext ((Ext.chgI ((Ext.chgI (((((((((((e0.trans hx1_).trans hx2_).trans hx3_).trans hx4_).trans hx5_).trans hx6_).trans hx7_).trans hx8_).trans hx9_).trans hx10_).trans hx11_) hc12_ (by omega)).trans hx13_) hc14_ (by omega)).trans hx15_)) (by omega)).mono ?_
 rintro r75 w16_ ⟨hx16_,o75⟩
 have o75:=o75.toI
 have hs_hx16_:=hx16_.size
 refine (zfc o75.is (Ext.refl w16_)).mono ?_
 rintro _ w17_ ⟨hx17_,r76_0,rfl,o76_0⟩
 have o76_0:=o76_0.toI
 have hs_hx17_:=hx17_.size
 refine zbz rfl ?_
 refine zbz rfl ?_
 refine (zea o76_0.is (Ext.refl w17_) o22_0_c14.is (hx15_.trans (hx16_.trans hx17_))).mono ?_
 rintro _ w18_ ⟨hx18_,rfl⟩
 have hs_hx18_:=hx18_.size
 refine zar ?_
 refine br (fun c10=>?_) (fun c10=>?_)
 · refine ⟨(((((Ext.chgI ((Ext.chgI ((((((((((hx1_.trans hx2_).trans hx3_).trans hx4_).trans hx5_).trans hx6_).trans hx7_).trans hx8_).trans hx9_).trans hx10_).trans hx11_) hc12_ (by omega)).trans hx13_) hc14_ (by omega)).trans hx15_).trans hx16_).trans hx17_).trans hx18_),?_⟩
   first | rfl | contradiction | (exfalso;omega)
 refine zhI u4 ?_
 refine br (fun c11=>?_) (fun c11=>?_)
 · refine ⟨(((((Ext.chgI ((Ext.chgI ((((((((((hx1_.trans hx2_).trans hx3_).trans hx4_).trans hx5_).trans hx6_).trans hx7_).trans hx8_).trans hx9_).trans hx10_).trans hx11_) hc12_ (by omega)).trans hx13_) hc14_ (by omega)).trans hx15_).trans hx16_).trans hx17_).trans hx18_),?_⟩
   first | rfl | contradiction | (exfalso;omega)
 refine (zgU o29_0_c14.is (hx15_.trans (hx16_.trans (hx17_.trans hx18_))) (by omega) (by omega) (by omega)).mono ?_
 rintro _ w19_ ⟨hx19_,rfl⟩
 have hs_hx19_:=hx19_.size
 refine zah ?_
 refine br (fun c12=>?_) (fun c12=>?_)
 · refine ⟨((((((Ext.chgI ((Ext.chgI ((((((((((hx1_.trans hx2_).trans hx3_).trans hx4_).trans hx5_).trans hx6_).trans hx7_).trans hx8_).trans hx9_).trans hx10_).trans hx11_) hc12_ (by omega)).trans hx13_) hc14_ (by omega)).trans hx15_).trans hx16_).trans hx17_).trans hx18_).trans hx19_),?_⟩
   first | rfl | contradiction | (exfalso;omega)
 refine zaI ?_
 refine br (fun c13=>?_) (fun c13=>?_)
 · refine ⟨((((((Ext.chgI ((Ext.chgI ((((((((((hx1_.trans hx2_).trans hx3_).trans hx4_).trans hx5_).trans hx6_).trans hx7_).trans hx8_).trans hx9_).trans hx10_).trans hx11_) hc12_ (by omega)).trans hx13_) hc14_ (by omega)).trans hx15_).trans hx16_).trans hx17_).trans hx18_).trans hx19_),?_⟩
   first | rfl | contradiction | (exfalso;omega)
 refine ⟨((((((Ext.chgI ((Ext.chgI ((((((((((hx1_.trans hx2_).trans hx3_).trans hx4_).trans hx5_).trans hx6_).trans hx7_).trans hx8_).trans hx9_).trans hx10_).trans hx11_) hc12_ (by omega)).trans hx13_) hc14_ (by omega)).trans hx15_).trans hx16_).trans hx17_).trans hx18_).trans hx19_),?_⟩
 first | rfl | contradiction | (exfalso;omega)
theorem znu:∀ n,zcR Tryz.prog 93 DTerm n∧zcR Tryz.prog 91 (List DTerm) n
 | 0=>⟨zed,zed⟩
 | n + 1 => ⟨zmu (zfx (α := Int × Int × ByteArray × List DTerm) zq4 (by kernel_rfl)
     (.cons rfl (by kernel_rfl) (zdp u3 n) (.cons rfl (by kernel_rfl) (zdp u3 n) (.cons rfl (by kernel_rfl) (ziJ u9 n) (.one rfl (by kernel_rfl) (znu n).2))))),
   zgh u91 (by kernel_rfl) (znu n).1⟩
theorem znv:∀ n,zcR Tryz.prog 22 (List ByteArray) n:=zcS u22 (by kernel_rfl) (ziJ u9)
theorem zqO:∀ n,zcR Tryz.prog 95 DIns n:=fun n=>
 ziM (g:=fun p=>⟨p.1,p.2.1,p.2.2.1,p.2.2.2⟩) (fun _=>rfl) (zdE (α:=Int×Int×DTerm×Int) zq5 (by kernel_rfl)
   (fun n=>.cons rfl (by kernel_rfl) (zdp u3 n) (.cons rfl (by kernel_rfl) (zdp u3 n) (.cons rfl (by kernel_rfl) (znu n).1 (.one rfl (by kernel_rfl) (zdp u3 n))))) n)
theorem zqs:∀ n,zcR Tryz.prog 24 (List DIns) n:=zcS u24 (by kernel_rfl) zqO
theorem zpO:∀ n,zcR Tryz.prog 23 (List Int) n:=zcS u23 (by kernel_rfl) (zdp u3)
theorem zqt:∀ n,zcR Tryz.prog 26 DCode n:=fun n=>
 ziM (g:=fun p=>⟨p.1,p.2.1,p.2.2.1,p.2.2.2.1,p.2.2.2.2⟩) (fun _=>rfl) (zdE (α:=List ByteArray×List ByteArray×List ByteArray×List Int×List DIns) zqR (by kernel_rfl)
   (fun n=>.cons rfl (by kernel_rfl) (znv n) (.cons rfl (by kernel_rfl) (znv n) (.cons rfl (by kernel_rfl) (znv n) (.cons rfl (by kernel_rfl) (zpO n) (.one rfl (by kernel_rfl) (zqs n)))))) n)
end Go.Proofs.YtifonhplnmpgaaaGreat
namespace Go.Proofs.YtifonhplnmpgaaaGreat
open Go
theorem zbc {a b:Bool} (h:a=true) (k:b=true):(a&&b)=true:=by rw [h,k];rfl
theorem zpP:laidOutB Tryz.prog=true:=by kernel_rfl
theorem zpQ:mapsRowed Tryz.prog=true:=by kernel_rfl
theorem zoz:(Rows.fnExactRankedRow.plainKeys == Tryz.prog.plainKeys)=true:=by kernel_rfl
theorem zoA:Tryz.prog.stopsHeard=true:=by kernel_rfl
theorem zqu:Tryz.prog.mayEnter=true:=by kernel_rfl
theorem zpR:(Rows.fnExactRankedRow.lifted == Tryz.prog.liftsFinal)=true:=by kernel_rfl
theorem zpS:(Tryz.prog.make == some Rows.fnExactRankedRow.make)=true:=by kernel_rfl
end Go.Proofs.YtifonhplnmpgaaaGreat
namespace Go.Proofs.YtifonhplnmpgaaaGreat.fnExactRanked
open Go.ChangeShapes Go.WideShapes Go.ChangeAt Go.RowKit Go.Sh
theorem own:ownKnob Tryz.prog.godebug=none:=by kernel_rfl
theorem zpT:laidOutB Tryz.prog=true:=by kernel_rfl
set_option maxRecDepth 100000 in
theorem lifted (os:Os) (started:os.Started) (H:Type) (enc:TypeId×Value→H) :
    ReturnsInHanded {} Tryz.checked os 3 .any (Rows.fnExactRankedSpec.pre6 enc Tryz.prog Tryz.f3 Rows.fnExactRankedRow.domain false) (Rows.fnExactRankedSpec.post enc Tryz.prog Tryz.f3 false true false false):=by
  refine returnsInHanded_of_change (C:=Tryz.checked) own started (by kernel_rfl) Tryz.func3
    (ChangeSpec.witness6 (enc:=enc) (C:=Tryz.checked) false ⟨#[],#[.agg #[.slice none 0 0,.slice none 0 0,.slice none 0 0,.slice none 0 0,.slice none 0 0]],[]⟩ 8 (by kernel_rfl) (by kernel_rfl) (by kernel_rfl) (by kernel_rfl)) ?_
  intro W base args ds gs before hval0 hW hcnd _
  have hval:∀ (j:Nat) t v,Tryz.f3.params[j]?=some t→args[j]?=some v→Value.okWide Tryz.prog W .any base t v:=hval0
  have hW':=hW
  obtain ⟨p,q,hA0,hV,rfl,hfz,hnd⟩:=hW
  have hA:DataW.TrodAll enc Tryz.prog W 0 (fun _=>true) true Tryz.f3.params.toList args.toList ds p:=hA0
  rw [Tryz.params3] at hA hval
  obtain ⟨v0,vs0,d0,ds0,p0,q0,hargs,rfl,rfl,h0,r0⟩:=trodAll_cons hA
  obtain ⟨rfl,rfl,rfl⟩:=trodAll_nil r0
  obtain rfl:args=#[v0]:=by cases args;simp_all
  obtain ⟨rfl,rfl⟩:=trodVars_none hV
  have lt0:∀ x∈p0,x.block<W.heap.size:=by obtain ⟨m,hm⟩:=h0;exact DataW.trod_lt m _ _ _ hm
  obtain ⟨x0,i0⟩:=ziN (α:=DCode) zqR rfl zqt (hval 0 26 v0 rfl rfl) h0
  clear hA0 hval0
  obtain ⟨hcall⟩:=znt i0 (Ext.refl W)
  refine hcall.mono fun e W' ⟨v,he,bel,hv⟩=>?_
  subst he hv
  exact ⟨_,rfl,_,_,_,[],_,[],hW',trodAll_mk1 (shut_bool Tryz.underlying4 _),(trodAll_cons_mk (Below.trod zpT (by kernel_rfl) (of_decide_eq_true (by kernel_rfl)) h0 bel lt0) trodAll_mk0),rfl,bel.frame _,fun h=>by cases h⟩
theorem znw:(Rows.fnExactRankedRow.inPlace == Tryz.prog.inPlace 3)=true:=by kernel_rfl
theorem zjy:(Rows.fnExactRankedRow.unfollowed == Tryz.prog.unfollowed 3)=true:=by kernel_rfl
theorem zlN:(Rows.fnExactRankedRow.recurses == Tryz.prog.recurses 3)=true:=by kernel_rfl
theorem zpU:(Rows.fnExactRankedRow.named == Tryz.prog.varsNamed 3)=true:=by kernel_rfl
theorem closed:joinedFacts Tryz.prog 3 Tryz.f3 Rows.fnExactRankedSpec Rows.fnExactRankedRow=true:=by
 unfold joinedFacts
 exact (zbc (zbc (zbc (zbc (zbc (zbc (zbc (zbc (zbc (zbc (zbc (zbc (zbc (zbc (zbc (zbc (zbc (zbc (zbc (zbc (zbc (zbc (zbc (zbc (zbc (zbc (zbc (zbc (zbc (zbc (zbc (by kernel_rfl) zpP) zpQ) (by kernel_rfl)) (by kernel_rfl)) (by kernel_rfl)) (by kernel_rfl)) (by kernel_rfl)) (by kernel_rfl)) znw) zjy) zlN) zpU) (by kernel_rfl)) (by kernel_rfl)) (by kernel_rfl)) (by kernel_rfl)) (by kernel_rfl)) (by kernel_rfl)) (by kernel_rfl)) (by kernel_rfl)) (by kernel_rfl)) zoz) (by kernel_rfl)) zoA) zqu) zpR) zpS) (by kernel_rfl)) (by kernel_rfl)) (by kernel_rfl)) (by kernel_rfl))
theorem over:Rows.fnExactRankedRow.holds Tryz.pinned (OpenSpec.ofChange Rows.fnExactRankedSpec):=
 OpenClaim.holds_of_wide 3 Tryz.f3 rfl rfl rfl rfl rfl rfl rfl ⟨rfl,rfl,rfl,rfl,rfl⟩ rfl rfl rfl rfl rfl (by kernel_rfl) Tryz.func3 closed
   (of_decide_eq_true (by kernel_rfl)) (by unfold Func.isWrapper;first | (rw [if_pos (by decide +kernel)];kernel_rfl) | (rw [if_neg (by decide +kernel)];exact ⟨rfl,rfl⟩))
   (fun os started H enc _=>lifted os started H enc)
theorem proved:Rows.FnExactRankedSaid:=over
end Go.Proofs.YtifonhplnmpgaaaGreat.fnExactRanked
