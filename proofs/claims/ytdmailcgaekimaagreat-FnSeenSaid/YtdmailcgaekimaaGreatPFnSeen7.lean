/-
  Parts of the proof, put together by program.
-/
import Derived.Test.YtdmailcgaekimaaGreatPFnSeen6
set_option linter.unusedVariables false
set_option linter.unusedSimpArgs false
set_option linter.unusedSectionVars false
namespace Go.Proofs.YtdmailcgaekimaaGreat
open Go Go.Sh Go.Proofs
open Rep (rep)
def F52 (a0:Value) (w:World) (R:VW):Prop:=
 oP (Instr.alloc 28 true (.tuple #[])) w fun x2 w=>
 oP (Instr.alloc 31 true (.tuple #[])) w fun x3 w=>
 cL 50 [a0] w fun x10 w=>
 cL 70 [x10] w fun x12 w=>
 oP (Instr.alloc 28 true (.tuple #[])) w fun x5 w=>
 oS 28 x5 x12 w fun w=>
 rL 28 x5 w fun x13=>
 cL 56 [x13] w fun x14 w=>
 oP (Instr.alloc 31 true (.tuple #[])) w fun x6 w=>
 oS 31 x6 x14 w fun w=>
 LOOPI [7] [(iV 0)] w fun u5 w next5=>
 rB .lss 3 T0 U0 (u5 7) (iV 60) w fun x16=>
 BR x16
 (rL 28 x5 w fun x19=>
 rL 31 x6 w fun x20=>
 cL 57 [x19,x20] w fun x21 w=>
 rN 25 3 x21 w fun x23=>
 rB .eql 3 T0 U0 x23 (iV 0) w fun x24=>
 BR x24
 ((fun w=>XR fun X=>RDX tp X (Instr.loadAt 28 x5) w fun x35=>
 RDX tp X (Instr.loadAt 31 x6) w fun x36=>
 (fun w_=>oS 28 x2 x35 w_ fun w=>
 ExtX X w_ w ∧
 oS 31 x3 x36 w fun w=>
 rD (zar 28 x2) w fun r2=>rD (zar 31 x3) w fun r3=>R (Value.tuple #[r2,r3]) w) w) (World.drew1 w))
 ((fun w=>XR fun X=>RDX tp X (Instr.loadAt 28 x5) w fun x25=>
 RDX tp X (Instr.loadAt 31 x6) w fun x26=>
 RDX tp X (ln 25 3 x21) w fun x30=>
 (fun w_=>cL 59 [x10,x30] w_ fun x31 w=>
 ExtX X w_ w ∧
 RDX tp X (Instr.indexAt 25 x21 x31) w fun x32=>
 RDX tp X (Instr.loadAt 3 x32) w fun x33=>
 cL 58 [x25,x26,x33] w fun x34 w=>
 oS 31 x6 x34 w fun w=>
 rA (u5 7) (iV 1) w fun x18=>
 next5 [x18] w) w) (World.drew1 w)))
 ((fun w=>XR fun X=>RDX tp X (Instr.loadAt 28 x5) w fun x35=>
 RDX tp X (Instr.loadAt 31 x6) w fun x36=>
 (fun w_=>oS 28 x2 x35 w_ fun w=>
 ExtX X w_ w ∧
 oS 31 x3 x36 w fun w=>
 rD (zar 28 x2) w fun r2=>rD (zar 31 x3) w fun r3=>R (Value.tuple #[r2,r3]) w) w) (World.drew1 w))
def cfg52:Cfg:={ ext:=extL,joins:=[],loops:=[(5,34359705984,[7])],draws:=[(10,[0,1,2,3],4),(9,[0,1,2,3,4,5,6,7,8,9,10],64)],pars:=[],xs:=[9,10] }
theorem F52_call {a0:Value} {w:World} {R:VW} (h:F52 a0 w R):cL 52 [a0] w R:=co (g:=cfg52) Tryz.func52 (by kernel_rfl) (by kernel_rfl) (by kernel_rfl) h
open Rep (rep)
theorem zdU {X:Nat→Prop} {a b:Nat} {w w':World} (h:ChgI a b w w') (hX:∀ c,a≤c→c<b→X c):ExtX X w w':=
 ⟨h.os,h.tape,h.output,h.size,fun c hc hn=>h.block c hc (by
   rcases Nat.lt_or_ge c a with h1 | h1
   · exact .inl h1
   exact .inr (by rcases Nat.lt_or_ge c b with h2 | h2;exact absurd (hX c h1 h2) hn;exact h2))⟩
theorem znG {X:Nat→Prop} {w W:World} {v:Value} {l:List Int} {K:Value→Prop} (h:Is W v l) (k:K (.int .i64 (l.length:Int))):RDX Tryz.prog X (Builtin.len_ #[25] 3 [v].toArray) w K:=by
 obtain ⟨a,cap,Fi,xs,rfl,_⟩:=zcq h
 exact zhL (fun w'=>by simp [Builtin.len_,run_underlying u25];rfl) k
theorem zp3 {X:Nat→Prop} {w:World} {lo hi n cap i:Nat} {a:Option Addr} {l:List Int} {K:Value→Prop} (h:IsK lo hi w (.slice a n cap) l) (hn:n=l.length) (hil:i<l.length) (hX:∀ b,lo≤b→b<hi→¬X b)
   (k:I64 l[i]→K (.int .i64 l[i])):∃ p,(∀ w':World,(Instr.indexAt 25 (.slice a n cap) (.int .i64 (i:Int))).run Tryz.prog w'=.ok p w')∧RDX Tryz.prog X (Instr.loadAt 3 p) w K:=by
 subst hn
 obtain ⟨F,cs,⟨a',cap',Fi,xs,rfl,h1,h2,hc,h4⟩,hv⟩:=h.is
 simp only [mkv,Rep.agg,cond_false,List.headD_cons,Value.slice.injEq] at hv
 obtain ⟨rfl,_,rfl⟩:=hv
 rcases h4 with ⟨rfl,_⟩ | ⟨b,o,rfl,rfl,hr,hb⟩
 · simp at hil
 refine ⟨.pointer (some ⟨b,o+i*1,none⟩),fun w'=>by rw [zbg u25 ty3 (by omega) (by omega)];simp,?_⟩
 have key:∀ w':World,Is w' (.slice (some ⟨b,o,none⟩) l.length cap) l→w'.cell? ⟨b,o+i*1,none⟩=some (.int .i64 l[i])∧I64 l[i]:=by
   intro w' hw
   obtain ⟨F,cs,⟨a',cap',Fi,xs,rfl,h1,h2,hc,h4⟩,hv⟩:=hw
   simp only [mkv,Rep.agg,cond_false,List.headD_cons,Value.slice.injEq] at hv
   obtain ⟨rfl,_,rfl⟩:=hv
   rcases h4 with ⟨rfl,_⟩ | ⟨b2,o2,hbo,rfl,hr,hb⟩
   · simp at hil
   simp only [Option.some.injEq,Addr.mk.injEq,and_true] at hbo
   obtain ⟨rfl,rfl⟩:=hbo
   have e:l=l.take i++(l[i] :: l.drop (i+1)):=by simp
   rw [e] at hc
   obtain ⟨F1,F2,x1,x2,rfl,rfl,c1,c2⟩:=Cells.split hc
   obtain ⟨G,F3,cg,x3,rfl,rfl,⟨_,rfl,hs⟩,_⟩:=c2
   have hx1:x1.length=i:=by rw [Cells.len c1,List.length_take,Nat.min_eq_left (by omega)];exact Nat.mul_one i
   refine ⟨?_,hs⟩
   have:=hr i (.int .i64 l[i]) (by rw [List.getElem?_append_right (by omega),hx1];simp)
   simpa using this
 refine ⟨.int .i64 l[i],fun w' hx'=>?_,k (key w h.is).2⟩
 have h0:=(key w' (h.2 w' fun c h5 h6=>hx'.block c (Nat.lt_of_lt_of_le h6 h.1) (hX c h5 h6))).1
 rw [Nat.mul_one] at h0
 have hA:=zb2 ty3 w'
 simp [Instr.loadAt,Instr.sureAddr,loadVar,hA,h0]
def zfe (bs:List UInt8) (c:DCode):Nat→DState→Cur→DState
 | 0,s,_=>s
 | n+1,s,q=>if (za0 c s).length=0 then s else zfe bs c n (zgB c s ((za0 c s).getD (zaI bs (za0 c s).length q).toNat 0)) (zak bs (za0 c s).length q)
theorem zfW (bs:List UInt8) {c:DCode} (hc:CodeR c):∀ (n:Nat) (s:DState) (q:Cur),zaz c s→zaz c (zfe bs c n s q)
 | 0,s,q,h=>h
 | n+1,s,q,h=>by
   unfold zfe
   split
   · exact h
   have hb:=zbp bs (n:=((za0 c s).length:Int)) (by omega) q
   refine zfW bs hc n _ _ (zhd hc h ?_)
   rw [List.getD_eq_getElem?_getD,List.getElem?_eq_getElem (show (zaI bs (za0 c s).length q).toNat<(za0 c s).length by omega)]
   exact zfd (List.getElem_mem _)
def zgE (bs:List UInt8):DState:=zfe bs (zbl bs) 60 (zdm (zbl bs)) (zcm bs (zcT bs)).2
theorem zcL {α:Type} [Rep α] {lo hi:Nat} {w:World} {v:Value} {x:α} (ha:Rep.agg α=true) (h:OwnI lo hi w v x):∃ us:Array Value,v=.agg us∧us.toList.length=Rep.size α:=by
 obtain ⟨F,⟨⟨cs,hr,hv⟩,_⟩,_⟩:=h
 exact ⟨cs.toArray,by simpa [mkv,ha] using hv,Rep.len hr⟩
set_option maxRecDepth 20000 in
theorem ziZ {w W:World} {v:Value} {bs:List UInt8} (h:Is W v bs) (e:Ext W w) (hl:bs.length≤1048576) :
    CALL Tryz.prog 52 [v] w fun r w'=>Ext w w'∧zua w w' r (zbl bs) (zgE bs):=by
  have hc:=(zhg bs).1
  have hw:=zhh bs
  refine F52_call ?_
  unfold F52
  refine zaF zo5 fun w1 hx1 hB1=>?_
  have hs1:=hx1.size
  have hg1:=hB1.lt
  refine zaF zfJ fun w2 hx2 hB2=>?_
  have hs2:=hx2.size
  have hg2:=hB2.lt
  refine (ziM h (e.trans (hx1.trans hx2)) hl).mono ?_
  rintro _ w3 ⟨hx3,g,rfl,hg,hC3⟩
  have hs3:=hx3.size
  have hg3:=hC3.lt
  refine (zjr hC3).mono ?_
  rintro v4 w4 ⟨hc4,o4,hC4⟩
  have hs4:=hc4.size
  have o4:OwnI w3.heap.size w4.heap.size w4 v4 (zbl bs):=o4
  obtain ⟨us,rfl,hul⟩:=zcL rfl o4
  refine zaF zo5 fun w5 hx5 hB5=>?_
  have hs5:=hx5.size
  have hg5:=hB5.lt
  have o5:=o4.ext hx5
  refine zaw zbq rfl hB5 rfl o5 fun w6 hc6 hB6=>?_
  have hs6:=hc6.size
  have o6:=o5.chg hc6 (by omega)
  refine zbP hB6 (by rw [hul];exact zbq) ?_
  refine (zd2 o6.is (Ext.refl _) hw).mono ?_
  rintro v7 w7 ⟨hx7,o7⟩
  have hs7:=hx7.size
  have hsd:zhb (zbl bs)=zdm (zbl bs):=if_pos hc
  rw [hsd] at o7
  have hsr:=zeN hc
  have hdef:zgE bs=zfe bs (zbl bs) 60 (zdm (zbl bs)) (zcm bs (zcT bs)).2:=rfl
  generalize zgE bs=fin at *
  generalize zdm (zbl bs)=s0 at *
  generalize zbl bs=c at *
  generalize (zcm bs (zcT bs)).2=q0 at *
  obtain ⟨ts,rfl,htl⟩:=zcL rfl o7.toI
  refine zaF zfJ fun w8 hx8 hB8=>?_
  have hs8:=hx8.size
  have hg8:=hB8.lt
  have o8:=o7.toI.ext hx8
  refine zaw zbM rfl hB8 rfl o8 fun w9 hc9 hB9=>?_
  have hs9:=hc9.size
  have o9:=o8.chg hc9 (by omega)
  have hC9:=(((hC4.ext hx5).chg hc6 (by omega) (by omega)).ext (hx7.trans hx8)).chg hc9 (by omega) (by omega)
  have hB91:=((((((hB1.ext (hx2.trans hx3)).chgI hc4 (by omega)).ext hx5).chgI hc6 (by omega)).ext (hx7.trans hx8)).chgI hc9 (by omega))
  have hB92:=(((((hB2.ext hx3).chgI hc4 (by omega)).ext hx5).chgI hc6 (by omega)).ext (hx7.trans hx8)).chgI hc9 (by omega)
  have hB95:=(hB6.ext (hx7.trans hx8)).chgI hc9 (by omega)
  have oc9:=(o6.ext (hx7.trans hx8)).chg hc9 (by omega)
  have hx09:Ext w w9:=((((((hx1.trans hx2).trans hx3).chgI hc4 (by omega)).trans hx5).chgI hc6 (by omega)).trans (hx7.trans hx8)).chgI hc9 (by omega)
  refine zaE 60 (fun k us' w'=>us'=[.int .i64 (k:Int)]∧k≤60∧∃ (s:DState) (q:Cur) (ts:Array Value) (lo hi:Nat),CurAt w2 g bs q w'∧Ext w w'∧Blk w.heap.size 28 w' [.slice none 0 0,.slice none 0 0,.slice none 0 0,.slice none 0 0,.slice none 0 0]∧Blk w1.heap.size 31 w' [.slice none 0 0,.slice none 0 0,.slice none 0 0]∧Blk w4.heap.size 28 w' us.toList∧OwnI w3.heap.size w4.heap.size w' (.agg us) c∧Blk w7.heap.size 31 w' ts.toList∧OwnI lo hi w' (.agg ts) s∧ts.toList.length=3∧zaz c s∧fin=zfe bs c (60-k) s q∧w6.heap.size≤lo∧(hi≤w7.heap.size∨w7.heap.size<lo)∧hi≤w'.heap.size) 0 (Nat.zero_le _) ⟨rfl,Nat.zero_le _,s0,q0,ts,w6.heap.size,w7.heap.size,hC9,hx09,hB91,hB92,hB95,oc9,hB9,o9,htl,hsr,hdef,Nat.le_refl _,.inl (Nat.le_refl _),by omega⟩ ?_
  rintro k m u w10 hkm ⟨hu,hk60,s,q,ts,lo,hi,hC,hx,hBa,hBb,hBc,oc,hBs,os,htl,hs,hfin,hlo,hhi,hhw⟩
  simp only [List.map_cons,List.map_nil,List.cons.injEq,and_true] at hu
  rw [hu]
  have hgs:=hBs.lt
  have hgc:=hBc.lt
  refine zai ?_
  refine br (fun hlt=>?_) (fun hge=>?_)
  · refine zbP hBc (by rw [hul];exact zbq) ?_
    refine zbP hBs (by rw [htl];exact zbM) ?_
    refine (ziI oc.is (Ext.refl _) os.is (Ext.refl _) hc hs).mono ?_
    rintro v21 w11 ⟨hx11,o21⟩
    have hs11:=hx11.size
    refine zae u25 o21.is ?_
    refine zag ?_
    refine br (fun hz=>?_) (fun hnz=>?_)
    · have hxd:=hx11.trans (zaj w11)
      generalize World.drew1 w11=wd at *
      have hsd:=hxd.size
      refine XR.mk (fun c=>c=w.heap.size) ?_
      refine zcd (hBc.ext hxd) (by rw [hul];exact zbq) (show ¬(w4.heap.size=w.heap.size) by omega) ?_
      refine zcd (hBs.ext hxd) (by rw [htl];exact zbM) (show ¬(w7.heap.size=w.heap.size) by omega) ?_
      refine zaw zbq rfl (hBa.ext hxd) rfl (oc.ext hxd) fun wa hca hBa2=>?_
      have hsa:=hca.size
      refine ⟨zdU hca fun c h1 h2=>by show c=_;omega,?_⟩
      refine zaw zbM rfl ((hBb.ext hxd).chgI hca (by omega)) rfl ((os.ext hxd).chg hca (by omega)) fun wb hcb hBb2=>?_
      have hsb:=hcb.size
      refine zbx (hBa2.chgI hcb (by omega)) (by rw [hul];exact zbq) ?_
      refine zbx hBb2 (by rw [htl];exact zbM) ?_
      rw [show 60-k=(59-k)+1 by omega,zfe,if_pos (by omega)] at hfin;subst hfin
      exact ⟨((hx.trans hxd).chgI hca (by omega)).chgI hcb (by omega),_,_,_,_,_,_,rfl,((oc.ext hxd).chg hca (by omega)).chg hcb (by omega),((os.ext hxd).chg hca (by omega)).chg hcb (by omega),by omega,by omega,by omega,by omega,by omega⟩
    have hxd:=hx11.trans (zaj w11)
    have hxe:=zaj w11
    generalize World.drew1 w11=wd at *
    have hsd:=hxd.size
    have hse:=hxe.size
    have hnz:(za0 c s).length≠0:=by omega
    have hrl:(za0 c s).length≤s.stacks.length:=zeK c s _
    have hmany:=hs.2.2.1
    have hb:=zbp bs (n:=((za0 c s).length:Int)) (by omega) q
    have o22:=o21.toI.ext hxe
    obtain ⟨ar,cr,rfl⟩:=zbQ o22
    refine XR.mk (fun c=>c=g) ?_
    refine zcd (hBc.ext hxd) (by rw [hul];exact zbq) (show ¬(w4.heap.size=g) by omega) ?_
    refine zcd (hBs.ext hxd) (by rw [htl];exact zbM) (show ¬(w7.heap.size=g) by omega) ?_
    refine znG o22.is ?_
    refine (zbm (hC.ext hxd) (by omega)).mono ?_
    rintro _ we ⟨hce,hCe,rfl⟩
    have hsz:=hce.size
    refine ⟨zdU hce fun c h1 h2=>by show c=_;omega,?_⟩
    have hin:(zaI bs (za0 c s).length q).toNat<(za0 c s).length:=by omega
    have hfin':fin=zfe bs c (60-(k+1)) (zgB c s (za0 c s)[(zaI bs (za0 c s).length q).toNat]) (zak bs (za0 c s).length q):=by
      rw [hfin,show 60-k=(60-(k+1))+1 by omega,zfe,if_neg (by omega),List.getD_eq_getElem?_getD,List.getElem?_eq_getElem hin];rfl
    have hgo:GoR c s (za0 c s)[(zaI bs (za0 c s).length q).toNat]:=zfd (List.getElem_mem hin)
    have hbe:zaI bs (za0 c s).length q=((zaI bs (za0 c s).length q).toNat:Int):=by omega
    rw [hbe]
    have o23:=o22.chg hce (by omega)
    obtain ⟨p,hp,hld⟩:=zp3 (X:=fun c=>c=g) (K:=fun v=>v=.int .i64 (za0 c s)[(zaI bs (za0 c s).length q).toNat]) (o23.isK (by omega)) rfl hin (fun b h1 h2=>show ¬(b=g) by omega) (fun _=>rfl)
    refine zhM hp ?_
    obtain ⟨v33,hv33,rfl⟩:=hld
    refine RDX.mk _ hv33 ?_
    have oce:=(oc.ext hxd).chg hce (by omega)
    have ose:=(os.ext hxd).chg hce (by omega)
    have hsr':=zhd hc hs hgo
    refine (zjs oce.is (Ext.refl _) ose.is (Ext.refl _) hc hs hgo).mono ?_
    generalize zgB c s (za0 c s)[(zaI bs (za0 c s).length q).toNat]=s' at *
    rintro v34 wf ⟨hxf,o34⟩
    have hsf:=hxf.size
    obtain ⟨ts',rfl,htl'⟩:=zcL rfl o34.toI
    have hB3:=((hBs.ext hxd).chgI hce (by omega)).ext hxf
    refine zaw zbM rfl hB3 htl o34.toI fun wg hcg hBg=>?_
    have hsg:=hcg.size
    refine zah (by omega) ?_
    refine ⟨m-1,by omega,k+1,by omega,rfl,by omega,s',_,ts',_,_,((hCe.ext hxf).chg hcg (by omega) (by omega)),(((hx.trans hxd).chgI hce (by omega)).trans hxf).chgI hcg (by omega),(((hBa.ext hxd).chgI hce (by omega)).ext hxf).chgI hcg (by omega),(((hBb.ext hxd).chgI hce (by omega)).ext hxf).chgI hcg (by omega),(((hBc.ext hxd).chgI hce (by omega)).ext hxf).chgI hcg (by omega),(oce.ext hxf).chg hcg (by omega),hBg,o34.toI.chg hcg (by omega),htl',hsr',hfin',by omega,by omega,by omega⟩
  have hxd:=zaj w10
  generalize World.drew1 w10=wd at *
  have hsd:=hxd.size
  refine XR.mk (fun c=>c=w.heap.size) ?_
  refine zcd (hBc.ext hxd) (by rw [hul];exact zbq) (show ¬(w4.heap.size=w.heap.size) by omega) ?_
  refine zcd (hBs.ext hxd) (by rw [htl];exact zbM) (show ¬(w7.heap.size=w.heap.size) by omega) ?_
  refine zaw zbq rfl (hBa.ext hxd) rfl (oc.ext hxd) fun wa hca hBa2=>?_
  have hsa:=hca.size
  refine ⟨zdU hca fun c h1 h2=>by show c=_;omega,?_⟩
  refine zaw zbM rfl ((hBb.ext hxd).chgI hca (by omega)) rfl ((os.ext hxd).chg hca (by omega)) fun wb hcb hBb2=>?_
  have hsb:=hcb.size
  refine zbx (hBa2.chgI hcb (by omega)) (by rw [hul];exact zbq) ?_
  refine zbx hBb2 (by rw [htl];exact zbM) ?_
  rw [show 60-k=0 by omega,zfe] at hfin;subst hfin
  exact ⟨((hx.trans hxd).chgI hca (by omega)).chgI hcb (by omega),_,_,_,_,_,_,rfl,((oc.ext hxd).chg hca (by omega)).chg hcb (by omega),((os.ext hxd).chg hca (by omega)).chg hcb (by omega),by omega,by omega,by omega,by omega,by omega⟩
def F8 (a0:Value) (w:World) (R:VW):Prop:=
 oP (Instr.alloc 28 true (.tuple #[])) w fun x2 w=>
 oP (Instr.alloc 31 true (.tuple #[])) w fun x3 w=>
 cL 50 [a0] w fun x13 w=>
 cL 51 [x13,(iV 3)] w fun x15 w=>
 BR x15
 (cL 52 [a0] w fun x17 w=>
 rE x17 0 w fun x18=>
 rE x17 1 w fun x19=>
 oS 28 x2 x18 w fun w=>
 oS 31 x3 x19 w fun w=>
 rD (zar 28 x2) w fun r2=>rD (zar 31 x3) w fun r3=>R (Value.tuple #[r2,r3]) w)
 (oP (Instr.buildSlice 24 3 #[(0,(Value.string (ByteArray.mk #[103,108,111,98,97,108,115,32,120,59,32,108,111,99,107,115,32,97,59,32,112,114,111,99,32,109,97,105,110,32,123,32,108,111,99,107,32,97,59,32,108,111,99,107,32,97,59,32,125]))),(1,(Value.string (ByteArray.mk #[103,108,111,98,97,108,115,32,120,59,32,108,111,99,107,115,32,97,44,32,98,59,32,112,114,111,99,32,109,97,105,110,32,123,32,115,112,97,119,110,32,112,59,32,108,111,99,107,32,97,59,32,108,111,99,107,32,98,59,32,117,110,108,111,99,107,32,98,59,32,117,110,108,111,99,107,32,97,59,32,125,32,112,114,111,99,32,112,32,123,32,108,111,99,107,32,98,59,32,108,111,99,107,32,97,59,32,125]))),(2,(Value.string (ByteArray.mk #[103,108,111,98,97,108,115,32,120,59,32,108,111,99,107,115,32,97,44,32,98,44,32,109,59,32,112,114,111,99,32,109,97,105,110,32,123,32,115,112,97,119,110,32,112,59,32,115,112,97,119,110,32,113,59,32,108,111,99,107,32,97,59,32,108,111,99,107,32,98,59,32,125,32,112,114,111,99,32,112,32,123,32,108,111,99,107,32,98,59,32,108,111,99,107,32,109,59,32,125,32,112,114,111,99,32,113,32,123,32,108,111,99,107,32,109,59,32,108,111,99,107,32,97,59,32,125])))]) w fun x22 w=>
 cL 54 [x13,x22] w fun x23 w=>
 cL 53 [x23] w fun x24 w=>
 rE x24 0 w fun x25=>
 rE x24 1 w fun x26=>
 oP (Instr.alloc 64 true (.tuple #[])) w fun x5 w=>
 oP (Instr.alloc 86 true (.tuple #[])) w fun x6 w=>
 oS 64 x5 x25 w fun w=>
 oS 86 x6 x26 w fun w=>
 rL 64 x5 w fun x28=>
 cL 55 [x28] w fun x29 w=>
 rE x29 0 w fun x30=>
 rE x29 1 w fun x31=>
 oP (Instr.alloc 28 true (.tuple #[])) w fun x7 w=>
 oS 28 x7 x30 w fun w=>
 rL 28 x7 w fun x32=>
 cL 56 [x32] w fun x33 w=>
 oP (Instr.alloc 31 true (.tuple #[])) w fun x9 w=>
 oS 31 x9 x33 w fun w=>
 LOOPI [10] [(iV 0)] w fun u8 w next8=>
 rB .lss 3 T0 U0 (u8 10) (iV 30) w fun x35=>
 BR x35
 (rL 28 x7 w fun x38=>
 rL 31 x9 w fun x39=>
 cL 57 [x38,x39] w fun x40 w=>
 rN 25 3 x40 w fun x42=>
 rB .eql 3 T0 U0 x42 (iV 0) w fun x43=>
 BR x43
 ((fun w=>XR fun X=>RDX tp X (Instr.loadAt 28 x7) w fun x54=>
 RDX tp X (Instr.loadAt 31 x9) w fun x55=>
 (fun w_=>oS 28 x2 x54 w_ fun w=>
 ExtX X w_ w ∧
 oS 31 x3 x55 w fun w=>
 rD (zar 28 x2) w fun r2=>rD (zar 31 x3) w fun r3=>R (Value.tuple #[r2,r3]) w) w) (World.drew1 w))
 ((fun w=>XR fun X=>RDX tp X (Instr.loadAt 28 x7) w fun x44=>
 RDX tp X (Instr.loadAt 31 x9) w fun x45=>
 RDX tp X (ln 25 3 x40) w fun x49=>
 (fun w_=>cL 59 [x13,x49] w_ fun x50 w=>
 ExtX X w_ w ∧
 RDX tp X (Instr.indexAt 25 x40 x50) w fun x51=>
 RDX tp X (Instr.loadAt 3 x51) w fun x52=>
 cL 58 [x44,x45,x52] w fun x53 w=>
 oS 31 x9 x53 w fun w=>
 rA (u8 10) (iV 1) w fun x37=>
 next8 [x37] w) w) (World.drew1 w)))
 ((fun w=>XR fun X=>RDX tp X (Instr.loadAt 28 x7) w fun x54=>
 RDX tp X (Instr.loadAt 31 x9) w fun x55=>
 (fun w_=>oS 28 x2 x54 w_ fun w=>
 ExtX X w_ w ∧
 oS 31 x3 x55 w fun w=>
 rD (zar 28 x2) w fun r2=>rD (zar 31 x3) w fun r3=>R (Value.tuple #[r2,r3]) w) w) (World.drew1 w)))
def cfg8:Cfg:={ ext:=extL,joins:=[],loops:=[(8,18014381329615872,[10])],draws:=[(13,[0,1,2,3],4),(12,[0,1,2,3,4,5,6,7,8,9,10],64)],pars:=[],xs:=[12,13] }
theorem F8_call {a0:Value} {w:World} {R:VW} (h:F8 a0 w R):cL 8 [a0] w R:=co (g:=cfg8) Tryz.func8 (by kernel_rfl) (by kernel_rfl) (by kernel_rfl) h
open Rep (rep)
def txts:List ByteArray:=[zs0,zs1,zts]
def zfX (s:ByteArray):DProg:=if s=zs0 then zty else if s=zs1 then ztz else ztA
theorem zp4 {s:ByteArray} (h:s∈txts):ProgR (zfX s)∧∀ w0:World,CALL Tryz.prog 53 [.string s] w0 fun r w'=>Ext w0 w'∧∃ a,r=.tuple #[a,.agg #[.int .i64 0,.int .i64 0]]∧OwnI w0.heap.size w'.heap.size w' a (zfX s):=by
 have h21:zs1≠zs0:=by decide +kernel
 have h31:zts≠zs0:=by decide +kernel
 have h32:zts≠zs1:=by decide +kernel
 simp only [txts,List.mem_cons,List.not_mem_nil,or_false] at h
 rcases h with rfl | rfl | rfl
 · rw [zfX,if_pos rfl];exact ⟨zsB,fun w0=>zfT zso⟩
 · rw [zfX,if_neg h21,if_pos rfl];exact ⟨zsC,fun w0=>zfT zsp⟩
 rw [zfX,if_neg h31,if_neg h32];exact ⟨zsD,fun w0=>zfT zsq⟩
def ziN (bs:List UInt8):DProg:=zfX (zca bs txts (zak bs 3 (zcT bs)))
def zkv (bs:List UInt8):DCode:=if zaI bs 3 (zcT bs)=0 then zbl bs else zbh (ziN bs)
def zmJ (bs:List UInt8):DState:=if zaI bs 3 (zcT bs)=0 then zgE bs else zfe bs (zbh (ziN bs)) 30 (zdm (zbh (ziN bs))) (zak bs 3 (zak bs 3 (zcT bs)))
theorem zjt (bs:List UInt8):CodeR (zkv bs)∧zaz (zkv bs) (zmJ bs)∧zn1 (zkv bs)≤1048576∧(zkv bs).ins.length≤436:=by
 unfold zkv zmJ
 split
 · have h:=zhg bs
   exact ⟨h.1,zfW bs h.1 _ _ _ (zeN h.1),zhh bs,h.2⟩
 have hp:=(zp4 (zcu bs (l:=txts) (by decide) (zak bs 3 (zcT bs)))).1
 have h:=zfs hp
 exact ⟨h.1,zfW bs h.1 _ _ _ (zeN h.1),zrG hp,h.2⟩
set_option maxRecDepth 20000 in
theorem zmK {w W:World} {v:Value} {bs:List UInt8} (h:Is W v bs) (e:Ext W w) (hl:bs.length≤1048576) :
    CALL Tryz.prog 8 [v] w fun r w'=>Ext w w'∧zua w w' r (zkv bs) (zmJ bs):=by
  refine F8_call ?_
  unfold F8
  refine zaF zo5 fun w1 hx1 hB1=>?_
  have hs1:=hx1.size
  have hg1:=hB1.lt
  refine zaF zfJ fun w2 hx2 hB2=>?_
  have hs2:=hx2.size
  have hg2:=hB2.lt
  refine (ziM h (e.trans (hx1.trans hx2)) hl).mono ?_
  rintro _ w3 ⟨hx3,g,rfl,hg,hC3⟩
  have hs3:=hx3.size
  have hg3:=hC3.lt
  refine (zee hC3 (by omega)).mono ?_
  rintro _ wo ⟨hco,hCo,rfl⟩
  have hso:=hco.size
  refine br (fun h0=>?_) (fun h0=>?_)
  · have hxo:=((hx1.trans hx2).trans hx3).chgI hco (by omega)
    refine (ziZ h (e.trans hxo) hl).mono ?_
    rintro _ wp ⟨hxp,a,b,lo,hi,lo2,hi2,rfl,oa,ob,b1,b2,b3,b4,b5⟩
    have hsp:=hxp.size
    refine za7 rfl ?_
    refine za7 rfl ?_
    obtain ⟨us,rfl,hul⟩:=zcL rfl oa
    obtain ⟨ts,rfl,htl⟩:=zcL rfl ob
    have hBa:=((hB1.ext (hx2.trans hx3)).chgI hco (by omega)).ext hxp
    have hBb:=((hB2.ext hx3).chgI hco (by omega)).ext hxp
    refine zaw zbq rfl hBa rfl oa fun wa hca hBa2=>?_
    have hsa:=hca.size
    refine zaw zbM rfl (hBb.chgI hca (by omega)) rfl (ob.chg hca (by omega)) fun wb hcb hBb2=>?_
    have hsb:=hcb.size
    refine zbx (hBa2.chgI hcb (by omega)) (by rw [hul];exact zbq) ?_
    refine zbx hBb2 (by rw [htl];exact zbM) ?_
    have e1:zkv bs=zbl bs:=if_pos h0
    have e2:zmJ bs=zgE bs:=if_pos h0
    rw [e1,e2]
    exact ⟨((hxo.trans hxp).chgI hca (by omega)).chgI hcb (by omega),_,_,_,_,_,_,rfl,(oa.chg hca (by omega)).chg hcb (by omega),(ob.chg hca (by omega)).chg hcb (by omega),by omega,by omega,by omega,by omega,by omega⟩
  have e1:zkv bs=zbh (ziN bs):=if_neg h0
  have e2:zmJ bs=zfe bs (zbh (ziN bs)) 30 (zdm (zbh (ziN bs))) (zak bs 3 (zak bs 3 (zcT bs))):=if_neg h0
  obtain ⟨hc,-,hw,-⟩:=zjt bs
  rw [e1] at hc hw
  rw [e1]
  have hB1:=(hB1.ext (hx2.trans hx3)).chgI hco (by omega)
  have hB2:=(hB2.ext hx3).chgI hco (by omega)
  have hx3:=((hx1.trans hx2).trans hx3).chgI hco (show w.heap.size≤g by omega)
  have htk:=zp4 (zcu bs (l:=txts) (by decide) (zak bs 3 (zcT bs)))
  have hPe:ziN bs=zfX (zca bs txts (zak bs 3 (zcT bs))):=rfl
  refine zdR (vs:=txts.map Value.string) (l:=txts) u24 ty9 zby (by decide) (by kernel_rfl) rfl (fun w=>zbF (by decide +kernel)) fun v22 wl hxl o22=>?_
  have hsl:=hxl.size
  refine (zcn (hCo.ext hxl) o22 (by omega) (by omega) (by omega) (by decide) (by decide)).mono ?_
  rintro _ wk ⟨hck,hCk,rfl,-⟩
  have hsk:=hck.size
  rw [←hPe] at htk
  refine (htk.2 wk).mono ?_
  rintro _ wr ⟨hxr,ap,rfl,op⟩
  have hsr0:=hxr.size
  refine za7 rfl ?_
  refine za7 rfl ?_
  obtain ⟨ps,rfl,hpl⟩:=zcL rfl op
  refine zaF ztg fun wm hxm hBm=>?_
  have hsm:=hxm.size
  have hgm:=hBm.lt
  refine zaF ztK fun wn hxn hBn=>?_
  have hsn:=hxn.size
  have hgn:=hBn.lt
  have op:=op.ext (hxm.trans hxn)
  refine zaw zh4 rfl (hBm.ext hxn) rfl op fun wu hcu hBu=>?_
  have hsu:=hcu.size
  have op:=op.chg hcu (by omega)
  refine zaw (α:=DArc) (lo:=0) (hi:=0) zr1 rfl (hBn.chgI hcu (by omega)) rfl znn fun wv hcv hBv=>?_
  have hsv:=hcv.size
  have op:=op.chg hcv (by omega)
  refine zbP (hBu.chgI hcv (by omega)) (by rw [hpl];exact zh4) ?_
  refine (zgD op.is (Ext.refl _) htk.1).mono ?_
  rintro _ w4 ⟨hxw,v4,rfl,o4⟩
  have hsw:=hxw.size
  refine za7 rfl ?_
  refine za7 rfl ?_
  have hk:ChgI g (g+1) wo wk:=hxl.toI.trans hck
  have hx3:=((((((hx3.trans hxl).chgI hck (by omega)).trans hxr).trans (hxm.trans hxn)).chgI hcu (by omega)).chgI hcv (by omega)).trans hxw
  have hB1:=(((((((hB1.ext hxl).chgI hck (by omega)).ext hxr).ext (hxm.trans hxn)).chgI hcu (by omega)).chgI hcv (by omega)).ext hxw)
  have hB2:=(((((((hB2.ext hxl).chgI hck (by omega)).ext hxr).ext (hxm.trans hxn)).chgI hcu (by omega)).chgI hcv (by omega)).ext hxw)
  have hC4:=((((hCk.ext (hxr.trans (hxm.trans hxn))).chg hcu (by omega) (by omega)).chg hcv (by omega) (by omega)).ext hxw)
  obtain ⟨us,rfl,hul⟩:=zcL rfl o4
  refine zaF zo5 fun w5 hx5 hB5=>?_
  have hs5:=hx5.size
  have hg5:=hB5.lt
  have o5:=o4.ext hx5
  refine zaw zbq rfl hB5 rfl o5 fun w6 hc6 hB6=>?_
  have hs6:=hc6.size
  have o6:=o5.chg hc6 (by omega)
  refine zbP hB6 (by rw [hul];exact zbq) ?_
  refine (zd2 o6.is (Ext.refl _) hw).mono ?_
  rintro v7 w7 ⟨hx7,o7⟩
  have hs7:=hx7.size
  have hsd:zhb (zbh (ziN bs))=zdm (zbh (ziN bs)):=if_pos hc
  rw [hsd] at o7
  have hsr:=zeN hc
  have hdef:=e2
  clear e1 e2 htk hPe
  change CurAt w2 g bs (zak bs 3 (zak bs 3 (zcT bs))) w4 at hC4
  generalize zmJ bs=fin at *
  generalize zdm (zbh (ziN bs))=s0 at *
  generalize zbh (ziN bs)=c at *
  generalize (zak bs 3 (zak bs 3 (zcT bs)))=q0 at *
  obtain ⟨ts,rfl,htl⟩:=zcL rfl o7.toI
  refine zaF zfJ fun w8 hx8 hB8=>?_
  have hs8:=hx8.size
  have hg8:=hB8.lt
  have o8:=o7.toI.ext hx8
  refine zaw zbM rfl hB8 rfl o8 fun w9 hc9 hB9=>?_
  have hs9:=hc9.size
  have o9:=o8.chg hc9 (by omega)
  have hC9:=(((hC4.ext hx5).chg hc6 (by omega) (by omega)).ext (hx7.trans hx8)).chg hc9 (by omega) (by omega)
  have hB91:=((((hB1.ext hx5).chgI hc6 (by omega)).ext (hx7.trans hx8)).chgI hc9 (by omega))
  have hB92:=(((hB2.ext hx5).chgI hc6 (by omega)).ext (hx7.trans hx8)).chgI hc9 (by omega)
  have hB95:=(hB6.ext (hx7.trans hx8)).chgI hc9 (by omega)
  have oc9:=(o6.ext (hx7.trans hx8)).chg hc9 (by omega)
  have hx09:Ext w w9:=(((hx3.trans hx5).chgI hc6 (by omega)).trans (hx7.trans hx8)).chgI hc9 (by omega)
  refine zaE 30 (fun k us' w'=>us'=[.int .i64 (k:Int)]∧k≤30∧∃ (s:DState) (q:Cur) (ts:Array Value) (lo hi:Nat),CurAt w2 g bs q w'∧Ext w w'∧Blk w.heap.size 28 w' [.slice none 0 0,.slice none 0 0,.slice none 0 0,.slice none 0 0,.slice none 0 0]∧Blk w1.heap.size 31 w' [.slice none 0 0,.slice none 0 0,.slice none 0 0]∧Blk w4.heap.size 28 w' us.toList∧OwnI wv.heap.size w4.heap.size w' (.agg us) c∧Blk w7.heap.size 31 w' ts.toList∧OwnI lo hi w' (.agg ts) s∧ts.toList.length=3∧zaz c s∧fin=zfe bs c (30-k) s q∧w6.heap.size≤lo∧(hi≤w7.heap.size∨w7.heap.size<lo)∧hi≤w'.heap.size) 0 (Nat.zero_le _) ⟨rfl,Nat.zero_le _,s0,q0,ts,w6.heap.size,w7.heap.size,hC9,hx09,hB91,hB92,hB95,oc9,hB9,o9,htl,hsr,hdef,Nat.le_refl _,.inl (Nat.le_refl _),by omega⟩ ?_
  rintro k m u w10 hkm ⟨hu,hk30,s,q,ts,lo,hi,hC,hx,hBa,hBb,hBc,oc,hBs,os,htl,hs,hfin,hlo,hhi,hhw⟩
  simp only [List.map_cons,List.map_nil,List.cons.injEq,and_true] at hu
  rw [hu]
  have hgs:=hBs.lt
  have hgc:=hBc.lt
  refine zai ?_
  refine br (fun hlt=>?_) (fun hge=>?_)
  · refine zbP hBc (by rw [hul];exact zbq) ?_
    refine zbP hBs (by rw [htl];exact zbM) ?_
    refine (ziI oc.is (Ext.refl _) os.is (Ext.refl _) hc hs).mono ?_
    rintro v21 w11 ⟨hx11,o21⟩
    have hs11:=hx11.size
    refine zae u25 o21.is ?_
    refine zag ?_
    refine br (fun hz=>?_) (fun hnz=>?_)
    · have hxd:=hx11.trans (zaj w11)
      generalize World.drew1 w11=wd at *
      have hsd:=hxd.size
      refine XR.mk (fun c=>c=w.heap.size) ?_
      refine zcd (hBc.ext hxd) (by rw [hul];exact zbq) (show ¬(w4.heap.size=w.heap.size) by omega) ?_
      refine zcd (hBs.ext hxd) (by rw [htl];exact zbM) (show ¬(w7.heap.size=w.heap.size) by omega) ?_
      refine zaw zbq rfl (hBa.ext hxd) rfl (oc.ext hxd) fun wa hca hBa2=>?_
      have hsa:=hca.size
      refine ⟨zdU hca fun c h1 h2=>by show c=_;omega,?_⟩
      refine zaw zbM rfl ((hBb.ext hxd).chgI hca (by omega)) rfl ((os.ext hxd).chg hca (by omega)) fun wb hcb hBb2=>?_
      have hsb:=hcb.size
      refine zbx (hBa2.chgI hcb (by omega)) (by rw [hul];exact zbq) ?_
      refine zbx hBb2 (by rw [htl];exact zbM) ?_
      rw [show 30-k=(29-k)+1 by omega,zfe,if_pos (by omega)] at hfin;subst hfin
      exact ⟨((hx.trans hxd).chgI hca (by omega)).chgI hcb (by omega),_,_,_,_,_,_,rfl,((oc.ext hxd).chg hca (by omega)).chg hcb (by omega),((os.ext hxd).chg hca (by omega)).chg hcb (by omega),by omega,by omega,by omega,by omega,by omega⟩
    have hxd:=hx11.trans (zaj w11)
    have hxe:=zaj w11
    generalize World.drew1 w11=wd at *
    have hsd:=hxd.size
    have hse:=hxe.size
    have hnz:(za0 c s).length≠0:=by omega
    have hrl:(za0 c s).length≤s.stacks.length:=zeK c s _
    have hmany:=hs.2.2.1
    have hb:=zbp bs (n:=((za0 c s).length:Int)) (by omega) q
    have o22:=o21.toI.ext hxe
    obtain ⟨ar,cr,rfl⟩:=zbQ o22
    refine XR.mk (fun c=>c=g) ?_
    refine zcd (hBc.ext hxd) (by rw [hul];exact zbq) (show ¬(w4.heap.size=g) by omega) ?_
    refine zcd (hBs.ext hxd) (by rw [htl];exact zbM) (show ¬(w7.heap.size=g) by omega) ?_
    refine znG o22.is ?_
    refine (zbm (hC.ext hxd) (by omega)).mono ?_
    rintro _ we ⟨hce,hCe,rfl⟩
    have hsz:=hce.size
    refine ⟨zdU hce fun c h1 h2=>by show c=_;omega,?_⟩
    have hin:(zaI bs (za0 c s).length q).toNat<(za0 c s).length:=by omega
    have hfin':fin=zfe bs c (30-(k+1)) (zgB c s (za0 c s)[(zaI bs (za0 c s).length q).toNat]) (zak bs (za0 c s).length q):=by
      rw [hfin,show 30-k=(30-(k+1))+1 by omega,zfe,if_neg (by omega),List.getD_eq_getElem?_getD,List.getElem?_eq_getElem hin];rfl
    have hgo:GoR c s (za0 c s)[(zaI bs (za0 c s).length q).toNat]:=zfd (List.getElem_mem hin)
    have hbe:zaI bs (za0 c s).length q=((zaI bs (za0 c s).length q).toNat:Int):=by omega
    rw [hbe]
    have o23:=o22.chg hce (by omega)
    obtain ⟨p,hp,hld⟩:=zp3 (X:=fun c=>c=g) (K:=fun v=>v=.int .i64 (za0 c s)[(zaI bs (za0 c s).length q).toNat]) (o23.isK (by omega)) rfl hin (fun b h1 h2=>show ¬(b=g) by omega) (fun _=>rfl)
    refine zhM hp ?_
    obtain ⟨v33,hv33,rfl⟩:=hld
    refine RDX.mk _ hv33 ?_
    have oce:=(oc.ext hxd).chg hce (by omega)
    have ose:=(os.ext hxd).chg hce (by omega)
    have hsr':=zhd hc hs hgo
    refine (zjs oce.is (Ext.refl _) ose.is (Ext.refl _) hc hs hgo).mono ?_
    generalize zgB c s (za0 c s)[(zaI bs (za0 c s).length q).toNat]=s' at *
    rintro v34 wf ⟨hxf,o34⟩
    have hsf:=hxf.size
    obtain ⟨ts',rfl,htl'⟩:=zcL rfl o34.toI
    have hB3:=((hBs.ext hxd).chgI hce (by omega)).ext hxf
    refine zaw zbM rfl hB3 htl o34.toI fun wg hcg hBg=>?_
    have hsg:=hcg.size
    refine zah (by omega) ?_
    refine ⟨m-1,by omega,k+1,by omega,rfl,by omega,s',_,ts',_,_,((hCe.ext hxf).chg hcg (by omega) (by omega)),(((hx.trans hxd).chgI hce (by omega)).trans hxf).chgI hcg (by omega),(((hBa.ext hxd).chgI hce (by omega)).ext hxf).chgI hcg (by omega),(((hBb.ext hxd).chgI hce (by omega)).ext hxf).chgI hcg (by omega),(((hBc.ext hxd).chgI hce (by omega)).ext hxf).chgI hcg (by omega),(oce.ext hxf).chg hcg (by omega),hBg,o34.toI.chg hcg (by omega),htl',hsr',hfin',by omega,by omega,by omega⟩
  have hxd:=zaj w10
  generalize World.drew1 w10=wd at *
  have hsd:=hxd.size
  refine XR.mk (fun c=>c=w.heap.size) ?_
  refine zcd (hBc.ext hxd) (by rw [hul];exact zbq) (show ¬(w4.heap.size=w.heap.size) by omega) ?_
  refine zcd (hBs.ext hxd) (by rw [htl];exact zbM) (show ¬(w7.heap.size=w.heap.size) by omega) ?_
  refine zaw zbq rfl (hBa.ext hxd) rfl (oc.ext hxd) fun wa hca hBa2=>?_
  have hsa:=hca.size
  refine ⟨zdU hca fun c h1 h2=>by show c=_;omega,?_⟩
  refine zaw zbM rfl ((hBb.ext hxd).chgI hca (by omega)) rfl ((os.ext hxd).chg hca (by omega)) fun wb hcb hBb2=>?_
  have hsb:=hcb.size
  refine zbx (hBa2.chgI hcb (by omega)) (by rw [hul];exact zbq) ?_
  refine zbx hBb2 (by rw [htl];exact zbM) ?_
  rw [show 30-k=0 by omega,zfe] at hfin;subst hfin
  exact ⟨((hx.trans hxd).chgI hca (by omega)).chgI hcb (by omega),_,_,_,_,_,_,rfl,((oc.ext hxd).chg hca (by omega)).chg hcb (by omega),((os.ext hxd).chg hca (by omega)).chg hcb (by omega),by omega,by omega,by omega,by omega,by omega⟩
end Go.Proofs.YtdmailcgaekimaaGreat
namespace Go.Sh
open Rep (rep)
section
variable {P:Program} {w w':World} {α:Type} [Rep α] {e:Nat}
theorem zsF {t:TypeId} {by_ n:Nat} {z:Value} {vs:List Value} {parts:Array (Nat×Value)} {l:List α} {F:List Nat} {K:Value→World→Prop} (ht:P.underlying t=some (.slice e)) (he:tyI P e=some (1,by_,false)) (hz:zb9 P e=some [z])
   (hn:0<n∧n≤1000) (hf:Instr.fill (fun i=>some (i*1,1)) ((Array.range (n*1)).map fun i=>(#[z])[i%1]!) parts.toList=some vs.toArray) (hl:l.length=n) (hc:Cells F w vs l) (hnd:F.Nodup) (hw:Wr F w)
   (k:∀ v w',Ext w w'→Mine (w.heap.size :: F) w' v l→K v w'):OP P (Instr.buildSlice t n parts) w K:=by
 unfold zb9 at hz
 cases hi:P.info? e with
 | none=>simp [hi] at hz
 | some i=>
   simp only [hi] at hz
   obtain ⟨v,hv,hvc⟩:=Option.map_eq_some_iff.1 hz
   have hvc':v.cells=#[z]:=Array.ext' (by simpa using hvc)
   have hB:Blk w.heap.size e (w.alloc (.cells vs.toArray e)) vs:=heap_alloc_new w _
   have hlt:w.heap.size<(w.alloc (.cells vs.toArray e)).heap.size:=hB.lt
   have hFl:=Cells.lt hc
   have hx:=zaN w (.cells vs.toArray e)
   have hk:∀ b∈F,(w.alloc (.cells vs.toArray e)).heap[b]?=w.heap[b]?:=fun b hb=>hx.heap (hFl b hb)
   refine ⟨.slice (some ⟨w.heap.size,0,none⟩) n n,w.alloc (.cells vs.toArray e),?_,k _ _ hx ⟨⟨_,⟨some ⟨w.heap.size,0,none⟩,n,F,vs,rfl,by omega,by rw [zam];omega,Cells.keep hc hk,.inr ⟨_,_,rfl,rfl,hB.range,hlt⟩⟩,by rw [hl];rfl⟩,?_,fun b hb=>?_⟩⟩
   · have hne:¬n*1=0:=by omega
     have h24:¬2^24<n*1:=by omega
     have hzr:(zeroValue e).run P w=.ok v w:=by simp [zeroValue,typeInfo,hi,hv]
     simp only [Instr.buildSlice,Sem.run_bind,run_underlying ht,Result.andThen_ok,zaD he]
     simp only [h24,hne,if_false,Sem.run_bind,Sem.run_pure,Result.andThen_ok,hzr,hvc']
     rw [show (fun x=>(#[z]:Array Value)[x%(#[z]:Array Value).size]!)=fun i=>(#[z]:Array Value)[i%1]! from rfl,hf]
     rfl
   · exact List.nodup_cons.2 ⟨fun hm=>Nat.lt_irrefl _ (hFl _ hm),hnd⟩
   rcases List.mem_cons.1 hb with rfl | hb
   · exact ⟨_,_,hB⟩
   obtain ⟨c,d,h⟩:=hw b hb
   exact ⟨c,d,by rw [hk b hb];exact h⟩
theorem ztB {g lo hi:Nat} {us:Array Value} {x:α} (ha:Rep.agg α=true) (hB:Blk g e w us.toList) (h:OwnI lo hi w (.agg us) x):At w g 0 x:=by
 obtain ⟨F,⟨⟨cs,hr,hv⟩,_⟩,_⟩:=h
 have:us=cs.toArray:=by simpa [mkv,ha] using hv
 subst this
 exact hB.at hr
theorem zq6 {g o:Nat} {cs:List Value} {u:Value} (hB:Blk g e w cs) (ho:cs[o]?=some u):w.rangeAt g o [u]:=fun i v hi=>by
 cases i with
 | zero=>simp only [List.getElem?_cons_zero,Option.some.injEq] at hi;subst hi;simpa using hB.range o u ho
 | succ i=>simp at hi
end
end Go.Sh
namespace Go.Proofs.YtdmailcgaekimaaGreat
open Go Go.Sh Go.Proofs
open Rep (rep)
def F17 (a0:Value) (w:World) (R:VW):Prop:=
 oP (Instr.alloc 28 true (.tuple #[])) w fun x2 w=>
 oP (Instr.alloc 31 true (.tuple #[])) w fun x3 w=>
 cL 50 [a0] w fun x9 w=>
 cL 70 [x9] w fun x11 w=>
 oP (Instr.alloc 28 true (.tuple #[])) w fun x5 w=>
 oS 28 x5 x11 w fun w=>
 rL 28 x5 w fun x12=>
 cL 56 [x12] w fun x13 w=>
 oP (Instr.alloc 31 true (.tuple #[])) w fun x6 w=>
 oS 31 x6 x13 w fun w=>
 (fun w0=>GPAR w0 [[(0,14)],[(1,15)],[(2,16),(1,15)],[(3,17),(2,16)],[(4,18),(0,14),(3,17)],[(5,19),(4,18)],[(6,20)],[(7,21)],[(8,22),(7,21)],[(9,23),(8,22)],[(10,24),(6,20),(9,23),(4,18)],[(11,25),(10,24)],[(12,26)],[(13,27)],[(14,28),(13,27)],[(15,29),(14,28)],[(16,30),(12,26),(15,29),(10,24)],[(17,31),(16,30)],[(18,32),(5,19),(11,25),(17,31)],[(19,33),(0,14),(1,15),(2,16),(3,17),(4,18),(5,19),(6,20),(7,21),(8,22),(9,23),(10,24),(11,25),(12,26),(13,27),(14,28),(15,29),(16,30),(17,31),(18,32)],[(19,33),(18,32),(16,30),(0,14),(1,15),(2,16),(3,17),(4,18),(5,19),(6,20),(7,21),(8,22),(9,23),(10,24),(11,25),(12,26),(13,27),(14,28),(15,29),(16,30),(17,31),(18,32)]] (fun B R Q=>
 (∀ (u4:Env) (T:Nat→Nat×Nat) (w:World),B w→w0.heap.size≤w.heap.size→zbf [] w0.heap.size w.heap.size T→(True)→(fun w1=>R 0 w1 w∧Q 0 (upd u4 14 x9) (zcx T 0 (w1.heap.size,w.heap.size)) w) w) ∧
 (∀ (u4:Env) (T:Nat→Nat×Nat) (w:World),B w→w0.heap.size≤w.heap.size→zbf [] w0.heap.size w.heap.size T→(True)→(fun w1=>rF 28 x5 4 w fun x15=>
 R 1 w1 w∧Q 1 (upd u4 15 x15) (zcx T 1 (w1.heap.size,w.heap.size)) w) w) ∧
 (∀ (u4:Env) (T:Nat→Nat×Nat) (w:World),B w→w0.heap.size≤w.heap.size→zbf [1] w0.heap.size w.heap.size T→(Q 1 u4 T w∧True)→(fun w1=>rL 26 (u4 15) w fun x16=>
 R 2 w1 w∧Q 2 (upd u4 16 x16) (zcx T 2 (w1.heap.size,w.heap.size)) w) w) ∧
 (∀ (u4:Env) (T:Nat→Nat×Nat) (w:World),B w→w0.heap.size≤w.heap.size→zbf [2] w0.heap.size w.heap.size T→(Q 2 u4 T w∧True)→(fun w1=>rN 26 3 (u4 16) w fun x17=>
 R 3 w1 w∧Q 3 (upd u4 17 x17) (zcx T 3 (w1.heap.size,w.heap.size)) w) w) ∧
 (∀ (u4:Env) (T:Nat→Nat×Nat) (w:World),B w→w0.heap.size≤w.heap.size→zbf [0,3] w0.heap.size w.heap.size T→(Q 0 u4 T w∧Q 3 u4 T w∧True)→(fun w1=>cL 59 [(u4 14),(u4 17)] w fun x18 w=>
 R 4 w1 w∧Q 4 (upd u4 18 x18) (zcx T 4 (w1.heap.size,w.heap.size)) w) w) ∧
 (∀ (u4:Env) (T:Nat→Nat×Nat) (w:World),B w→w0.heap.size≤w.heap.size→zbf [4] w0.heap.size w.heap.size T→(Q 4 u4 T w∧True)→(fun w1=>oP (Instr.buildSlice 25 1 #[(0,(u4 18))]) w fun x19 w=>
 R 5 w1 w∧Q 5 (upd u4 19 x19) (zcx T 5 (w1.heap.size,w.heap.size)) w) w) ∧
 (∀ (u4:Env) (T:Nat→Nat×Nat) (w:World),B w→w0.heap.size≤w.heap.size→zbf [] w0.heap.size w.heap.size T→(True)→(fun w1=>R 6 w1 w∧Q 6 (upd u4 20 x9) (zcx T 6 (w1.heap.size,w.heap.size)) w) w) ∧
 (∀ (u4:Env) (T:Nat→Nat×Nat) (w:World),B w→w0.heap.size≤w.heap.size→zbf [] w0.heap.size w.heap.size T→(True)→(fun w1=>rF 28 x5 4 w fun x21=>
 R 7 w1 w∧Q 7 (upd u4 21 x21) (zcx T 7 (w1.heap.size,w.heap.size)) w) w) ∧
 (∀ (u4:Env) (T:Nat→Nat×Nat) (w:World),B w→w0.heap.size≤w.heap.size→zbf [7] w0.heap.size w.heap.size T→(Q 7 u4 T w∧True)→(fun w1=>rL 26 (u4 21) w fun x22=>
 R 8 w1 w∧Q 8 (upd u4 22 x22) (zcx T 8 (w1.heap.size,w.heap.size)) w) w) ∧
 (∀ (u4:Env) (T:Nat→Nat×Nat) (w:World),B w→w0.heap.size≤w.heap.size→zbf [8] w0.heap.size w.heap.size T→(Q 8 u4 T w∧True)→(fun w1=>rN 26 3 (u4 22) w fun x23=>
 R 9 w1 w∧Q 9 (upd u4 23 x23) (zcx T 9 (w1.heap.size,w.heap.size)) w) w) ∧
 (∀ (u4:Env) (T:Nat→Nat×Nat) (w:World),B w→w0.heap.size≤w.heap.size→zbf [6,9,4] w0.heap.size w.heap.size T→(Q 6 u4 T w∧Q 9 u4 T w∧Q 4 u4 T w∧True)→(fun w1=>cL 59 [(u4 20),(u4 23)] w fun x24 w=>
 R 10 w1 w∧Q 10 (upd u4 24 x24) (zcx T 10 (w1.heap.size,w.heap.size)) w) w) ∧
 (∀ (u4:Env) (T:Nat→Nat×Nat) (w:World),B w→w0.heap.size≤w.heap.size→zbf [10] w0.heap.size w.heap.size T→(Q 10 u4 T w∧True)→(fun w1=>oP (Instr.buildSlice 25 1 #[(0,(u4 24))]) w fun x25 w=>
 R 11 w1 w∧Q 11 (upd u4 25 x25) (zcx T 11 (w1.heap.size,w.heap.size)) w) w) ∧
 (∀ (u4:Env) (T:Nat→Nat×Nat) (w:World),B w→w0.heap.size≤w.heap.size→zbf [] w0.heap.size w.heap.size T→(True)→(fun w1=>R 12 w1 w∧Q 12 (upd u4 26 x9) (zcx T 12 (w1.heap.size,w.heap.size)) w) w) ∧
 (∀ (u4:Env) (T:Nat→Nat×Nat) (w:World),B w→w0.heap.size≤w.heap.size→zbf [] w0.heap.size w.heap.size T→(True)→(fun w1=>rF 28 x5 4 w fun x27=>
 R 13 w1 w∧Q 13 (upd u4 27 x27) (zcx T 13 (w1.heap.size,w.heap.size)) w) w) ∧
 (∀ (u4:Env) (T:Nat→Nat×Nat) (w:World),B w→w0.heap.size≤w.heap.size→zbf [13] w0.heap.size w.heap.size T→(Q 13 u4 T w∧True)→(fun w1=>rL 26 (u4 27) w fun x28=>
 R 14 w1 w∧Q 14 (upd u4 28 x28) (zcx T 14 (w1.heap.size,w.heap.size)) w) w) ∧
 (∀ (u4:Env) (T:Nat→Nat×Nat) (w:World),B w→w0.heap.size≤w.heap.size→zbf [14] w0.heap.size w.heap.size T→(Q 14 u4 T w∧True)→(fun w1=>rN 26 3 (u4 28) w fun x29=>
 R 15 w1 w∧Q 15 (upd u4 29 x29) (zcx T 15 (w1.heap.size,w.heap.size)) w) w) ∧
 (∀ (u4:Env) (T:Nat→Nat×Nat) (w:World),B w→w0.heap.size≤w.heap.size→zbf [12,15,10] w0.heap.size w.heap.size T→(Q 12 u4 T w∧Q 15 u4 T w∧Q 10 u4 T w∧True)→(fun w1=>cL 59 [(u4 26),(u4 29)] w fun x30 w=>
 R 16 w1 w∧Q 16 (upd u4 30 x30) (zcx T 16 (w1.heap.size,w.heap.size)) w) w) ∧
 (∀ (u4:Env) (T:Nat→Nat×Nat) (w:World),B w→w0.heap.size≤w.heap.size→zbf [16] w0.heap.size w.heap.size T→(Q 16 u4 T w∧True)→(fun w1=>oP (Instr.buildSlice 25 1 #[(0,(u4 30))]) w fun x31 w=>
 R 17 w1 w∧Q 17 (upd u4 31 x31) (zcx T 17 (w1.heap.size,w.heap.size)) w) w) ∧
 (∀ (u4:Env) (T:Nat→Nat×Nat) (w:World),B w→w0.heap.size≤w.heap.size→zbf [5,11,17] w0.heap.size w.heap.size T→(Q 5 u4 T w∧Q 11 u4 T w∧Q 17 u4 T w∧True)→(fun w1=>oP (Instr.buildSlice 29 3 #[(0,(u4 19)),(1,(u4 25)),(2,(u4 31))]) w fun x32 w=>
 R 18 w1 w∧Q 18 (upd u4 32 x32) (zcx T 18 (w1.heap.size,w.heap.size)) w) w) ∧
 (∀ (u4:Env) (T:Nat→Nat×Nat) (w:World),B w→w0.heap.size≤w.heap.size→zbf [0,1,2,3,4,5,6,7,8,9,10,11,12,13,14,15,16,17,18] w0.heap.size w.heap.size T→(Q 0 u4 T w∧Q 1 u4 T w∧Q 2 u4 T w∧Q 3 u4 T w∧Q 4 u4 T w∧Q 5 u4 T w∧Q 6 u4 T w∧Q 7 u4 T w∧Q 8 u4 T w∧Q 9 u4 T w∧Q 10 u4 T w∧Q 11 u4 T w∧Q 12 u4 T w∧Q 13 u4 T w∧Q 14 u4 T w∧Q 15 u4 T w∧Q 16 u4 T w∧Q 17 u4 T w∧Q 18 u4 T w∧True)→(fun w1=>rF 31 x6 2 w fun x33=>
 R 19 w1 w∧Q 19 (upd u4 33 x33) (zcx T 19 (w1.heap.size,w.heap.size)) w) w) ∧
 (∀ (u4:Env) (T:Nat→Nat×Nat) (w:World),B w→w0.heap.size≤w.heap.size→zbf [19,18,16,0,1,2,3,4,5,6,7,8,9,10,11,12,13,14,15,16,17,18] w0.heap.size w.heap.size T→(Q 19 u4 T w∧Q 18 u4 T w∧Q 16 u4 T w∧Q 0 u4 T w∧Q 1 u4 T w∧Q 2 u4 T w∧Q 3 u4 T w∧Q 4 u4 T w∧Q 5 u4 T w∧Q 6 u4 T w∧Q 7 u4 T w∧Q 8 u4 T w∧Q 9 u4 T w∧Q 10 u4 T w∧Q 11 u4 T w∧Q 12 u4 T w∧Q 13 u4 T w∧Q 14 u4 T w∧Q 15 u4 T w∧Q 16 u4 T w∧Q 17 u4 T w∧Q 18 u4 T w∧True)→(fun w1=>oS 29 (u4 33) (u4 32) w fun w=>
 R 20 w1 w∧Q 20 u4 (zcx T 20 (w1.heap.size,w.heap.size)) w) w) ∧
 True)
 (fun B Q=>∀ (u4:Env) (T:Nat→Nat×Nat) (w:World),B w→w0.heap.size≤w.heap.size→zbf [0,1,2,3,4,5,6,7,8,9,10,11,12,13,14,15,16,17,18,19,20] w0.heap.size w.heap.size T→(Q 0 u4 T w∧Q 1 u4 T w∧Q 2 u4 T w∧Q 3 u4 T w∧Q 4 u4 T w∧Q 5 u4 T w∧Q 6 u4 T w∧Q 7 u4 T w∧Q 8 u4 T w∧Q 9 u4 T w∧Q 10 u4 T w∧Q 11 u4 T w∧Q 12 u4 T w∧Q 13 u4 T w∧Q 14 u4 T w∧Q 15 u4 T w∧Q 16 u4 T w∧Q 17 u4 T w∧Q 18 u4 T w∧Q 19 u4 T w∧Q 20 u4 T w∧True) →
 LOOPI [7] [(iV 0)] w fun u6 w next6=>
 rF 31 x6 1 w fun x35=>
 rL 25 x35 w fun x36=>
 rN 25 3 x36 w fun x37=>
 rC (u6 7) x37 w fun x38=>
 BR x38
 ((fun w=>XR fun X=>RDX tp X (Instr.fieldAt 31 x6 1) w fun x41=>
 RDX tp X (Instr.loadAt 25 x41) w fun x42=>
 (fun w_=>cL 59 [x9,(iV 4)] w_ fun x45 w=>
 ExtX X w_ w ∧
 RDX tp X (bin .sub 3 T0 U0 x45 (iV 1)) w fun x46=>
 RDX tp X (Instr.indexAt 25 x42 (u6 7)) w fun x47=>
 oS 3 x47 x46 w fun w=>
 rA (u6 7) (iV 1) w fun x40=>
 next6 [x40] w) w) (World.drew1 w))
 ((fun w=>XR fun X=>RDX tp X (Instr.loadAt 28 x5) w fun x48=>
 RDX tp X (Instr.loadAt 31 x6) w fun x49=>
 (fun w_=>oS 28 x2 x48 w_ fun w=>
 ExtX X w_ w ∧
 oS 31 x3 x49 w fun w=>
 rD (zar 28 x2) w fun r2=>rD (zar 31 x3) w fun r3=>R (Value.tuple #[r2,r3]) w) w) (World.drew1 w)))) (World.drew1 w)
def cfg17:Cfg:={ ext:=extL,joins:=[],loops:=[(6,281457796841600,[7])],draws:=[(8,[0,1,2,3,4,5,6,7],16),(9,[0,1,2,3],4)],pars:=[],xs:=[8,9],gpars:=[(4,17179852800)] }
theorem F17_call {a0:Value} {w:World} {R:VW} (h:F17 a0 w R):cL 17 [a0] w R:=co (g:=cfg17) Tryz.func17 (by kernel_rfl) (by kernel_rfl) (by kernel_rfl) h
open Rep (rep)
theorem zmL {lo hi:Nat} {w:World} {ts:Array Value} {s:DState} (h:OwnI lo hi w (.agg ts) s):∃ v0 v1 v2 F0 F1,ts.toList=[v0,v1,v2]∧Mine F0 w v0 s.vars∧Mine F1 w v1 s.owner∧(∀ b∈F0,lo≤b∧b<hi)∧(∀ b∈F1,lo≤b∧b<hi)∧∀ b∈F0,b∉F1:=by
 obtain ⟨F,⟨⟨cs,hr,hv⟩,hn,hw⟩,hF⟩:=h
 have hts:ts.toList=cs:=by
   simp only [mkv,Rep.agg,cond_true,Value.agg.injEq] at hv
   rw [hv]
 obtain ⟨F1,F2,x1,x2,rfl,rfl,h1,F3,F4,x3,x4,rfl,rfl,h2,h3⟩:=hr
 obtain ⟨a1,rfl⟩:∃ a,x1=[a]:=by obtain ⟨a,cap,Fi,xs,rfl,_⟩:=h1;exact ⟨_,rfl⟩
 obtain ⟨a2,rfl⟩:∃ a,x3=[a]:=by obtain ⟨a,cap,Fi,xs,rfl,_⟩:=h2;exact ⟨_,rfl⟩
 obtain ⟨a3,rfl⟩:∃ a,x4=[a]:=by obtain ⟨a,cap,Fi,xs,rfl,_⟩:=h3;exact ⟨_,rfl⟩
 rw [List.nodup_append,List.nodup_append] at hn
 exact ⟨a1,a2,a3,F1,F3,hts,⟨⟨_,h1,rfl⟩,hn.1,hw.sub (by simp +contextual)⟩,⟨⟨_,h2,rfl⟩,hn.2.1.1,hw.sub (by simp +contextual)⟩,fun b hb=>hF b (by simp [hb]),fun b hb=>hF b (by simp [hb]),fun b hb hb'=>hn.2.2 b hb b (by simp [hb']) rfl⟩
theorem zor {lo hi:Nat} {w:World} {v0 v1 v2:Value} {F0 F1 F2:List Nat} {s:DState} (h0:Mine F0 w v0 s.vars) (h1:Mine F1 w v1 s.owner) (h2:Mine F2 w v2 s.stacks) (d01:∀ b∈F0,b∉F1) (d02:∀ b∈F0,b∉F2) (d12:∀ b∈F1,b∉F2)
   (b0:∀ b∈F0,lo≤b∧b<hi) (b1:∀ b∈F1,lo≤b∧b<hi) (b2:∀ b∈F2,lo≤b∧b<hi):OwnI lo hi w (.agg #[v0,v1,v2]) s:=by
 refine ⟨F0++(F1++F2),⟨⟨[v0,v1,v2],zaC (zaS rfl h0.own) (zaC (zaS rfl h1.own) (zaS rfl h2.own)),rfl⟩,?_,h0.wr.append (h1.wr.append h2.wr)⟩,fun b hb=>?_⟩
 · rw [List.nodup_append,List.nodup_append]
   refine ⟨h0.nodup,⟨h1.nodup,h2.nodup,fun p hp q hq e=>d12 p hp (e▸hq)⟩,fun p hp q hq e=>?_⟩
   subst e
   rcases List.mem_append.1 hq with h | h
   · exact d01 p hp h
   exact d02 p hp h
 rcases List.mem_append.1 hb with h | h
 · exact b0 b h
 rcases List.mem_append.1 h with h | h
 · exact b1 b h
 exact b2 b h
section
variable (g x5 x6 n0 n:Nat) (W W0:World) (bs:List UInt8) (v0 v1:Value) (c:DCode)
def mdR (j:Nat) (w w':World):Prop:=Chg [g,x6] w w'∧((∃ q,CurAt W g bs q w)→∃ q,CurAt W g bs q w')∧∀ z,Blk x6 31 w [v0,v1,z]→∃ z',Blk x6 31 w' [v0,v1,z']∧(j≠20→z'=z)
def mdB (w:World):Prop:=Chg [g,x6] W0 w∧(∃ q,CurAt W g bs q w)∧∃ z,Blk x6 31 w [v0,v1,z]
def mdQ:ParQ:=fun i u T w=>match i with
 | 0=>u 14=.pointer (some ⟨g,0,none⟩)
 | 1=>u 15=.pointer (some ⟨x5,0+4,none⟩)
 | 2=>∃ w,Is w (u 16) c.ins
 | 3=>u 17=.int .i64 (c.ins.length:Int)
 | 4=>∃ k,I64 k∧u 18=.int .i64 k
 | 5=>∃ k F,Mine F w (u 19) [(k:Int)]∧∀ b∈F,n0≤b∧(T 5).1≤b∧b<(T 5).2
 | 6=>u 20=.pointer (some ⟨g,0,none⟩)
 | 7=>u 21=.pointer (some ⟨x5,0+4,none⟩)
 | 8=>∃ w,Is w (u 22) c.ins
 | 9=>u 23=.int .i64 (c.ins.length:Int)
 | 10=>∃ k,I64 k∧u 24=.int .i64 k
 | 11=>∃ k F,Mine F w (u 25) [(k:Int)]∧∀ b∈F,n0≤b∧(T 11).1≤b∧b<(T 11).2
 | 12=>u 26=.pointer (some ⟨g,0,none⟩)
 | 13=>u 27=.pointer (some ⟨x5,0+4,none⟩)
 | 14=>∃ w,Is w (u 28) c.ins
 | 15=>u 29=.int .i64 (c.ins.length:Int)
 | 16=>∃ k,I64 k∧u 30=.int .i64 k
 | 17=>∃ k F,Mine F w (u 31) [(k:Int)]∧∀ b∈F,n0≤b∧(T 17).1≤b∧b<(T 17).2
 | 18=>∃ l F,Mine F w (u 32) (l:List (List Int))∧∀ b∈F,n0≤b
 | 19=>u 33=.pointer (some ⟨x6,0+2,none⟩)
 | 20=>Blk x6 31 w [v0,v1,u 32]
 | _=>True
end
section
variable {g x5 x6 n0 n j:Nat} {W W0 w w':World} {bs:List UInt8} {v0 v1:Value} {c:DCode}
theorem mdR.ext (hx:Ext w w'):mdR g x6 W bs v0 v1 j w w':=⟨hx.chg _,fun ⟨q,h⟩=>⟨q,h.ext hx⟩,fun z h=>⟨z,h.ext hx,fun _=>rfl⟩⟩
theorem mdR.cur {q:Cur} (hc:ChgI g (g+1) w w') (hC:CurAt W g bs q w') (hne:g≠x6):mdR g x6 W bs v0 v1 j w w':=⟨hc.toC.mono (by simp),fun _=>⟨q,hC⟩,fun z h=>⟨z,h.chgI hc (by omega),fun _=>rfl⟩⟩
theorem mdB.step (h:mdB g x6 W W0 bs v0 v1 w) (hR:mdR g x6 W bs v0 v1 j w w'):mdB g x6 W W0 bs v0 v1 w':=by
 obtain ⟨z,hz⟩:=h.2.2
 obtain ⟨z',hz',_⟩:=hR.2.2 z hz
 exact ⟨h.1.trans hR.1,hR.2.1 h.2.1,z',hz'⟩
theorem mdR.mine {α:Type} [Rep α] {F:List Nat} {v:Value} {x:α} (hR:mdR g x6 W bs v0 v1 j w w') (h:Mine F w v x) (hF:∀ b∈F,n0≤b) (hg:g<n0) (h6:x6<n0):Mine F w' v x:=h.chgD hR.1 fun b hb=>by
 have:=hF b hb
 simp only [List.mem_cons,List.not_mem_nil,or_false];omega
theorem CurAt.keepF {q:Cur} {F:List Nat} (h:CurAt W g bs q w) (hc:Chg F w w') (hF:∀ b∈F,W.heap.size≤b∧b≠g):CurAt W g bs q w':=by
 obtain ⟨v,h0,hx,h2,h3,h4⟩:=h
 exact ⟨v,h0,hx.chgF hc fun b hb=>(hF b hb).1,h2,h3.chg hc fun hm=>(hF g hm).2 rfl,h4⟩
theorem zkw {k:Int} {K:Value→World→Prop} (hk:I64 k) (kk:∀ v w',Ext w w'→OwnI w.heap.size w'.heap.size w' v [k]→K v w'):OP Tryz.prog (Instr.buildSlice 25 1 #[(0,.int .i64 k)]) w K:=
 zdR (vs:=[.int .i64 k]) (l:=[k]) u25 ty3 zsc (by decide) (by kernel_rfl) rfl (fun w=>zfp (l:=[k]) (by simpa using hk)) kk
end
set_option maxRecDepth 20000 in
theorem zkx {w W:World} {v:Value} {bs:List UInt8} (h:Is W v bs) (e:Ext W w) (hl:bs.length≤1048576) :
    CALL Tryz.prog 17 [v] w fun r w'=>Ext w w'∧∃ y:DState,zua w w' r (zbl bs) y:=by
  have hc:=(zhg bs).1
  have hw:=zhh bs
  refine F17_call ?_
  unfold F17
  refine zaF zo5 fun w1 hx1 hB1=>?_
  have hs1:=hx1.size
  have hg1:=hB1.lt
  refine zaF zfJ fun w2 hx2 hB2=>?_
  have hs2:=hx2.size
  have hg2:=hB2.lt
  refine (ziM h (e.trans (hx1.trans hx2)) hl).mono ?_
  rintro _ w3 ⟨hx3,g,rfl,hg,hC3⟩
  have hs3:=hx3.size
  have hg3:=hC3.lt
  refine (zjr hC3).mono ?_
  rintro v4 w4 ⟨hc4,o4,hC4⟩
  have hs4:=hc4.size
  have o4:OwnI w3.heap.size w4.heap.size w4 v4 (zbl bs):=o4
  obtain ⟨us,rfl,hul⟩:=zcL rfl o4
  refine zaF zo5 fun w5 hx5 hB5=>?_
  have hs5:=hx5.size
  have hg5:=hB5.lt
  have o5:=o4.ext hx5
  refine zaw zbq rfl hB5 rfl o5 fun w6 hc6 hB6=>?_
  have hs6:=hc6.size
  have o6:=o5.chg hc6 (by omega)
  refine zbP hB6 (by rw [hul];exact zbq) ?_
  refine (zd2 o6.is (Ext.refl _) hw).mono ?_
  rintro v7 w7 ⟨hx7,o7⟩
  have hs7:=hx7.size
  generalize zhb (zbl bs)=s0 at *
  generalize zbl bs=c at *
  generalize (zcm bs (zcT bs)).2=q0 at *
  obtain ⟨ts,rfl,htl⟩:=zcL rfl o7.toI
  refine zaF zfJ fun w8 hx8 hB8=>?_
  have hs8:=hx8.size
  have hg8:=hB8.lt
  have o8:=o7.toI.ext hx8
  refine zaw zbM rfl hB8 rfl o8 fun w9 hc9 hB9=>?_
  have hs9:=hc9.size
  have hxd:=zaj w9
  have hsd:(World.drew1 w9).heap.size=w9.heap.size:=rfl
  have o9:=(o8.chg hc9 (by omega)).ext hxd
  have hC9:=((((hC4.ext hx5).chg hc6 (by omega) (by omega)).ext (hx7.trans hx8)).chg hc9 (by omega) (by omega)).ext hxd
  have hB91:=(((((((hB1.ext (hx2.trans hx3)).chgI hc4 (by omega)).ext hx5).chgI hc6 (by omega)).ext (hx7.trans hx8)).chgI hc9 (by omega))).ext hxd
  have hB92:=((((((hB2.ext hx3).chgI hc4 (by omega)).ext hx5).chgI hc6 (by omega)).ext (hx7.trans hx8)).chgI hc9 (by omega)).ext hxd
  have hB95:=((hB6.ext (hx7.trans hx8)).chgI hc9 (by omega)).ext hxd
  have oc9:=((o6.ext (hx7.trans hx8)).chg hc9 (by omega)).ext hxd
  have hx9:Ext w (World.drew1 w9):=((Ext.chgI ((Ext.chgI (hx1.trans (hx2.trans hx3)) hc4 (by omega)).trans hx5) hc6 (by omega)).trans (hx7.trans hx8)).chgI hc9 (by omega) |>.trans hxd
  have hB9:=hB9.ext hxd
  obtain ⟨v0,v1,z0,F0,F1,hte,M0,M1,b0,b1,d01⟩:=zmL o9
  rw [hte] at hB9
  generalize World.drew1 w9=W0 at *
  have hcode:∀ {w':World},Chg [g,w7.heap.size] W0 w'→OwnI w3.heap.size w4.heap.size w' (.agg us) c∧Blk w4.heap.size 28 w' us.toList:=fun {w'} hcg=>by
    obtain ⟨F,hm,hF⟩:=oc9
    have hn:∀ b,b≠g→b≠w7.heap.size→b∉[g,w7.heap.size]:=fun b h1 h2=>by simp [h1,h2]
    exact ⟨⟨F,hm.chgD hcg fun b hb=>hn b (by have:=hF b hb;omega) (by have:=hF b hb;omega),hF⟩,hB95.chg hcg (hn _ (by omega) (by omega))⟩
  have hcin:∀ {w':World},Chg [g,w7.heap.size] W0 w'→At w' w4.heap.size 0 c:=fun hcg=>ztB rfl (hcode hcg).2 (hcode hcg).1
  have hil:=hc.f.ins
  refine GPAR.mk (mdB g w7.heap.size w2 W0 bs v0 v1) (mdR g w7.heap.size w2 bs v0 v1) (mdQ g w4.heap.size w7.heap.size w9.heap.size v0 v1 c) ⟨Chg.refl _ _,⟨_,hC9⟩,_,hB9⟩ (fun j wa wb h1 h2=>h1.step h2) (fun j wa wb h=>h.1.size) ?_ ?_ ?_
  · intro i j u u' T T' wa wb hij hBa hR hd hq
    have kp:∀ {α:Type} [Rep α] {F:List Nat} {v:Value} {x:α},Mine F wa v x→(∀ b∈F,w9.heap.size≤b)→Mine F wb v x:=fun hm hF=>hR.mine hm hF (by omega) (by omega)
    match i,hij,hd,hq with
    | 0,_,hd,hq=>exact (hd (0,14) (by decide)).1.trans hq
    | 1,_,hd,hq=>exact (hd (1,15) (by decide)).1.trans hq
    | 2,_,hd,⟨w',hq⟩=>exact ⟨w',by rw [(hd (2,16) (by decide)).1];exact hq⟩
    | 3,_,hd,hq=>exact (hd (3,17) (by decide)).1.trans hq
    | 4,_,hd,⟨k,hk,hq⟩=>exact ⟨k,hk,(hd (4,18) (by decide)).1.trans hq⟩
    | 5,_,hd,⟨k,F,hm,hF⟩=>
      obtain ⟨e1,e2⟩:=hd (5,19) (by decide)
      simp only at e1 e2
      exact ⟨k,F,by rw [e1];exact kp hm fun b hb=>(hF b hb).1,by rw [e2];exact hF⟩
    | 6,_,hd,hq=>exact (hd (6,20) (by decide)).1.trans hq
    | 7,_,hd,hq=>exact (hd (7,21) (by decide)).1.trans hq
    | 8,_,hd,⟨w',hq⟩=>exact ⟨w',by rw [(hd (8,22) (by decide)).1];exact hq⟩
    | 9,_,hd,hq=>exact (hd (9,23) (by decide)).1.trans hq
    | 10,_,hd,⟨k,hk,hq⟩=>exact ⟨k,hk,(hd (10,24) (by decide)).1.trans hq⟩
    | 11,_,hd,⟨k,F,hm,hF⟩=>
      obtain ⟨e1,e2⟩:=hd (11,25) (by decide)
      simp only at e1 e2
      exact ⟨k,F,by rw [e1];exact kp hm fun b hb=>(hF b hb).1,by rw [e2];exact hF⟩
    | 12,_,hd,hq=>exact (hd (12,26) (by decide)).1.trans hq
    | 13,_,hd,hq=>exact (hd (13,27) (by decide)).1.trans hq
    | 14,_,hd,⟨w',hq⟩=>exact ⟨w',by rw [(hd (14,28) (by decide)).1];exact hq⟩
    | 15,_,hd,hq=>exact (hd (15,29) (by decide)).1.trans hq
    | 16,_,hd,⟨k,hk,hq⟩=>exact ⟨k,hk,(hd (16,30) (by decide)).1.trans hq⟩
    | 17,_,hd,⟨k,F,hm,hF⟩=>
      obtain ⟨e1,e2⟩:=hd (17,31) (by decide)
      simp only at e1 e2
      exact ⟨k,F,by rw [e1];exact kp hm fun b hb=>(hF b hb).1,by rw [e2];exact hF⟩
    | 18,_,hd,⟨l,F,hm,hF⟩=>exact ⟨l,F,by rw [(hd (18,32) (by decide)).1];exact kp hm hF,hF⟩
    | 19,_,hd,hq=>exact (hd (19,33) (by decide)).1.trans hq
    | 20,hij,hd,hq=>
      obtain ⟨z',h1,h2⟩:=hR.2.2 _ hq
      have h2:=h2 fun e=>hij e.symm
      subst h2
      show Blk _ _ _ [v0,v1,u' 32]
      rw [(hd (18,32) (by decide)).1];exact h1
    | n+21,_,_,_=>trivial
  · have fld4:∀ {j:Nat} {w':World} {K:Value→Prop},(mdR g w7.heap.size w2 bs v0 v1 j w' w'→K (.pointer (some ⟨w4.heap.size,0+4,none⟩)))→RD Tryz.prog (Instr.fieldAt 28 (.pointer (some ⟨w4.heap.size,0,none⟩)) 4) w' K:=fun k=>zaa zba (k (.ext (Ext.refl _)))
    have load:∀ {j:Nat} {w':World} {K:Value→Prop},mdB g w7.heap.size w2 W0 bs v0 v1 w'→(∀ v,Is w' v c.ins→mdR g w7.heap.size w2 bs v0 v1 j w' w'→K v)→RD Tryz.prog (Instr.loadAt 26 (.pointer (some ⟨w4.heap.size,0+4,none⟩))) w' K:=fun hB k=>zab zdN (zaq (hcin hB.1)) (Ext.refl _) fun v h=>k v h (.ext (Ext.refl _))
    have draw:∀ {j:Nat} {w':World} {K:Value→World→Prop},mdB g w7.heap.size w2 W0 bs v0 v1 w'→(∀ k w'',I64 k→mdR g w7.heap.size w2 bs v0 v1 j w' w''→K (.int .i64 k) w'')→CALL Tryz.prog 59 [.pointer (some ⟨g,0,none⟩),.int .i64 (c.ins.length:Int)] w' K:=fun {j w' K} hB k=>by
      obtain ⟨q,hC⟩:=hB.2.1
      refine (zbm hC (by omega)).mono ?_
      rintro _ w'' ⟨hcc,hCC,rfl⟩
      refine k _ w'' ?_ (.cur hcc hCC (by omega))
      rcases Int.lt_or_le 0 (c.ins.length:Int) with h0 | h0
      · have:=zbp bs h0 q;unfold I64;omega
      unfold zaI;rw [if_pos (by omega)];unfold I64;omega
    refine ⟨?_,?_,?_,?_,?_,?_,?_,?_,?_,?_,?_,?_,?_,?_,?_,?_,?_,?_,?_,?_,?_,trivial⟩
    · exact fun u T w' hB hs _ _=>⟨.ext (Ext.refl _),rfl⟩
    · exact fun u T w' hB hs _ _=>fld4 fun hR=>⟨hR,rfl⟩
    · intro u T w' hB hs _ hp
      have q:u 15=_:=hp.1
      rw [q]
      exact load hB fun v h hR=>⟨hR,w',h⟩
    · intro u T w' hB hs _ hp
      obtain ⟨_,q⟩:=hp.1
      exact zae u26 q ⟨.ext (Ext.refl _),rfl⟩
    · intro u T w' hB hs _ hp
      have q:u 14=_:=hp.1
      have q2:u 17=_:=hp.2.1
      rw [q,q2]
      exact draw hB fun k w'' hk hR=>⟨hR,k,hk,rfl⟩
    · intro u T w' hB hs _ hp
      obtain ⟨k,hk,q⟩:=hp.1
      rw [q]
      exact zkw hk fun v w'' hx ⟨F,hm,hF⟩=>⟨.ext hx,k,F,hm,fun b hb=>⟨by have:=hF b hb;omega,(hF b hb).1,(hF b hb).2⟩⟩
    · exact fun u T w' hB hs _ _=>⟨.ext (Ext.refl _),rfl⟩
    · exact fun u T w' hB hs _ _=>fld4 fun hR=>⟨hR,rfl⟩
    · intro u T w' hB hs _ hp
      have q:u 21=_:=hp.1
      rw [q]
      exact load hB fun v h hR=>⟨hR,w',h⟩
    · intro u T w' hB hs _ hp
      obtain ⟨_,q⟩:=hp.1
      exact zae u26 q ⟨.ext (Ext.refl _),rfl⟩
    · intro u T w' hB hs _ hp
      have q:u 20=_:=hp.1
      have q2:u 23=_:=hp.2.1
      rw [q,q2]
      exact draw hB fun k w'' hk hR=>⟨hR,k,hk,rfl⟩
    · intro u T w' hB hs _ hp
      obtain ⟨k,hk,q⟩:=hp.1
      rw [q]
      exact zkw hk fun v w'' hx ⟨F,hm,hF⟩=>⟨.ext hx,k,F,hm,fun b hb=>⟨by have:=hF b hb;omega,(hF b hb).1,(hF b hb).2⟩⟩
    · exact fun u T w' hB hs _ _=>⟨.ext (Ext.refl _),rfl⟩
    · exact fun u T w' hB hs _ _=>fld4 fun hR=>⟨hR,rfl⟩
    · intro u T w' hB hs _ hp
      have q:u 27=_:=hp.1
      rw [q]
      exact load hB fun v h hR=>⟨hR,w',h⟩
    · intro u T w' hB hs _ hp
      obtain ⟨_,q⟩:=hp.1
      exact zae u26 q ⟨.ext (Ext.refl _),rfl⟩
    · intro u T w' hB hs _ hp
      have q:u 26=_:=hp.1
      have q2:u 29=_:=hp.2.1
      rw [q,q2]
      exact draw hB fun k w'' hk hR=>⟨hR,k,hk,rfl⟩
    · intro u T w' hB hs _ hp
      obtain ⟨k,hk,q⟩:=hp.1
      rw [q]
      exact zkw hk fun v w'' hx ⟨F,hm,hF⟩=>⟨.ext hx,k,F,hm,fun b hb=>⟨by have:=hF b hb;omega,(hF b hb).1,(hF b hb).2⟩⟩
    · intro u T w' hB hs hap hp
      obtain ⟨⟨k1,Fa,Ma,Ba⟩,⟨k2,Fb,Mb,Bb⟩,⟨k3,Fc,Mc,Bc⟩,-⟩:=hp
      have dab:=hap.2 5 (by decide) 11 (by decide) (by decide)
      have dac:=hap.2 5 (by decide) 17 (by decide) (by decide)
      have dbc:=hap.2 11 (by decide) 17 (by decide) (by decide)
      have eab:∀ b∈Fa,b∉Fb:=fun b h1 h2=>by have:=Ba b h1;have:=Bb b h2;omega
      have eac:∀ b∈Fa,b∉Fc:=fun b h1 h2=>by have:=Ba b h1;have:=Bc b h2;omega
      have ebc:∀ b∈Fb,b∉Fc:=fun b h1 h2=>by have:=Bb b h1;have:=Bc b h2;omega
      have hcell:Cells (Fa++(Fb++Fc)) w' [u 19,u 25,u 31] [[k1],[k2],[k3]]:=
        ⟨Fa,Fb++Fc,[u 19],[u 25,u 31],rfl,rfl,zaS rfl Ma.own,Fb,Fc,[u 25],[u 31],rfl,rfl,zaS rfl Mb.own,Cells.single (zaS rfl Mc.own)⟩
      have hnd:(Fa++(Fb++Fc)).Nodup:=by
        rw [List.nodup_append,List.nodup_append]
        refine ⟨Ma.nodup,⟨Mb.nodup,Mc.nodup,fun p hp q hq e=>ebc p hp (e▸hq)⟩,fun p hp q hq e=>?_⟩
        subst e
        rcases List.mem_append.1 hq with h | h
        · exact eab p hp h
        exact eac p hp h
      obtain ⟨a1,c1,q1⟩:∃ a c,u 19=.slice a 1 c:=zbQ ⟨Fa,Ma,fun b hb=>(Ba b hb).2⟩
      obtain ⟨a2,c2,q2⟩:∃ a c,u 25=.slice a 1 c:=zbQ ⟨Fb,Mb,fun b hb=>(Bb b hb).2⟩
      obtain ⟨a3,c3,q3⟩:∃ a c,u 31=.slice a 1 c:=zbQ ⟨Fc,Mc,fun b hb=>(Bc b hb).2⟩
      rw [q1,q2,q3] at hcell ⊢
      refine zsF (vs:=[.slice a1 1 c1,.slice a2 1 c2,.slice a3 1 c3]) (l:=[[k1],[k2],[k3]]) u29 zbk (z:=.slice none 0 0) (by kernel_rfl) (by decide) (by kernel_rfl) rfl hcell hnd (Ma.wr.append (Mb.wr.append Mc.wr)) fun v w'' hx hm=>⟨.ext hx,_,_,hm,fun b hb=>?_⟩
      rcases List.mem_cons.1 hb with rfl | hb
      · omega
      rcases List.mem_append.1 hb with hb | hb
      · exact (Ba b hb).1
      rcases List.mem_append.1 hb with hb | hb
      · exact (Bb b hb).1
      exact (Bc b hb).1
    · exact fun u T w' hB hs _ _=>zaa zaT ⟨.ext (Ext.refl _),rfl⟩
    intro u T w' hB hs _ hp
    have q:u 33=_:=hp.1
    obtain ⟨l,F,hm,hF⟩:=hp.2.1
    obtain ⟨z,hz⟩:=hB.2.2
    have hx6:w7.heap.size≠g:=by omega
    rw [q]
    refine za6 (α:=List (List Int)) (lo:=0) (hi:=w'.heap.size) zdJ rfl rfl hz (by simp) ⟨F,hm,fun b hb=>⟨Nat.zero_le _,hm.lt b hb⟩⟩ fun w'' hcc hBB=>?_
    have hBB:Blk w7.heap.size 31 w'' [v0,v1,u 32]:=hBB
    exact ⟨⟨hcc.toC.mono (by simp),fun ⟨q,h⟩=>⟨q,h.chg hcc (by omega) (by omega)⟩,fun z' hz'=>⟨_,hBB,fun h=>absurd rfl h⟩⟩,hBB⟩
  rintro u T w10 hB hs hap ⟨-,-,-,-,-,-,-,-,-,-,-,-,-,-,-,-,-,-,⟨l2,F2,M2,b2⟩,-,hB10,-⟩
  have hB10:Blk w7.heap.size 31 w10 [v0,v1,u 32]:=hB10
  generalize u 32=v2 at *
  obtain ⟨hcg,⟨q1,hC10⟩,-⟩:=hB
  have ho:∀ b,b≠g→b≠w7.heap.size→b∉[g,w7.heap.size]:=fun b h1 h2=>by simp [h1,h2]
  have M0:=M0.chgD hcg fun b hb=>ho b (by have:=b0 b hb;omega) (by have:=b0 b hb;omega)
  have M1:=M1.chgD hcg fun b hb=>ho b (by have:=b1 b hb;omega) (by have:=b1 b hb;omega)
  have hx10:Ext w w10:=hx9.chgF hcg fun b hb=>by
    simp only [List.mem_cons,List.not_mem_nil,or_false] at hb;omega
  have hBa:=hB91.chg hcg (ho _ (by omega) (by omega))
  have hBb:=hB92.chg hcg (ho _ (by omega) (by omega))
  obtain ⟨oc,hBc⟩:=hcode hcg
  generalize hX6:w7.heap.size=x6 at *
  refine zaE s0.owner.length (fun k us' w'=>us'=[.int .i64 (k:Int)]∧k≤s0.owner.length∧∃ q l F,CurAt w2 g bs q w'∧Ext w w'∧w10.heap.size≤w'.heap.size∧Blk w.heap.size 28 w' [.slice none 0 0,.slice none 0 0,.slice none 0 0,.slice none 0 0,.slice none 0 0]∧Blk w1.heap.size 31 w' [.slice none 0 0,.slice none 0 0,.slice none 0 0] ∧
      Blk w4.heap.size 28 w' us.toList∧OwnI w3.heap.size w4.heap.size w' (.agg us) c∧Blk x6 31 w' [v0,v1,v2]∧Mine F0 w' v0 s0.vars∧Mine F w' v1 (l:List Int)∧(∀ b∈F,b∈F1)∧l.length=s0.owner.length∧Mine F2 w' v2 l2) 0 (Nat.zero_le _)
    ⟨rfl,Nat.zero_le _,q1,s0.owner,F1,hC10,hx10,Nat.le_refl _,hBa,hBb,hBc,oc,hB10,M0,M1,fun b hb=>hb,rfl,M2⟩ ?_
  rintro k m u w11 hkm ⟨hu,hkl,q,l,F,hC,hx11,hs11,hBa,hBb,hBc,oc,hBs,M0,M1,hFF,hll,M2⟩
  simp only [List.map_cons,List.map_nil,List.cons.injEq,and_true] at hu
  rw [hu]
  refine zaa zcA ?_
  refine zaA zbk hBs rfl ?_
  refine zae u25 M1.is ?_
  refine zai ?_
  refine br (fun hlt=>?_) (fun hge=>?_)
  · have hk:k<l.length:=by omega
    have hxd:=zaj w11
    have hC:=hC.ext hxd
    have hBs:=hBs.ext hxd
    have M1:=M1.ext hxd
    generalize World.drew1 w11=wd at *
    have hsd:=hxd.size
    refine XR.mk (fun c=>c=g) ?_
    refine zeB zcA ?_
    refine zeC zbk (zq6 hBs rfl) (show ¬(x6=g) by omega) ?_
    refine (zbm hC (by omega)).mono ?_
    rintro _ we ⟨hce,hCe,rfl⟩
    have hse:=hce.size
    refine ⟨zdU hce fun c h1 h2=>by show c=_;omega,?_⟩
    have hb4:=zbp bs (n:=4) (by omega) q
    have hln:=zaf M1.is
    have hge:∀ b∈F,b∉[g]:=fun b hb=>by have:=b1 b (hFF b hb);simp only [List.mem_cons,List.not_mem_nil,or_false];omega
    have M1:=M1.chgD hce.toC hge
    refine zhL (v:=.int .i64 (zaI bs 4 q-1)) (fun w'=>by simp [bin,eqGuard,binOp,Op.intArith,IntWalk.i64_in _ (show I64 (zaI bs 4 q-1) by unfold I64;omega)]) ?_
    obtain ⟨b,a,cap,G,hv1,hL⟩:=zoP M1 hk
    refine zhL (v:=.pointer (some ⟨b,a+k*1,none⟩)) (fun w'=>by rw [hv1,zbg u25 ty3 (by omega) (by omega)];simp) ?_
    refine zin ty3 hL (zcK (by unfold I64;omega)) fun wf F' hcf M1' hF'=>?_
    have hsf:=hcf.size
    refine zah (by omega) ?_
    have hF6:∀ x,(x<w6.heap.size∨x6≤x)→x∉F:=fun x hx hm=>by have:=b1 x (hFF x hm);omega
    refine ⟨m-1,by omega,k+1,by omega,rfl,by omega,_,_,F',hCe.keepF hcf (fun x hx=>by have:=b1 x (hFF x hx);omega),?_,by omega,(((hBa.ext hxd).chgI hce (by omega)).chg hcf (hF6 _ (by omega))),(((hBb.ext hxd).chgI hce (by omega)).chg hcf (hF6 _ (by omega))),(((hBc.ext hxd).chgI hce (by omega)).chg hcf (hF6 _ (by omega))),?_,((hBs.chgI hce (by omega)).chg hcf (hF6 _ (by omega))),?_,M1',fun b hb=>hFF b (hF' b hb),by simp [hll],?_⟩
    · exact ((hx11.trans hxd).chgI hce (by omega)).chgF hcf fun x hx=>by have:=b1 x (hFF x hx);omega
    · obtain ⟨Fc,hm,hFc⟩:=(oc.ext hxd).chg hce (by omega)
      exact ⟨Fc,hm.chgD hcf fun x hx=>hF6 x (by have:=hFc x hx;omega),hFc⟩
    · exact ((M0.ext hxd).chgD hce.toC fun x hx=>by have:=b0 x hx;simp only [List.mem_cons,List.not_mem_nil,or_false];omega).chgD hcf fun x hx hm=>d01 x hx (hFF x hm)
    exact ((M2.ext hxd).chgD hce.toC fun x hx=>by have:=b2 x hx;simp only [List.mem_cons,List.not_mem_nil,or_false];omega).chgD hcf fun x hx=>hF6 x (by have:=b2 x hx;omega)
  have hxd:=zaj w11
  have hBa:=hBa.ext hxd
  have hBb:=hBb.ext hxd
  have hBc:=hBc.ext hxd
  have hBs:=hBs.ext hxd
  have oc:=oc.ext hxd
  have os:OwnI w6.heap.size w11.heap.size (World.drew1 w11) (.agg #[v0,v1,v2]) (⟨s0.vars,l,l2⟩:DState):=
    zor (M0.ext hxd) (M1.ext hxd) (M2.ext hxd) (fun b h1 h2=>d01 b h1 (hFF b h2)) (fun b h1 h2=>by have:=b0 b h1;have:=b2 b h2;omega) (fun b h1 h2=>by have:=b1 b (hFF b h1);have:=b2 b h2;omega)
      (fun b hb=>⟨(b0 b hb).1,M0.lt b hb⟩) (fun b hb=>⟨(b1 b (hFF b hb)).1,M1.lt b hb⟩) (fun b hb=>⟨by have:=b2 b hb;omega,M2.lt b hb⟩)
  generalize World.drew1 w11=wd at *
  have hsd:=hxd.size
  refine XR.mk (fun c=>c=w.heap.size) ?_
  refine zcd hBc (by rw [hul];exact zbq) (show ¬(w4.heap.size=w.heap.size) by omega) ?_
  refine zcd hBs zbM (show ¬(x6=w.heap.size) by omega) ?_
  refine zaw zbq rfl hBa rfl oc fun wa hca hBa2=>?_
  have hsa:=hca.size
  refine ⟨zdU hca fun c h1 h2=>by show c=_;omega,?_⟩
  refine zaw zbM rfl (hBb.chgI hca (by omega)) rfl (os.chg hca (by omega)) fun wb hcb hBb2=>?_
  have hsb:=hcb.size
  refine zbx (hBa2.chgI hcb (by omega)) (by rw [hul];exact zbq) ?_
  refine zbx hBb2 zbM ?_
  exact ⟨((hx11.trans hxd).chgI hca (by omega)).chgI hcb (by omega),_,_,_,_,_,_,_,rfl,(oc.chg hca (by omega)).chg hcb (by omega),(os.chg hca (by omega)).chg hcb (by omega),by omega,by omega,by omega,by omega,by omega⟩
end Go.Proofs.YtdmailcgaekimaaGreat
namespace Go.Proofs.YtdmailcgaekimaaGreat
open Go.Shelf
def Tryz.sortRace_ren:Go.Shelf.Ren:=⟨fun | 6=>201 | 15=>223 | 14=>261 | 28=>275 | 29=>276 | 20=>297 | 21=>298 | 22=>299 | 23=>300 | 24=>301 | 25=>302 | 26=>303 | 27=>304 | 46=>325 | 47=>315 | 48=>316 | 49=>326 | 50=>327 | 57=>333 | n=>n,fun | 22=>40 | 24=>43 | 25=>203 | 3=>3 | 39=>108 | 0=>0 | 53=>263 | 55=>215 | 4=>4 | 46=>257 | 45=>256 | 50=>243 | 5=>5 | 9=>9 | 66=>283 | 70=>236 | 76=>294 | 77=>295 | n=>n,fun | n=>n⟩
theorem Tryz.sortRace:SlLaysF0.n6 Tryz.prog Tryz.sortRace_ren:={
 mixed:=by kernel_rfl,
 f6:=⟨Tryz.f201.name,by kernel_rfl,Tryz.func201.trans (congrArg some (by kernel_rfl))⟩,
 f14:=⟨Tryz.f261.name,by kernel_rfl,Tryz.func261.trans (congrArg some (by kernel_rfl))⟩,
 f15:=Tryz.func223.trans (congrArg some (by kernel_rfl)),
 f20:=⟨Tryz.f297.name,by kernel_rfl,Tryz.func297.trans (congrArg some (by kernel_rfl))⟩,
 f21:=⟨Tryz.f298.name,by kernel_rfl,Tryz.func298.trans (congrArg some (by kernel_rfl))⟩,
 f22:=⟨Tryz.f299.name,by kernel_rfl,Tryz.func299.trans (congrArg some (by kernel_rfl))⟩,
 f23:=⟨Tryz.f300.name,by kernel_rfl,Tryz.func300.trans (congrArg some (by kernel_rfl))⟩,
 f24:=⟨Tryz.f301.name,by kernel_rfl,Tryz.func301.trans (congrArg some (by kernel_rfl))⟩,
 f25:=⟨Tryz.f302.name,by kernel_rfl,Tryz.func302.trans (congrArg some (by kernel_rfl))⟩,
 f26:=⟨Tryz.f303.name,by kernel_rfl,Tryz.func303.trans (congrArg some (by kernel_rfl))⟩,
 f27:=⟨Tryz.f304.name,by kernel_rfl,Tryz.func304.trans (congrArg some (by kernel_rfl))⟩,
 f28:=Tryz.func275.trans (congrArg some (by kernel_rfl)),
 f29:=Tryz.func276.trans (congrArg some (by kernel_rfl)),
 f46:=⟨Tryz.f325.name,by kernel_rfl,Tryz.func325.trans (congrArg some (by kernel_rfl))⟩,
 f47:=Tryz.func315.trans (congrArg some (by kernel_rfl)),
 f48:=Tryz.func316.trans (congrArg some (by kernel_rfl)),
 f49:=⟨Tryz.f326.name,by kernel_rfl,Tryz.func326.trans (congrArg some (by kernel_rfl))⟩,
 f50:=⟨Tryz.f327.name,by kernel_rfl,Tryz.func327.trans (congrArg some (by kernel_rfl))⟩,
 f57:=⟨Tryz.f333.name,by kernel_rfl,Tryz.func333.trans (congrArg some (by kernel_rfl))⟩,
 t0:=Tryz.underlying0,
 a0:=Tryz.isAgg0,
 z0:=Tryz.sizeOf0,
 v0:=Tryz.zeroValue0,
 t3:=Tryz.underlying3,
 a3:=Tryz.isAgg3,
 z3:=Tryz.sizeOf3,
 v3:=Tryz.zeroValue3,
 t4:=Tryz.underlying4,
 a4:=Tryz.isAgg4,
 z4:=Tryz.sizeOf4,
 v4:=Tryz.zeroValue4,
 t5:=Tryz.underlying5,
 a5:=Tryz.isAgg5,
 z5:=Tryz.sizeOf5,
 v5:=Tryz.zeroValue5,
 t9:=Tryz.underlying9,
 a9:=Tryz.isAgg9,
 z9:=Tryz.sizeOf9,
 v9:=Tryz.zeroValue9,
 t22:=Tryz.underlying40,
 a22:=Tryz.isAgg40,
 z22:=Tryz.sizeOf40,
 v22:=Tryz.zeroValue40,
 t25:=Tryz.underlying203,
 a25:=Tryz.isAgg203,
 z25:=Tryz.sizeOf203,
 v25:=Tryz.zeroValue203,
 t39:=Tryz.underlying108,
 a39:=Tryz.isAgg108,
 z39:=Tryz.sizeOf108,
 v39:=Tryz.zeroValue108,
 t45:=Tryz.underlying256,
 a45:=Tryz.isAgg256,
 z45:=Tryz.sizeOf256,
 v45:=Tryz.zeroValue256,
 t46:=Tryz.underlying257,
 a46:=Tryz.isAgg257,
 z46:=Tryz.sizeOf257,
 v46:=Tryz.zeroValue257,
 t50:=Tryz.underlying243,
 a50:=Tryz.isAgg243,
 z50:=Tryz.sizeOf243,
 v50:=Tryz.zeroValue243,
 t53:=Tryz.underlying263,
 a53:=Tryz.isAgg263,
 z53:=Tryz.sizeOf263,
 v53:=Tryz.zeroValue263,
 t55:=Tryz.underlying215,
 a55:=Tryz.isAgg215,
 z55:=Tryz.sizeOf215,
 v55:=Tryz.zeroValue215,
 t66:=Tryz.underlying283,
 a66:=Tryz.isAgg283,
 z66:=Tryz.sizeOf283,
 v66:=Tryz.zeroValue283,
 t70:=Tryz.underlying236,
 a70:=Tryz.isAgg236,
 z70:=Tryz.sizeOf236,
 v70:=Tryz.zeroValue236,
 t76:=Tryz.underlying294,
 a76:=Tryz.isAgg294,
 z76:=Tryz.sizeOf294,
 v76:=Tryz.zeroValue294,
 t77:=Tryz.underlying295,
 a77:=Tryz.isAgg295,
 z77:=Tryz.sizeOf295,
 v77:=Tryz.zeroValue295 }
end Go.Proofs.YtdmailcgaekimaaGreat
namespace Go.Proofs.YtdmailcgaekimaaGreat
open Go Go.Sh Go.Proofs
open Rep (rep)
theorem zgF {lo hi:Nat} {w:World} {x:DTouch} (h1:I64 x.at_) (h2:I64 x.global) (h3:I64 x.held):OwnI lo hi w (.agg #[.int .i64 x.at_,.int .i64 x.global,.bool x.write,.int .i64 x.held]) x:=
 ⟨[],zoU h1 h2 h3,by simp⟩
def zcb (c:DCode) (a:Int) (held:Int) (i:DIns):Nat→List DTouch
 | 0=>[]
 | k+1=>zcb c a held i k++(if c.globals.getD k ByteArray.empty∈zbe i.term then [⟨a,k,false,held⟩] else [])++(if i.op=1∧i.arg=k then [⟨a,k,true,held⟩] else [])
def zcj (c:DCode) (a:Int) (held:Int):List DTouch:=
 if (zbo c a.toNat).op=1∨(zbo c a.toNat).op=2 then zcb c a held (zbo c a.toNat) c.globals.length else []
theorem zeO (c:DCode) (a held:Int) (i:DIns):∀ k,(zcb c a held i k).length≤2*k
 | 0=>by simp [zcb]
 | k+1=>by
   have:=zeO c a held i k
   rw [zcb,List.length_append,List.length_append]
   split<;>split<;>simp<;>omega
theorem zmM (c:DCode) (a held:Int):(zcj c a held).length≤2*c.globals.length:=by
 unfold zcj
 split
 · exact zeO _ _ _ _ _
 simp
def F74 (a0 a1 a2:Value) (w:World) (R:VW):Prop:=
 oP (Instr.box 28 a0) w fun x3 w=>
 rF 28 x3 4 w fun x12=>
 rL 26 x12 w fun x13=>
 rX 26 x13 a1 w fun x15=>
 rL 117 x15 w fun x16=>
 oP (Instr.alloc 117 true (.tuple #[])) w fun x7 w=>
 oS 117 x7 x16 w fun w=>
 JOIN [] (fun J4=>
 rF 117 x7 0 w fun x17=>
 rL 3 x17 w fun x18=>
 rB .neq 3 T0 U0 x18 (iV 1) w fun x19=>
 BR x19
 (rF 117 x7 0 w fun x21=>
 rL 3 x21 w fun x22=>
 rB .neq 3 T0 U0 x22 (iV 2) w fun x23=>
 BR x23
 (R (Value.slice none 0 0) w)
 (J4 [] w))
 (J4 [] w)) (fun u4 w=>
 rF 117 x7 2 w fun x25=>
 rL 78 x25 w fun x26=>
 cL 131 [x26] w fun x27 w=>
 rF 28 x3 0 w fun x28=>
 rL 24 x28 w fun x29=>
 rN 24 3 x29 w fun x30=>
 LOOPI [9,31] [(Value.slice none 0 0),(iV 0)] w fun u7 w next7=>
 rC (u7 31) x30 w fun x32=>
 BR x32
 (rX 24 x29 (u7 31) w fun x34=>
 rL 9 x34 w fun x35=>
 JOIN [9] (fun J11=>
 cL 132 [x27,x35] w fun x38 w=>
 BR x38
 (rD (Instr.build 146 #[(0,a1),(1,(u7 31)),(3,a2)]) w fun x43=>
 oP (Instr.buildSlice 45 1 #[(0,x43)]) w fun x44 w=>
 oP (Builtin.append_ #[45,45] 45 [(u7 9),x44].toArray) w fun x45 w=>
 J11 [x45] w)
 (J11 [(u7 9)] w)) (fun u11 w=>
 rF 117 x7 0 w fun x46=>
 rL 3 x46 w fun x47=>
 rB .eql 3 T0 U0 x47 (iV 1) w fun x48=>
 BR x48
 (rF 117 x7 1 w fun x50=>
 rL 3 x50 w fun x51=>
 rB .eql 3 T0 T0 x51 (u7 31) w fun x53=>
 BR x53
 (rD (Instr.build 146 #[(0,a1),(1,(u7 31)),(2,(Value.bool true)),(3,a2)]) w fun x59=>
 oP (Instr.buildSlice 45 1 #[(0,x59)]) w fun x60 w=>
 oP (Builtin.append_ #[45,45] 45 [(u11 9),x60].toArray) w fun x61 w=>
 rA (u7 31) (iV 1) w fun x62=>
 next7 [x61,x62] w)
 (rA (u7 31) (iV 1) w fun x62=>
 next7 [(u11 9),x62] w))
 (rA (u7 31) (iV 1) w fun x62=>
 next7 [(u11 9),x62] w)))
 (R (u7 9) w))
def cfg74:Cfg:=⟨extL,[(4,33423424,[]),(11,70300024701440,[9])],[(7,9223372034707295744,[9,31])],[],[],[],[]⟩
theorem F74_call {a0 a1 a2:Value} {w:World} {R:VW} (h:F74 a0 a1 a2 w R):cL 74 [a0,a1,a2] w R:=co (g:=cfg74) Tryz.func74 (by kernel_rfl) (by kernel_rfl) (by kernel_rfl) h
theorem zhy {w:World} {v0:Value} {W0:World} {c:DCode} {a:Int} {held:Int}  (h0:Is W0 v0 c) (e0:Ext W0 w) (hc:CodeR c) (ha:0≤a) (ha2:a<c.ins.length) (hh:I64 held) :
   CALL Tryz.prog 74 [v0,.int .i64 a,.int .i64 held] w fun r w'=>Ext w w'∧(Own w.heap.size w' r (zcj c a held)):=by
 refine F74_call ?_
 unfold F74
 have hil:=hc.f.ins
 have hg6:c.globals.length≤6:=by have h1:=hc.1.1;simp only [Bool.and_eq_true,decide_eq_true_eq] at h1;omega
 have hs_e0:=e0.size
 refine zal zbq rfl h0 e0 fun w1_ hx1_ hA3 hV3=>?_
 have hs_hx1_:=hx1_.size
 refine zaa zba ?_
 refine zab zdN (zaq hA3) (Ext.refl w1_) fun v13 h13=>?_
 refine zat u26 zbS h13 (by omega) (by omega) fun b15 o15 h15=>?_
 rw [zaO] at h15
 obtain ⟨i,hi⟩:∃ i,i=zbo c a.toNat:=⟨_,rfl⟩
 rw [←hi] at h15
 refine zab zbS h15 (Ext.refl w1_) fun v16 h16=>?_
 refine zeY zl5 rfl zbS rfl h16 (Ext.refl w1_) fun w2_ hx2_ hA7 hV7=>?_
 have hs_hx2_:=hx2_.size
 have hg7:=hV7.lt
 refine JOIN.mk (fun us w'=>us=[]∧Ext w2_ w'∧(i.op=1∨i.op=2)) ?_ ?_
 · refine zaa za5 ?_
   refine zac ty3 (zaG hA7) (Ext.refl w2_) fun hI18=>?_
   refine zaM ?_
   refine br (fun c1=>?_) (fun c1=>?_)
   · refine zaa za5 ?_
     refine zac ty3 (zaG hA7) (Ext.refl w2_) fun hI22=>?_
     refine zaM ?_
     refine br (fun c2=>?_) (fun c2=>?_)
     · refine ⟨(hx1_.trans hx2_),?_⟩
       unfold zcj
       rw [←hi,if_neg (by omega)]
       exact zfD rfl
     refine ⟨by simp,Ext.refl w2_,?_⟩
     omega
   refine ⟨by simp,Ext.refl w2_,?_⟩
   omega
 rintro uj4 w3_ ⟨hu,hx3_,hop⟩
 have hs_hx3_:=hx3_.size
 simp only [List.map_cons,List.map_nil,List.cons.injEq,and_true] at hu
 clear hu
 refine zaa zcI ?_
 refine zab zcs (zbG hA7) hx3_ fun v26 h26=>?_
 refine (zd0 h26 hx3_).mono ?_
 rintro r27 w4_ ⟨hx4_,h27⟩
 have hs_hx4_:=hx4_.size
 refine zaa zcQ ?_
 refine zab zcP (zaW hA3) (hx2_.trans (hx3_.trans hx4_)) fun v29 h29=>?_
 have hln30:=zaf h29
 refine zae u24 h29 ?_
 refine zaE (c.globals.length) (fun k us w'=>∃ v:Value,us=[v,.int .i64 (k:Int)]∧Ext w4_ w'∧(RowI w4_.heap.size w'.heap.size 146 w' v (zcb c a held i k))) (0) (by omega) ⟨_,rfl,Ext.refl w4_,zdo _ _ _ _⟩ ?_
 rintro k m7 uu7 w5_ hk7 ⟨v9,hu,hx5_,hrow⟩
 have hs_hx5_:=hx5_.size
 obtain ⟨hu0,hu1⟩:=zfZ hu;clear hu
 try rw [hu0]
 try rw [hu1]
 try clear hu0 hu1
 have hrl:=zeO c a held i k
 refine zai ?_
 refine br (fun c3=>?_) (fun c3=>?_)
 · refine zad u24 ty9 h29 (by omega) fun b34 o34 h34=>?_
   refine zao ty9 h34 (hx2_.trans (hx3_.trans (hx4_.trans hx5_))) fun hS35=>?_
   refine JOIN.mk (fun us w'=>∃ v:Value,us=[v]∧Ext w4_ w'∧(RowI w4_.heap.size w'.heap.size 146 w' v (zcb c a held i k++(if c.globals.getD k ByteArray.empty∈zbe i.term then [⟨a,k,false,held⟩] else [])))) ?_ ?_
   · have hgk:c.globals[k]'(by omega)=c.globals.getD k ByteArray.empty:=by rw [List.getD_eq_getElem?_getD,List.getElem?_eq_getElem (by omega)];rfl
     refine (zb7 h27 hx5_).mono ?_
     rintro _ w7_ ⟨hx7_,rfl⟩
     have hs_hx7_:=hx7_.size
     refine br (fun c4=>?_) (fun c4=>?_)
     · refine zaH (cells:=#[.int .i64 a,.int .i64 (k:Int),.bool false,.int .i64 held]) (by kernel_rfl) ?_
       have o43:OwnI w7_.heap.size w7_.heap.size w7_ (.agg #[.int .i64 a,.int .i64 (k:Int),.bool false,.int .i64 held]) (⟨a,k,false,held⟩:DTouch):=zgF (x:=⟨a,k,false,held⟩) (by show I64 a;unfold I64;omega) (by show I64 (k:Int);unfold I64;omega) hh
       refine zch (α:=DTouch) u45 zdK ztI zqC (by decide) (hrow.ext hx7_) (by omega) (o43.ext (Ext.refl w7_)) (by omega) (by omega) (by rw [zam];omega) (by omega) fun v45 w8_ hc8_ o45=>?_
       have hs_hc8_:=hc8_.size
       have o43_c8:=(o43.ext (Ext.refl w7_)).chg hc8_ (by omega)
       refine ⟨_,rfl,(Ext.chgI (hx5_.trans hx7_) hc8_ (by omega)),?_⟩
       rw [if_pos (by rw [←hgk];exact c4)];exact o45
     refine ⟨_,rfl,(hx5_.trans hx7_),?_⟩
     rw [if_neg (by rw [←hgk];exact c4),List.append_nil];exact (hrow.ext hx7_).mono (by omega) (by omega)
   rintro uj11 w6_ ⟨v11,hu,hx8_,hrow2⟩
   have hs_hx8_:=hx8_.size
   simp only [List.map_cons,List.map_nil,List.cons.injEq,and_true] at hu
   try rw [hu]
   try clear hu
   refine zaa za5 ?_
   refine zac ty3 (zaG hA7) (hx3_.trans (hx4_.trans hx8_)) fun hI47=>?_
   refine zag ?_
   refine br (fun c5=>?_) (fun c5=>?_)
   · refine zaa zbY ?_
     refine zac ty3 (za4 hA7) (hx3_.trans (hx4_.trans hx8_)) fun hI51=>?_
     refine zag ?_
     refine br (fun c6=>?_) (fun c6=>?_)
     · refine zaH (cells:=#[.int .i64 a,.int .i64 (k:Int),.bool true,.int .i64 held]) (by kernel_rfl) ?_
       have o59:OwnI w6_.heap.size w6_.heap.size w6_ (.agg #[.int .i64 a,.int .i64 (k:Int),.bool true,.int .i64 held]) (⟨a,k,true,held⟩:DTouch):=zgF (x:=⟨a,k,true,held⟩) (by show I64 a;unfold I64;omega) (by show I64 (k:Int);unfold I64;omega) hh
       refine zch (α:=DTouch) u45 zdK ztI zqC (by decide) (hrow2.ext (Ext.refl w6_)) (by omega) (o59.ext (Ext.refl w6_)) (by omega) (by omega) (by rw [zam,List.length_append];split<;>simp<;>omega) (by rw [List.length_append];split<;>simp<;>omega) fun v61 w9_ hc9_ o61=>?_
       have hs_hc9_:=hc9_.size
       have o59_c9:=(o59.ext (Ext.refl w6_)).chg hc9_ (by omega)
       refine zah (by omega) ?_
       refine ⟨m7-1,by omega,k+1,by omega,_,rfl,(Ext.chgI hx8_ hc9_ (by omega)),?_⟩
       rw [zcb,if_pos (c:=i.op=1∧i.arg=k) ⟨by omega,by omega⟩];exact o61
     refine zah (by omega) ?_
     refine ⟨m7-1,by omega,k+1,by omega,_,rfl,hx8_,?_⟩
     rw [zcb,if_neg (c:=i.op=1∧i.arg=k) (fun h=>c6 h.2),List.append_nil];exact (hrow2.ext (Ext.refl w6_)).mono (by omega) (by omega)
   refine zah (by omega) ?_
   refine ⟨m7-1,by omega,k+1,by omega,_,rfl,hx8_,?_⟩
   rw [zcb,if_neg (c:=i.op=1∧i.arg=k) (fun h=>c5 h.1),List.append_nil];exact (hrow2.ext (Ext.refl w6_)).mono (by omega) (by omega)
 refine ⟨(hx1_.trans (hx2_.trans (hx3_.trans (hx4_.trans hx5_)))),?_⟩
 unfold zcj
 rw [←hi,if_pos hop,←show k=c.globals.length by omega]
 exact hrow.own.own.mono (by omega)
def F133 (a0 a1 a2:Value) (w:World) (R:VW):Prop:=
 oP (Instr.box 28 a0) w fun x3 w=>
 oP (Instr.buildSlice 45 0 #[]) w fun x11 w=>
 rF 28 x3 4 w fun x12=>
 rL 26 x12 w fun x13=>
 rX 26 x13 a1 w fun x15=>
 rL 117 x15 w fun x16=>
 oP (Instr.alloc 117 true (.tuple #[])) w fun x8 w=>
 oS 117 x8 x16 w fun w=>
 JOIN [] (fun J5=>
 rF 117 x8 0 w fun x17=>
 rL 3 x17 w fun x18=>
 rB .neq 3 T0 U0 x18 (iV 1) w fun x19=>
 BR x19
 (rF 117 x8 0 w fun x21=>
 rL 3 x21 w fun x22=>
 rB .neq 3 T0 U0 x22 (iV 2) w fun x23=>
 BR x23
 (R x11 w)
 (J5 [] w))
 (J5 [] w)) (fun u5 w=>
 rF 117 x8 2 w fun x26=>
 rL 78 x26 w fun x27=>
 cL 210 [x27] w fun x28 w=>
 LOOPI [7,10] [x11,(iV 0)] w fun u7 w next7=>
 rF 28 x3 0 w fun x30=>
 rL 24 x30 w fun x31=>
 rN 24 3 x31 w fun x32=>
 rC (u7 10) x32 w fun x33=>
 BR x33
 (JOIN [7] (fun J11=>
 rF 28 x3 0 w fun x37=>
 rL 24 x37 w fun x38=>
 rX 24 x38 (u7 10) w fun x40=>
 rL 9 x40 w fun x41=>
 cL 211 [x28,x41] w fun x42 w=>
 BR x42
 (rD (Instr.build 146 #[(0,a1),(1,(u7 10)),(3,a2)]) w fun x47=>
 oP (Instr.buildSlice 45 1 #[(0,x47)]) w fun x48 w=>
 oP (Builtin.append_ #[45,45] 45 [(u7 7),x48].toArray) w fun x49 w=>
 J11 [x49] w)
 (J11 [(u7 7)] w)) (fun u11 w=>
 rF 117 x8 0 w fun x50=>
 rL 3 x50 w fun x51=>
 rB .eql 3 T0 U0 x51 (iV 1) w fun x52=>
 BR x52
 (rF 117 x8 1 w fun x54=>
 rL 3 x54 w fun x55=>
 rB .eql 3 T0 T0 x55 (u7 10) w fun x57=>
 BR x57
 (rD (Instr.build 146 #[(0,a1),(1,(u7 10)),(2,(Value.bool true)),(3,a2)]) w fun x63=>
 oP (Instr.buildSlice 45 1 #[(0,x63)]) w fun x64 w=>
 oP (Builtin.append_ #[45,45] 45 [(u11 7),x64].toArray) w fun x65 w=>
 rA (u7 10) (iV 1) w fun x35=>
 next7 [x65,x35] w)
 (rA (u7 10) (iV 1) w fun x35=>
 next7 [(u11 7),x35] w))
 (rA (u7 10) (iV 1) w fun x35=>
 next7 [(u11 7),x35] w)))
 (R (u7 7) w))
def cfg133:Cfg:=⟨extL,[(5,66977856,[]),(11,1125831187366016,[7])],[(7,73786976294301336704,[7,10])],[],[],[],[]⟩
theorem F133_call {a0 a1 a2:Value} {w:World} {R:VW} (h:F133 a0 a1 a2 w R):cL 133 [a0,a1,a2] w R:=co (g:=cfg133) Tryz.func133 (by kernel_rfl) (by kernel_rfl) (by kernel_rfl) h
theorem znH {w:World} {v0:Value} {W0:World} {c:DCode} {a:Int} {held:Int}  (h0:Is W0 v0 c) (e0:Ext W0 w) (hc:CodeR c) (ha:0≤a) (ha2:a<c.ins.length) (hh:I64 held) :
   CALL Tryz.prog 133 [v0,.int .i64 a,.int .i64 held] w fun r w'=>Ext w w'∧(Own w.heap.size w' r (zcj c a held)):=by
 refine F133_call ?_
 unfold F133
 have hil:=hc.f.ins
 have hg6:c.globals.length≤6:=by have h1:=hc.1.1;simp only [Bool.and_eq_true,decide_eq_true_eq] at h1;omega
 have hs_e0:=e0.size
 refine zal zbq rfl h0 e0 fun w1_ hx1_ hA3 hV3=>?_
 have hs_hx1_:=hx1_.size
 refine zaK (α:=DTouch) u45 zdK fun v11 w2_ hx2_ o11=>?_
 have hs_hx2_:=hx2_.size
 refine zaa zba ?_
 refine zab zdN (zaq hA3) hx2_ fun v13 h13=>?_
 refine zat u26 zbS h13 (by omega) (by omega) fun b15 o15 h15=>?_
 rw [zaO] at h15
 obtain ⟨i,hi⟩:∃ i,i=zbo c a.toNat:=⟨_,rfl⟩
 rw [←hi] at h15
 refine zab zbS h15 hx2_ fun v16 h16=>?_
 refine zeY zl5 rfl zbS rfl h16 hx2_ fun w3_ hx3_ hA8 hV8=>?_
 have hs_hx3_:=hx3_.size
 have hg8:=hV8.lt
 refine JOIN.mk (fun us w'=>us=[]∧Ext w3_ w'∧(i.op=1∨i.op=2)) ?_ ?_
 · refine zaa za5 ?_
   refine zac ty3 (zaG hA8) (Ext.refl w3_) fun hI18=>?_
   refine zaM ?_
   refine br (fun c1=>?_) (fun c1=>?_)
   · refine zaa za5 ?_
     refine zac ty3 (zaG hA8) (Ext.refl w3_) fun hI22=>?_
     refine zaM ?_
     refine br (fun c2=>?_) (fun c2=>?_)
     · refine ⟨(hx1_.trans (hx2_.trans hx3_)),?_⟩
       unfold zcj
       rw [←hi,if_neg (by omega)]
       exact (o11.ext hx3_).own.own.mono (by omega)
     refine ⟨by simp,Ext.refl w3_,?_⟩
     omega
   refine ⟨by simp,Ext.refl w3_,?_⟩
   omega
 rintro uj5 w4_ ⟨hu,hx4_,hop⟩
 have hs_hx4_:=hx4_.size
 simp only [List.map_cons,List.map_nil,List.cons.injEq,and_true] at hu
 clear hu
 refine zaa zcI ?_
 refine zab zcs (zbG hA8) hx4_ fun v27 h27=>?_
 refine (zc7 h27 hx4_).mono ?_
 rintro r28 w5_ ⟨hx5_,h28⟩
 have hs_hx5_:=hx5_.size
 refine zaE (c.globals.length) (fun k us w'=>∃ v:Value,us=[v,.int .i64 (k:Int)]∧Ext w5_ w'∧(RowI w5_.heap.size w'.heap.size 146 w' v (zcb c a held i k))) (0) (by omega) ⟨_,rfl,Ext.refl w5_,zcg _ _ _ _ _⟩ ?_
 rintro k m7 uu7 w6_ hk7 ⟨v7,hu,hx6_,hrow⟩
 have hs_hx6_:=hx6_.size
 obtain ⟨hu0,hu1⟩:=zfZ hu;clear hu
 try rw [hu0]
 try rw [hu1]
 try clear hu0 hu1
 have hrl:=zeO c a held i k
 refine zaa zcQ ?_
 refine zab zcP (zaW hA3) (hx2_.trans (hx3_.trans (hx4_.trans (hx5_.trans hx6_)))) fun v31 h31=>?_
 have hln32:=zaf h31
 refine zae u24 h31 ?_
 refine zai ?_
 refine br (fun c3=>?_) (fun c3=>?_)
 · refine JOIN.mk (fun us w'=>∃ v:Value,us=[v]∧Ext w5_ w'∧(RowI w5_.heap.size w'.heap.size 146 w' v (zcb c a held i k++(if c.globals.getD k ByteArray.empty∈zbe i.term then [⟨a,k,false,held⟩] else [])))) ?_ ?_
   · refine zaa zcQ ?_
     refine zab zcP (zaW hA3) (hx2_.trans (hx3_.trans (hx4_.trans (hx5_.trans hx6_)))) fun v38 h38=>?_
     refine zad u24 ty9 h38 (by omega) fun b40 o40 h40=>?_
     refine zao ty9 h40 (hx2_.trans (hx3_.trans (hx4_.trans (hx5_.trans hx6_)))) fun hS41=>?_
     have hgk:c.globals[k]'(by omega)=c.globals.getD k ByteArray.empty:=by rw [List.getD_eq_getElem?_getD,List.getElem?_eq_getElem (by omega)];rfl
     refine (zib h28 hx6_).mono ?_
     rintro _ w8_ ⟨hx8_,rfl⟩
     have hs_hx8_:=hx8_.size
     refine br (fun c4=>?_) (fun c4=>?_)
     · refine zaH (cells:=#[.int .i64 a,.int .i64 (k:Int),.bool false,.int .i64 held]) (by kernel_rfl) ?_
       have o47:OwnI w8_.heap.size w8_.heap.size w8_ (.agg #[.int .i64 a,.int .i64 (k:Int),.bool false,.int .i64 held]) (⟨a,k,false,held⟩:DTouch):=zgF (x:=⟨a,k,false,held⟩) (by show I64 a;unfold I64;omega) (by show I64 (k:Int);unfold I64;omega) hh
       refine zch (α:=DTouch) u45 zdK ztI zqC (by decide) (hrow.ext hx8_) (by omega) (o47.ext (Ext.refl w8_)) (by omega) (by omega) (by rw [zam];omega) (by omega) fun v49 w9_ hc9_ o49=>?_
       have hs_hc9_:=hc9_.size
       have o11_c9:=(o11.ext (hx3_.trans (hx4_.trans (hx5_.trans (hx6_.trans hx8_))))).chg hc9_ (by omega)
       have o47_c9:=(o47.ext (Ext.refl w8_)).chg hc9_ (by omega)
       refine ⟨_,rfl,(Ext.chgI (hx6_.trans hx8_) hc9_ (by omega)),?_⟩
       rw [if_pos (by rw [←hgk];exact c4)];exact o49
     refine ⟨_,rfl,(hx6_.trans hx8_),?_⟩
     rw [if_neg (by rw [←hgk];exact c4),List.append_nil];exact (hrow.ext hx8_).mono (by omega) (by omega)
   rintro uj11 w7_ ⟨v11,hu,hx9_,hrow2⟩
   have hs_hx9_:=hx9_.size
   simp only [List.map_cons,List.map_nil,List.cons.injEq,and_true] at hu
   try rw [hu]
   try clear hu
   refine zaa za5 ?_
   refine zac ty3 (zaG hA8) (hx4_.trans (hx5_.trans hx9_)) fun hI51=>?_
   refine zag ?_
   refine br (fun c5=>?_) (fun c5=>?_)
   · refine zaa zbY ?_
     refine zac ty3 (za4 hA8) (hx4_.trans (hx5_.trans hx9_)) fun hI55=>?_
     refine zag ?_
     refine br (fun c6=>?_) (fun c6=>?_)
     · refine zaH (cells:=#[.int .i64 a,.int .i64 (k:Int),.bool true,.int .i64 held]) (by kernel_rfl) ?_
       have o63:OwnI w7_.heap.size w7_.heap.size w7_ (.agg #[.int .i64 a,.int .i64 (k:Int),.bool true,.int .i64 held]) (⟨a,k,true,held⟩:DTouch):=zgF (x:=⟨a,k,true,held⟩) (by show I64 a;unfold I64;omega) (by show I64 (k:Int);unfold I64;omega) hh
       refine zch (α:=DTouch) u45 zdK ztI zqC (by decide) (hrow2.ext (Ext.refl w7_)) (by omega) (o63.ext (Ext.refl w7_)) (by omega) (by omega) (by rw [zam,List.length_append];split<;>simp<;>omega) (by rw [List.length_append];split<;>simp<;>omega) fun v65 w10_ hc10_ o65=>?_
       have hs_hc10_:=hc10_.size
       have o11_c10:=(o11.ext (hx3_.trans (hx4_.trans (hx5_.trans hx9_)))).chg hc10_ (by omega)
       have o63_c10:=(o63.ext (Ext.refl w7_)).chg hc10_ (by omega)
       refine zah (by omega) ?_
       refine ⟨m7-1,by omega,k+1,by omega,_,rfl,(Ext.chgI hx9_ hc10_ (by omega)),?_⟩
       rw [zcb,if_pos (c:=i.op=1∧i.arg=k) ⟨by omega,by omega⟩];exact o65
     refine zah (by omega) ?_
     refine ⟨m7-1,by omega,k+1,by omega,_,rfl,hx9_,?_⟩
     rw [zcb,if_neg (c:=i.op=1∧i.arg=k) (fun h=>c6 h.2),List.append_nil];exact (hrow2.ext (Ext.refl w7_)).mono (by omega) (by omega)
   refine zah (by omega) ?_
   refine ⟨m7-1,by omega,k+1,by omega,_,rfl,hx9_,?_⟩
   rw [zcb,if_neg (c:=i.op=1∧i.arg=k) (fun h=>c5 h.1),List.append_nil];exact (hrow2.ext (Ext.refl w7_)).mono (by omega) (by omega)
 refine ⟨(hx1_.trans (hx2_.trans (hx3_.trans (hx4_.trans (hx5_.trans hx6_))))),?_⟩
 unfold zcj
 rw [←hi,if_pos hop,←show k=c.globals.length by omega]
 exact hrow.own.own.mono (by omega)
def zek (c:DCode) (a:Int):List DTouch:=if CodeR c∧0≤a∧a<c.ins.length then zcj c a 0 else []
def F20 (a0 a1:Value) (w:World) (R:VW):Prop:=
 oP (Instr.box 28 a0) w fun x2 w=>
 rL 28 x2 w fun x5=>
 cL 72 [x5,a1] w fun x7 w=>
 rD (Op.unary .not x7) w fun x8=>
 BR x8
 (R (Value.slice none 0 0) w)
 (rL 28 x2 w fun x10=>
 cL 73 [x10] w fun x11 w=>
 rD (Op.unary .not x11) w fun x12=>
 BR x12
 (R (Value.slice none 0 0) w)
 (rL 28 x2 w fun x14=>
 cL 74 [x14,a1,(iV 0)] w fun x16 w=>
 R x16 w))
def cfg20:Cfg:=⟨extL,[],[],[],[],[],[]⟩
theorem F20_call {a0 a1:Value} {w:World} {R:VW} (h:F20 a0 a1 w R):cL 20 [a0,a1] w R:=co (g:=cfg20) Tryz.func20 (by kernel_rfl) (by kernel_rfl) (by kernel_rfl) h
theorem zeT {w:World} {v0:Value} {W0:World} {c:DCode} {a:Int}  (h0:Is W0 v0 c) (e0:Ext W0 w)  :
   CALL Tryz.prog 20 [v0,.int .i64 a] w fun r w'=>Ext w w'∧(Own w.heap.size w' r (zek c a)):=by
 refine F20_call ?_
 unfold F20
 have hs_e0:=e0.size
 refine zal zbq rfl h0 e0 fun w1_ hx1_ hA2 hV2=>?_
 have hs_hx1_:=hx1_.size
 refine zan hV2 (Ext.refl w1_) ?_
 refine (zdv h0 (e0.trans hx1_)).mono ?_
 rintro _ w2_ ⟨hx2_,rfl⟩
 have hs_hx2_:=hx2_.size
 refine zas ?_
 refine br (fun c1=>?_) (fun c1=>?_)
 · refine ⟨(hx1_.trans hx2_),?_⟩
   unfold zek;rw [if_neg (fun h=>c1 h.2)];exact zfD rfl
 refine zan hV2 hx2_ ?_
 refine (zgl h0 (e0.trans (hx1_.trans hx2_))).mono ?_
 rintro _ w3_ ⟨hx3_,rfl⟩
 have hs_hx3_:=hx3_.size
 refine zas ?_
 refine br (fun c2=>?_) (fun c2=>?_)
 · refine ⟨(hx1_.trans (hx2_.trans hx3_)),?_⟩
   unfold zek;rw [if_neg (fun h=>c2 h.1)];exact zfD rfl
 refine zan hV2 (hx2_.trans hx3_) ?_
 refine (zhy h0 (e0.trans (hx1_.trans (hx2_.trans hx3_))) (Decidable.not_not.1 c2) (by omega) (by omega) (by unfold I64;omega)).mono ?_
 rintro r16 w4_ ⟨hx4_,o16⟩
 have o16:=o16.toI
 have hs_hx4_:=hx4_.size
 refine ⟨(hx1_.trans (hx2_.trans (hx3_.trans hx4_))),?_⟩
 unfold zek;rw [if_pos ⟨Decidable.not_not.1 c2,Decidable.not_not.1 c1⟩];exact o16.own.mono (by omega)
def F125 (a0 a1:Value) (w:World) (R:VW):Prop:=
 oP (Instr.box 146 a0) w fun x2 w=>
 oP (Instr.box 146 a1) w fun x3 w=>
 oP (Instr.alloc 43 true (.tuple #[])) w fun x4 w=>
 rF 146 x2 1 w fun x5=>
 rL 3 x5 w fun x6=>
 rF 146 x2 0 w fun x7=>
 rL 3 x7 w fun x8=>
 rF 146 x3 0 w fun x9=>
 rL 3 x9 w fun x10=>
 rD (Builtin.min_ #[3,3] 3 [x8,x10].toArray) w fun x11=>
 rF 146 x2 0 w fun x12=>
 rL 3 x12 w fun x13=>
 rF 146 x3 0 w fun x14=>
 rL 3 x14 w fun x15=>
 rD (Builtin.max_ #[3,3] 3 [x13,x15].toArray) w fun x16=>
 rD (Instr.build 43 #[(0,x6),(1,x11),(2,x16)]) w fun x17=>
 oS 43 x4 x17 w fun w=>
 rD (zar 43 x4) w fun r4=>R r4 w
def cfg125:Cfg:=⟨extL,[],[],[],[],[],[]⟩
theorem F125_call {a0 a1:Value} {w:World} {R:VW} (h:F125 a0 a1 w R):cL 125 [a0,a1] w R:=co (g:=cfg125) Tryz.func125 (by kernel_rfl) (by kernel_rfl) (by kernel_rfl) h
def F199 (a0:Value) (w:World) (R:VW):Prop:=
 rB .geq 3 T0 U0 a0 (iV 0) w fun x4=>
 BR x4
 (rB .leq 3 T0 U0 a0 (iV 63) w fun x7=>
 R x7 w)
 (R (Value.bool false) w)
def cfg199:Cfg:=⟨extL,[],[],[],[],[],[]⟩
theorem F199_call {a0:Value} {w:World} {R:VW} (h:F199 a0 w R):cL 199 [a0] w R:=co (g:=cfg199) Tryz.func199 (by kernel_rfl) (by kernel_rfl) (by kernel_rfl) h
theorem znI {w:World} {n:Int}    :
   CALL Tryz.prog 199 [.int .i64 n] w fun r w'=>Ext w w'∧(r=.bool (decide (0≤n∧n≤63))):=by
 refine F199_call ?_
 unfold F199
 refine zb1 ?_
 refine br (fun c1=>?_) (fun c1=>?_)
 · refine zcO ?_
   refine ⟨Ext.refl w,?_⟩
   simp [c1]
 refine ⟨Ext.refl w,?_⟩
 simp [c1]
def zdV (a b:DTouch):Prop:=a.global=b.global∧(a.write=true∨b.write=true)∧(0≤a.held∧a.held≤63)∧(0≤b.held∧b.held≤63)∧a.held.toNat &&& b.held.toNat=0
instance (a b:DTouch):Decidable (zdV a b):=by unfold zdV;infer_instance
def F124 (a0 a1:Value) (w:World) (R:VW):Prop:=
 oP (Instr.box 146 a0) w fun x2 w=>
 oP (Instr.box 146 a1) w fun x3 w=>
 JOIN [] (fun J3=>
 rF 146 x2 1 w fun x5=>
 rL 3 x5 w fun x6=>
 rF 146 x3 1 w fun x7=>
 rL 3 x7 w fun x8=>
 rB .neq 3 T0 T0 x6 x8 w fun x9=>
 BR x9
 (R (Value.bool false) w)
 (rF 146 x2 2 w fun x11=>
 rL 4 x11 w fun x12=>
 rD (Op.unary .not x12) w fun x13=>
 GBR x13
 (rF 146 x3 2 w fun x15=>
 rL 4 x15 w fun x16=>
 rD (Op.unary .not x16) w fun x17=>
 BR x17
 (R (Value.bool false) w)
 (J3 [] w))
 (J3 [] w)
 (BR undef
 (BR undef
 (R (Value.bool false) w)
 (J3 [] w))
 (J3 [] w)))) (fun u3 w=>
 rF 146 x2 3 w fun x20=>
 rL 3 x20 w fun x21=>
 cL 199 [x21] w fun x22 w=>
 BR x22
 (rF 146 x3 3 w fun x24=>
 rL 3 x24 w fun x25=>
 cL 199 [x25] w fun x26 w=>
 BR x26
 (rF 146 x2 3 w fun x29=>
 rL 3 x29 w fun x30=>
 rF 146 x3 3 w fun x31=>
 rL 3 x31 w fun x32=>
 rB .and 3 T0 T0 x30 x32 w fun x33=>
 rB .eql 3 T0 U0 x33 (iV 0) w fun x34=>
 R x34 w)
 (R (Value.bool false) w))
 (R (Value.bool false) w))
def cfg124:Cfg:=⟨extL,[(3,1048560,[])],[],[],[],[],[]⟩
theorem F124_call {a0 a1:Value} {w:World} {R:VW} (h:F124 a0 a1 w R):cL 124 [a0,a1] w R:=co (g:=cfg124) Tryz.func124 (by kernel_rfl) (by kernel_rfl) (by kernel_rfl) h
theorem zq7 {w:World} {v0:Value} {W0:World} {a:DTouch} {v1:Value} {W1:World} {b:DTouch}  (h0:Is W0 v0 a) (e0:Ext W0 w) (h1:Is W1 v1 b) (e1:Ext W1 w)  :
   CALL Tryz.prog 124 [v0,v1] w fun r w'=>Ext w w'∧(r=.bool (decide (zdV a b))):=by
 refine F124_call ?_
 unfold F124
 refine zal zdK rfl h0 e0 fun w1_ hx1_ hA2 hV2=>?_
 refine zal zdK rfl h1 (e1.trans hx1_) fun w2_ hx2_ hA3 hV3=>?_
 refine JOIN.mk (fun us w'=>us=[]∧Ext w2_ w'∧(a.global=b.global∧(a.write=true∨b.write=true))) ?_ ?_
 · refine zaa zgN ?_
   refine zac ty3 (zcX hA2) hx2_ fun hI6=>?_
   refine zaa zgN ?_
   refine zac ty3 (zcX hA3) (Ext.refl w2_) fun hI8=>?_
   refine zaM ?_
   refine br (fun c1=>?_) (fun c1=>?_)
   · refine ⟨(hx1_.trans hx2_),?_⟩
     have:¬zdV a b:=fun h=>c1 h.1
     simp only [this,decide_false]
   refine zaa zjN ?_
   refine zhB ty4 (zeu hA2) hx2_ ?_
   refine zbs ?_
   refine zqt (fun c2=>?_) (fun c2=>?_)
   · refine zaa zjN ?_
     refine zhB ty4 (zeu hA3) (Ext.refl w2_) ?_
     refine zbs ?_
     refine zcM (fun c3=>?_) (fun c3=>?_)
     · refine ⟨(hx1_.trans hx2_),?_⟩
       have:¬zdV a b:=fun h=>by rcases h.2.1 with h | h<;>simp_all
       simp only [this,decide_false]
     refine ⟨by simp,Ext.refl w2_,?_⟩
     exact ⟨by omega,.inr (by simpa using c3)⟩
   refine ⟨by simp,Ext.refl w2_,?_⟩
   exact ⟨by omega,.inl (by simpa using c2)⟩
 rintro uj3 w3_ ⟨hu,hx3_,hgl,hwr⟩
 simp only [List.map_cons,List.map_nil,List.cons.injEq,and_true] at hu
 clear hu
 refine zaa zjO ?_
 refine zac ty3 (zev hA2) (hx2_.trans hx3_) fun hI21=>?_
 refine (znI ).mono ?_
 rintro _ w4_ ⟨hx4_,rfl⟩
 refine br (fun c4=>?_) (fun c4=>?_)
 · refine zaa zjO ?_
   refine zac ty3 (zev hA3) (hx3_.trans hx4_) fun hI25=>?_
   refine (znI ).mono ?_
   rintro _ w5_ ⟨hx5_,rfl⟩
   refine br (fun c5=>?_) (fun c5=>?_)
   · refine zaa zjO ?_
     refine zac ty3 (zev hA2) (hx2_.trans (hx3_.trans (hx4_.trans hx5_))) fun hI30=>?_
     refine zaa zjO ?_
     refine zac ty3 (zev hA3) (hx3_.trans (hx4_.trans hx5_)) fun hI32=>?_
     obtain ⟨m,hm⟩:=Int.eq_ofNat_of_zero_le c4.1
     obtain ⟨n,hn⟩:=Int.eq_ofNat_of_zero_le c5.1
     rw [hm,hn]
     refine zpV (by omega) (by omega) ?_
     refine zag ?_
     refine ⟨(hx1_.trans (hx2_.trans (hx3_.trans (hx4_.trans hx5_)))),?_⟩
     have:zdV a b↔m &&& n=0:=by
       have e1:a.held.toNat=m:=by omega
       have e2:b.held.toNat=n:=by omega
       unfold zdV
       rw [e1,e2]
       exact ⟨fun h=>h.2.2.2.2,fun h=>⟨hgl,hwr,c4,c5,h⟩⟩
     congr 1
     rw [decide_eq_decide,this]
     omega
   refine ⟨(hx1_.trans (hx2_.trans (hx3_.trans (hx4_.trans hx5_)))),?_⟩
   have:¬zdV a b:=fun h=>c5 h.2.2.2.1
   simp only [this,decide_false]
 refine ⟨(hx1_.trans (hx2_.trans (hx3_.trans hx4_))),?_⟩
 have:¬zdV a b:=fun h=>c4 h.2.2.1
 simp only [this,decide_false]
def zdW (a b:DTouch):DRace:=⟨a.global,min a.at_ b.at_,max a.at_ b.at_⟩
theorem zp5 {w W0 W1:World} {v0 v1:Value} {a b:DTouch} (h0:Is W0 v0 a) (e0:Ext W0 w) (h1:Is W1 v1 b) (e1:Ext W1 w) :
   CALL Tryz.prog 125 [v0,v1] w fun r w'=>Ext w w'∧∀ lo hi,OwnI lo hi w' r (zdW a b):=by
 refine F125_call ?_
 unfold F125
 refine zcG h0 e0 fun w1 hx1 hA=>?_
 refine zcG h1 (e1.trans hx1) fun w2 hx2 hB=>?_
 refine zdz (α:=DRace) ztS fun w3 hx3 hv=>?_
 have hs1:=hx1.size
 have hs2:=hx2.size
 have hs3:=hx3.size
 have hx23:=hx2.trans hx3
 refine zaa zgN ?_
 refine zac ty3 (zcX hA) hx23 fun hI6=>?_
 refine zaa zjM ?_
 refine zac ty3 (zet hA) hx23 fun hI8=>?_
 refine zaa zjM ?_
 refine zac ty3 (zet hB) hx3 fun hI10=>?_
 refine ztm ?_
 refine zaa zjM ?_
 refine zac ty3 (zet hA) hx23 fun _=>?_
 refine zaa zjM ?_
 refine zac ty3 (zet hB) hx3 fun _=>?_
 refine zrt ?_
 have hm:∀ (w:World) lo hi,OwnI lo hi w (.agg #[.int .i64 a.global,.int .i64 (min a.at_ b.at_),.int .i64 (max a.at_ b.at_)]) (zdW a b):=fun w lo hi=>⟨[],zkQ (x:=zdW a b) hI6 (by unfold I64 zdW at *;simp only;omega) (by unfold I64 zdW at *;simp only;omega),by simp⟩
 refine zaH (cells:=#[.int .i64 a.global,.int .i64 (min a.at_ b.at_),.int .i64 (max a.at_ b.at_)]) (by kernel_rfl) ?_
 have hg:=hv.lt
 refine za9 (lo:=w3.heap.size) (hi:=w3.heap.size) zdd hv (hm w3 _ _) (by omega) fun w4 hc4 hv4=>?_
 have hs4:=hc4.size
 refine zbX zdd hv4 (Ext.refl _) fun r hr=>?_
 refine ⟨Ext.chgI (hx1.trans hx23) hc4 (by omega),fun lo hi=>?_⟩
 obtain ⟨F,hM,_⟩:=hr
 obtain ⟨cs,h,_⟩:=hM.own
 have hF:=Flat.flat h
 subst hF
 exact ⟨[],hM,by simp⟩
instance (x y:DRace):Decidable (ltR x y):=by unfold ltR;infer_instance
def F19 (a0 a1:Value) (w:World) (R:VW):Prop:=
 oP (Instr.box 43 a0) w fun x2 w=>
 oP (Instr.box 43 a1) w fun x3 w=>
 rF 43 x2 0 w fun x5=>
 rL 3 x5 w fun x6=>
 rF 43 x3 0 w fun x7=>
 rL 3 x7 w fun x8=>
 rB .neq 3 T0 T0 x6 x8 w fun x9=>
 BR x9
 (rF 43 x2 0 w fun x10=>
 rL 3 x10 w fun x11=>
 rF 43 x3 0 w fun x12=>
 rL 3 x12 w fun x13=>
 rC x11 x13 w fun x14=>
 R x14 w)
 (rF 43 x2 1 w fun x15=>
 rL 3 x15 w fun x16=>
 rF 43 x3 1 w fun x17=>
 rL 3 x17 w fun x18=>
 rB .neq 3 T0 T0 x16 x18 w fun x19=>
 BR x19
 (rF 43 x2 1 w fun x20=>
 rL 3 x20 w fun x21=>
 rF 43 x3 1 w fun x22=>
 rL 3 x22 w fun x23=>
 rC x21 x23 w fun x24=>
 R x24 w)
 (rF 43 x2 2 w fun x25=>
 rL 3 x25 w fun x26=>
 rF 43 x3 2 w fun x27=>
 rL 3 x27 w fun x28=>
 rC x26 x28 w fun x29=>
 R x29 w))
def cfg19:Cfg:=⟨extL,[],[],[],[],[],[]⟩
theorem F19_call {a0 a1:Value} {w:World} {R:VW} (h:F19 a0 a1 w R):cL 19 [a0,a1] w R:=co (g:=cfg19) Tryz.func19 (by kernel_rfl) (by kernel_rfl) (by kernel_rfl) h
theorem ziO {w:World} {v0:Value} {W0:World} {x:DRace} {v1:Value} {W1:World} {y:DRace}  (h0:Is W0 v0 x) (e0:Ext W0 w) (h1:Is W1 v1 y) (e1:Ext W1 w)  :
   CALL Tryz.prog 19 [v0,v1] w fun r w'=>Ext w w'∧(r=.bool (decide (ltR x y))):=by
 refine F19_call ?_
 unfold F19
 refine zal zdd rfl h0 e0 fun w1_ hx1_ hA2 hV2=>?_
 refine zal zdd rfl h1 (e1.trans hx1_) fun w2_ hx2_ hA3 hV3=>?_
 refine zaa zi7 ?_
 refine zac ty3 (zfj hA2) hx2_ fun hI6=>?_
 refine zaa zi7 ?_
 refine zac ty3 (zfj hA3) (Ext.refl w2_) fun hI8=>?_
 refine zaM ?_
 refine br (fun c1=>?_) (fun c1=>?_)
 · refine zaa zi7 ?_
   refine zac ty3 (zfj hA2) hx2_ fun hI11=>?_
   refine zaa zi7 ?_
   refine zac ty3 (zfj hA3) (Ext.refl w2_) fun hI13=>?_
   refine zai ?_
   refine ⟨(hx1_.trans hx2_),?_⟩
   congr 1
   rw [decide_eq_decide]
   unfold ltR
   omega
 refine zaa zfy ?_
 refine zac ty3 (zcW hA2) hx2_ fun hI16=>?_
 refine zaa zfy ?_
 refine zac ty3 (zcW hA3) (Ext.refl w2_) fun hI18=>?_
 refine zaM ?_
 refine br (fun c2=>?_) (fun c2=>?_)
 · refine zaa zfy ?_
   refine zac ty3 (zcW hA2) hx2_ fun hI21=>?_
   refine zaa zfy ?_
   refine zac ty3 (zcW hA3) (Ext.refl w2_) fun hI23=>?_
   refine zai ?_
   refine ⟨(hx1_.trans hx2_),?_⟩
   congr 1
   rw [decide_eq_decide]
   unfold ltR
   omega
 refine zaa zi8 ?_
 refine zac ty3 (zgL hA2) hx2_ fun hI26=>?_
 refine zaa zi8 ?_
 refine zac ty3 (zgL hA3) (Ext.refl w2_) fun hI28=>?_
 refine zai ?_
 refine ⟨(hx1_.trans hx2_),?_⟩
 congr 1
 rw [decide_eq_decide]
 unfold ltR
 omega
theorem zfv (x:DRace):¬ltR x x:=by unfold ltR;omega
theorem zgG {x y z:DRace} (h:ltR x y) (k:ltR y z):ltR x z:=by unfold ltR at *;omega
theorem ziP {x y:DRace} (h:¬ltR x y) (k:¬ltR y x):x=y:=by
 unfold ltR at *
 exact DRace.ext_iff.2 ⟨by omega,by omega,by omega⟩
def zi0 (r:DRace):List DRace→List DRace
 | []=>[r]
 | x :: l=>if ltR x r then x :: zi0 r l else if x=r then x :: l else r :: x :: l
def ahd (r:DRace):List DRace→Nat
 | []=>0
 | x :: l=>if ltR x r then ahd r l+1 else 0
theorem znJ (r:DRace):∀ l,zi0 r l=if h:ahd r l<l.length then (if l[ahd r l]=r then l else l.take (ahd r l)++(r :: l.drop (ahd r l))) else l++[r]
 | []=>rfl
 | x :: l=>by
   rw [zi0]
   by_cases h:ltR x r
   · have e:ahd r (x :: l)=ahd r l+1:=by rw [ahd,if_pos h]
     rw [if_pos h,znJ r l]
     by_cases h2:ahd r l<l.length
     · rw [dif_pos h2,dif_pos (by rw [e];simpa using h2)]
       have e2:(x :: l)[ahd r (x :: l)]'(by rw [e];simpa using h2)=l[ahd r l]:=by simp [e]
       rw [e2]
       split
       · rfl
       simp [e]
     rw [dif_neg h2,dif_neg (by rw [e];simpa using h2)];rfl
   have e:ahd r (x :: l)=0:=by rw [ahd,if_neg h]
   rw [if_neg h,dif_pos (by rw [e];simp)]
   have e2:(x :: l)[ahd r (x :: l)]'(by rw [e];simp)=x:=by simp [e]
   rw [e2]
   split
   · rfl
   simp [e]
theorem zp6 {r:DRace}:∀ {l:List DRace} {k:Nat} (hk:k≤l.length),(∀ j (h:j<k),ltR (l[j]'(by omega)) r)→(∀ h:k<l.length,¬ltR l[k] r)→ahd r l=k
 | [],0,_,_,_=>rfl
 | x :: l,0,_,_,h=>by
   have h':¬ltR x r:=h (by simp)
   rw [ahd,if_neg h']
 | x :: l,k+1,hk,h1,h2=>by
   have e:ltR x r:=h1 0 (by omega)
   rw [ahd,if_pos e,zp6 (k:=k) (by simpa using hk) (fun j hj=>h1 (j+1) (by omega)) fun h=>h2 (by simpa using h)]
theorem zky {r x:DRace}:∀ {l:List DRace},x∈zi0 r l↔x=r∨x∈l
 | []=>by simp [zi0]
 | y :: l=>by
   rw [zi0]
   split
   · rw [List.mem_cons,zky,List.mem_cons];exact ⟨fun h=>by rcases h with h | h | h<;>simp [h],fun h=>by rcases h with h | h | h<;>simp [h]⟩
   split
   · rename_i h;subst h;simp
   simp
theorem ziQ {r:DRace}:∀ {l:List DRace},l.Pairwise ltR→(zi0 r l).Pairwise ltR
 | [],_=>by simp [zi0]
 | y :: l,h=>by
   rw [List.pairwise_cons] at h
   rw [zi0]
   split
   · rename_i hy
     refine List.pairwise_cons.2 ⟨fun z hz=>?_,ziQ h.2⟩
     rcases zky.1 hz with rfl | hz
     · exact hy
     exact h.1 z hz
   rename_i hy
   split
   · exact List.pairwise_cons.2 h
   rename_i hne
   have hry:ltR r y:=Decidable.byContradiction fun hc=>hne (ziP hy hc)
   refine List.pairwise_cons.2 ⟨fun z hz=>?_,List.pairwise_cons.2 h⟩
   rcases List.mem_cons.1 hz with rfl | hz
   · exact hry
   exact zgG hry (h.1 z hz)
theorem zhi:∀ {l m:List DRace},l.Pairwise ltR→m.Pairwise ltR→(∀ x,x∈l↔x∈m)→l=m
 | [],[],_,_,_=>rfl
 | [],y :: m,_,_,h=>by have:=(h y).2 (by simp);cases this
 | x :: l,[],_,_,h=>by have:=(h x).1 (by simp);cases this
 | x :: l,y :: m,h1,h2,h=>by
   rw [List.pairwise_cons] at h1 h2
   have hxy:x=y:=by
     rcases List.mem_cons.1 ((h x).1 (by simp)) with e | hm
     · exact e
     rcases List.mem_cons.1 ((h y).2 (by simp)) with e | hl
     · exact e.symm
     exact absurd (zgG (h1.1 y hl) (h2.1 x hm)) (zfv x)
   subst hxy
   congr 1
   refine zhi h1.2 h2.2 fun z=>⟨fun hz=>?_,fun hz=>?_⟩
   · rcases List.mem_cons.1 ((h z).1 (by simp [hz])) with rfl | h'
     · exact absurd (h1.1 z hz) (zfv z)
     exact h'
   rcases List.mem_cons.1 ((h z).2 (by simp [hz])) with rfl | h'
   · exact absurd (h2.1 z hz) (zfv z)
   exact h'
end Go.Proofs.YtdmailcgaekimaaGreat
namespace Go.Proofs.YtdmailcgaekimaaGreat
open Go Go.Sh Go.Proofs Go.Sort
open Rep (rep)
instance:Inhabited DRace:=⟨⟨0,0,0⟩⟩
def zs4 (x:DRace):List Value:=[.int .i64 x.g,.int .i64 x.a,.int .i64 x.b]
theorem zq8:∀ {F:List Nat} {w:World} {cs:List Value} {x:DRace},Rep.rep F w cs x→cs=zs4 x:=by
 intro F w cs x h
 obtain ⟨F1,F2,c1,c2,rfl,rfl,⟨rfl,rfl,_⟩,⟨F3,F4,c3,c4,rfl,rfl,⟨rfl,rfl,_⟩,⟨rfl,rfl,_⟩⟩⟩:=h
 rfl
theorem zdI {x y:DRace}:ltOf zqR x y=decide (ltR x y):=by
 unfold ltOf
 rw [decide_eq_decide]
 exact zsl
theorem zsG:SWO (ltOf zqR):=by
 refine ⟨fun x=>?_,fun x y z h k=>?_,fun x y z h k=>?_⟩
 · rw [zdI,decide_eq_false_iff_not];exact zfv x
 · rw [zdI,decide_eq_true_eq] at *;exact zgG h k
 rw [zdI,decide_eq_false_iff_not] at *
 intro hc
 unfold ltR at *
 omega
def srt (l:List DRace):List DRace:=l.mergeSort fun x y=>!(ltOf zqR) y x
theorem znK (l:List DRace):(srt l).Perm l:=List.mergeSort_perm l _
theorem zp7 (l:List DRace):(srt l).length=l.length:=(znK l).length_eq
theorem ztC (l:List DRace):(srt l).Pairwise fun x y=>¬ltR y x:=by
 have:=List.pairwise_mergeSort (le:=fun x y=>!(ltOf zqR) y x) (fun a b c h1 h2=>by
   simp only [zdI,Bool.not_eq_true',decide_eq_false_iff_not] at *
   unfold ltR at *;omega) (fun a b=>by
   simp only [zdI,Bool.or_eq_true,Bool.not_eq_true',decide_eq_false_iff_not]
   unfold ltR;omega) l
 exact this.imp fun h=>by simpa [zdI] using h
theorem zq9 {w:World} {lo hi:Nat} {v:Value} {l:List DRace} (h:OwnI lo hi w v l) (hn:l.length≤1073741824) :
   CALL Tryz.prog 201 [v,.func (.func 202) #[] #[]] w fun r w'=>ChgI lo hi w w'∧OwnI lo hi w' v (srt l):=by
 obtain ⟨F,hM,hF⟩:=h
 by_cases hne:l=[]
 · subst hne
   obtain ⟨a,cap,hv⟩:∃ a cap,v=.slice a 0 cap:=by
     obtain ⟨cs,⟨a,cap,G,xs,h,_⟩,hv⟩:=hM.own
     exact ⟨a,cap,by rw [hv,h];rfl⟩
   subst hv
   refine ⟨(AnyF.slices_SortFunc_none Tryz.sortRace a cap _ w).mono ?_⟩
   rintro e w' ⟨he,rfl⟩
   refine ⟨_,he,ChgI.refl _,F,?_,hF⟩
   have:srt []=[]:=List.eq_nil_of_length_eq_zero (by rw [zp7];rfl)
   rw [this];exact hM
 obtain ⟨b,o,cap,xs,rfl,rfl,h1,h2,hcc,hrr,hww⟩:=zc5 hM hne
 have henc:=@zq8
 have hk:∀ x,(zs4 x).length=Rep.size DRace:=fun _=>rfl
 obtain ⟨c,e,hbe⟩:=hww
 have hb:b<w.heap.size:=(Array.getElem?_eq_some_iff.1 hbe).1
 have hcmp:CmpLays Tryz.prog 202 #[] zs4 3 zqR b o l.toArray.size w:=fun m os dk _ x y=>by
   have:=ziw (w:=sortWorldK zs4 3 w b o m dk os) (x:=x) (y:=y)
   obtain ⟨h⟩:=this
   refine h.mono ?_
   rintro e w' ⟨v,he,hv,q,os',hw'⟩
   exact ⟨by rw [he,hv],q,os',hw'⟩
 refine ⟨(AnyQ.slices_SortFunc_total Tryz.sortRace 3 Tryz.isAgg43 Tryz.sizeOf43 zs4 (fun _=>rfl) (fun x v hv=>by
     simp only [zs4,List.mem_cons,List.not_mem_nil,or_false] at hv
     rcases hv with rfl | rfl | rfl<;>rfl) zqR zsG 202 #[] b o cap l.toArray w (zhn (ent 202 (by decide) (by kernel_rfl))) hcmp (zll henc hk ⟨c,e,hbe⟩ hcc hrr) hb (by simp;omega) (fun x y h k=>by
     rw [zdI,decide_eq_false_iff_not] at *;exact ziP h k)).mono ?_⟩
 rintro ex w' ⟨he,n,os,hw'⟩
 have hs:=zmq henc hk (cap:=cap) hw' ⟨c,e,hbe⟩ hcc hrr h1 h2 (by simp) (fun x hx=>by simpa [List.mem_mergeSort] using hx)
 refine ⟨_,he,?_,[b],?_,hF⟩
 · exact hs.1.toI (fun i hi=>hF i hi)
 exact hs.2
def F134 (a0 a1:Value) (w:World) (R:VW):Prop:=
 oP (Instr.box 43 a1) w fun x3 w=>
 JOIN [5] (fun J4=>
 LOOPI [5] [(iV 0)] w fun u2 w next2=>
 (fun w=>rN 40 3 a0 w fun x9=>
 rC (u2 5) x9 w fun x10=>
 BR x10
 (rX 40 a0 (u2 5) w fun x14=>
 rL 43 x14 w fun x15=>
 rL 43 x3 w fun x16=>
 cL 19 [x15,x16] w fun x17 w=>
 BR x17
 (rA (u2 5) (iV 1) w fun x20=>
 next2 [x20] w)
 (J4 [(u2 5)] w))
 (J4 [(u2 5)] w)) (World.drew1 w)) (fun u4 w=>
 JOIN [] (fun J6=>
 (fun w=>rN 40 3 a0 w fun x23=>
 rC (u4 5) x23 w fun x24=>
 BR x24
 (rX 40 a0 (u4 5) w fun x28=>
 rL 43 x28 w fun x29=>
 rL 43 x3 w fun x30=>
 rB .eql 43 T0 T0 x29 x30 w fun x31=>
 BR x31
 (R a0 w)
 (J6 [] w))
 (J6 [] w)) (World.drew1 w)) (fun u6 w=>
 oP (Instr.buildSlice 40 0 #[]) w fun x34 w=>
 rD (Instr.sliceAt 40 a0 none (some (u4 5)) none) w fun x37=>
 oP (Builtin.append_ #[40,40] 40 [x34,x37].toArray) w fun x38 w=>
 rL 43 x3 w fun x40=>
 oP (Instr.buildSlice 40 1 #[(0,x40)]) w fun x41 w=>
 oP (Builtin.append_ #[40,40] 40 [x38,x41].toArray) w fun x42 w=>
 rD (Instr.sliceAt 40 a0 (some (u4 5)) none none) w fun x46=>
 oP (Builtin.append_ #[40,40] 40 [x42,x46].toArray) w fun x47 w=>
 R x47 w))
def cfg134:Cfg:=⟨extL,[(4,2097056,[5]),(6,17177772048,[])],[(2,2097056,[5])],[(2,[0,1,2,3,4,5,6,7,8,9,10,11],0),(4,[0,1,2,3,4,5,6,7,8,9,10,11],0)],[],[],[]⟩
theorem F134_call {a0 a1:Value} {w:World} {R:VW} (h:F134 a0 a1 w R):cL 134 [a0,a1] w R:=co (g:=cfg134) Tryz.func134 (by kernel_rfl) (by kernel_rfl) (by kernel_rfl) h
theorem zkz {α:Type} [Rep α] [Flat α] {w:World} {lo hi:Nat} {v:Value} {x:α} (h:Is w v x):OwnI lo hi w v x:=by
 obtain ⟨F,cs,hr,hv⟩:=h
 have hF:=Flat.flat hr
 subst hF
 exact ⟨[],⟨⟨cs,hr,hv⟩,List.nodup_nil,Wr.nil w⟩,by simp⟩
theorem zlF {w W1:World} {lo:Nat} {v v1:Value} {l:List DRace} {x:DRace} (h:OwnI lo w.heap.size w v l) (hlo:lo≤w.heap.size) (h1:Is W1 v1 x) (e1:Ext W1 w) (hn:l.length≤1000000) :
   CALL Tryz.prog 134 [v,v1] w fun r w'=>Ext w w'∧OwnI lo w'.heap.size w' r (zi0 x l):=by
 refine F134_call ?_
 unfold F134
 have hI:=h.is
 refine zcG h1 e1 fun w1 hx1 hA=>?_
 refine JOIN.mk (fun us w'=>∃ k:Nat,us=[.int .i64 (k:Int)]∧Ext w1 w'∧k≤l.length∧ahd x l=k) ?_ ?_
 · refine zaE l.length (fun k us w'=>us=[.int .i64 (k:Int)]∧Ext w1 w'∧k≤l.length∧∀ j (h:j<k) (h2:j<l.length),ltR l[j] x) 0 (Nat.zero_le _) ⟨rfl,Ext.refl w1,Nat.zero_le _,fun j h=>by omega⟩ ?_
   rintro k mk u w2 hkm ⟨hu,hx2,hkl,hlt⟩
   simp only [List.map_cons,List.map_nil,List.cons.injEq,and_true] at hu
   rw [hu]
   have hx3:=zaj w2
   have hx23:=hx2.trans hx3
   generalize World.drew1 w2=w3 at *
   refine zae u40 hI ?_
   refine zai ?_
   refine br (fun hk=>?_) (fun hk=>?_)
   · have hk':k<l.length:=by omega
     refine zad u40 zdd hI hk' fun b1 o1 hA1=>?_
     refine zab zdd hA1 (hx1.trans hx23) fun v15 h15=>?_
     refine zab zdd hA hx23 fun v16 h16=>?_
     refine (ziO h15 (hx1.trans hx23) h16 hx23).mono ?_
     rintro _ w4 ⟨hx4,rfl⟩
     refine zcM (fun hc=>?_) (fun hc=>?_)
     · refine zah (by omega) ?_
       refine ⟨mk-1,by omega,k+1,by omega,rfl,hx23.trans hx4,by omega,fun j hj hj2=>?_⟩
       by_cases hjk:j<k
       · exact hlt j hjk hj2
       have:j=k:=by omega
       subst this
       simpa using hc
     exact ⟨k,rfl,hx23.trans hx4,hkl,zp6 hkl (fun j hj=>hlt j hj (by omega)) fun h=>by simpa using hc⟩
   exact ⟨k,rfl,hx23,hkl,zp6 hkl (fun j hj=>hlt j hj (by omega)) fun h=>by omega⟩
 rintro u w2 ⟨k,hu,hx2,hkl,hak⟩
 simp only [List.map_cons,List.map_nil,List.cons.injEq,and_true] at hu
 rw [hu]
 have hput:=znJ x l
 rw [hak] at hput
 refine JOIN.mk (fun us w'=>Ext w1 w'∧zi0 x l=l.take k++(x :: l.drop k)) ?_ ?_
 · have hx3:=zaj w2
   have hx23:=hx2.trans hx3
   generalize World.drew1 w2=w3 at *
   refine zae u40 hI ?_
   refine zai ?_
   refine br (fun hk=>?_) (fun hk=>?_)
   · have hk':k<l.length:=by omega
     rw [dif_pos hk'] at hput
     refine zad u40 zdd hI hk' fun b1 o1 hA1=>?_
     refine zab zdd hA1 (hx1.trans hx23) fun v15 h15=>?_
     refine zab zdd hA hx23 fun v16 h16=>?_
     refine ziA h15 h16 ?_
     refine br (fun hc=>?_) (fun hc=>?_)
     · rw [if_pos hc] at hput
       have hx:=hx1.trans hx23
       exact ⟨hx,by rw [hput];exact (h.ext hx).mono (Nat.le_refl _) hx.size⟩
     rw [if_neg hc] at hput
     exact ⟨hx23,hput⟩
   have hk':k=l.length:=by omega
   subst hk'
   rw [dif_neg (by omega)] at hput
   exact ⟨hx23,by rw [hput];simp⟩
 rintro u6 w3 ⟨hx3,hpe⟩
 rw [hpe]
 have hx03:=hx1.trans hx3
 have hs03:=hx03.size
 refine zaK (α:=DRace) u40 zdd fun a w4 hx4 hr4=>?_
 have hs4:=hx4.size
 refine zh7 (i:=(k:Int)) u40 zdd hI (by omega) (by omega) fun v37 h37=>?_
 refine zd8 u40 zdd ztf hr4 (Nat.le_refl _) h37 (hx03.trans hx4) (by simp [maxLen];omega) (by simp;omega) fun v38 w5 hc5 hr5=>?_
 have hs5:=hc5.size
 have hx5:=(Ext.refl w4).chgI hc5 (Nat.le_refl _)
 refine zab zdd hA (hx3.trans (hx4.trans hx5)) fun v40 h40=>?_
 refine zch (lo2:=w5.heap.size) (hi2:=w5.heap.size) u40 zdd z43 ztf (by decide) hr5 (by omega) (zkz (h40.ext (hx3.trans (hx4.trans hx5)))) (Nat.le_refl _) (by omega) (by simp [maxLen];omega) (by simp;omega) fun v42 w6 hc6 hr6=>?_
 have hs6:=hc6.size
 refine zf8 (i:=(k:Int)) u40 zdd hI (by omega) (by omega) fun v46 h46=>?_
 have hx6:Ext w w6:=(hx03.trans (hx4.trans hx5)).chgI hc6 (by omega)
 refine zd8 u40 zdd ztf hr6 (by omega) h46 hx6 (by simp [maxLen];omega) (by simp;omega) fun v47 w7 hc7 hr7=>?_
 have hs7:=hc7.size
 refine ⟨hx6.chgI hc7 (by omega),?_⟩
 have:=hr7.own.mono (lo':=lo) (by omega) (Nat.le_refl _)
 simpa using this
def F126 (a0:Value) (w:World) (R:VW):Prop:=
 cL 200 [a0] w fun x5 w=>
 cL 201 [x5,(Value.func (.func 202) #[] #[])] w fun x7 w=>
 cL 204 [x5] w fun x9 w=>
 cL 203 [x9] w fun x10 w=>
 R x10 w
def cfg126:Cfg:=⟨extL,[],[],[],[],[],[]⟩
theorem F126_call {a0:Value} {w:World} {R:VW} (h:F126 a0 w R):cL 126 [a0] w R:=co (g:=cfg126) Tryz.func126 (by kernel_rfl) (by kernel_rfl) (by kernel_rfl) h
theorem zmN {z:DRace}:∀ {l:List DRace} {x:DRace},z∈x :: ddg x l↔z∈x :: l
 | [],x=>Iff.rfl
 | y :: l,x=>by
   rw [ddg]
   split
   · rename_i h
     subst h
     rw [zmN (l:=l)]
     simp
   rw [List.mem_cons,zmN (l:=l),List.mem_cons (a:=z) (b:=x)]
theorem zp8:∀ {l:List DRace} {x:DRace},(x :: l).Pairwise (fun a b=>¬ltR b a)→(x :: ddg x l).Pairwise ltR
 | [],x,_=>by simp [ddg]
 | y :: l,x,h=>by
   rw [ddg]
   rw [List.pairwise_cons] at h
   have hy:=h.2
   rw [List.pairwise_cons] at hy
   split
   · rename_i e
     subst e
     exact zp8 h.2
   rename_i hne
   have ih:=zp8 h.2
   have hxy:ltR x y:=Decidable.byContradiction fun hc=>hne (ziP (h.1 y (by simp)) hc)
   refine List.pairwise_cons.2 ⟨fun z hz=>?_,ih⟩
   rcases List.mem_cons.1 hz with rfl | hz
   · exact hxy
   exact zgG hxy ((List.pairwise_cons.1 ih).1 z hz)
theorem zsH {l:List DRace} {z:DRace}:z∈ddp l↔z∈l:=by
 cases l with
 | nil=>exact Iff.rfl
 | cons x l=>exact zmN
theorem ztD {l:List DRace} (h:l.Pairwise (fun a b=>¬ltR b a)):(ddp l).Pairwise ltR:=by
 cases l with
 | nil=>exact List.Pairwise.nil
 | cons x l=>exact zp8 h
def zdi (l:List DRace):List DRace:=l.foldl (fun acc r=>zi0 r acc) []
theorem zos (l:List DRace) (r:DRace):zdi (l++[r])=zi0 r (zdi l):=by simp [zdi]
theorem zju {x:DRace}:∀ {l acc:List DRace},x∈l.foldl (fun acc r=>zi0 r acc) acc↔x∈acc∨x∈l
 | [],acc=>by simp
 | y :: l,acc=>by
   rw [List.foldl_cons,zju,zky,List.mem_cons]
   constructor
   · rintro ((h | h) | h)<;>simp [h]
   rintro (h | h | h)<;>simp [h]
theorem zgH {x:DRace} {l:List DRace}:x∈zdi l↔x∈l:=by unfold zdi;rw [zju];simp
theorem zlG:∀ {l acc:List DRace},acc.Pairwise ltR→(l.foldl (fun acc r=>zi0 r acc) acc).Pairwise ltR
 | [],acc,h=>h
 | y :: l,acc,h=>by
   rw [List.foldl_cons]
   exact zlG (ziQ h)
theorem zhR (l:List DRace):(zdi l).Pairwise ltR:=zlG List.Pairwise.nil
theorem znL (r:DRace):∀ l:List DRace,(zi0 r l).length≤l.length+1
 | []=>by simp [zi0]
 | x :: l=>by
   have:=znL r l
   rw [zi0]
   split
   · simpa using this
   split<;>simp
theorem zjv:∀ (l acc:List DRace),(l.foldl (fun acc r=>zi0 r acc) acc).length≤acc.length+l.length
 | [],acc=>by simp
 | y :: l,acc=>by
   have h1:=zjv l (zi0 y acc)
   have h2:=znL y acc
   rw [List.foldl_cons,List.length_cons];omega
theorem zp9 (l:List DRace):(zdi l).length≤l.length:=by have:=zjv l [];simpa [zdi] using this
theorem zmO {l m:List DRace} (h:∀ x,x∈l↔x∈m):zdi l=zdi m:=zhi (zhR l) (zhR m) fun x=>by rw [zgH,zgH,h]
theorem zsI (l:List DRace):ddp (srt l)=zdi l:=zhi (ztD (ztC l)) (zhR l) fun x=>by rw [zsH,zgH,(znK l).mem_iff]
def clR (a b:DTouch):List DRace:=if zdV a b then [zdW a b] else []
def gB (a:DTouch) (bs:List DTouch):List DRace:=bs.flatMap (clR a)
def gL (Ls:List (List DTouch)) (a:DTouch):List DRace:=Ls.flatMap (gB a)
def gA (Ls:List (List DTouch)) (xs:List DTouch):List DRace:=xs.flatMap (gL Ls)
def zhj (T:Nat→List DTouch) (t:Nat):List (List DTouch):=(List.range t).map T
def gT (T:Nat→List DTouch) (n:Nat):List DRace:=(List.range n).flatMap fun t=>gA (zhj T t) (T t)
def hA (bs xs:List DTouch):List DRace:=xs.flatMap fun a=>gB a bs
def hU (T:Nat→List DTouch) (xs:List DTouch) (t:Nat):List DRace:=(List.range t).flatMap fun u=>hA (T u) xs
def hT (T:Nat→List DTouch) (n:Nat):List DRace:=(List.range n).flatMap fun t=>hU T (T t) t
theorem zra (T:Nat→List DTouch) (n:Nat):zdi (gT T n)=zdi (hT T n):=by
 refine zmO fun x=>?_
 simp only [gT,hT,gA,hU,gL,hA,zhj,List.mem_flatMap,List.mem_range,List.mem_map]
 constructor
 · rintro ⟨t,ht,a,ha,L,⟨u,hu,rfl⟩,hx⟩
   exact ⟨t,ht,u,hu,a,ha,hx⟩
 rintro ⟨t,ht,u,hu,a,ha,hx⟩
 exact ⟨t,ht,a,ha,T u,⟨u,hu,rfl⟩,hx⟩
theorem zcC {α β:Type} {f:α→List β} {k:Nat}:∀ {l:List α},(∀ x∈l,(f x).length≤k)→(l.flatMap f).length≤l.length*k
 | [],_=>by simp
 | x :: l,h=>by
   have h1:=h x (by simp)
   have h2:=zcC (l:=l) fun y hy=>h y (by simp [hy])
   rw [List.flatMap_cons,List.length_append,List.length_cons,Nat.add_mul];omega
theorem zck {α β:Type} {f:α→List β} {l:List α} {k:Nat} (h:k<l.length):(l.take (k+1)).flatMap f=(l.take k).flatMap f++f l[k]:=by
 rw [List.take_succ_eq_append_getElem h,List.flatMap_append];simp
theorem zhk {β:Type} {f:Nat→List β} (n:Nat):(List.range (n+1)).flatMap f=(List.range n).flatMap f++f n:=by
 rw [List.range_succ,List.flatMap_append];simp
theorem zsJ (a b:DTouch):(clR a b).length≤1:=by unfold clR;split<;>simp
theorem znM (a:DTouch) {bs:List DTouch} (h:bs.length≤12):(gB a bs).length≤12:=by
 have:=zcC (f:=clR a) (l:=bs) (k:=1) fun x _=>zsJ a x
 unfold gB;omega
theorem zrH {Ls:List (List DTouch)} (a:DTouch) (h:Ls.length≤6) (h2:∀ L∈Ls,L.length≤12):(gL Ls a).length≤72:=by
 have:=zcC (f:=gB a) (l:=Ls) (k:=12) fun x hx=>znM a (h2 x hx)
 unfold gL;omega
theorem zrI {Ls:List (List DTouch)} {xs:List DTouch} (h:Ls.length≤6) (h2:∀ L∈Ls,L.length≤12) (h3:xs.length≤12):(gA Ls xs).length≤864:=by
 have:=zcC (f:=gL Ls) (l:=xs) (k:=72) fun x hx=>zrH x h h2
 unfold gA;omega
theorem zrJ {T:Nat→List DTouch} (h:∀ t,(T t).length≤12) {n:Nat} (hn:n≤6):(gT T n).length≤5184:=by
 have:=zcC (f:=fun t=>gA (zhj T t) (T t)) (l:=List.range n) (k:=864) fun t ht=>by
   have ht':=List.mem_range.1 ht
   exact zrI (by simp [zhj];omega) (fun L hL=>by
     simp only [zhj,List.mem_map] at hL
     obtain ⟨u,_,rfl⟩:=hL
     exact h u) (h t)
 unfold gT
 rw [List.length_range] at this;omega
theorem zrK {bs xs:List DTouch} (h:bs.length≤12) (h2:xs.length≤12):(hA bs xs).length≤144:=by
 have:=zcC (f:=fun a=>gB a bs) (l:=xs) (k:=12) fun x hx=>znM x h
 unfold hA;omega
theorem zrL {T:Nat→List DTouch} (h:∀ t,(T t).length≤12) {xs:List DTouch} (h2:xs.length≤12) {t:Nat} (ht:t≤6):(hU T xs t).length≤864:=by
 have:=zcC (f:=fun u=>hA (T u) xs) (l:=List.range t) (k:=144) fun u _=>zrK (h u) h2
 rw [List.length_range] at this
 unfold hU;omega
theorem ztE {T:Nat→List DTouch} (h:∀ t,(T t).length≤12) {n:Nat} (hn:n≤6):(hT T n).length≤5184:=by
 have:=zcC (f:=fun t=>hU T (T t) t) (l:=List.range n) (k:=864) fun t ht=>zrL h (h t) (by have:=List.mem_range.1 ht;omega)
 rw [List.length_range] at this
 unfold hT;omega
def tA (c:DCode) (s:DState) (t:Nat):List DTouch:=if 0≤zce s t then zcj c (zce s t) 0 else []
theorem zjw {c:DCode} {a held:Int} {i:DIns} {x:DTouch}:∀ {k:Nat},x∈zcb c a held i k→x.at_=a∧x.held=held
 | 0,h=>by simp [zcb] at h
 | k+1,h=>by
   rw [zcb,List.mem_append,List.mem_append] at h
   rcases h with (h | h) | h
   · exact zjw h
   · split at h
     · simp only [List.mem_cons,List.not_mem_nil,or_false] at h;subst h;exact ⟨rfl,rfl⟩
     simp at h
   split at h
   · simp only [List.mem_cons,List.not_mem_nil,or_false] at h;subst h;exact ⟨rfl,rfl⟩
   simp at h
theorem zot {c:DCode} {a held:Int} {x:DTouch} (h:x∈zcj c a held):x.at_=a∧x.held=held:=by
 unfold zcj at h
 split at h
 · exact zjw h
 simp at h
theorem zrb {c:DCode} {s:DState} {t:Nat} {x:DTouch} (h:x∈tA c s t):x.at_=zce s t∧x.held=0:=by
 unfold tA at h
 split at h
 · exact zot h
 simp at h
theorem zrM {c:DCode} (s:DState) (hc:CodeR c) (t:Nat):(tA c s t).length≤12:=by
 unfold tA
 split
 · have h1:=zmM c (zce s t) 0
   have h2:=hc.1.1
   simp only [Bool.and_eq_true,decide_eq_true_eq] at h2
   omega
 simp
def zkA (c:DCode) (s:DState):List DRace:=zdi (gT (tA c s) s.stacks.length)
theorem zsK (c:DCode) (s:DState):zdi (hT (tA c s) s.stacks.length)=zkA c s:=(zra _ _).symm
def zel (c:DCode) (s:DState):List DRace:=if CodeR c∧zaz c s then zkA c s else []
theorem zou {w w0:World} {v:Value} {l:List DRace} (h:Is w0 v l) (hx:Ext w0 w) (hn:l.length≤1000000) :
   CALL Tryz.prog 126 [v] w fun r w'=>Ext w w'∧Own w.heap.size w' r (zdi l):=by
 refine F126_call ?_
 unfold F126
 refine (zpN h hx (by omega)).mono ?_
 rintro v1 w1 ⟨hx1,ho1⟩
 refine (zq9 ho1.toI (by omega)).mono ?_
 rintro _ w2 ⟨hc2,ho2⟩
 refine (zog ho2 (by rw [zp7];omega)).mono ?_
 rintro v3 w3 ⟨hc3,ho3⟩
 refine (zqY ho3).mono ?_
 rintro v4 w4 ⟨hx4,ho4⟩
 rw [zsI] at ho4
 exact ⟨((hx1.chgI hc2 (Nat.le_refl _)).chgI hc3 (Nat.le_refl _)).trans hx4,ho4.own⟩
section
variable {c:DCode} {s:DState}
def zov (c:DCode) (s:DState) (u:Int):Int:=ow s (zav c s u)
def itW (c:DCode) (s:DState) (u:Int):Nat→Int
 | 0=>u
 | i+1=>zov c s (itW c s u i)
theorem zbH (u:Int):∀ i,itW c s (zov c s u) i=itW c s u (i+1)
 | 0=>rfl
 | i+1=>by rw [itW,zbH u i];rfl
def orW (c:DCode) (s:DState) (u:Int):Nat→Nat
 | 0=>0
 | i+1=>orW c s u i ||| 2^(zav c s (itW c s u i)).toNat
theorem ziR {u:Int} {l:Nat}:∀ {k:Nat},(orW c s u k).testBit l=true↔∃ i,i<k∧(zav c s (itW c s u i)).toNat=l
 | 0=>by simp [orW]
 | k+1=>by
   rw [orW,Nat.testBit_or,Bool.or_eq_true,ziR,Nat.testBit_two_pow]
   constructor
   · rintro (⟨i,hi,h⟩ | h)
     · exact ⟨i,by omega,h⟩
     exact ⟨k,by omega,by simpa using h⟩
   rintro ⟨i,hi,h⟩
   by_cases e:i=k
   · subst e;exact .inr (by simpa using h)
   exact .inl ⟨i,by omega,h⟩
structure WayW (c:DCode) (s:DState) (t u:Int) (k:Nat):Prop where
 pos:1≤k
 waits:∀ i,i<k→0≤zav c s (itW c s u i)
 last:itW c s u k=t
 first:∀ i,1≤i→i<k→itW c s u i≠t
theorem zlH (u:Int):∀ k,orW c s u (k+1)=2^(zav c s u).toNat ||| orW c s (zov c s u) k
 | 0=>by simp [orW,itW]
 | k+1=>by rw [orW,zlH u k,orW,←zbH,Nat.or_assoc]
theorem ziS {t:Int}:∀ (n m:Nat) (u:Int) (k:Nat),WayW c s t u k→k≤n→zdf c s t n m u=m ||| orW c s u k
 | 0,m,u,k,h,hk=>by have:=h.pos;omega
 | n+1,m,u,k,h,hk=>by
   have h0:=h.waits 0 h.pos
   have h0:0≤zav c s u:=h0
   rw [zdf,if_neg (by omega)]
   obtain ⟨k',rfl⟩:∃ k',k=k'+1:=⟨k-1,by have:=h.pos;omega⟩
   rw [zlH,←Nat.or_assoc]
   by_cases hk0:k'=0
   · subst hk0
     have hl:zov c s u=t:=h.last
     rw [if_pos (show ow s (zav c s u)=t from hl)]
     simp [orW]
   have hf:ow s (zav c s u)≠t:=h.first 1 (Nat.le_refl _) (by omega)
   rw [if_neg hf]
   exact ziS n _ (zov c s u) k' ⟨by omega,fun i hi=>by rw [zbH];exact h.waits (i+1) (by omega),by rw [zbH];exact h.last,fun i h1 hi=>by rw [zbH];exact h.first (i+1) (by omega) (by omega)⟩ (by omega)
theorem zjx {t:Int}:∀ (n m:Nat) (u:Int),zdf c s t n m u≠0→∃ k,k≤n∧WayW c s t u k
 | 0,m,u,h=>absurd rfl h
 | n+1,m,u,h=>by
   rw [zdf] at h
   split at h
   · exact absurd rfl h
   rename_i hw
   split at h
   · rename_i h2
     refine ⟨1,by omega,⟨Nat.le_refl _,fun i hi=>?_,h2,fun i h1 h2=>by omega⟩⟩
     have h0:i=0:=by omega
     subst h0
     show 0≤zav c s u
     omega
   rename_i h2
   obtain ⟨k,hk,hW⟩:=zjx n _ _ h
   have hW:WayW c s t (zov c s u) k:=hW
   refine ⟨k+1,by omega,⟨by omega,fun i hi=>?_,by rw [←zbH];exact hW.last,fun i h1 hi=>?_⟩⟩
   · cases i with
     | zero=>show 0≤zav c s u;omega
     | succ i=>rw [←zbH];exact hW.waits i (by omega)
   obtain ⟨i,rfl⟩:∃ j,i=j+1:=⟨i-1,by omega⟩
   rw [←zbH]
   cases i with
   | zero=>exact h2
   | succ i=>exact hW.first (i+1) (by omega) (by omega)
theorem zrc {t:Int} {k:Nat} (h:WayW c s t t k):WayW c s (zov c s t) (zov c s t) k:=by
 have hp:=h.pos
 refine ⟨hp,fun i hi=>?_,?_,fun i h1 hi he=>?_⟩
 · rw [zbH]
   by_cases e:i+1=k
   · rw [e,h.last];exact h.waits 0 hp
   exact h.waits (i+1) (by omega)
 · rw [zbH,itW,h.last]
 rw [zbH] at he
 have he:itW c s t (i+1)=itW c s t 1:=he
 have key:∀ j,itW c s t (1+j+i)=itW c s t (1+j):=fun j=>by
   induction j with
   | zero=>rw [show 1+0+i=i+1 by omega];exact he
   | succ j ih=>
     rw [show 1+(j+1)+i=(1+j+i)+1 by omega,show 1+(j+1)=(1+j)+1 by omega,itW,itW,ih]
 have h2:=key (k-i-1)
 rw [show 1+(k-i-1)+i=k by omega,h.last] at h2
 exact h.first (1+(k-i-1)) (by omega) (by omega) h2.symm
theorem zrd {t:Int} {k:Nat} (h:WayW c s t t k):orW c s (zov c s t) k=orW c s t k:=by
 refine Nat.eq_of_testBit_eq fun l=>?_
 rw [Bool.eq_iff_iff,ziR,ziR]
 have hp:=h.pos
 constructor
 · rintro ⟨i,hi,e⟩
   rw [zbH] at e
   by_cases e2:i+1=k
   · rw [e2,h.last] at e
     exact ⟨0,by omega,e⟩
   exact ⟨i+1,by omega,e⟩
 rintro ⟨i,hi,e⟩
 cases i with
 | zero=>exact ⟨k-1,by omega,by rw [zbH,show k-1+1=k by omega,h.last];exact e⟩
 | succ i=>exact ⟨i,by omega,by rw [zbH];exact e⟩
theorem zkB {t:Int} (h:zbt c s t≠0):∃ k,k≤s.stacks.length∧WayW c s t t k∧zbt c s t=orW c s t k:=by
 obtain ⟨k,hk,hW⟩:=zjx _ _ _ h
 refine ⟨k,hk,hW,?_⟩
 unfold zbt
 rw [ziS _ _ _ k hW hk,Nat.zero_or]
theorem zlJ {t:Int} (h:zbt c s t≠0):zbt c s (zov c s t)=zbt c s t:=by
 obtain ⟨k,hk,hW,he⟩:=zkB h
 rw [he]
 unfold zbt
 rw [ziS _ _ _ k (zrc hW) hk,Nat.zero_or,zrd hW]
theorem zqa {t:Int} (h:zbt c s t≠0):∀ i,zbt c s (itW c s t i)=zbt c s t
 | 0=>rfl
 | i+1=>by
   have ih:=zqa h i
   show zbt c s (zov c s (itW c s t i))=_
   rw [zlJ (by rw [ih];exact h),ih]
theorem zre {t:Int} (h:zbt c s t≠0):(zbt c s t).testBit (zav c s t).toNat=true:=by
 obtain ⟨k,hk,hW,he⟩:=zkB h
 rw [he,ziR]
 exact ⟨0,hW.pos,rfl⟩
theorem zow {t:Int} (h:zbt c s t≠0):¬GoR c s t:=fun hg=>by
 have hw:=zdg h
 unfold zav at hw
 split at hw
 · rename_i h1
   have:=hg.2.1 h1.2.1
   omega
 omega
theorem ziT {t:Nat}:∀ {k:Nat},t<k→zbt c s (t:Int)≠0→(zbz c s k).testBit (zav c s t).toNat=true
 | 0,h,_=>by omega
 | k+1,h,hn=>by
   rw [zbz]
   by_cases e:t=k
   · subst e
     rw [if_pos hn,Nat.testBit_or,Nat.testBit_two_pow_self];simp
   have:=ziT (k:=k) (by omega) hn
   split
   · rw [Nat.testBit_or,this];rfl
   exact this
theorem zrf (hc:CodeR c) (hs:zaz c s) {t:Int} {l:Nat} (h:(zbt c s t).testBit l=true):(zbz c s s.stacks.length).testBit l=true:=by
 have hn:zbt c s t≠0:=fun e=>by rw [e] at h;simp at h
 obtain ⟨k,hk,hW,he⟩:=zkB hn
 rw [he,ziR] at h
 obtain ⟨i,hi,e⟩:=h
 have hki:=zqa hn i
 have hat:0≤itW c s t i∧itW c s t i<s.stacks.length:=by
   have hw:=hW.waits i hi
   unfold zav at hw
   split at hw
   · rename_i h1
     have:=zeg h1.1
     omega
   omega
 obtain ⟨u,hu⟩:∃ u:Nat,itW c s t i=u:=⟨_,(Int.toNat_of_nonneg hat.1).symm⟩
 rw [hu] at hki e hat
 rw [←e]
 exact ziT (by omega) (by rw [hki];exact hn)
end
theorem zox {c:DCode} {s:DState} {x:DRace} (hx:x∈zkA c s):x.a≤x.b∧∃ t:Nat,x.a=zce s t∧tA c s t≠[]:=by
 unfold zkA at hx
 rw [zgH] at hx
 unfold gT gA gL gB zhj at hx
 obtain ⟨t,ht,hx⟩:=List.mem_flatMap.1 hx
 obtain ⟨a,ha,hx⟩:=List.mem_flatMap.1 hx
 obtain ⟨bs,hbs,hx⟩:=List.mem_flatMap.1 hx
 obtain ⟨u,hu,rfl⟩:=List.mem_map.1 hbs
 obtain ⟨b,hb,hx⟩:=List.mem_flatMap.1 hx
 unfold clR at hx
 split at hx
 · simp only [List.mem_cons,List.not_mem_nil,or_false] at hx
   subst hx
   refine ⟨by unfold zdW;simp only;omega,?_⟩
   have h1:=(zrb ha).1
   have h2:=(zrb hb).1
   by_cases hle:a.at_≤b.at_
   · exact ⟨t,by unfold zdW;simp only;omega,List.ne_nil_of_mem ha⟩
   exact ⟨u,by unfold zdW;simp only;omega,List.ne_nil_of_mem hb⟩
 cases hx
end Go.Proofs.YtdmailcgaekimaaGreat
namespace Go.Proofs.YtdmailcgaekimaaGreat
open Go Go.Sh Go.Proofs Go.Sort
open Rep (rep)
structure DOrder where
 fr:Int
 to:Int
 at_:Int
theorem DOrder.ext_iff {x y:DOrder}:x=y↔(x.fr=y.fr∧x.to=y.to∧x.at_=y.at_):=⟨fun h=>by rw [h];exact ⟨rfl,rfl,rfl⟩,fun h=>by obtain ⟨h0,h1,h2⟩:=h;cases x;cases y;simp only at h0 h1 h2;simp only [h0,h1,h2]⟩
instance:DecidableEq DOrder:=fun x y=>decidable_of_iff (x.fr=y.fr∧x.to=y.to∧x.at_=y.at_) DOrder.ext_iff.symm
instance:Rep DOrder:=Rep.via fun x=>(x.fr,x.to,x.at_)
instance:RepZ DOrder:=⟨⟨(RepZ.zv:Int),(RepZ.zv:Int),(RepZ.zv:Int)⟩,RepZ.zc (Int×Int×Int),fun w=>RepZ.zr (α:=Int×Int×Int) w⟩
instance:Flat DOrder:=⟨fun h=>Flat.flat (α:=Int×Int×Int) h⟩
def ltO (x y:DOrder):Prop:=x.fr<y.fr∨(x.fr=y.fr∧(x.to<y.to∨(x.to=y.to∧x.at_<y.at_)))
instance (x y:DOrder):Decidable (ltO x y):=by unfold ltO;infer_instance
instance:Inhabited DOrder:=⟨⟨0,0,0⟩⟩
end Go.Proofs.YtdmailcgaekimaaGreat
namespace Go.Proofs.YtdmailcgaekimaaGreat
open Go Go.Sh Go.Proofs Go.Sort
open Rep (rep)
def hd0 (l:List Int):Int:=l.headD 0
theorem zkC {l:List Int} {k:Nat} {y:Int} (hk:k<l.length) (h:y∉l.take k) (c:¬l[k]=y):y∉l.take (k+1):=by
 rw [List.take_succ_eq_append_getElem hk]
 simp only [List.mem_append,List.mem_cons,List.not_mem_nil,or_false,not_or]
 exact ⟨h,fun e=>c e.symm⟩
end Go.Proofs.YtdmailcgaekimaaGreat
namespace Go.Sh
open Rep (rep)
instance:Rep Nat where
 size:=1
 agg:=false
 rep F _ cs x:=F=[]∧cs=[.int .u64 (x:Int)]∧x<18446744073709551616
 pos:=by decide
 sz _:=rfl
 len:=by rintro _ _ _ _ ⟨_,rfl,_⟩;rfl
 one:=by rintro _ _ _ _ ⟨_,rfl,_⟩ v hv;simp at hv;subst hv;rfl
 keep:=by rintro _ _ _ _ _ h _;exact h
 lt:=by rintro _ _ _ _ ⟨rfl,_⟩ b hb;cases hb
instance:Flat Nat:=⟨fun h=>h.1⟩
instance:RepZ Nat:=⟨0,[.int .u64 0],fun _=>⟨rfl,rfl,by decide⟩⟩
section
variable {P:Program} {w w0:World} {K:Value→Prop} {t:TypeId} {x y:Operand}
end
end Go.Sh
namespace Go.Proofs.YtdmailcgaekimaaGreat
open Go Go.Sh Go.Proofs
open Rep (rep)
def F7 (a0:Value) (w:World) (R:VW):Prop:=
 rN 22 3 a0 w fun x4=>
 rB .gtr 3 T0 U0 x4 (iV 1048576) w fun x5=>
 R x5 w
def cfg7:Cfg:=⟨extL,[],[],[],[],[],[]⟩
theorem F7_call {a0:Value} {w:World} {R:VW} (h:F7 a0 w R):cL 7 [a0] w R:=co (g:=cfg7) Tryz.func7 (by kernel_rfl) (by kernel_rfl) (by kernel_rfl) h
theorem ztF {w:World} {v0:Value} {W0:World} {bs:(List UInt8)}  (h0:Is W0 v0 bs) (e0:Ext W0 w)  :
   CALL Tryz.prog 7 [v0] w fun r w'=>Ext w w'∧(r=.bool (decide ((1048576:Int)<bs.length))):=by
 refine F7_call ?_
 unfold F7
 have hln4:=zaf h0
 refine zae u22 h0 ?_
 refine zb0 ?_
 refine ⟨Ext.refl w,?_⟩
 rfl
def F11 (a0 a1:Value) (w:World) (R:VW):Prop:=
 rN 25 3 a0 w fun x7=>
 rN 25 3 a1 w fun x9=>
 rB .neq 3 T0 T0 x7 x9 w fun x10=>
 BR x10
 (R (Value.bool false) w)
 (LOOPI [5] [(iV 0)] w fun u4 w next4=>
 rN 25 3 a0 w fun x13=>
 rC (u4 5) x13 w fun x14=>
 BR x14
 ((fun w=>rX 25 a0 (u4 5) w fun x19=>
 rL 3 x19 w fun x20=>
 rX 25 a1 (u4 5) w fun x23=>
 rL 3 x23 w fun x24=>
 rB .neq 3 T0 T0 x20 x24 w fun x25=>
 BR x25
 (R (Value.bool false) w)
 (rA (u4 5) (iV 1) w fun x16=>
 next4 [x16] w)) (World.drew1 w))
 (R (Value.bool true) w))
def cfg11:Cfg:=⟨extL,[],[(4,67106864,[5])],[(6,[0,1,2,3,4,5,6,7,8],0)],[],[],[]⟩
theorem F11_call {a0 a1:Value} {w:World} {R:VW} (h:F11 a0 a1 w R):cL 11 [a0,a1] w R:=co (g:=cfg11) Tryz.func11 (by kernel_rfl) (by kernel_rfl) (by kernel_rfl) h
theorem zff {w:World} {v0:Value} {W0:World} {l1:(List Int)} {v1:Value} {W1:World} {l2:(List Int)}  (h0:Is W0 v0 l1) (e0:Ext W0 w) (h1:Is W1 v1 l2) (e1:Ext W1 w)  :
   CALL Tryz.prog 11 [v0,v1] w fun r w'=>Ext w w'∧(r=.bool (decide (l1=l2))):=by
 refine F11_call ?_
 unfold F11
 have hl1:=zaf h0
 have hln7:=zaf h0
 refine zae u25 h0 ?_
 have hln9:=zaf h1
 refine zae u25 h1 ?_
 refine zaM ?_
 refine br (fun c1=>?_) (fun c1=>?_)
 · refine ⟨Ext.refl w,?_⟩
   have:l1≠l2:=fun e=>c1 (by rw [e])
   simp [this]
 refine zaE (l1.length) (fun k us w'=>us=[.int .i64 (k:Int)]∧Ext w w'∧(l1.take k=l2.take k)) (0) (by omega) ⟨by simp,Ext.refl w,by simp⟩ ?_
 rintro k m4 uu4 w1_ hk4 ⟨hu,hx1_,hinv⟩
 simp only [List.map_cons,List.map_nil,List.cons.injEq,and_true] at hu
 try rw [hu]
 try clear hu
 have hln13:=zaf h0
 refine zae u25 h0 ?_
 refine zai ?_
 refine br (fun c2=>?_) (fun c2=>?_)
 · have hx2_:=zaj w1_
   refine zad u25 ty3 h0 (by omega) fun b19 o19 h19=>?_
   refine zac ty3 h19 (e0.trans (hx1_.trans hx2_)) fun hI20=>?_
   refine zad u25 ty3 h1 (by omega) fun b23 o23 h23=>?_
   refine zac ty3 h23 (e1.trans (hx1_.trans hx2_)) fun hI24=>?_
   refine zaM ?_
   refine br (fun c3=>?_) (fun c3=>?_)
   · refine ⟨(hx1_.trans hx2_),?_⟩
     have:l1≠l2:=fun e=>c3 (by subst e;rfl)
     simp [this]
   refine zah (by omega) ?_
   refine ⟨m4-1,by omega,k+1,by omega,by simp,(hx1_.trans hx2_),?_⟩
   rw [List.take_succ_eq_append_getElem (by omega),List.take_succ_eq_append_getElem (by omega),hinv,Decidable.not_not.1 c3]
 refine ⟨hx1_,?_⟩
 rw [List.take_of_length_le (by omega),List.take_of_length_le (by omega)] at hinv
 simp [hinv]
def F21 (a0 a1:Value) (w:World) (R:VW):Prop:=
 rN 40 3 a0 w fun x7=>
 rN 40 3 a1 w fun x9=>
 rB .neq 3 T0 T0 x7 x9 w fun x10=>
 BR x10
 (R (Value.bool false) w)
 (LOOPI [5] [(iV 0)] w fun u4 w next4=>
 rN 40 3 a0 w fun x13=>
 rC (u4 5) x13 w fun x14=>
 BR x14
 ((fun w=>rX 40 a0 (u4 5) w fun x19=>
 rL 43 x19 w fun x20=>
 rX 40 a1 (u4 5) w fun x23=>
 rL 43 x23 w fun x24=>
 rB .neq 43 T0 T0 x20 x24 w fun x25=>
 BR x25
 (R (Value.bool false) w)
 (rA (u4 5) (iV 1) w fun x16=>
 next4 [x16] w)) (World.drew1 w))
 (R (Value.bool true) w))
def cfg21:Cfg:=⟨extL,[],[(4,67106864,[5])],[(6,[0,1,2,3,4,5,6,7,8],0)],[],[],[]⟩
theorem F21_call {a0 a1:Value} {w:World} {R:VW} (h:F21 a0 a1 w R):cL 21 [a0,a1] w R:=co (g:=cfg21) Tryz.func21 (by kernel_rfl) (by kernel_rfl) (by kernel_rfl) h
theorem zlK {w:World} {v0:Value} {W0:World} {l1:(List DRace)} {v1:Value} {W1:World} {l2:(List DRace)}  (h0:Is W0 v0 l1) (e0:Ext W0 w) (h1:Is W1 v1 l2) (e1:Ext W1 w)  :
   CALL Tryz.prog 21 [v0,v1] w fun r w'=>Ext w w'∧(r=.bool (decide (l1=l2))):=by
 refine F21_call ?_
 unfold F21
 have hl1:=zaf h0
 have hln7:=zaf h0
 refine zae u40 h0 ?_
 have hln9:=zaf h1
 refine zae u40 h1 ?_
 refine zaM ?_
 refine br (fun c1=>?_) (fun c1=>?_)
 · refine ⟨Ext.refl w,?_⟩
   have:l1≠l2:=fun e=>c1 (by rw [e])
   simp [this]
 refine zaE (l1.length) (fun k us w'=>us=[.int .i64 (k:Int)]∧Ext w w'∧(l1.take k=l2.take k)) (0) (by omega) ⟨by simp,Ext.refl w,by simp⟩ ?_
 rintro k m4 uu4 w1_ hk4 ⟨hu,hx1_,hinv⟩
 simp only [List.map_cons,List.map_nil,List.cons.injEq,and_true] at hu
 try rw [hu]
 try clear hu
 have hln13:=zaf h0
 refine zae u40 h0 ?_
 refine zai ?_
 refine br (fun c2=>?_) (fun c2=>?_)
 · have hx2_:=zaj w1_
   refine zad u40 zdd h0 (by omega) fun b19 o19 h19=>?_
   refine zab zdd h19 (e0.trans (hx1_.trans hx2_)) fun v20 h20=>?_
   refine zad u40 zdd h1 (by omega) fun b23 o23 h23=>?_
   refine zab zdd h23 (e1.trans (hx1_.trans hx2_)) fun v24 h24=>?_
   refine ziB h20 h24 ?_
   refine br (fun c3=>?_) (fun c3=>?_)
   · refine ⟨(hx1_.trans hx2_),?_⟩
     have:l1≠l2:=fun e=>c3 (by subst e;rfl)
     simp [this]
   refine zah (by omega) ?_
   refine ⟨m4-1,by omega,k+1,by omega,by simp,(hx1_.trans hx2_),?_⟩
   rw [List.take_succ_eq_append_getElem (by omega),List.take_succ_eq_append_getElem (by omega),hinv,Decidable.not_not.1 c3]
 refine ⟨hx1_,?_⟩
 rw [List.take_of_length_le (by omega),List.take_of_length_le (by omega)] at hinv
 simp [hinv]
def F16 (a0 a1:Value) (w:World) (R:VW):Prop:=
 LOOPI [5] [(iV 0)] w fun u2 w next2=>
 rN 25 3 a0 w fun x8=>
 rC (u2 5) x8 w fun x9=>
 BR x9
 (rX 25 a0 (u2 5) w fun x14=>
 rL 3 x14 w fun x15=>
 rB .eql 3 T0 T0 x15 a1 w fun x17=>
 BR x17
 (R (Value.bool true) w)
 (rA (u2 5) (iV 1) w fun x11=>
 next2 [x11] w))
 (R (Value.bool false) w)
def cfg16:Cfg:=⟨extL,[],[(2,262128,[5])],[],[],[],[]⟩
theorem F16_call {a0 a1:Value} {w:World} {R:VW} (h:F16 a0 a1 w R):cL 16 [a0,a1] w R:=co (g:=cfg16) Tryz.func16 (by kernel_rfl) (by kernel_rfl) (by kernel_rfl) h
theorem zlL {w:World} {v0:Value} {W0:World} {l:(List Int)} {y:Int}  (h0:Is W0 v0 l) (e0:Ext W0 w)  :
   CALL Tryz.prog 16 [v0,.int .i64 y] w fun r w'=>Ext w w'∧(r=.bool (decide (y∈l))):=by
 refine F16_call ?_
 unfold F16
 refine zaE (l.length) (fun k us w'=>us=[.int .i64 (k:Int)]∧Ext w w'∧(y∉l.take k)) (0) (by omega) ⟨by simp,Ext.refl w,by simp⟩ ?_
 rintro k m2 uu2 w1_ hk2 ⟨hu,hx1_,hinv⟩
 simp only [List.map_cons,List.map_nil,List.cons.injEq,and_true] at hu
 try rw [hu]
 try clear hu
 have hln8:=zaf h0
 refine zae u25 h0 ?_
 refine zai ?_
 refine br (fun c1=>?_) (fun c1=>?_)
 · refine zad u25 ty3 h0 (by omega) fun b14 o14 h14=>?_
   refine zac ty3 h14 (e0.trans hx1_) fun hI15=>?_
   refine zag ?_
   refine br (fun c2=>?_) (fun c2=>?_)
   · refine ⟨hx1_,?_⟩
     have:y∈l:=c2▸List.getElem_mem _
     simp [this]
   refine zah (by omega) ?_
   refine ⟨m2-1,by omega,k+1,by omega,by simp,hx1_,?_⟩
   exact zkC (by omega) hinv c2
 refine ⟨hx1_,?_⟩
 rw [List.take_of_length_le (by omega)] at hinv
 simp [hinv]
def F71 (a0 a1:Value) (w:World) (R:VW):Prop:=
 oP (Instr.box 28 a0) w fun x2 w=>
 oP (Instr.box 31 a1) w fun x3 w=>
 rF 31 x3 2 w fun x15=>
 rL 29 x15 w fun x16=>
 rN 29 3 x16 w fun x17=>
 oP (Instr.makeSlice 144 x17 x17) w fun x18 w=>
 rF 31 x3 2 w fun x19=>
 rL 29 x19 w fun x20=>
 rN 29 3 x20 w fun x21=>
 LOOPI [6,22] [(Value.slice none 0 0),(iV 0)] w fun u4 w next4=>
 rC (u4 22) x21 w fun x23=>
 BR x23
 (JOIN [] (fun J9=>
 rL 31 x3 w fun x25=>
 cL 89 [x25,(u4 22)] w fun x27 w=>
 rL 28 x2 w fun x28=>
 cL 72 [x28,x27] w fun x30 w=>
 BR x30
 (rL 28 x2 w fun x33=>
 cL 74 [x33,x27,(iV 0)] w fun x35 w=>
 rX 144 x18 (u4 22) w fun x36=>
 oS 45 x36 x35 w fun w=>
 J9 [] w)
 (J9 [] w)) (fun u9 w=>
 rX 144 x18 (u4 22) w fun x39=>
 rL 45 x39 w fun x40=>
 rN 45 3 x40 w fun x41=>
 LOOPI [6,42] [(u4 6),(iV 0)] w fun u10 w next10=>
 rC (u10 42) x41 w fun x43=>
 BR x43
 (rX 45 x40 (u10 42) w fun x44=>
 rL 146 x44 w fun x45=>
 oP (Instr.alloc 146 true (.tuple #[])) w fun x10 w=>
 oS 146 x10 x45 w fun w=>
 rD (Instr.sliceAt 144 x18 none (some (u4 22)) none) w fun x48=>
 rN 144 3 x48 w fun x49=>
 LOOPI [6,50] [(u10 6),(iV 0)] w fun u13 w next13=>
 rC (u13 50) x49 w fun x51=>
 BR x51
 (rX 144 x48 (u13 50) w fun x52=>
 rL 45 x52 w fun x53=>
 rN 45 3 x53 w fun x55=>
 LOOPI [6,56] [(u13 6),(iV 0)] w fun u16 w next16=>
 rC (u16 56) x55 w fun x57=>
 BR x57
 (rX 45 x53 (u16 56) w fun x58=>
 rL 146 x58 w fun x59=>
 oP (Instr.alloc 146 true (.tuple #[])) w fun x14 w=>
 oS 146 x14 x59 w fun w=>
 rL 146 x10 w fun x60=>
 rL 146 x14 w fun x61=>
 cL 124 [x60,x61] w fun x62 w=>
 BR x62
 (rL 146 x10 w fun x64=>
 rL 146 x14 w fun x65=>
 cL 125 [x64,x65] w fun x66 w=>
 oP (Instr.buildSlice 40 1 #[(0,x66)]) w fun x67 w=>
 oP (Builtin.append_ #[40,40] 40 [(u16 6),x67].toArray) w fun x68 w=>
 rA (u16 56) (iV 1) w fun x69=>
 next16 [x68,x69] w)
 (rA (u16 56) (iV 1) w fun x69=>
 next16 [(u16 6),x69] w))
 (rA (u13 50) (iV 1) w fun x70=>
 next13 [(u16 6),x70] w))
 (rA (u10 42) (iV 1) w fun x71=>
 next10 [(u13 6),x71] w))
 (rA (u4 22) (iV 1) w fun x72=>
 next4 [(u10 6),x72] w)))
 (cL 126 [(u4 6)] w fun x74 w=>
 R x74 w)
def cfg71:Cfg:=⟨extL,[(9,137405399296,[])],[(4,9444732965739286255040,[6,22]),(10,4722366478471598724160,[6,42]),(13,2361182115534915784768,[6,50]),(16,1180519563123373391936,[6,56])],[],[],[],[]⟩
theorem F71_call {a0 a1:Value} {w:World} {R:VW} (h:F71 a0 a1 w R):cL 71 [a0,a1] w R:=co (g:=cfg71) Tryz.func71 (by kernel_rfl) (by kernel_rfl) (by kernel_rfl) h
instance flatRawM:Flat Raw:=⟨fun h=>h.1⟩
theorem zrg {α:Type} [Rep α] {w:World} {lo hi:Nat} {v:Value} {x:α} (h:OwnI lo hi w v x):OwnI lo (min hi w.heap.size) w v x:=by
 obtain ⟨F,hm,hl⟩:=h
 exact ⟨F,hm,fun b hb=>by have:=hl b hb;have:=hm.lt b hb;omega⟩
structure MI (w0 w:World) (lo hi g n:Nat) (out:Value) (L:List DRace) (vs:List Raw) (T:Nat→List DTouch):Prop where
 ext:Ext w0 w
 row:RowI lo hi 43 w out L
 h1:w0.heap.size≤lo
 h2:lo≤hi
 h3:hi≤w.heap.size
 seen:Mine [g] w (.slice (some ⟨g,0,none⟩) n n) vs
 g0:w0.heap.size≤g
 g1:g<lo∨hi≤g
 len:vs.length=n
 el:∀ k (h:k<vs.length),∃ a b,OwnI a b w vs[k].v (T k)∧(b≤lo∨hi≤a)∧(b≤g∨g<a)∧b≤w.heap.size
section
variable {w0 w w':World} {lo hi g n:Nat} {out:Value} {L:List DRace} {vs:List Raw} {T:Nat→List DTouch}
theorem MI.glt (h:MI w0 w lo hi g n out L vs T):g<w.heap.size:=h.seen.lt g (by simp)
theorem MI.step (h:MI w0 w lo hi g n out L vs T) (hx:Ext w w'):MI w0 w' lo hi g n out L vs T:=
 ⟨h.ext.trans hx,h.row.ext hx,h.h1,h.h2,Nat.le_trans h.h3 hx.size,h.seen.ext hx,h.g0,h.g1,h.len,fun k hk=>by
   obtain ⟨a,b,ho,h1,h2,h3⟩:=h.el k hk
   exact ⟨a,b,ho.ext hx,h1,h2,Nat.le_trans h3 hx.size⟩⟩
theorem MI.push {out':Value} {x:DRace} {lo' hi':Nat} (h:MI w0 w lo hi g n out L vs T) (hc:ChgI lo hi w w') (hr:RowI lo' hi' 43 w' out' (L++[x])) (hd:lo'=lo∧hi'=hi∨lo'=w.heap.size∧hi'=w'.heap.size) :
   MI w0 w' lo' hi' g n out' (L++[x]) vs T:=by
 have hg:=h.glt
 have hs:=hc.size
 have h1:=h.h1
 have h2:=h.h2
 have h3:=h.h3
 have h4:=h.ext.size
 have h5:=h.g1
 refine ⟨h.ext.chgI hc h1,hr,by omega,by omega,by omega,h.seen.keep fun b hb=>?_,h.g0,by omega,h.len,fun k hk=>?_⟩
 · simp only [List.mem_cons,List.not_mem_nil,or_false] at hb
   subst hb
   exact hc.block b hg h5
 obtain ⟨a,b,ho,e1,e2,e3⟩:=h.el k hk
 exact ⟨a,b,ho.chg hc e1,by omega,e2,by omega⟩
theorem MI.row_at (h:MI w0 w lo hi g n out L vs T) {t:Nat} (ht:t≤n) (hn:0<n):Is w (.slice (some ⟨g,0,none⟩) t n) (vs.take t):=by
 have:=zjS (a:=some ⟨g,0,none⟩) (cap:=n) (l:=vs) (by rw [h.len];exact h.seen.is) t (by rw [h.len];exact ht)
 exact this
theorem MI.store {t:Nat} {u:Value} {T':Nat→List DTouch} {a b:Nat} (h:MI w0 w lo hi g n out L vs T) (ht:t<n) (hc:Chg [g] w w') (hm:Mine [g] w' (.slice (some ⟨g,0,none⟩) n n) (vs.set t ⟨u⟩))
   (hu:OwnI a b w u (T' t)) (ha:hi≤a) (hg:g<a) (hT:∀ k,k≠t→T' k=T k):MI w0 w' lo hi g n out L (vs.set t ⟨u⟩) T':=by
 have hc':ChgI g (g+1) w w':=hc.toI fun b hb=>by simp only [List.mem_cons,List.not_mem_nil,or_false] at hb;omega
 have h1:=h.h1
 have h2:=h.h2
 have h3:=h.h3
 have h4:=h.ext.size
 have h5:=h.g1
 have hs:=hc'.size
 have hg0:=h.g0
 refine ⟨h.ext.chgI hc' hg0,h.row.chg hc' (by omega),h1,h2,by omega,hm,hg0,h5,by simp [h.len],fun k hk=>?_⟩
 by_cases hkt:k=t
 · subst hkt
   refine ⟨a,min b w.heap.size,?_,by omega,.inr hg,by omega⟩
   have:=(zrg hu).chg hc' (by omega)
   simpa using this
 have hk':k<vs.length:=by simpa using hk
 obtain ⟨a',b',ho,e1,e2,e3⟩:=h.el k hk'
 refine ⟨a',b',?_,e1,e2,by omega⟩
 have:=ho.chg hc' (by omega)
 rw [hT k hkt]
 rw [List.getElem_set_ne (by omega)]
 exact this
end
abbrev rawN:RepZ Raw:=⟨⟨.slice none 0 0⟩,[.slice none 0 0],fun _=>⟨rfl,rfl,rfl⟩⟩
theorem zqb:zb9 Tryz.prog 45=some [.slice none 0 0]:=by kernel_rfl
def upT (T:Nat→List DTouch) (k u:Nat):List DTouch:=if u<k then T u else []
theorem ziU {w W0 W1:World} {v0 v1:Value} {c:DCode} {s:DState} (h0:Is W0 v0 c) (e0:Ext W0 w) (h1:Is W1 v1 s) (e1:Ext W1 w) (hc:CodeR c) (hs:zaz c s) :
   CALL Tryz.prog 71 [v0,v1] w fun r w'=>Ext w w'∧Own w.heap.size w' r (zkA c s):=by
 have hn6:=hs.2.2.1
 have hTl:=zrM s hc
 have hTa:=@zrb c s
 have hatl:=ziE hs
 have hTd:∀ t,tA c s t=if 0≤zce s t then zcj c (zce s t) 0 else []:=fun t=>rfl
 have hfin:zkA c s=zdi (gT (tA c s) s.stacks.length):=rfl
 rw [hfin]
 generalize tA c s=T at *
 refine F71_call ?_
 unfold F71
 refine zcG h0 e0 fun w1 hx1 hA=>?_
 refine zcG h1 (e1.trans hx1) fun w2 hx2 hB=>?_
 refine zaa zaT ?_
 refine zab zdJ (zau hB) (Ext.refl _) fun v16 h16=>?_
 refine zae u29 h16 ?_
 generalize hn:s.stacks.length=n at *
 refine @znh Tryz.prog w2 Raw _ rawN _ _ _ (.slice none 0 0) _ n zsZ zrp rfl rfl zqb (by omega) (by omega) fun w3 hx3 hr3=>?_
 have hs3:=hx3.size
 refine zaa zaT ?_
 refine zab zdJ (zau hB) hx3 fun v20 h20=>?_
 refine zae u29 h20 ?_
 rw [hn]
 have hM0:MI w2 w3 w2.heap.size w2.heap.size w2.heap.size n (.slice none 0 0) [] (List.replicate n ⟨.slice none 0 0⟩) (upT T 0):=by
   obtain ⟨F,hM,hF⟩:=hr3.own
   obtain ⟨b,o,cap,xs,hv,hF2,_⟩:=zc5 hM (by intro e;have:=congrArg List.length e;simp at this;omega)
   simp only [Value.slice.injEq,Option.some.injEq,Addr.mk.injEq,List.cons.injEq,and_true] at hv
   obtain ⟨⟨hb,ho⟩,_⟩:=hv
   rw [←hb] at hF2
   rw [hF2] at hM
   exact ⟨hx3,zdo _ _ _ _,Nat.le_refl _,Nat.le_refl _,hs3,hM,Nat.le_refl _,.inr (Nat.le_refl _),by simp,fun k hk=>⟨0,0,by
     have:upT T 0 k=[]:=by unfold upT;rw [if_neg (by omega)]
     rw [this,List.getElem_replicate]
     exact zct none,by omega,by omega,by omega⟩⟩
 generalize hg:w2.heap.size=g at hM0 ⊢
 refine zaE n (fun k us w'=>∃ (out:Value) (lo hi:Nat) (vs:List Raw),us=[out,.int .i64 (k:Int)]∧k≤n∧MI w2 w' lo hi g n out (gT T k) vs (upT T k)) 0 (Nat.zero_le _) ⟨_,_,_,_,rfl,Nat.zero_le _,hM0⟩ ?_
 rintro t mk u w4 hkm ⟨out,lo,hi,vs,hu,htn,hMI⟩
 obtain ⟨hu1,hu2⟩:=zfZ hu;clear hu
 rw [hu1,hu2]
 refine zai ?_
 refine br (fun hlt=>?_) (fun hge=>?_)
 case refine_2=>
   have:t=n:=by omega
   subst this
   have hgl:(gT T t).length≤5184:=zrJ hTl (by omega)
   refine (zou hMI.row.is (Ext.refl _) (by omega)).mono ?_
   rintro r w' ⟨hx5,ho⟩
   have:=hMI.ext
   have hs4:=this.size
   have hs2:=hx1.size
   have hs22:=hx2.size
   exact ⟨(hx1.trans hx2).trans (this.trans hx5),ho.mono (by omega)⟩
 have htn':t<n:=by omega
 refine JOIN.mk (fun us w'=>∃ (vs:List Raw),MI w2 w' lo hi g n out (gT T t) vs (upT T (t+1))) ?_ ?_
 · have hx24:=hMI.ext
   refine zab zbM hB hx24 fun v25 h25=>?_
   refine (zfI h25 hx24).mono ?_
   rintro _ w5 ⟨hx5,rfl⟩
   have hx25:=hx24.trans hx5
   have hx15:=hx2.trans hx25
   refine zab zbq hA hx15 fun v28 h28=>?_
   refine (zdv h28 hx15).mono ?_
   rintro _ w6 ⟨hx6,rfl⟩
   have hx16:=hx15.trans hx6
   have hM6:=(hMI.step hx5).step hx6
   refine zcM (fun hpl=>?_) (fun hpl=>?_)
   · have hpl':=of_decide_eq_true hpl
     have hTt:T t=zcj c (zce s t) 0:=by rw [hTd,if_pos hpl'.1]
     refine zab zbq hA hx16 fun v33 h33=>?_
     refine (zhy h33 hx16 hc hpl'.1 (by omega) (by unfold I64;omega)).mono ?_
     rintro v35 w7 ⟨hx7,ho7⟩
     rw [←hTt] at ho7
     have hM7:=hM6.step hx7
     have hg6:=hM6.glt
     have hi6:=hM6.h3
     refine zhY zsZ zrp htn' ?_
     obtain ⟨b,a,cap,G,hv,hL⟩:=zoP hM7.seen (k:=t) (by rw [hM7.len];exact htn')
     simp only [Value.slice.injEq,Option.some.injEq,Addr.mk.injEq,and_true] at hv
     obtain ⟨⟨rfl,rfl⟩,_⟩:=hv
     have e1:0+t*Rep.size Raw=t*1:=by rw [Nat.zero_add];rfl
     rw [e1] at hL
     have hone:v35.oneCell'=true:=by
       obtain ⟨aa,cc,FF,xx,hh,_⟩:=zcq ho7.is
       rw [hh];rfl
     refine zin (y':=(⟨v35⟩:Raw)) zrp hL ⟨⟨[v35],⟨rfl,rfl,hone⟩,rfl⟩,List.nodup_nil,Wr.nil _⟩ fun w8 F' hc8 hm8 hF8=>?_
     have hF9:F'=[g]:=by
       obtain ⟨b,o,cap,xs,hv,hF2,_⟩:=zc5 hm8 (by intro e;have h:=congrArg List.length e;rw [List.length_set,hM7.len] at h;simp only [List.length_nil] at h;omega)
       subst hF2
       have:=hF8 b (by simp)
       simpa using this
     subst hF9
     refine ⟨_,hM7.store htn' hc8 hm8 (T':=upT T (t+1)) (a:=w6.heap.size) (b:=w7.heap.size) ?_ hi6 hg6 ?_⟩
     · have:upT T (t+1) t=T t:=by unfold upT;rw [if_pos (by omega)]
       rw [this];exact ho7.toI
     intro k hk
     unfold upT
     by_cases h:k<t
     · rw [if_pos h,if_pos (by omega)]
     rw [if_neg h,if_neg (by omega)]
   have hpl':=of_decide_eq_false hpl
   have hTt:T t=[]:=by
     rw [hTd,if_neg fun h=>hpl' ⟨h,(hatl t).2⟩]
   have:upT T (t+1)=upT T t:=by
     funext k
     unfold upT
     by_cases h:k=t
     · subst h;rw [if_pos (by omega),if_neg (by omega),hTt]
     by_cases h2:k<t
     · rw [if_pos h2,if_pos (by omega)]
     rw [if_neg h2,if_neg (by omega)]
   exact ⟨vs,by rw [this];exact hM6⟩
 rintro u9 w9 ⟨vs,hM9⟩
 have hupt:∀ u,u≤t→upT T (t+1) u=T u:=fun u hu=>by unfold upT;rw [if_pos (by omega)]
 generalize hT':upT T (t+1)=T' at *
 refine zad zsZ zrp (α:=Raw) (i:=t) hM9.seen.is (by rw [hM9.len];exact htn') fun b1 o1 hA1=>?_
 refine zab zrp hA1 (Ext.refl _) fun v40 h40=>?_
 have hv40:v40=(vs[t]'(by rw [hM9.len];exact htn')).v:=by
   obtain ⟨F,cs,⟨_,rfl,_⟩,hv⟩:=h40
   exact hv
 have hel:∀ {w:World} {lo hi:Nat} {out:Value} {L:List DRace} (hM:MI w2 w lo hi g n out L vs T') (u:Nat) (hu:u≤t),Is w (vs[u]'(by rw [hM9.len];omega)).v (T u):=fun hM u hu=>by
   obtain ⟨_,_,ho,_⟩:=hM.el u (by rw [hM.len];omega)
   have:=ho.is
   rwa [hupt u hu] at this
 refine zae (l:=T t) u45 (by rw [hv40];exact hel hM9 t (Nat.le_refl _)) ?_
 have hsn:(T t).length≤12:=hTl t
 refine zaE (T t).length (fun k us w'=>∃ (out:Value) (lo hi:Nat),us=[out,.int .i64 (k:Int)]∧k≤(T t).length∧MI w2 w' lo hi g n out (gT T t++gA (zhj T t) ((T t).take k)) vs T') 0 (Nat.zero_le _) ⟨out,lo,hi,rfl,Nat.zero_le _,by simpa [gA] using hM9⟩ ?_
 rintro i mk10 u10 w10 hkm10 ⟨out10,lo10,hi10,hu10,hi10l,hM10⟩
 obtain ⟨hu101,hu102⟩:=zfZ hu10
 rw [hu101,hu102]
 refine zai ?_
 refine br (fun hlt10=>?_) (fun hge10=>?_)
 case refine_2=>
   have hil:i=(T t).length:=by omega
   subst hil
   refine zah (by omega) ?_
   refine ⟨mk-1,by omega,t+1,by omega,out10,lo10,hi10,vs,rfl,by omega,?_⟩
   rw [hT']
   have e:gT T (t+1)=gT T t++gA (zhj T t) (T t):=zhk t
   rw [e]
   rw [List.take_length] at hM10
   exact hM10
 have hi':i<(T t).length:=by omega
 refine zad u45 zdK (i:=i) (by rw [hv40];exact hel hM10 t (Nat.le_refl _)) hi' fun b2 o2 hA2=>?_
 refine zab zdK hA2 (Ext.refl _) fun v45 h45=>?_
 refine zdz (α:=DTouch) zti fun w11 hx11 hv11=>?_
 have hlt11:=hv11.lt
 refine za9 (lo:=0) (hi:=0) zdK hv11 (zkz (h45.ext hx11)) (.inr (Nat.zero_le _)) fun w12 hc12 hv12=>?_
 have hx12:Ext w10 w12:=hx11.chgI hc12 (Nat.le_refl _)
 have hM12:=hM10.step hx12
 generalize hag:(T t)[i]=a at *
 have hx10h:lo10≤w10.heap.size∧hi10≤w10.heap.size:=⟨by have:=hM10.h2;have:=hM10.h3;omega,hM10.h3⟩
 generalize w10.heap.size=g10 at *
 refine zpL (α:=Raw) zsZ zrp (b:=g) (o:=0) (k:=t) (n:=n) (cap:=n) (by omega) (Nat.le_refl _) ?_
 refine ziu zsZ ?_
 refine zaE t (fun k us w'=>∃ (out:Value) (lo hi:Nat),us=[out,.int .i64 (k:Int)]∧k≤t∧MI w2 w' lo hi g n out (gT T t++gA (zhj T t) ((T t).take i)++((zhj T t).take k).flatMap (gB a)) vs T'∧VarI 0 0 w' g10 a∧(g10<lo∨hi≤g10)) 0 (Nat.zero_le _) ⟨out10,lo10,hi10,rfl,Nat.zero_le _,by simpa using hM12,hv12,.inr hx10h.2⟩ ?_
 rintro u mk13 u13 w13 hkm13 ⟨out13,lo13,hi13,hu13,hul,hM13,hv13,hg13⟩
 obtain ⟨hu131,hu132⟩:=zfZ hu13
 rw [hu131,hu132]
 have hupl:(zhj T t).length=t:=by simp [zhj]
 refine zai ?_
 refine br (fun hlt13=>?_) (fun hge13=>?_)
 case refine_2=>
   have hul:u=t:=by omega
   refine zah (by omega) ?_
   refine ⟨mk10-1,by omega,i+1,by omega,out13,lo13,hi13,rfl,by omega,?_⟩
   have e:gA (zhj T t) ((T t).take (i+1))=gA (zhj T t) ((T t).take i)++(zhj T t).flatMap (gB a):=by
     unfold gA
     rw [zck hi',hag]
     rfl
   rw [e,←List.append_assoc]
   rw [show (zhj T t).take u=zhj T t from List.take_of_length_le (by omega)] at hM13
   exact hM13
 have hu':u<t:=by omega
 have hgetu:(zhj T t)[u]'(by rw [hupl];exact hu')=T u:=by simp [zhj]
 refine zad zsZ zrp (α:=Raw) (i:=u) (hM13.row_at (by omega) (by omega)) (by rw [List.length_take,hM13.len];omega) fun b3 o3 hA3=>?_
 refine zab zrp hA3 (Ext.refl _) fun v53 h53=>?_
 have hv53:v53=(vs[u]'(by rw [hM9.len];omega)).v:=by
   obtain ⟨F,cs,⟨_,rfl,_⟩,hv⟩:=h53
   simpa [mkv,Rep.agg] using hv
 refine zae (l:=T u) u45 (by rw [hv53];exact hel hM13 u (by omega)) ?_
 refine zaE (T u).length (fun k us w'=>∃ (out:Value) (lo hi:Nat),us=[out,.int .i64 (k:Int)]∧k≤(T u).length∧MI w2 w' lo hi g n out (gT T t++gA (zhj T t) ((T t).take i)++((zhj T t).take u).flatMap (gB a)++((T u).take k).flatMap (clR a)) vs T'∧VarI 0 0 w' g10 a∧(g10<lo∨hi≤g10)) 0 (Nat.zero_le _) ⟨out13,lo13,hi13,rfl,Nat.zero_le _,by simpa using hM13,hv13,hg13⟩ ?_
 rintro j mk16 u16 w16 hkm16 ⟨out16,lo16,hi16,hu16,hjl,hM16,hv16,hg16⟩
 obtain ⟨hu161,hu162⟩:=zfZ hu16
 rw [hu161,hu162]
 have hsu:(T u).length≤12:=hTl u
 refine zai ?_
 refine br (fun hlt16=>?_) (fun hge16=>?_)
 case refine_2=>
   have hjl:j=(T u).length:=by omega
   subst hjl
   refine zah (by omega) ?_
   refine ⟨mk13-1,by omega,u+1,by omega,out16,lo16,hi16,rfl,by omega,?_,hv16,hg16⟩
   rw [zck (by rw [hupl];exact hu'),hgetu,←List.append_assoc]
   rw [List.take_length] at hM16
   exact hM16
 have hj':j<(T u).length:=by omega
 refine zad u45 zdK (i:=j) (by rw [hv53];exact hel hM16 u (by omega)) hj' fun b4 o4 hA4=>?_
 refine zab zdK hA4 (Ext.refl _) fun v59 h59=>?_
 refine zdz (α:=DTouch) zti fun w17 hx17 hv17=>?_
 have hlt17:=hv17.lt
 refine za9 (lo:=0) (hi:=0) zdK hv17 (zkz (h59.ext hx17)) (.inr (Nat.zero_le _)) fun w18 hc18 hv18=>?_
 have hx18:Ext w16 w18:=hx17.chgI hc18 (Nat.le_refl _)
 have hM18:=hM16.step hx18
 have hvb:VarI 0 0 w18 g10 a:=hv16.ext hx18
 generalize hbg:(T u)[j]=b at *
 refine zes zdK hvb (Ext.refl _) fun v60 h60=>?_
 refine zes zdK hv18 (Ext.refl _) fun v61 h61=>?_
 refine (zq7 h60.is (Ext.refl _) h61.is (Ext.refl _)).mono ?_
 rintro _ w19 ⟨hx19,rfl⟩
 have hM19:=hM18.step hx19
 refine zcM (fun hcl=>?_) (fun hcl=>?_)
 · have hcl':=of_decide_eq_true hcl
   refine zes zdK hvb hx19 fun v64 h64=>?_
   refine zes zdK hv18 hx19 fun v65 h65=>?_
   refine (zp5 h64.is hx19 h65.is hx19).mono ?_
   rintro v66 w20 ⟨hx20,ho20⟩
   have hM20:=hM19.step hx20
   have hlen:(gT T t++gA (zhj T t) ((T t).take i)++((zhj T t).take u).flatMap (gB a)++((T u).take j).flatMap (clR a)).length≤10000:=by
     have q1:=zrJ hTl (n:=t) (by omega)
     have hup:∀ L∈zhj T t,L.length≤12:=fun L hL=>by
       simp only [zhj,List.mem_map] at hL
       obtain ⟨u,_,rfl⟩:=hL
       exact hTl u
     have q2:=zrI (Ls:=zhj T t) (xs:=(T t).take i) (by omega) hup (by rw [List.length_take];omega)
     have q3:=zrH (Ls:=(zhj T t).take u) a (by rw [List.length_take];omega) fun L hL=>hup L (List.mem_of_mem_take hL)
     have q4:=znM a (bs:=(T u).take j) (by rw [List.length_take];omega)
     unfold gL at q3
     unfold gB at q4
     simp only [List.length_append]
     unfold gB at *
     omega
   refine zpu u40 zdd z43 ztf (by decide) hM20.row (ho20 0 0) (by rw [zam];omega) (by omega) fun v68 w21 lo21 hi21 hc21 hr21 hd21=>?_
   have hM21:=hM20.push hc21 hr21 hd21
   refine zah (by omega) ?_
   have hgs:g10<w20.heap.size:=by have:=hvb.lt;have:=hx19.size;have:=hx20.size;omega
   refine ⟨mk16-1,by omega,j+1,by omega,v68,lo21,hi21,rfl,by omega,?_,(((hvb.ext hx19).ext hx20).chg hc21 (.inl (Nat.zero_le _)) hg16),by omega⟩
   rw [zck hj',←List.append_assoc]
   have:clR a (T u)[j]=[zdW a b]:=by rw [hbg];unfold clR;rw [if_pos hcl']
   rw [this]
   exact hM21
 have hcl':=of_decide_eq_false hcl
 refine zah (by omega) ?_
 refine ⟨mk16-1,by omega,j+1,by omega,out16,lo16,hi16,rfl,by omega,?_,hvb.ext hx19,hg16⟩
 rw [zck hj']
 have:clR a (T u)[j]=[]:=by rw [hbg];unfold clR;rw [if_neg hcl']
 rw [this,List.append_nil]
 exact hM19
def F75 (a0 a1:Value) (w:World) (R:VW):Prop:=
 oP (Instr.box 28 a0) w fun x2 w=>
 oP (Instr.box 31 a1) w fun x3 w=>
 oP (Instr.buildSlice 40 0 #[]) w fun x15 w=>
 LOOPI [5,6] [x15,(iV 0)] w fun u3 w next3=>
 rF 31 x3 2 w fun x17=>
 rL 29 x17 w fun x18=>
 rN 29 3 x18 w fun x19=>
 rC (u3 6) x19 w fun x20=>
 BR x20
 (LOOPI [5,7] [(u3 5),(iV 0)] w fun u6 w next6=>
 rC (u6 7) (u3 6) w fun x25=>
 BR x25
 (rL 31 x3 w fun x28=>
 cL 123 [x28,(u3 6)] w fun x30 w=>
 rL 31 x3 w fun x31=>
 cL 123 [x31,(u6 7)] w fun x33 w=>
 rB .lss 3 T0 U0 x30 (iV 0) w fun x35=>
 BR x35
 (rA (u6 7) (iV 1) w fun x27=>
 next6 [(u6 5),x27] w)
 (rB .lss 3 T0 U0 x33 (iV 0) w fun x38=>
 BR x38
 (rA (u6 7) (iV 1) w fun x27=>
 next6 [(u6 5),x27] w)
 (rL 28 x2 w fun x40=>
 cL 133 [x40,x30,(iV 0)] w fun x42 w=>
 rL 28 x2 w fun x43=>
 cL 133 [x43,x33,(iV 0)] w fun x45 w=>
 LOOPI [5,12] [(u6 5),(iV 0)] w fun u14 w next14=>
 rN 45 3 x42 w fun x48=>
 rC (u14 12) x48 w fun x49=>
 BR x49
 (LOOPI [5,13] [(u14 5),(iV 0)] w fun u17 w next17=>
 rN 45 3 x45 w fun x54=>
 rC (u17 13) x54 w fun x55=>
 BR x55
 (JOIN [] (fun J20=>
 (fun w=>rX 45 x42 (u14 12) w fun x60=>
 rF 146 x60 1 w fun x61=>
 rL 3 x61 w fun x62=>
 rX 45 x45 (u17 13) w fun x65=>
 rF 146 x65 1 w fun x66=>
 rL 3 x66 w fun x67=>
 rB .neq 3 T0 T0 x62 x67 w fun x68=>
 BR x68
 (rA (u17 13) (iV 1) w fun x57=>
 next17 [(u17 5),x57] w)
 (rX 45 x42 (u14 12) w fun x72=>
 rF 146 x72 2 w fun x73=>
 rL 4 x73 w fun x74=>
 rD (Op.unary .not x74) w fun x75=>
 GBR x75
 (rX 45 x45 (u17 13) w fun x79=>
 rF 146 x79 2 w fun x80=>
 rL 4 x80 w fun x81=>
 rD (Op.unary .not x81) w fun x82=>
 BR x82
 (rA (u17 13) (iV 1) w fun x57=>
 next17 [(u17 5),x57] w)
 (J20 [] w))
 (J20 [] w)
 (BR undef
 (BR undef
 (rA (u17 13) (iV 1) w fun x57=>
 next17 [(u17 5),x57] w)
 (J20 [] w))
 (J20 [] w)))) (World.drew1 w)) (fun u20 w=>
 rX 45 x42 (u14 12) w fun x87=>
 rF 146 x87 1 w fun x88=>
 rL 3 x88 w fun x89=>
 rD (Instr.build 43 #[(0,x89),(1,x30),(2,x33)]) w fun x92=>
 oP (Instr.alloc 43 true (.tuple #[])) w fun x14 w=>
 oS 43 x14 x92 w fun w=>
 rB .gtr 3 T0 T0 x30 x33 w fun x95=>
 BR x95
 (rF 43 x14 1 w fun x97=>
 oS 3 x97 x33 w fun w=>
 rF 43 x14 2 w fun x99=>
 oS 3 x99 x30 w fun w=>
 rL 43 x14 w fun x101=>
 cL 134 [(u17 5),x101] w fun x102 w=>
 rA (u17 13) (iV 1) w fun x57=>
 next17 [x102,x57] w)
 (rL 43 x14 w fun x101=>
 cL 134 [(u17 5),x101] w fun x102 w=>
 rA (u17 13) (iV 1) w fun x57=>
 next17 [x102,x57] w)))
 (rA (u14 12) (iV 1) w fun x51=>
 next14 [(u17 5),x51] w))
 (rA (u6 7) (iV 1) w fun x27=>
 next6 [(u14 5),x27] w))))
 (rA (u3 6) (iV 1) w fun x22=>
 next3 [(u6 5),x22] w))
 (R (u3 5) w)
def cfg75:Cfg:=⟨extL,[(20,38685625939437757438885888,[])],[(3,10141204801825835211973625610208,[5,6]),(6,10141204801825835211973617287072,[5,7]),(14,10141204801825835141604881494048,[5,12]),(17,10141204801825830708373998297120,[5,13])],[(19,[0,1,2,3,4,5,6,7,8,9,10,11,12,13,14,15,16,17,18,19,20,21,22,23,24,25,26],0)],[],[],[]⟩
theorem F75_call {a0 a1:Value} {w:World} {R:VW} (h:F75 a0 a1 w R):cL 75 [a0,a1] w R:=co (g:=cfg75) Tryz.func75 (by kernel_rfl) (by kernel_rfl) (by kernel_rfl) h
theorem zsL {a b:DTouch} (ha:a.held=0) (hb:b.held=0):zdV a b↔a.global=b.global∧(a.write=true∨b.write=true):=by
 unfold zdV
 rw [ha,hb]
 constructor
 · exact fun h=>⟨h.1,h.2.1⟩
 exact fun h=>⟨h.1,h.2,by omega,by omega,by decide⟩
theorem zoy {w W0 W1:World} {v0 v1:Value} {c:DCode} {s:DState} (h0:Is W0 v0 c) (e0:Ext W0 w) (h1:Is W1 v1 s) (e1:Ext W1 w) (hc:CodeR c) (hs:zaz c s) :
   CALL Tryz.prog 75 [v0,v1] w fun r w'=>Ext w w'∧Own w.heap.size w' r (zkA c s):=by
 have hn6:=hs.2.2.1
 have hTl:=zrM s hc
 have hTa:=@zrb c s
 have hatl:=ziE hs
 have hins:=hc.2.1.2.1
 have hTd:∀ t,tA c s t=if 0≤zce s t then zcj c (zce s t) 0 else []:=fun t=>rfl
 rw [←zsK]
 generalize tA c s=T at *
 refine F75_call ?_
 unfold F75
 refine zcG h0 e0 fun w1 hx1 hAc=>?_
 refine zcG h1 (e1.trans hx1) fun w2 hx2 hB=>?_
 refine zaK (α:=DRace) u40 zdd fun a0 w3 hx3 hr3=>?_
 have hs1:=hx1.size
 have hs2:=hx2.size
 have hs3:=hx3.size
 generalize hn:s.stacks.length=n at *
 refine zaE n (fun k us w'=>∃ (out:Value),us=[out,.int .i64 (k:Int)]∧k≤n∧Ext w2 w'∧Own w2.heap.size w' out (zdi (hT T k))) 0 (Nat.zero_le _) ⟨_,rfl,Nat.zero_le _,hx3,(hr3.own.mono (lo':=w2.heap.size) hs3 (Nat.le_refl _)).own⟩ ?_
 rintro t mk u3 w4 hkm ⟨out,hu,htn,hx4,ho4⟩
 obtain ⟨hu1,hu2⟩:=zfZ hu
 rw [hu1,hu2]
 refine zaa zaT ?_
 refine zab zdJ (zau hB) hx4 fun v18 h18=>?_
 refine zae u29 h18 ?_
 rw [hn]
 refine zai ?_
 refine br (fun hlt=>?_) (fun hge=>?_)
 case refine_2=>
   have htn2:t=n:=by omega
   rw [htn2] at ho4
   exact ⟨(hx1.trans hx2).trans hx4,ho4.mono (by omega)⟩
 have htn':t<n:=by omega
 have hLt:(hT T t).length≤5184:=ztE hTl (by omega)
 refine zaE t (fun k us w'=>∃ (out:Value),us=[out,.int .i64 (k:Int)]∧k≤t∧Ext w2 w'∧Own w2.heap.size w' out (zdi (hT T t++hU T (T t) k))) 0 (Nat.zero_le _) ⟨out,rfl,Nat.zero_le _,hx4,by simpa [hU] using ho4⟩ ?_
 rintro u mk6 u6 w6 hkm6 ⟨out6,hu6,hut,hx6,ho6⟩
 obtain ⟨hu61,hu62⟩:=zfZ hu6
 rw [hu61,hu62]
 refine zai ?_
 refine br (fun hlt6=>?_) (fun hge6=>?_)
 case refine_2=>
   have hut2:u=t:=by omega
   rw [hut2] at ho6
   refine zah (by omega) ?_
   refine ⟨mk-1,by omega,t+1,by omega,out6,rfl,by omega,hx6,?_⟩
   have e:hT T (t+1)=hT T t++hU T (T t) t:=zhk t
   rw [e];exact ho6
 have hut':u<t:=by omega
 have hLu:(hU T (T t) u).length≤864:=zrL hTl (hTl t) (by omega)
 have hUs:hU T (T t) (u+1)=hU T (T t) u++hA (T u) (T t):=zhk u
 refine zab zbM hB hx6 fun v28 h28=>?_
 refine (zew h28 hx6).mono ?_
 rintro _ w7 ⟨hx7,rfl⟩
 have hx27:=hx6.trans hx7
 refine zab zbM hB hx27 fun v31 h31=>?_
 refine (zew h31 hx27).mono ?_
 rintro _ w8 ⟨hx8,rfl⟩
 have hx28:=hx27.trans hx8
 have ho8:=(ho6.ext hx7).ext hx8
 refine zai ?_
 refine br (fun ha0=>?_) (fun ha0=>?_)
 · refine zah (by omega) ?_
   refine ⟨mk6-1,by omega,u+1,by omega,out6,rfl,by omega,hx28,?_⟩
   have e:T t=[]:=by rw [hTd,if_neg (by omega)]
   have:hA (T u) (T t)=[]:=by rw [e];rfl
   rw [hUs,this,List.append_nil];exact ho8
 refine zai ?_
 refine br (fun hb0=>?_) (fun hb0=>?_)
 · refine zah (by omega) ?_
   refine ⟨mk6-1,by omega,u+1,by omega,out6,rfl,by omega,hx28,?_⟩
   have e:T u=[]:=by rw [hTd,if_neg (by omega)]
   have:hA (T u) (T t)=[]:=by
     rw [e];unfold hA gB
     simp
   rw [hUs,this,List.append_nil];exact ho8
 have hTt:T t=zcj c (zce s t) 0:=by rw [hTd,if_pos (by omega)]
 have hTu:T u=zcj c (zce s u) 0:=by rw [hTd,if_pos (by omega)]
 have ha9:=hatl t
 have hb9:=hatl u
 have hx18:=hx2.trans hx28
 refine zab zbq hAc hx18 fun v40 h40=>?_
 refine (znH h40 hx18 hc (by omega) (by omega) (by unfold I64;omega)).mono ?_
 rintro v42 w9 ⟨hx9,ho9⟩
 have hx19:=hx18.trans hx9
 refine zab zbq hAc hx19 fun v43 h43=>?_
 refine (znH h43 hx19 hc (by omega) (by omega) (by unfold I64;omega)).mono ?_
 rintro v45 w10 ⟨hx10,ho10⟩
 rw [←hTt] at ho9
 rw [←hTu] at ho10
 have hI42:Is w10 v42 (T t):=ho9.is.ext hx10
 have hI45:Is w10 v45 (T u):=ho10.is
 have hx210:=(hx28.trans hx9).trans hx10
 have hsn:(T t).length≤12:=hTl t
 have hsu:(T u).length≤12:=hTl u
 refine zaE (T t).length (fun k us w'=>∃ (out:Value),us=[out,.int .i64 (k:Int)]∧k≤(T t).length∧Ext w10 w'∧Own w2.heap.size w' out (zdi (hT T t++hU T (T t) u++hA (T u) ((T t).take k)))) 0 (Nat.zero_le _) ⟨out6,rfl,Nat.zero_le _,Ext.refl _,by simpa [hA] using (ho8.ext hx9).ext hx10⟩ ?_
 rintro i mk14 u14 w14 hkm14 ⟨out14,hu14,hil,hx14,ho14⟩
 obtain ⟨hu141,hu142⟩:=zfZ hu14
 rw [hu141,hu142]
 refine zae u45 hI42 ?_
 refine zai ?_
 refine br (fun hlt14=>?_) (fun hge14=>?_)
 case refine_2=>
   have hil2:i=(T t).length:=by omega
   rw [hil2,List.take_length] at ho14
   refine zah (by omega) ?_
   refine ⟨mk6-1,by omega,u+1,by omega,out14,rfl,by omega,hx210.trans hx14,?_⟩
   rw [hUs,←List.append_assoc];exact ho14
 have hi':i<(T t).length:=by omega
 have hLi:(hA (T u) ((T t).take i)).length≤144:=zrK hsu (by rw [List.length_take];omega)
 generalize hag:(T t)[i]=a at *
 have hata:=hTa (t:=t) (x:=a) (by rw [←hag];exact List.getElem_mem _)
 refine zaE (T u).length (fun k us w'=>∃ (out:Value),us=[out,.int .i64 (k:Int)]∧k≤(T u).length∧Ext w10 w'∧Own w2.heap.size w' out (zdi (hT T t++hU T (T t) u++hA (T u) ((T t).take i)++((T u).take k).flatMap (clR a)))) 0 (Nat.zero_le _) ⟨out14,rfl,Nat.zero_le _,hx14,by simpa using ho14⟩ ?_
 rintro j mk17 u17 w17 hkm17 ⟨out17,hu17,hjl,hx17,ho17⟩
 obtain ⟨hu171,hu172⟩:=zfZ hu17
 rw [hu171,hu172]
 refine zae u45 hI45 ?_
 refine zai ?_
 refine br (fun hlt17=>?_) (fun hge17=>?_)
 case refine_2=>
   have hjl2:j=(T u).length:=by omega
   rw [hjl2,List.take_length] at ho17
   refine zah (by omega) ?_
   refine ⟨mk14-1,by omega,i+1,by omega,out17,rfl,by omega,hx17,?_⟩
   have e:hA (T u) ((T t).take (i+1))=hA (T u) ((T t).take i)++(T u).flatMap (clR a):=by
     unfold hA
     rw [zck hi',hag]
     rfl
   rw [e,←List.append_assoc];exact ho17
 have hj':j<(T u).length:=by omega
 have hLj:(((T u).take j).flatMap (clR a)).length≤12:=znM a (bs:=(T u).take j) (by rw [List.length_take];omega)
 generalize hbg:(T u)[j]=b at *
 have hatb:=hTa (t:=u) (x:=b) (by rw [←hbg];exact List.getElem_mem _)
 have hcl0:=zsL hata.2 hatb.2
 have hno:∀ w',Ext w17 w'→¬zdV a b→∃ (out:Value),[out17,Value.int .i64 ((j+1:Nat):Int)]=[out,.int .i64 ((j+1:Nat):Int)]∧j+1≤(T u).length∧Ext w10 w'∧Own w2.heap.size w' out (zdi (hT T t++hU T (T t) u++hA (T u) ((T t).take i)++((T u).take (j+1)).flatMap (clR a))):=fun w' hx hn=>by
   refine ⟨out17,rfl,by omega,hx17.trans hx,?_⟩
   have:clR a b=[]:=by unfold clR;rw [if_neg hn]
   rw [zck hj',hbg,this,List.append_nil]
   exact ho17.ext hx
 refine JOIN.mk (fun us w'=>Ext w17 w'∧zdV a b) ?_ ?_
 · have hx18:=zaj w17
   generalize World.drew1 w17=w18 at *
   have hx1018:=hx17.trans hx18
   refine zad u45 zdK (i:=i) hI42 hi' fun b2 o2 hA2=>?_
   refine zaa zgN ?_
   rw [hag] at hA2
   refine zac ty3 (zcX hA2) hx1018 fun hI62=>?_
   refine zad u45 zdK (i:=j) hI45 hj' fun b3 o3 hA3=>?_
   refine zaa zgN ?_
   rw [hbg] at hA3
   refine zac ty3 (zcX hA3) hx1018 fun hI67=>?_
   refine zaM ?_
   refine br (fun hne=>?_) (fun heq=>?_)
   · refine zah (by omega) ?_
     exact ⟨mk17-1,by omega,j+1,by omega,hno w18 hx18 fun h=>hne (hcl0.1 h).1⟩
   have heq':=Decidable.not_not.1 heq
   refine zad u45 zdK (i:=i) hI42 hi' fun b4 o4 hA4=>?_
   refine zaa zjN ?_
   rw [hag] at hA4
   refine zhB ty4 (zeu hA4) hx1018 ?_
   refine zbs ?_
   refine zqt (fun hwa=>?_) (fun hwa=>?_)
   · refine zad u45 zdK (i:=j) hI45 hj' fun b5 o5 hA5=>?_
     refine zaa zjN ?_
     rw [hbg] at hA5
     refine zhB ty4 (zeu hA5) hx1018 ?_
     refine zbs ?_
     refine zcM (fun hwb=>?_) (fun hwb=>?_)
     · refine zah (by omega) ?_
       refine ⟨mk17-1,by omega,j+1,by omega,hno w18 hx18 fun h=>?_⟩
       rcases (hcl0.1 h).2 with h | h<;>simp [h] at hwa hwb
     exact ⟨hx18,hcl0.2 ⟨heq',.inr (by simpa using hwb)⟩⟩
   exact ⟨hx18,hcl0.2 ⟨heq',.inl (by simpa using hwa)⟩⟩
 rintro u20 w20 ⟨hx20,hcl⟩
 have hx1020:=hx17.trans hx20
 have ho20:=ho17.ext hx20
 refine zad u45 zdK (i:=i) hI42 hi' fun b2 o2 hA2=>?_
 refine zaa zgN ?_
 rw [hag] at hA2
 refine zac ty3 (zcX hA2) hx1020 fun hI89=>?_
 refine zaH (cells:=#[.int .i64 a.global,.int .i64 (zce s t),.int .i64 (zce s u)]) (by kernel_rfl) ?_
 refine zdz (α:=DRace) ztS fun w21 hx21 hv21=>?_
 have hlt21:=hv21.lt
 have hm:∀ (w:World) lo hi,OwnI lo hi w (.agg #[.int .i64 a.global,.int .i64 (zce s t),.int .i64 (zce s u)]) (⟨a.global,zce s t,zce s u⟩:DRace):=fun w lo hi=>⟨[],zkQ (x:=⟨a.global,zce s t,zce s u⟩) hI89 (by unfold I64;simp only;omega) (by unfold I64;simp only;omega),by simp⟩
 refine za9 (lo:=w20.heap.size) (hi:=w20.heap.size) zdd hv21 (hm w21 _ _) (.inr (Nat.le_refl _)) fun w22 hc22 hv22=>?_
 have hx22:Ext w20 w22:=hx21.chgI hc22 (Nat.le_refl _)
 have hrace:zdW a b=if zce s u<zce s t then ⟨a.global,zce s u,zce s t⟩ else ⟨a.global,zce s t,zce s u⟩:=by
   unfold zdW
   rw [hata.1,hatb.1]
   split
   · rw [Int.min_eq_right (by omega),Int.max_eq_left (by omega)]
   rw [Int.min_eq_left (by omega),Int.max_eq_right (by omega)]
 have hclr:clR a b=[zdW a b]:=by unfold clR;rw [if_pos hcl]
 have hlen:(zdi (hT T t++hU T (T t) u++hA (T u) ((T t).take i)++((T u).take j).flatMap (clR a))).length≤10000:=by
   refine Nat.le_trans (zp9 _) ?_
   simp only [List.length_append]
   omega
 have hsz2:=hx210.size
 have hsz3:=hx1020.size
 have hyes:∀ (r:Value) (w' w'':World),Ext w20 w'→Ext w' w''→OwnI w2.heap.size w''.heap.size w'' r (zi0 (zdW a b) (zdi (hT T t++hU T (T t) u++hA (T u) ((T t).take i)++((T u).take j).flatMap (clR a)))) →
     ∃ (out:Value),[r,Value.int .i64 ((j+1:Nat):Int)]=[out,.int .i64 ((j+1:Nat):Int)]∧j+1≤(T u).length∧Ext w10 w''∧Own w2.heap.size w'' out (zdi (hT T t++hU T (T t) u++hA (T u) ((T t).take i)++((T u).take (j+1)).flatMap (clR a))):=fun r w' w'' hx hy ho=>by
   refine ⟨r,rfl,by omega,(hx1020.trans hx).trans hy,?_⟩
   rw [zck hj',hbg,hclr,←List.append_assoc,zos]
   exact ho.own
 refine zb0 ?_
 refine br (fun hgt=>?_) (fun hle=>?_)
 · rw [if_pos hgt] at hrace
   obtain ⟨F,hO,hF⟩:=hv22
   refine zaa zfy ?_
   obtain ⟨G1,hL1⟩:=zkO (Lens.var hO)
   refine znk ty3 hL1 hF (Nat.le_refl _) (Nat.le_refl _) (zcK (x:=zce s u) (by unfold I64;omega)) fun w23 hc23 hv23=>?_
   obtain ⟨F2,hO2,hF2⟩:=hv23
   refine zaa zi8 ?_
   obtain ⟨G2,hL2⟩:=zkP (Lens.var hO2)
   refine znk ty3 hL2 hF2 (Nat.le_refl _) (Nat.le_refl _) (zcK (x:=zce s t) (by unfold I64;omega)) fun w24 hc24 hv24=>?_
   have hx24:Ext w20 w24:=(hx22.chgI hc23 (Nat.le_refl _)).chgI hc24 (Nat.le_refl _)
   refine zes zdd hv24 (Ext.refl _) fun v101 h101=>?_
   have ho24:=ho20.ext hx24
   refine (zlF ho24.toI (by have:=hx24.size;omega) h101.is (Ext.refl _) (by omega)).mono ?_
   rintro v102 w25 ⟨hx25,ho25⟩
   rw [←hrace] at ho25
   refine zah (by omega) ?_
   exact ⟨mk17-1,by omega,j+1,by omega,hyes v102 w24 w25 hx24 hx25 ho25⟩
 rw [if_neg hle] at hrace
 refine zes zdd hv22 (Ext.refl _) fun v101 h101=>?_
 have ho22:=ho20.ext hx22
 refine (zlF ho22.toI (by have:=hx22.size;omega) h101.is (Ext.refl _) (by omega)).mono ?_
 rintro v102 w23 ⟨hx23,ho23⟩
 rw [←hrace] at ho23
 refine zah (by omega) ?_
 exact ⟨mk17-1,by omega,j+1,by omega,hyes v102 w22 w23 hx22 hx23 ho23⟩
def F18 (a0 a1:Value) (w:World) (R:VW):Prop:=
 oP (Instr.box 28 a0) w fun x2 w=>
 oP (Instr.box 31 a1) w fun x3 w=>
 rL 28 x2 w fun x5=>
 rL 31 x3 w fun x6=>
 cL 60 [x5,x6] w fun x7 w=>
 rD (Op.unary .not x7) w fun x8=>
 BR x8
 (R (Value.slice none 0 0) w)
 (rL 28 x2 w fun x9=>
 rL 31 x3 w fun x10=>
 cL 71 [x9,x10] w fun x11 w=>
 R x11 w)
def cfg18:Cfg:=⟨extL,[],[],[],[],[],[]⟩
theorem F18_call {a0 a1:Value} {w:World} {R:VW} (h:F18 a0 a1 w R):cL 18 [a0,a1] w R:=co (g:=cfg18) Tryz.func18 (by kernel_rfl) (by kernel_rfl) (by kernel_rfl) h
theorem zhl {w:World} {v0:Value} {W0:World} {c:DCode} {v1:Value} {W1:World} {s:DState}  (h0:Is W0 v0 c) (e0:Ext W0 w) (h1:Is W1 v1 s) (e1:Ext W1 w)  :
   CALL Tryz.prog 18 [v0,v1] w fun r w'=>Ext w w'∧(Own w.heap.size w' r (zel c s)):=by
 refine F18_call ?_
 unfold F18
 have hs_e0:=e0.size
 have hs_e1:=e1.size
 refine zal zbq rfl h0 e0 fun w1_ hx1_ hA2 hV2=>?_
 have hs_hx1_:=hx1_.size
 refine zal zbM rfl h1 (e1.trans hx1_) fun w2_ hx2_ hA3 hV3=>?_
 have hs_hx2_:=hx2_.size
 refine zan hV2 hx2_ ?_
 refine zan hV3 (Ext.refl w2_) ?_
 refine (zb8 h0 (e0.trans (hx1_.trans hx2_)) h1 (e1.trans (hx1_.trans hx2_))).mono ?_
 rintro _ w3_ ⟨hx3_,rfl⟩
 have hs_hx3_:=hx3_.size
 refine zas ?_
 refine br (fun c1=>?_) (fun c1=>?_)
 · refine ⟨(hx1_.trans (hx2_.trans hx3_)),?_⟩
   unfold zel;rw [if_neg c1];exact zfD rfl
 refine zan hV2 (hx2_.trans hx3_) ?_
 refine zan hV3 hx3_ ?_
 refine (ziU h0 (e0.trans (hx1_.trans (hx2_.trans hx3_))) h1 (e1.trans (hx1_.trans (hx2_.trans hx3_))) (Decidable.not_not.1 c1).1 (Decidable.not_not.1 c1).2).mono ?_
 rintro r11 w4_ ⟨hx4_,o11⟩
 have o11:=o11.toI
 have hs_hx4_:=hx4_.size
 refine ⟨(hx1_.trans (hx2_.trans (hx3_.trans hx4_))),?_⟩
 unfold zel;rw [if_pos (Decidable.not_not.1 c1)];exact o11.own.mono (by omega)
def F22 (a0 a1:Value) (w:World) (R:VW):Prop:=
 oP (Instr.box 28 a0) w fun x2 w=>
 oP (Instr.box 31 a1) w fun x3 w=>
 rL 28 x2 w fun x5=>
 rL 31 x3 w fun x6=>
 cL 64 [x5,x6] w fun x7 w=>
 rD (Op.unary .not x7) w fun x8=>
 BR x8
 (oP (Instr.buildSlice 40 0 #[]) w fun x9 w=>
 R x9 w)
 (rL 28 x2 w fun x10=>
 rL 31 x3 w fun x11=>
 cL 75 [x10,x11] w fun x12 w=>
 R x12 w)
def cfg22:Cfg:=⟨extL,[],[],[],[],[],[]⟩
theorem F22_call {a0 a1:Value} {w:World} {R:VW} (h:F22 a0 a1 w R):cL 22 [a0,a1] w R:=co (g:=cfg22) Tryz.func22 (by kernel_rfl) (by kernel_rfl) (by kernel_rfl) h
theorem zem {w:World} {v0:Value} {W0:World} {c:DCode} {v1:Value} {W1:World} {s:DState}  (h0:Is W0 v0 c) (e0:Ext W0 w) (h1:Is W1 v1 s) (e1:Ext W1 w)  :
   CALL Tryz.prog 22 [v0,v1] w fun r w'=>Ext w w'∧(Own w.heap.size w' r (zel c s)):=by
 refine F22_call ?_
 unfold F22
 have hs_e0:=e0.size
 have hs_e1:=e1.size
 refine zal zbq rfl h0 e0 fun w1_ hx1_ hA2 hV2=>?_
 have hs_hx1_:=hx1_.size
 refine zal zbM rfl h1 (e1.trans hx1_) fun w2_ hx2_ hA3 hV3=>?_
 have hs_hx2_:=hx2_.size
 refine zan hV2 hx2_ ?_
 refine zan hV3 (Ext.refl w2_) ?_
 refine (zda h0 (e0.trans (hx1_.trans hx2_)) h1 (e1.trans (hx1_.trans hx2_))).mono ?_
 rintro _ w3_ ⟨hx3_,rfl⟩
 have hs_hx3_:=hx3_.size
 refine zas ?_
 refine br (fun c1=>?_) (fun c1=>?_)
 · refine zaK (α:=DRace) u40 zdd fun v9 w4_ hx4_ o9=>?_
   have hs_hx4_:=hx4_.size
   refine ⟨(hx1_.trans (hx2_.trans (hx3_.trans hx4_))),?_⟩
   unfold zel;rw [if_neg c1];exact o9.own.own.mono (by omega)
 refine zan hV2 (hx2_.trans hx3_) ?_
 refine zan hV3 hx3_ ?_
 refine (zoy h0 (e0.trans (hx1_.trans (hx2_.trans hx3_))) h1 (e1.trans (hx1_.trans (hx2_.trans hx3_))) (Decidable.not_not.1 c1).1 (Decidable.not_not.1 c1).2).mono ?_
 rintro r12 w5_ ⟨hx5_,o12⟩
 have o12:=o12.toI
 have hs_hx5_:=hx5_.size
 refine ⟨(hx1_.trans (hx2_.trans (hx3_.trans hx5_))),?_⟩
 unfold zel;rw [if_pos (Decidable.not_not.1 c1)];exact o12.own.mono (by omega)
def zmP (c:DCode) (s:DState):Prop:=(CodeR c∧zaz c s)∧zkA c s=[]∧zbz c s s.stacks.length=0
instance (c:DCode) (s:DState):Decidable (zmP c s):=by unfold zmP;infer_instance
theorem zeP {α:Type} {l:List α}:((l.length:Int)=0)↔l=[]:=by
 rw [←List.length_eq_zero_iff];omega
def F24 (a0 a1:Value) (w:World) (R:VW):Prop:=
 oP (Instr.box 28 a0) w fun x2 w=>
 oP (Instr.box 31 a1) w fun x3 w=>
 rL 28 x2 w fun x5=>
 rL 31 x3 w fun x6=>
 cL 60 [x5,x6] w fun x7 w=>
 BR x7
 (rL 28 x2 w fun x9=>
 rL 31 x3 w fun x10=>
 cL 71 [x9,x10] w fun x11 w=>
 rN 40 3 x11 w fun x12=>
 rB .eql 3 T0 U0 x12 (iV 0) w fun x13=>
 BR x13
 (rL 28 x2 w fun x16=>
 rL 31 x3 w fun x17=>
 cL 62 [x16,x17] w fun x18 w=>
 rB .eql 3 T0 U0 x18 (iV 0) w fun x19=>
 R x19 w)
 (R (Value.bool false) w))
 (R (Value.bool false) w)
def cfg24:Cfg:=⟨extL,[],[],[],[],[],[]⟩
theorem F24_call {a0 a1:Value} {w:World} {R:VW} (h:F24 a0 a1 w R):cL 24 [a0,a1] w R:=co (g:=cfg24) Tryz.func24 (by kernel_rfl) (by kernel_rfl) (by kernel_rfl) h
theorem zmQ {w:World} {v0:Value} {W0:World} {c:DCode} {v1:Value} {W1:World} {s:DState}  (h0:Is W0 v0 c) (e0:Ext W0 w) (h1:Is W1 v1 s) (e1:Ext W1 w)  :
   CALL Tryz.prog 24 [v0,v1] w fun r w'=>Ext w w'∧(r=.bool (decide (zmP c s))):=by
 refine F24_call ?_
 unfold F24
 refine zal zbq rfl h0 e0 fun w1_ hx1_ hA2 hV2=>?_
 refine zal zbM rfl h1 (e1.trans hx1_) fun w2_ hx2_ hA3 hV3=>?_
 refine zan hV2 hx2_ ?_
 refine zan hV3 (Ext.refl w2_) ?_
 refine (zb8 h0 (e0.trans (hx1_.trans hx2_)) h1 (e1.trans (hx1_.trans hx2_))).mono ?_
 rintro _ w3_ ⟨hx3_,rfl⟩
 refine br (fun c1=>?_) (fun c1=>?_)
 · refine zan hV2 (hx2_.trans hx3_) ?_
   refine zan hV3 hx3_ ?_
   refine (ziU h0 (e0.trans (hx1_.trans (hx2_.trans hx3_))) h1 (e1.trans (hx1_.trans (hx2_.trans hx3_))) c1.1 c1.2).mono ?_
   rintro r11 w4_ ⟨hx4_,o11⟩
   have hln12:=zaf o11.is
   refine zae u40 o11.is ?_
   refine zag ?_
   refine br (fun c2=>?_) (fun c2=>?_)
   · refine zan hV2 (hx2_.trans (hx3_.trans hx4_)) ?_
     refine zan hV3 (hx3_.trans hx4_) ?_
     refine (znF h0 (e0.trans (hx1_.trans (hx2_.trans (hx3_.trans hx4_)))) h1 (e1.trans (hx1_.trans (hx2_.trans (hx3_.trans hx4_)))) c1.1 c1.2).mono ?_
     rintro _ w5_ ⟨hx5_,rfl⟩
     refine zag ?_
     refine ⟨(hx1_.trans (hx2_.trans (hx3_.trans (hx4_.trans hx5_)))),?_⟩
     congr 1
     rw [decide_eq_decide]
     rw [zeP] at c2
     exact ⟨fun h=>⟨c1,c2,by omega⟩,fun h=>by have:=h.2.2;omega⟩
   refine ⟨(hx1_.trans (hx2_.trans (hx3_.trans hx4_))),?_⟩
   have:¬zmP c s:=fun h=>c2 (zeP.2 h.2.1)
   simp only [this,decide_false]
 refine ⟨(hx1_.trans (hx2_.trans hx3_)),?_⟩
 have:¬zmP c s:=fun h=>c1 h.1
 simp only [this,decide_false]
def F3 (a0:Value) (w:World) (R:VW):Prop:=
 cL 7 [a0] w fun x18 w=>
 BR x18
 (R (Value.bool true) w)
 (cL 8 [a0] w fun x21 w=>
 rE x21 0 w fun x22=>
 rE x21 1 w fun x23=>
 oP (Instr.alloc 28 true (.tuple #[])) w fun x3 w=>
 oP (Instr.alloc 31 true (.tuple #[])) w fun x4 w=>
 oS 28 x3 x22 w fun w=>
 oS 31 x4 x23 w fun w=>
 cL 8 [a0] w fun x26 w=>
 rE x26 0 w fun x27=>
 rE x26 1 w fun x28=>
 oP (Instr.alloc 28 true (.tuple #[])) w fun x5 w=>
 oP (Instr.alloc 31 true (.tuple #[])) w fun x6 w=>
 oS 28 x5 x27 w fun w=>
 oS 31 x6 x28 w fun w=>
 rL 28 x3 w fun x29=>
 rL 31 x4 w fun x30=>
 cL 9 [x29,x30] w fun x31 w=>
 oP (Instr.buildSlice 25 0 #[]) w fun x32 w=>
 LOOPI [8,9] [x32,(iV 0)] w fun u8 w next8=>
 rF 31 x6 2 w fun x34=>
 rL 29 x34 w fun x35=>
 rN 29 3 x35 w fun x36=>
 rC (u8 9) x36 w fun x37=>
 BR x37
 (rL 28 x3 w fun x40=>
 rL 31 x4 w fun x41=>
 cL 10 [x40,x41,(u8 9)] w fun x43 w=>
 (fun w=>rL 28 x5 w fun x45=>
 rL 31 x6 w fun x46=>
 (fun w_=>cL 12 [x45,x46,(u8 9)] w_ fun x48 w=>
 Ext w_ w ∧
 cL 11 [x43,x48] w fun x49 w=>
 rD (Op.unary .not x49) w fun x50=>
 BR x50
 (R (Value.bool false) w)
 (rL 28 x3 w fun x52=>
 rL 31 x4 w fun x53=>
 rL 28 x5 w fun x56=>
 rL 31 x6 w fun x57=>
 (fun w_=>cL 13 [x52,x53,(u8 9)] w_ fun x55 w=>
 Ext w_ w ∧
 cL 14 [x56,x57,(u8 9)] w fun x59 w=>
 rB .neq 3 T0 T0 x55 x59 w fun x60=>
 BR x60
 (R (Value.bool false) w)
 (rN 25 3 x43 w fun x63=>
 rB .eql 3 T0 U0 x63 (iV 0) w fun x64=>
 BR x64
 (rA (u8 9) (iV 1) w fun x39=>
 next8 [(u8 8),x39] w)
 (oP (Builtin.append_ #[25,25] 25 [(u8 8),x43].toArray) w fun x67 w=>
 rL 28 x5 w fun x68=>
 rL 31 x6 w fun x69=>
 cL 14 [x68,x69,(u8 9)] w fun x71 w=>
 (fun w=>rB .lss 3 T0 U0 x71 (iV 0) w fun x73=>
 BR x73
 (R (Value.bool false) w)
 (rL 28 x3 w fun x75=>
 rL 31 x4 w fun x76=>
 cL 15 [x75,x76,(u8 9)] w fun x78 w=>
 BR x78
 (R (Value.bool false) w)
 (cL 16 [x43,x71] w fun x83 w=>
 rD (Op.unary .not x83) w fun x84=>
 BR x84
 (R (Value.bool false) w)
 (rL 28 x3 w fun x87=>
 rL 31 x4 w fun x88=>
 rF 31 x6 1 w fun x89=>
 rL 25 x89 w fun x90=>
 rX 25 x90 x71 w fun x92=>
 rL 3 x92 w fun x93=>
 (fun w_=>cL 10 [x87,x88,x93] w_ fun x94 w=>
 Ext w_ w ∧
 cL 11 [x94,x43] w fun x96 w=>
 rD (Op.unary .not x96) w fun x97=>
 BR x97
 (R (Value.bool false) w)
 (rA (u8 9) (iV 1) w fun x39=>
 next8 [x67,x39] w)) w)))) (World.drew1 w)))) w)) w) (World.drew1 w))
 (LOOPI [12] [(iV 0)] w fun u19 w next19=>
 rN 25 3 (u8 8) w fun x101=>
 rC (u19 12) x101 w fun x102=>
 BR x102
 (rX 25 (u8 8) (u19 12) w fun x108=>
 rL 3 x108 w fun x109=>
 cL 16 [x31,x109] w fun x110 w=>
 rD (Op.unary .not x110) w fun x111=>
 BR x111
 (R (Value.bool false) w)
 (rA (u19 12) (iV 1) w fun x104=>
 next19 [x104] w))
 (cL 17 [a0] w fun x114 w=>
 rE x114 0 w fun x115=>
 rE x114 1 w fun x116=>
 oP (Instr.alloc 28 true (.tuple #[])) w fun x13 w=>
 oP (Instr.alloc 31 true (.tuple #[])) w fun x14 w=>
 oS 28 x13 x115 w fun w=>
 oS 31 x14 x116 w fun w=>
 rL 28 x13 w fun x117=>
 rL 31 x14 w fun x118=>
 cL 18 [x117,x118] w fun x119 w=>
 LOOPI [16] [(iV 0)] w fun u26 w next26=>
 rN 40 3 x119 w fun x122=>
 rC (u26 16) x122 w fun x123=>
 BR x123
 ((fun w=>rX 40 x119 (u26 16) w fun x128=>
 rF 43 x128 1 w fun x129=>
 rL 3 x129 w fun x130=>
 rX 40 x119 (u26 16) w fun x133=>
 rF 43 x133 2 w fun x134=>
 rL 3 x134 w fun x135=>
 rB .gtr 3 T0 T0 x130 x135 w fun x136=>
 BR x136
 (R (Value.bool false) w)
 (rB .gtr 3 T0 U0 (u26 16) (iV 0) w fun x139=>
 GBR x139
 (rB .sub 3 T0 U0 (u26 16) (iV 1) w fun x143=>
 rX 40 x119 x143 w fun x144=>
 rL 43 x144 w fun x145=>
 rX 40 x119 (u26 16) w fun x148=>
 rL 43 x148 w fun x149=>
 cL 19 [x145,x149] w fun x150 w=>
 rD (Op.unary .not x150) w fun x151=>
 BR x151
 (R (Value.bool false) w)
 (rL 28 x13 w fun x155=>
 rX 40 x119 (u26 16) w fun x158=>
 rF 43 x158 1 w fun x159=>
 rL 3 x159 w fun x160=>
 cL 20 [x155,x160] w fun x161 w=>
 rN 45 3 x161 w fun x162=>
 rB .eql 3 T0 U0 x162 (iV 0) w fun x163=>
 BR x163
 (R (Value.bool false) w)
 (rA (u26 16) (iV 1) w fun x125=>
 next26 [x125] w)))
 (rL 28 x13 w fun x155=>
 rX 40 x119 (u26 16) w fun x158=>
 rF 43 x158 1 w fun x159=>
 rL 3 x159 w fun x160=>
 cL 20 [x155,x160] w fun x161 w=>
 rN 45 3 x161 w fun x162=>
 rB .eql 3 T0 U0 x162 (iV 0) w fun x163=>
 BR x163
 (R (Value.bool false) w)
 (rA (u26 16) (iV 1) w fun x125=>
 next26 [x125] w))
 (BR undef
 (BR undef
 (R (Value.bool false) w)
 (rL 28 x13 w fun x155=>
 rX 40 x119 (u26 16) w fun x158=>
 rF 43 x158 1 w fun x159=>
 rL 3 x159 w fun x160=>
 cL 20 [x155,x160] w fun x161 w=>
 rN 45 3 x161 w fun x162=>
 rB .eql 3 T0 U0 x162 (iV 0) w fun x163=>
 BR x163
 (R (Value.bool false) w)
 (rA (u26 16) (iV 1) w fun x125=>
 next26 [x125] w)))
 (rL 28 x13 w fun x155=>
 rX 40 x119 (u26 16) w fun x158=>
 rF 43 x158 1 w fun x159=>
 rL 3 x159 w fun x160=>
 cL 20 [x155,x160] w fun x161 w=>
 rN 45 3 x161 w fun x162=>
 rB .eql 3 T0 U0 x162 (iV 0) w fun x163=>
 BR x163
 (R (Value.bool false) w)
 (rA (u26 16) (iV 1) w fun x125=>
 next26 [x125] w))))) (World.drew1 w))
 (rL 28 x13 w fun x166=>
 rL 31 x14 w fun x167=>
 cL 22 [x166,x167] w fun x168 w=>
 cL 21 [x119,x168] w fun x169 w=>
 BR x169
 (rL 28 x5 w fun x172=>
 rL 31 x6 w fun x173=>
 cL 23 [x172,x173] w fun x174 w=>
 cL 11 [x31,x174] w fun x175 w=>
 BR x175
 (rL 28 x3 w fun x178=>
 rL 31 x4 w fun x179=>
 cL 24 [x178,x179] w fun x180 w=>
 rN 25 3 x31 w fun x182=>
 rB .eql 3 T0 U0 x182 (iV 0) w fun x183=>
 GBR x183
 (rL 28 x5 w fun x185=>
 rL 31 x6 w fun x186=>
 cL 22 [x185,x186] w fun x187 w=>
 rN 40 3 x187 w fun x188=>
 rB .eql 3 T0 U0 x188 (iV 0) w fun x189=>
 rB .eql 4 T0 T0 x180 x189 w fun x191=>
 R x191 w)
 (rB .eql 4 T0 T0 x180 (Value.bool false) w fun x191=>
 R x191 w)
 (BR undef
 (rB .eql 4 T0 T0 x180 undef w fun x191=>
 R x191 w)
 (rB .eql 4 T0 T0 x180 (Value.bool false) w fun x191=>
 R x191 w)))
 (R (Value.bool false) w))
 (R (Value.bool false) w)))))
def cfg3:Cfg:=⟨extL,[],[(8,633825300114114700739761671940,[8,9]),(19,5191663033234713513829747977621508,[12]),(26,46768052394587564154522129731048152821929561096196,[16])],[(11,[0,1,2,3,4,5,6,7,8,9,10,12,13,14,11,15,16,17],2064),(16,[0,1,2,3,4,5,6,7,8,9,10,11,12,13,14,15,16,17,18,19,20,21,23,22,24,25,26],4194304),(28,[0,1,2,3,4,5,6,7,8,9,10,11,12,13,14,15,16,17,18,19,20,21,22,23,24,25,26,27,28,29,30,31,32,33,34,35,36,37,38],0)],[],[],[]⟩
theorem F3_call {a0:Value} {w:World} {R:VW} (h:F3 a0 w R):cL 3 [a0] w R:=co (g:=cfg3) Tryz.func3 (by kernel_rfl) (by kernel_rfl) (by kernel_rfl) h
theorem zqc {P:Program} {w:World} {K:Value→Prop} {t:TypeId} {x y:Operand} {a b:Bool} (ht:P.underlying t=some .bool) (k:K (.bool (decide (a=b)))):RD P (bin .eql t x y (.bool a) (.bool b)) w K:=
 zaV (fun w' _=>by
   have:=run_eql_bool (P:=P) w' t a b ht
   cases a<;>cases b<;>simp_all [bin,eqGuard]) k
theorem ziV {m i:Nat} (h:m<64) (hi:m.testBit i=true):(i:Int)∈zhe m:=by
 have h6:i<64:=by
   rcases Nat.lt_or_ge i 64 with h' | h'
   · exact h'
   rw [Nat.testBit_lt_two_pow (Nat.lt_of_lt_of_le h (by have:=Nat.pow_le_pow_right (n:=2) (by omega) h';omega))] at hi;cases hi
 exact zej.2 ⟨i,h6,rfl,hi⟩
theorem zqd {m:Nat} {x:Int} (h:x∈zhe m):∃ i:Nat,x=(i:Int)∧m.testBit i=true:=by
 obtain ⟨i,_,h1,h2⟩:=zej.1 h
 exact ⟨i,h1,h2⟩
theorem zqe {m:Nat} (h:m<64):zhe m=[]↔m=0:=by
 refine ⟨fun e=>?_,fun e=>by rw [e];exact zhf⟩
 refine Nat.eq_of_testBit_eq fun i=>?_
 rw [Nat.zero_testBit]
 cases hb:m.testBit i with
 | false=>rfl
 | true=>have:=ziV h hb;rw [e] at this;cases this
theorem zlM {c:DCode} {s:DState} {x:DRace} (hx:x∈zel c s):x.a≤x.b∧zek c x.a≠[]:=by
 unfold zel at hx
 split at hx
 · rename_i h
   obtain ⟨h1,t,h2,h3⟩:=zox hx
   refine ⟨h1,?_⟩
   unfold tA at h3
   split at h3
   · rename_i h0
     have:=(ziE h.2 (t:Int)).2
     unfold zek
     rw [h2,if_pos ⟨h.1,h0,this⟩]
     exact h3
   exact absurd rfl h3
 cases hx
theorem zqf (c:DCode) (s:DState):(zel c s).Pairwise ltR:=by
 unfold zel
 split
 · exact zhR _
 exact List.Pairwise.nil
theorem zub {w2:World} {a b:Value} {lo hi lo2 hi2:Nat} {c:DCode} {s:DState} {K:Value→Value→World→Prop} (oa:OwnI lo hi w2 a c) (ob:OwnI lo2 hi2 w2 b s) (h1:hi≤w2.heap.size) (h2:hi2≤w2.heap.size)
   (k:∀ g1 g2 w3,Ext w2 w3→At w3 g1 0 c→At w3 g2 0 s→K (.pointer (some ⟨g1,0,none⟩)) (.pointer (some ⟨g2,0,none⟩)) w3) :
   OP Tryz.prog (Instr.alloc 28 true (.tuple #[])) w2 fun x3 w=>OP Tryz.prog (Instr.alloc 31 true (.tuple #[])) w fun x4 w=>OPU Tryz.prog (Instr.storeAt 28 x3 a) w fun w=>OPU Tryz.prog (Instr.storeAt 31 x4 b) w fun w=>K x3 x4 w:=by
 refine zdz (α:=DCode) zo5 fun wa hxa hva=>?_
 have hga:=hva.lt
 refine zdz (α:=DState) zfJ fun wb hxb hvb=>?_
 have hgb:=hvb.lt
 have hsa:=hxa.size
 have hsb:=hxb.size
 refine za9 zbq (hva.ext hxb) (oa.ext (hxa.trans hxb)) (.inr h1) fun wc hcc hvc=>?_
 have hsc:=hcc.size
 have ob2:=(ob.ext (hxa.trans hxb)).chg hcc (by omega)
 refine za9 zbM (hvb.chg hcc (by omega) (by omega)) ob2 (.inr (by omega)) fun wd hcd hvd=>?_
 exact k _ _ wd (((hxa.trans hxb).chgI hcc (by omega)).chgI hcd (by omega)) (hvc.chg hcd (by omega) (by omega)).at hvd.at
set_option maxRecDepth 20000 in
theorem zsM {w W:World} {v0:Value} {bs:List UInt8} (h0:Is W v0 bs) (e0:Ext W w):CALL Tryz.prog 3 [v0] w fun r w'=>Ext w w'∧(r=.bool true):=by
  refine F3_call ?_
  unfold F3
  refine (ztF h0 e0).mono ?_
  rintro _ w1 ⟨hx1,rfl⟩
  refine br (fun _=>⟨hx1,rfl⟩) (fun hb=>?_)
  have hlen:bs.length≤1048576:=by omega
  obtain ⟨hc,hs,-,-⟩:=zjt bs
  have hd:=fun {w2:World} (hx:Ext w w2)=>zmK h0 (e0.trans hx) hlen
  generalize zkv bs=c at *
  generalize zmJ bs=s at *
  have hr:CodeR c∧zaz c s:=⟨hc,hs⟩
  have h6:s.stacks.length≤6:=hs.2.2.1.2
  have eL:∀ t,zhA c s t=zhe (zbt c s t):=fun t=>if_pos hr
  have eW:∀ t,zeJ c s t=zav c s t:=fun t=>if_pos hr
  have eK:zfB c s=zhe (zbz c s s.stacks.length):=if_pos hr
  have hkb:=fun t=>zlC hc hs t
  have hll:∀ t,(zhA c s t).length≤64:=fun t=>by rw [eL];exact zei _ 64
  have hKl:(zfB c s).length≤64:=by rw [eK];exact zei _ 64
  have hall:∀ t,∀ x∈zhA c s t,x∈zfB c s:=fun t x hx=>by
    rw [eL] at hx
    obtain ⟨i,rfl,hi⟩:=zqd hx
    rw [eK]
    exact ziV (zcB hc hs _) (zrf hc hs hi)
  refine (hd hx1).mono ?_
  rintro _ w2 ⟨hx2,a,b,lo,hi,lo2,hi2,rfl,oa,ob,_,_,q1,q2,-⟩
  refine za7 rfl ?_
  refine za7 rfl ?_
  refine zub oa ob q1 q2 fun g3 g4 w3 hx3 hA3 hA4=>?_
  have hx13:=hx1.trans (hx2.trans hx3)
  refine (hd hx13).mono ?_
  rintro _ w4 ⟨hx4,a',b',lo',hi',lo2',hi2',rfl,oa',ob',_,_,q1',q2',-⟩
  refine za7 rfl ?_
  refine za7 rfl ?_
  refine zub oa' ob' q1' q2' fun g5 g6 w5 hx5 hA5 hA6=>?_
  have hx35:=hx4.trans hx5
  have hx15:=hx13.trans hx35
  have hA3:=hA3.ext hx35
  have hA4:=hA4.ext hx35
  refine zab zbq hA3 (Ext.refl _) fun v29 h29=>?_
  refine zab zbM hA4 (Ext.refl _) fun v30 h30=>?_
  refine (zks h29 (Ext.refl _) h30 (Ext.refl _)).mono ?_
  rintro v31 w6 ⟨hx6,o31⟩
  have h31:=o31.is
  refine zaK (α:=Int) u25 ty3 fun v32 w7 hx7 r32=>?_
  have hx57:=hx6.trans hx7
  have hs7:=hx57.size
  refine zaE s.stacks.length (fun k us w'=>∃ v hi l,us=[v,.int .i64 (k:Int)]∧k≤s.stacks.length∧Ext w7 w'∧RowI w7.heap.size hi 3 w' v l∧w7.heap.size≤hi∧hi≤w'.heap.size∧l.length≤64*k∧∀ x∈l,x∈zfB c s) 0 (Nat.zero_le _)
    ⟨_,w7.heap.size,[],rfl,Nat.zero_le _,Ext.refl _,r32,Nat.le_refl _,Nat.le_refl _,by simp,by simp⟩ ?_
  rintro k m u w8 hkm ⟨v8,hi8,l,hu,hkl,hx8,r8,hlo8,hhi8,hl8,hin⟩
  obtain ⟨hu0,hu1⟩:=zfZ hu
  rw [hu0,hu1]
  have hx58:=hx57.trans hx8
  refine zaa zaT ?_
  refine zab zdJ (zau hA6) hx58 fun v35 h35=>?_
  refine zae u29 h35 ?_
  refine zai ?_
  refine br (fun hlt=>?_) (fun hge=>?_)
  · have hk:k<s.stacks.length:=by omega
    refine zab zbq hA3 hx58 fun v40 h40=>?_
    refine zab zbM hA4 hx58 fun v41 h41=>?_
    refine (zgC (t:=(k:Int)) h40 hx58 h41 hx58).mono ?_
    rintro v43 w9 ⟨hx9,o43⟩
    have hx59:=(hx58.trans hx9).trans (zaj w9)
    have hx89:=hx9.trans (zaj w9)
    have o43:=o43.ext (zaj w9)
    generalize World.drew1 w9=w9' at *
    refine zab zbq hA5 hx59 fun v45 h45=>?_
    refine zab zbM hA6 hx59 fun v46 h46=>?_
    refine (zkr (t:=(k:Int)) h45 hx59 h46 hx59).mono ?_
    rintro v48 w10 ⟨hx10,o48⟩
    refine ⟨hx10,?_⟩
    refine (zff o43.is hx10 o48.is (Ext.refl _)).mono ?_
    rintro _ w11 ⟨hx11,rfl⟩
    refine zas ?_
    refine br (fun h=>absurd rfl h) (fun _=>?_)
    have hx9b:=hx10.trans hx11
    have hx5b:=hx59.trans hx9b
    refine zab zbq hA3 hx5b fun v52 h52=>?_
    refine zab zbM hA4 hx5b fun v53 h53=>?_
    refine zab zbq hA5 hx5b fun v56 h56=>?_
    refine zab zbM hA6 hx5b fun v57 h57=>?_
    refine (ziH (t:=(k:Int)) h52 hx5b h53 hx5b).mono ?_
    rintro _ w12 ⟨hx12,rfl⟩
    refine ⟨hx12,?_⟩
    refine (zfa (t:=(k:Int)) h56 (hx5b.trans hx12) h57 (hx5b.trans hx12)).mono ?_
    rintro _ w13 ⟨hx13',rfl⟩
    refine zaM ?_
    refine br (fun h=>absurd rfl h) (fun _=>?_)
    have hx9c:=hx9b.trans (hx12.trans hx13')
    have hx8c:=hx89.trans hx9c
    have hx5c:=hx59.trans hx9c
    have hsc:=hx8c.size
    refine zae u25 o43.is ?_
    refine zag ?_
    refine br (fun hz=>?_) (fun hnz=>?_)
    · refine zah (by omega) ?_
      exact ⟨m-1,by omega,k+1,by omega,v8,hi8,l,rfl,by omega,hx8.trans hx8c,r8.ext hx8c,hlo8,by omega,by omega,hin⟩
    have hne:zbt c s k≠0:=fun h=>hnz (by rw [eL,h,zhf];rfl)
    have hl64:=hll k
    have r8c:=r8.ext hx8c
    refine zd8 (lo:=w7.heap.size) u25 ty3 zc3 r8c (by omega) o43.is hx9c (by rw [zam];omega) (by omega) fun v67 w14 hc14 r14=>?_
    have hs14:=hc14.size
    have hx814:Ext w7 w14:=(hx8.trans hx8c).chgI hc14 (Nat.le_refl _)
    have hx514:=hx57.trans hx814
    refine zab zbq hA5 hx514 fun v68 h68=>?_
    refine zab zbM hA6 hx514 fun v69 h69=>?_
    refine (zfa (t:=(k:Int)) h68 hx514 h69 hx514).mono ?_
    rintro _ w15 ⟨hx15',rfl⟩
    have hwl:=zdT hc hs (k:Int)
    have hw0:=zdg hne
    rw [eW]
    have hxe:=zaj w15
    have hx14e:=hx15'.trans hxe
    generalize World.drew1 w15=w16 at *
    have hx516:=hx514.trans hx14e
    refine zai ?_
    refine br (fun h=>absurd hw0 (by omega)) (fun _=>?_)
    refine zab zbq hA3 hx516 fun v75 h75=>?_
    refine zab zbM hA4 hx516 fun v76 h76=>?_
    refine (zlu (t:=(k:Int)) h75 hx516 h76 hx516).mono ?_
    rintro _ w17 ⟨hx17,rfl⟩
    refine br (fun h=>absurd h.2 (zow hne)) (fun _=>?_)
    obtain ⟨q,hq⟩:∃ q:Nat,zav c s k=q:=⟨_,(Int.toNat_of_nonneg hw0).symm⟩
    have hown:=zre hne
    rw [hq,Int.toNat_natCast] at hown
    have hqo:=(hwl.2.2 hw0).1
    rw [hq,Int.toNat_natCast] at hqo
    have hnx:=zlJ hne
    rw [show zov c s k=ow s q by unfold zov;rw [hq],←zrC hqo] at hnx
    have hmem:((q:Nat):Int)∈zhA c s k:=by rw [eL];exact ziV (hkb _) hown
    rw [hq]
    have o43b:=(o43.toI.ext hx9c).chg hc14 (by omega)
    have hk43:∀ {W:World},Ext w14 W→Is W v43 (zhA c s k):=fun {W} hx=>o43b.is.ext hx
    refine (zlL (y:=(q:Int)) (hk43 (hx14e.trans hx17)) (Ext.refl _)).mono ?_
    rintro _ w18 ⟨hx18,rfl⟩
    refine zas ?_
    refine br (fun h=>absurd hmem h) (fun _=>?_)
    have hx14b:=hx14e.trans (hx17.trans hx18)
    have hx5d:=hx514.trans hx14b
    refine zab zbq hA3 hx5d fun v87 h87=>?_
    refine zab zbM hA4 hx5d fun v88 h88=>?_
    refine zaa zcA ?_
    refine zab zbk (zbd hA6) hx5d fun v90 h90=>?_
    refine zad u25 ty3 h90 hqo fun b92 o92 hA92=>?_
    refine zac ty3 hA92 hx5d fun hI93=>?_
    refine (zgC (t:=s.owner[q]) h87 hx5d h88 hx5d).mono ?_
    rintro v94 w19 ⟨hx19,o94⟩
    refine ⟨hx19,?_⟩
    refine (zff o94.is (Ext.refl _) (hk43 (hx14b.trans hx19)) (Ext.refl _)).mono ?_
    rintro _ w20 ⟨hx20,rfl⟩
    refine zas ?_
    refine br (fun h=>absurd (by rw [eL,eL,hnx]) h) (fun _=>?_)
    have hx14f:=hx14b.trans (hx19.trans hx20)
    have hsf:=hx14f.size
    refine zah (by omega) ?_
    refine ⟨m-1,by omega,k+1,by omega,v67,w14.heap.size,_,rfl,by omega,hx814.trans hx14f,r14.ext hx14f,by omega,by omega,?_,fun x hx=>?_⟩
    · rw [List.length_append];omega
    rcases List.mem_append.1 hx with hx | hx
    · exact hin x hx
    exact hall _ x hx
  have h8:=r8.own.is
  have hx17a:=hx15.trans hx58
  refine zaE l.length (fun j us w'=>us=[.int .i64 (j:Int)]∧j≤l.length∧Ext w8 w') 0 (Nat.zero_le _) ⟨rfl,Nat.zero_le _,Ext.refl _⟩ ?_
  rintro j m2 u2 w9 hjm ⟨hu2,hjl,hx9⟩
  simp only [List.map_cons,List.map_nil,List.cons.injEq,and_true] at hu2
  rw [hu2]
  refine zae u25 h8 ?_
  refine zai ?_
  refine br (fun hlt=>?_) (fun hge2=>?_)
  · have hj:j<l.length:=by omega
    refine zad u25 ty3 h8 hj fun b108 o108 hA108=>?_
    refine zac ty3 hA108 hx9 fun hI109=>?_
    refine (zlL (y:=l[j]) h31 (hx7.trans (hx8.trans hx9))).mono ?_
    rintro _ w10 ⟨hx10,rfl⟩
    refine zas ?_
    refine br (fun h=>absurd (hin _ (List.getElem_mem hj)) h) (fun _=>?_)
    refine zah (by omega) ?_
    exact ⟨m2-1,by omega,j+1,by omega,rfl,by omega,hx9.trans hx10⟩
  clear hin hall r8
  have hx19:=hx17a.trans hx9
  have hx59:=hx58.trans hx9
  have hx69:=hx7.trans (hx8.trans hx9)
  refine (zkx h0 (e0.trans hx19) hlen).mono ?_
  rintro _ w10 ⟨hx10,y,a2,b2,lo3,hi3,lo4,hi4,rfl,oa2,ob2,_,_,q3,q4,-⟩
  generalize zbl bs=c2 at *
  refine za7 rfl ?_
  refine za7 rfl ?_
  refine zub oa2 ob2 q3 q4 fun g13 g14 w11 hx11 hA13 hA14=>?_
  refine zab zbq hA13 (Ext.refl _) fun v117 h117=>?_
  refine zab zbM hA14 (Ext.refl _) fun v118 h118=>?_
  refine (zhl h117 (Ext.refl _) h118 (Ext.refl _)).mono ?_
  rintro v119 w12 ⟨hx12,o119⟩
  have h119:=o119.is
  have hRm:=fun x hx=>zlM (c:=c2) (s:=y) (x:=x) hx
  have hRp:=List.pairwise_iff_getElem.1 (zqf c2 y)
  have hM2:=fun {w2 W2 W3:World} {u v:Value} (h:Is W2 u c2) (e:Ext W2 w2) (h':Is W3 v y) (e':Ext W3 w2)=>zem h e h' e'
  have hRl:=zaf h119
  generalize zel c2 y=R at *
  have hx512:=hx59.trans (hx10.trans (hx11.trans hx12))
  have hx612:=hx69.trans (hx10.trans (hx11.trans hx12))
  have hx112:=hx19.trans (hx10.trans (hx11.trans hx12))
  refine zaE R.length (fun k us w'=>us=[.int .i64 (k:Int)]∧k≤R.length∧Ext w12 w') 0 (Nat.zero_le _) ⟨rfl,Nat.zero_le _,Ext.refl _⟩ ?_
  rintro n m3 u3 w13 hnm ⟨hu3,hnl,hx13⟩
  simp only [List.map_cons,List.map_nil,List.cons.injEq,and_true] at hu3
  rw [hu3]
  refine zae u40 h119 ?_
  refine zai ?_
  refine br (fun hlt=>?_) (fun hge3=>?_)
  · have hn:n<R.length:=by omega
    have hmt:=hRm _ (List.getElem_mem hn)
    have hxd:=zaj w13
    have hx1d:=hx13.trans hxd
    generalize World.drew1 w13=w14 at *
    refine zad u40 zdd h119 hn fun b128 o128 hA128=>?_
    refine zaa zfy ?_
    refine zac ty3 (zcW hA128) hx1d fun hI130=>?_
    refine zad u40 zdd h119 hn fun b133 o133 hA133=>?_
    refine zaa zi8 ?_
    refine zac ty3 (zgL hA133) hx1d fun hI135=>?_
    refine zb0 ?_
    refine br (fun h=>absurd hmt.1 (by omega)) (fun _=>?_)
    refine zb0 ?_
    refine gbr (fun h0=>?_) (fun h0=>?_)
    · refine za2 (by unfold I64;omega) ?_
      rw [show (n:Int)-1=((n-1:Nat):Int) by omega]
      have hn1:n-1<R.length:=by omega
      refine zad u40 zdd h119 hn1 fun b144 o144 hA144=>?_
      refine zab zdd hA144 hx1d fun v145 h145=>?_
      refine zad u40 zdd h119 hn fun b148 o148 hA148=>?_
      refine zab zdd hA148 hx1d fun v149 h149=>?_
      refine (ziO h145 hx1d h149 hx1d).mono ?_
      rintro _ w15 ⟨hx15',rfl⟩
      refine zas ?_
      refine br (fun h=>absurd (hRp (n-1) n hn1 hn (by omega)) h) (fun _=>?_)
      have hx1e:=hx1d.trans hx15'
      refine zab zbq hA13 (hx12.trans hx1e) fun v155 h155=>?_
      refine zad u40 zdd h119 hn fun b158 o158 hA158=>?_
      refine zaa zfy ?_
      refine zac ty3 (zcW hA158) hx1e fun hI160=>?_
      refine (zeT (a:=R[n].a) h155 (hx12.trans hx1e)).mono ?_
      rintro v161 w16 ⟨hx16,o161⟩
      refine zae u45 o161.is ?_
      refine zag ?_
      refine br (fun h=>absurd (zeP.1 h) hmt.2) (fun _=>?_)
      refine zah (by omega) ?_
      exact ⟨m3-1,by omega,n+1,by omega,rfl,by omega,hx1e.trans hx16⟩
    refine zab zbq hA13 (hx12.trans hx1d) fun v155 h155=>?_
    refine zad u40 zdd h119 hn fun b158 o158 hA158=>?_
    refine zaa zfy ?_
    refine zac ty3 (zcW hA158) hx1d fun hI160=>?_
    refine (zeT (a:=R[n].a) h155 (hx12.trans hx1d)).mono ?_
    rintro v161 w16 ⟨hx16,o161⟩
    refine zae u45 o161.is ?_
    refine zag ?_
    refine br (fun h=>absurd (zeP.1 h) hmt.2) (fun _=>?_)
    refine zah (by omega) ?_
    exact ⟨m3-1,by omega,n+1,by omega,rfl,by omega,hx1d.trans hx16⟩
  have hx1113:=hx12.trans hx13
  refine zab zbq hA13 hx1113 fun v166 h166=>?_
  refine zab zbM hA14 hx1113 fun v167 h167=>?_
  refine (hM2 h166 hx1113 h167 hx1113).mono ?_
  rintro v168 w14 ⟨hx14,o168⟩
  refine (zlK h119 (hx13.trans hx14) o168.is (Ext.refl _)).mono ?_
  rintro _ w15 ⟨hx15',rfl⟩
  refine br (fun _=>?_) (fun h=>absurd rfl h)
  have hx1215:=hx13.trans (hx14.trans hx15')
  have hx515:=hx512.trans hx1215
  refine zab zbq hA5 hx515 fun v172 h172=>?_
  refine zab zbM hA6 hx515 fun v173 h173=>?_
  refine (zkt h172 hx515 h173 hx515).mono ?_
  rintro v174 w16 ⟨hx16,o174⟩
  refine (zff h31 (hx612.trans (hx1215.trans hx16)) o174.is (Ext.refl _)).mono ?_
  rintro _ w17 ⟨hx17,rfl⟩
  refine br (fun _=>?_) (fun h=>absurd rfl h)
  have hx1217:=hx1215.trans (hx16.trans hx17)
  have hx517:=hx512.trans hx1217
  refine zab zbq hA3 hx517 fun v178 h178=>?_
  refine zab zbM hA4 hx517 fun v179 h179=>?_
  refine (zmQ h178 hx517 h179 hx517).mono ?_
  rintro _ w18 ⟨hx18,rfl⟩
  have hx1218:=hx1217.trans hx18
  have hx518:=hx512.trans hx1218
  have hx118:=hx112.trans hx1218
  have eM:zel c s=zkA c s:=if_pos hr
  have hKn:=zqe (zcB hc hs s.stacks.length)
  rw [←eK] at hKn
  refine zae u25 h31 ?_
  refine zag ?_
  refine gbr (fun hz=>?_) (fun hz=>?_)
  · refine zab zbq hA5 hx518 fun v185 h185=>?_
    refine zab zbM hA6 hx518 fun v186 h186=>?_
    refine (zem h185 hx518 h186 hx518).mono ?_
    rintro v187 w19 ⟨hx19',o187⟩
    refine zae u40 o187.is ?_
    refine zag ?_
    refine zqc u4 ⟨hx118.trans hx19',?_⟩
    have h1:zmP c s↔(((zel c s).length:Nat):Int)=0:=by
      rw [zeP,eM]
      exact ⟨fun h=>h.2.1,fun h=>⟨hr,h,hKn.1 (zeP.1 hz)⟩⟩
    simp [h1]
  refine zqc u4 ⟨hx118,?_⟩
  have h1:¬zmP c s:=fun h=>hz (zeP.2 (hKn.2 h.2.2))
  simp [h1]
theorem zrh {P:Program} {t:TypeId} (ht:P.underlying t=some (.int .u8)) (n:Nat):zkR P t UInt8 n:=by
 intro H enc w spare held cs y h
 obtain ⟨m,rfl,_,hw⟩:=DataW.trod_int ht h
 have hm:0≤m∧m≤255:=by simpa [Lit.wf,IntKind.min,IntKind.max,IntKind.signed,IntKind.bits] using hw
 refine ⟨[],UInt8.ofNat m.toNat,rfl,?_⟩
 have:((UInt8.ofNat m.toNat).toNat:Int)=m:=by
   have:(UInt8.ofNat m.toNat).toNat=m.toNat:=by simp;omega
   omega
 rw [this]
theorem zsN:∀ n,zkR Tryz.prog 22 (List UInt8) n:=zh1 u22 (by kernel_rfl) (zrh u5)
end Go.Proofs.YtdmailcgaekimaaGreat
namespace Go.Proofs.YtdmailcgaekimaaGreat
open Go
theorem zbA {a b:Bool} (h:a=true) (k:b=true):(a&&b)=true:=by rw [h,k];rfl
theorem zsO:laidOutB Tryz.prog=true:=by kernel_rfl
theorem zsP:mapsRowed Tryz.prog=true:=by kernel_rfl
theorem zri:(Rows.fnSeenRow.plainKeys == Tryz.prog.plainKeys)=true:=by kernel_rfl
theorem zrj:Tryz.prog.stopsHeard=true:=by kernel_rfl
theorem ztG:Tryz.prog.mayEnter=true:=by kernel_rfl
theorem zsQ:(Rows.fnSeenRow.lifted == Tryz.prog.liftsFinal)=true:=by kernel_rfl
theorem zsR:(Tryz.prog.make == some Rows.fnSeenRow.make)=true:=by kernel_rfl
end Go.Proofs.YtdmailcgaekimaaGreat
