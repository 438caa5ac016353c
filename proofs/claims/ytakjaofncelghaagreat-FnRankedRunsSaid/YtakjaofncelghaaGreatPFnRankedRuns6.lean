/-
  Parts of the proof, put together by program.
-/
import Derived.Test.YtakjaofncelghaaGreatPFnRankedRuns5
set_option linter.unusedVariables false
set_option linter.unusedSimpArgs false
set_option linter.unusedSectionVars false
namespace Go.Proofs.YtakjaofncelghaaGreat
open Go Go.Sh Go.Proofs
open Rep (rep)
def F53 (a0 a1 a2:Value) (w:World) (R:VW):Prop:=
 oX 28 a0 w λx3 w=>
 oX 36 a1 w λx4 w=>
 oP (aL 36) w λx6 w=>
 rL 36 x4 w λx12=>
 cL 52 [x12] w λx13 w=>
 oP (aL 36) w λx7 w=>
 oS 36 x7 x13 w λw=>
 rF 36 x7 2 w λx14=>
 rL 33 x14 w λx15=>
 rX 33 x15 a2 w λx17=>
 rL 25 x17 w λx18=>
 rN 25 3 x18 w λx20=>
 rB .sub 3 T0 U0 x20 (iV 1) w λx21=>
 (λw=>rF 28 x3 4 w λx22=>
 rL 26 x22 w λx23=>
 rX 25 x18 x21 w λx26=>
 rL 3 x26 w λx27=>
 rX 26 x23 x27 w λx28=>
 rL 118 x28 w λx29=>
 (λw_=>oP (aL 118) w_ λx10 w=>
 Ext w_ w ∧
 (oS 118 x10 x29 w λw=>
 rX 25 x18 x21 w λx32=>
 rL 3 x32 w λx33=>
 rI x33 w λx34=>
 JOIN [11] (λJ30=>
 rF 118 x10 0 w λx35=>
 rL 3 x35 w λx36=>
 rQ x36 (iV 1) w λx38=>
 BR x38
 ((λw=>rF 36 x7 0 w λx39=>
 rL 25 x39 w λx40=>
 rF 118 x10 1 w λx41=>
 rL 3 x41 w λx42=>
 rF 118 x10 2 w λx43=>
 rL 116 x43 w λx44=>
 rF 28 x3 0 w λx45=>
 rL 24 x45 w λx46=>
 rF 36 x4 0 w λx47=>
 rL 25 x47 w λx48=>
 (λw_=>cL 97 [x44,x46,x48] w_ λx49 w=>
 Ext w_ w ∧
 rX 25 x40 x42 w λx50=>
 oS 3 x50 x49 w λw=>
 J30 [x34] w) w) (World.drew1 w))
 (rQ x36 (iV 2) w λx52=>
 BR x52
 (rF 118 x10 2 w λx53=>
 rL 116 x53 w λx54=>
 rF 28 x3 0 w λx55=>
 rL 24 x55 w λx56=>
 rF 36 x4 0 w λx57=>
 rL 25 x57 w λx58=>
 cL 97 [x54,x56,x58] w λx59 w=>
 rQ x59 (iV 0) w λx60=>
 BR x60
 (rF 118 x10 3 w λx61=>
 rL 3 x61 w λx62=>
 J30 [x62] w)
 (J30 [x34] w))
 (rQ x36 (iV 3) w λx64=>
 BR x64
 (rF 118 x10 3 w λx65=>
 rL 3 x65 w λx66=>
 J30 [x66] w)
 (rQ x36 (iV 4) w λx68=>
 BR x68
 ((λw=>XR λX=>RDX tp X (Instr.fieldAt 36 x7 2) w λx69=>
 RDX tp X (Instr.loadAt 33 x69) w λx70=>
 RDX tp X (Instr.fieldAt 28 x3 3) w λx73=>
 RDX tp X (Instr.loadAt 25 x73) w λx74=>
 RDX tp X (Instr.fieldAt 118 x10 1) w λx75=>
 RDX tp X (Instr.loadAt 3 x75) w λx76=>
 RDX tp X (Instr.indexAt 25 x74 x76) w λx77=>
 RDX tp X (Instr.loadAt 3 x77) w λx78=>
 (λw_=>oP (bS 25 x78) w_ λx79 w=>
 ExtX X w_ w ∧
 ((λw_=>oP (aP 25 x18 x79) w_ λx80 w=>
 ExtX X w_ w ∧
 (RDX tp X (Instr.indexAt 33 x70 a2) w λx81=>
 oS 25 x81 x80 w λw=>
 rL 36 x7 w λx82=>
 oS 36 x6 x82 w λw=>
 rD (zaJ 36 x6) w λr6=>R r6 w)) w)) w) (World.drew1 w))
 (rQ x36 (iV 5) w λx84=>
 BR x84
 (rF 36 x7 2 w λx85=>
 rL 33 x85 w λx86=>
 rN 33 3 x86 w λx87=>
 rB .lss 3 T0 U0 x87 (iV 6) w λx88=>
 BR x88
 ((λw=>rF 36 x7 2 w λx89=>
 rL 33 x89 w λx90=>
 rF 28 x3 3 w λx91=>
 rL 25 x91 w λx92=>
 rF 118 x10 1 w λx93=>
 rL 3 x93 w λx94=>
 rX 25 x92 x94 w λx95=>
 rL 3 x95 w λx96=>
 (λw_=>oP (bS 25 x96) w_ λx97 w=>
 Ext w_ w ∧
 ((λw_=>oP (bS 33 x97) w_ λx98 w=>
 Ext w_ w ∧
 (oP (aP 33 x90 x98) w λx99 w=>
 rF 36 x7 2 w λx100=>
 oS 33 x100 x99 w λw=>
 J30 [x34] w)) w)) w) (World.drew1 w))
 (J30 [x34] w))
 (rQ x36 (iV 6) w λx102=>
 BR x102
 (rF 36 x7 1 w λx103=>
 rL 25 x103 w λx104=>
 rF 118 x10 1 w λx105=>
 rL 3 x105 w λx106=>
 rX 25 x104 x106 w λx108=>
 oS 3 x108 a2 w λw=>
 J30 [x34] w)
 (rQ x36 (iV 7) w λx110=>
 BR x110
 (rF 36 x7 1 w λx111=>
 rL 25 x111 w λx112=>
 rF 118 x10 1 w λx113=>
 rL 3 x113 w λx114=>
 rX 25 x112 x114 w λx115=>
 rL 3 x115 w λx116=>
 rB .eql 3 T0 T0 x116 a2 w λx118=>
 BR x118
 (rF 36 x7 1 w λx119=>
 rL 25 x119 w λx120=>
 rF 118 x10 1 w λx121=>
 rL 3 x121 w λx122=>
 rX 25 x120 x122 w λx123=>
 oS 3 x123 (iV (-1)) w λw=>
 J30 [x34] w)
 (J30 [x34] w))
 (rQ x36 (iV 9) w λx125=>
 BR x125
 ((λw=>rF 36 x7 2 w λx126=>
 rL 33 x126 w λx127=>
 rD (Instr.sliceAt 25 x18 none (some x21) (some x21)) w λx132=>
 rX 33 x127 a2 w λx133=>
 oS 25 x133 x132 w λw=>
 rB .gtr 3 T0 U0 x21 (iV 0) w λx135=>
 BR x135
 (rB .sub 3 T0 U0 x21 (iV 1) w λx138=>
 rX 25 x18 x138 w λx139=>
 rL 3 x139 w λx140=>
 rI x140 w λx141=>
 rX 25 x18 x138 w λx142=>
 oS 3 x142 x141 w λw=>
 rL 36 x7 w λx143=>
 oS 36 x6 x143 w λw=>
 rD (zaJ 36 x6) w λr6=>R r6 w)
 (rL 36 x7 w λx143=>
 oS 36 x6 x143 w λw=>
 rD (zaJ 36 x6) w λr6=>R r6 w)) (World.drew1 w))
 (J30 [x34] w))))))))) (λu30 w=>
 rX 25 x18 x21 w λx147=>
 oS 3 x147 (u30 11) w λw=>
 rL 36 x7 w λx148=>
 oS 36 x6 x148 w λw=>
 rD (zaJ 36 x6) w λr6=>R r6 w))) w) (World.drew1 w)
def cfg53:Cfg:={ ext:=extL,joins:=[(30,22300745198530623141535718272648327146244096,[11])],loops:=[],draws:=[(4,[0,1,2,3,4,5,6,7,8,9],256),(8,[0,1,2,3,4,5,6,7,8,9,10,11,12],1024),(15,[0,1,2,3,4,5,6,7,8,9,10,11,12,13],3072),(19,[0,1,2,3,4,5,6,7,8,9,10,11,12],768),(26,[0,1,2,3,4,5,6,7,8],0)],pars:=[],xs:=[15] }
theorem F53_call {a0 a1 a2 w R} (h:F53 a0 a1 a2 w R):cL 53 [a0,a1,a2] w R:=co (g:=cfg53) Tryz.func53 h
def zcx (c:DCode) (s:DState) (t:Int):Int:=
 if (atI c s t).op=2 then (if workT c.globals s.vars 6 (atI c s t).term=0 then (atI c s t).to else zcH s t+1) else if (atI c s t).op=3 then (atI c s t).to else zcH s t+1
def zaN (c:DCode) (s:DState) (t:Int):DState:=
 if (atI c s t).op=1 then ⟨s.vars.set (atI c s t).arg.toNat (workT c.globals s.vars 6 (atI c s t).term),s.owner,s.stacks⟩
 else if (atI c s t).op=5 then (if s.stacks.length<6 then ⟨s.vars,s.owner,s.stacks++[[en c (atI c s t).arg.toNat]]⟩ else s)
 else if (atI c s t).op=6 then ⟨s.vars,s.owner.set (atI c s t).arg.toNat t,s.stacks⟩
 else if (atI c s t).op=7 then (if ow s (atI c s t).arg=t then ⟨s.vars,s.owner.set (atI c s t).arg.toNat (-1),s.stacks⟩ else s)
 else s
def zfg (l:List Int):List Int:=if l.length-1=0 then [] else (l.take (l.length-1)).set (l.length-2) (st l (l.length-2)+1)
def zch (c:DCode) (s:DState) (t:Int):DState:=
 if (atI c s t).op=4 then ⟨s.vars,s.owner,s.stacks.set t.toNat (stk s t++[en c (atI c s t).arg.toNat])⟩
 else if (atI c s t).op=9 then ⟨s.vars,s.owner,s.stacks.set t.toNat (zfg (stk s t))⟩
 else ⟨(zaN c s t).vars,(zaN c s t).owner,(zaN c s t).stacks.set t.toNat ((stk s t).set ((stk s t).length-1) (zcx c s t))⟩
theorem zsL {lo hi:Nat} {w:World} {v:Value} {z:DStV} (h:OwnI lo hi w v z):OwnI lo hi w v z.er:=by
 obtain ⟨F,⟨⟨cs,hr,hv⟩,hn,hw⟩,hF⟩:=h;obtain ⟨F0,c0,F1,c1,F2,c2,rfl,rfl,h0,h1,h2⟩:=zpR hr;exact ⟨_,⟨⟨_,zkI (x:=z.er) h0 h1 (zvg h2),hv⟩,hn,hw⟩,hF⟩
theorem ziY {c:DCode} {s:DState} {t:Int} (hs:zaF c s) (hg:0≤zcH s t):∃ tn:Nat,t=tn∧tn<s.stacks.length∧stk s t≠[]∧(stk s t).length≤8∧zcH s t=st (stk s t) ((stk s t).length-1):=by
 obtain ⟨h0,h1⟩:=zev hg;have h2:=zlR h0 h1;have hne:stk s t≠[]:=λe=>by rw [h2,e] at hg;simp [List.getLastD] at hg
 have hm:=hs.2.2.2.2.2 (stk s t) (by rw [←zdK h1];exact List.getElem_mem _);exact ⟨t.toNat,by omega,h1,hne,hm.1,by rw [h2,zoP hne]⟩
theorem zlU {c:DCode} {s:DState} (hc:CodeR c) (hs:zaF c s):zv3 s:=by
 have h1:=hc.1.globals6;have h2:=hc.1.locks6;have h3:=hs.1;have h4:=hs.2.1;have h5:=hs.2.2.1;exact ⟨by omega,by omega,by omega,λx hx=>by have:=(hs.2.2.2.2.2 x hx).1;omega⟩
theorem zcD {P:Program} {w:World} {t e:TypeId} {b a n cap sz by_ k:Nat} {ag:Bool} {u:Value} {K:Value→Prop} (ht:P.underlying t=some (.slice e)) (he:tyI P e=some (sz,by_,ag)) (hu:u=.slice (some ⟨b,a,none⟩) n cap) (hk:k<n) (kk:K (.pointer (some ⟨b,a+k*sz,none⟩))) :
   RD P (Instr.indexAt t u (.int .i64 (k:Int))) w K:=by
 subst hu;exact za3 (λw' _=>by rw [zb2 ht he (by omega) (by omega)];simp) kk
theorem zhq {lo hi g k:Nat} {w:World} {z:DStV} (h:VarI lo hi w g z) (hg:lo≤g∧g<hi) (hk:k<z.owner.length):∃ u b a cap,w.rangeAt g (0+1) [u]∧Is w u z.owner∧u=.slice (some ⟨b,a,none⟩) z.owner.length cap ∧
   ∀ w1,Ext w w1→∀ (val:Int),I64 val→∀ K:World→Prop,(∀ w2,ChgI lo hi w1 w2→VarI lo hi w2 g (⟨z.vars,z.owner.set k val,z.stacks⟩:DStV)→K w2)→OPU tp (Instr.storeAt 3 (.pointer (some ⟨b,a+k*1,none⟩)) (.int .i64 val)) w1 K:=by
 obtain ⟨F,hO,hF⟩:=h;obtain ⟨G1,hL1⟩:=zoI (Lens.var hO);obtain ⟨u,b,a,cap,G2,hr,hIs,hu,hL2⟩:=hL1.elem hk;exact ⟨u,b,a,cap,hr,hIs,hu,λw1 hx val hI K kk=>zga ty3 (hL2.ext hx) hF hg (zbh hI) kk⟩
theorem zpX {lo hi g k:Nat} {w:World} {z:DStV} (h:VarI lo hi w g z) (hg:lo≤g∧g<hi) (hk:k<z.vars.length):∃ u b a cap,w.rangeAt g (0+0) [u]∧Is w u z.vars∧u=.slice (some ⟨b,a,none⟩) z.vars.length cap ∧
   ∀ w1,Ext w w1→∀ (val:Int),I64 val→∀ K:World→Prop,(∀ w2,ChgI lo hi w1 w2→VarI lo hi w2 g (⟨z.vars.set k val,z.owner,z.stacks⟩:DStV)→K w2)→OPU tp (Instr.storeAt 3 (.pointer (some ⟨b,a+k*1,none⟩)) (.int .i64 val)) w1 K:=by
 obtain ⟨F,hO,hF⟩:=h;obtain ⟨G1,hL1⟩:=zoH (Lens.var hO);obtain ⟨u,b,a,cap,G2,hr,hIs,hu,hL2⟩:=hL1.elem hk;exact ⟨u,b,a,cap,hr,hIs,hu,λw1 hx val hI K kk=>zga ty3 (hL2.ext hx) hF hg (zbh hI) kk⟩
theorem zcQ {w:World} {b o:Nat} {u u':Value} (h:w.rangeAt b o [u]) (h':w.rangeAt b o [u']):u=u':=by
 have h1:=h 0 u rfl;have h2:=h' 0 u' rfl;rw [h1] at h2;exact Option.some.inj h2
theorem zsM {w:World} {F:List Nat} {g:Nat} {z:DStV} (h:OAt F w g 0 z):OAt F w g 0 z.er:=by
 obtain ⟨cs,hr,rest⟩:=h;obtain ⟨F0,c0,F1,c1,F2,c2,rfl,rfl,h0,h1,h2⟩:=zpR hr;exact ⟨_,zkI (x:=z.er) h0 h1 (zvg h2),rest⟩
theorem zxd {P:Program} {w:World} {t e:TypeId} {by_:Nat} {u:Value} {l:List Int} {G:List Nat} {k:Nat} {K:Value→Prop} (ht:P.underlying t=some (.slice e)) (he:tyI P e=some (1,by_,false)) (hm:Mine G w u l) (hk:k≤l.length) (hne:l≠[])
   (kk:∀ b a cap v G',u=.slice (some ⟨b,a,none⟩) l.length cap→Mine G' w v (l.take k)→(∀ c∈G',c∈G)→(0<k→v=.slice (some ⟨b,a,none⟩) k k)→K v):RD P (Instr.sliceAt t u none (some (.int .i64 (k:Int))) (some (.int .i64 (k:Int)))) w K:=by
 obtain ⟨⟨cs,⟨a,cap,Fi,xs,rfl,h1,h2,hc,h4⟩,rfl⟩,hn,hw⟩:=hm;rcases h4 with ⟨h4,_⟩ | ⟨b,o,rfl,rfl,hr,hb⟩
 · exact absurd h4 hne
 have hFi:=Cells.flat (xs:=xs) hc;subst hFi
 have hbd:∀ w',(Instr.sliceBounds true l.length cap none (some (.int .i64 (k:Int))) (some (.int .i64 (k:Int)))).run P w'=.ok (0,k,k) w':=λw'=>by
   have h5:(k:Int)≤(cap:Int):=by omega
   simp [Instr.sliceBounds,Instr.sliceBound,asIntOf,h5]
 have e0:l=l.take k++l.drop k:=by simp
 have hc':=hc;rw [e0] at hc';obtain ⟨F1,F2,x1,x2,hFF,rfl,c1,c2⟩:=Cells.split hc';obtain ⟨rfl,rfl⟩:=List.append_eq_nil_iff.1 hFF.symm;have hlk:(l.take k).length=k:=by simp;omega
 have hval:∃ v:Value,(∀ w',(Instr.sliceAt t (.slice (some ⟨b,o,none⟩) l.length cap) none (some (.int .i64 (k:Int))) (some (.int .i64 (k:Int)))).run P w'=.ok v w')∧v=.slice (some ⟨b,o,none⟩) k k:=by
   refine ⟨_,λw'=>?_,rfl⟩;simp only [Instr.sliceAt,Instr.slice,Sem.run_bind,run_underlying ht,Result.andThen_ok,hbd,zaM he];simp [Addr.add_mid]
 obtain ⟨v,hrun,rfl⟩:=hval;refine za3 (λw' _=>hrun w') ?_;by_cases h0:k=0
 · subst h0
   refine kk b o cap _ [] rfl ?_ (by simp) (λh=>by omega);have:l.take 0=[]:=by simp
   rw [this];exact ⟨⟨_,⟨some ⟨b,o,none⟩,0,[],[],rfl,lr _,z0 _,⟨rfl,rfl⟩,.inl ⟨rfl,rfl⟩⟩,rfl⟩,List.nodup_nil,Wr.nil w⟩
 refine kk b o cap _ [b] rfl ?_ (by simp) (λ_=>rfl);refine ⟨⟨_,⟨some ⟨b,o,none⟩,k,[],x1,rfl,by rw [hlk];exact Nat.le_refl _,by omega,c1,.inr ⟨b,o,rfl,rfl,(zaz hr).1,hb⟩⟩,by rw [hlk];rfl⟩,by simp,hw.sub (by simp)⟩
theorem zlV {lo hi g:Nat} {w:World} {z:DStV} (h:VarI lo hi w g z):VarI lo hi w g z.er:=by
 obtain ⟨F,h,hF⟩:=h;exact ⟨F,zsM h,hF⟩
theorem zxe {lo hi:Nat} {w:World} {v:Value} {z:DState} (h:OwnI lo hi w v z):∃ a b c,v=.agg #[a,b,c]:=by
 obtain ⟨F,⟨⟨cs,hr,rfl⟩,_⟩,_⟩:=h;obtain ⟨F0,c0,F1,c1,F2,c2,rfl,rfl,⟨_,_,_,_,rfl,_⟩,⟨_,_,_,_,rfl,_⟩,⟨_,_,_,_,rfl,_⟩⟩:=zqv hr;exact ⟨_,_,_,rfl⟩
theorem zsN {c:DCode} {s:DState} {t:Int} (hc:CodeR c) (hs:zaF c s) (h:0≤zcH s t) (ho:(atI c s t).op=1):0≤(atI c s t).arg∧(atI c s t).arg.toNat<s.vars.length:=by
 have h1:=(zhm hc hs h).2.1;have h2:=hs.1;unfold zbQ at h1;rw [if_pos ho] at h1;omega
theorem zgf {c:DCode} {s:DState} {t:Int} (hc:CodeR c) (hs:zaF c s) (h:0≤zcH s t) (ho:(atI c s t).op=4∨(atI c s t).op=5):0≤(atI c s t).arg∧(atI c s t).arg.toNat<c.entry.length:=by
 have h1:=(zhm hc hs h).2.1;have h2:=hc.2.1.1;unfold zbQ at h1;rw [if_neg (by omega),if_pos ho] at h1;omega
theorem zqY {w W0 W1:World} {v0 v1:Value} {c:DCode} {s:DState} {t:Int} (h0:Is W0 v0 c) (e0:Ext W0 w) (h1:Is W1 v1 s) (e1:Ext W1 w) (hc:CodeR c) (hs:zaF c s) (hgo:GoR c s t) :
   CALL tp 53 [v0,v1,.int .i64 t] w λr w'=>Ext w w'∧Own w.heap.size w' r (zch c s t):=by
 obtain ⟨tn,rfl,htn,hne,hl8,hat⟩:=ziY hs hgo.1;have hatlt:=zlS hs tn;have hat0:0≤zcH s tn:=hgo.1;have hpos:=List.length_pos_iff.2 hne;refine F53_call ?_;unfold F53;refine zcb h0 e0 λw1 hx1 hA1=>?_;refine zcb h1 (e1.trans hx1) λw2 hx2 hA2=>?_;refine zbH ztL λw3 hx3 hB3=>?_;have hg3:=hB3.lt;have hs1:=hx1.size;have hs2:=hx2.size;refine zab zcT hA2 hx3 λv12 h12=>?_;refine (ziy h12 hx3 (zlU hc hs)).mono ?_;rintro r13 w4 ⟨hx4,z,o13,hz⟩;have hs4:=hx4.size;refine zfp (α:=DStV) ztL λw5 hx5 hv5=>?_;have hs5:=hx5.size;have hg5:=hv5.lt;refine zbf zcT hv5 (o13.ext hx5) (by omega) λw6 hc6 hv6=>?_;have hs6:=hc6.size;have hx36:Ext w3 w6:=Ext.chgI (hx4.t hx5) hc6 (by omega);have hzl:z.stacks.l.map RV.l=s.stacks:=congrArg DState.stacks hz;have hzn:tn<z.stacks.l.length:=by have:=congrArg List.length hzl;simp at this;omega
 refine zaa zaW ?_;refine zab (α:=RIntss) zd5 (zeu hv6.at) (Ext.refl w6) λv15 k15=>?_;obtain ⟨rfl,h15⟩:=zku k15;refine zad (α:=RInts) u33 zaK h15 hzn λb17 o17 hA17=>?_;refine zab (α:=RInts) zaK hA17 (Ext.refl w6) λv18 k18=>?_;obtain ⟨rfl,h18⟩:=zku k18;obtain ⟨x,hx⟩:∃ x,x=z.stacks.l[tn]:=⟨_,rfl⟩
 have hxl:x.l=stk s tn:=by
   have e1:(z.stacks.l.map RV.l)[tn]?=s.stacks[tn]?:=by rw [hzl]
   rw [List.getElem?_map,List.getElem?_eq_getElem hzn,List.getElem?_eq_getElem htn] at e1;have e2:=Option.some.inj e1;rw [hx,e2];exact zdK (t:=(tn:Int)) (by simpa using htn)
 rw [←hx] at h18 ⊢;refine zae u25 h18 ?_;refine za0 (by unfold I64;rw [hxl];omega) ?_;obtain ⟨top,htop⟩:∃ top:Nat,(x.l.length:Int)-1=top:=⟨x.l.length-1,by rw [hxl];omega⟩;have htl:top<x.l.length:=by omega
 rw [htop];have hx7:=zai w6;have hs7:=hx7.size;have hx16:Ext w1 w6:=hx2.t (hx3.t hx36);have hx26:Ext w2 w6:=hx3.t hx36;refine zaa zaR ?_;refine zab zdn (zal hA1) (hx16.t hx7) λv23 h23=>?_;refine zad u25 ty3 h18 htl λb26 o26 hA26=>?_
 have hget:x.l[top]=zcH s tn:=by
   rw [zeJ,hat,hxl];congr 1;rw [hxl] at htop;omega
 rw [hget] at hA26;refine zac ty3 hA26 hx7 λhI27=>?_;refine zax u26 zbm h23 hgo.1 (by omega) λb28 o28 hA28=>?_;rw [zaE] at hA28;refine zab zbm hA28 (hx16.t hx7) λv29 h29=>?_;refine zoe zhM rfl zbm rfl h29 (hx16.t hx7) λw8 hx8 hA10 hV10=>?_;have hs8:=hx8.size;refine zad u25 ty3 h18 htl λb32 o32 hA32=>?_;rw [hget] at hA32;refine zac ty3 hA32 (hx7.t hx8) λhI33=>?_;have hins:=hc.f.ins;refine zcG (by unfold I64;omega) ?_;have hR:=zhm hc hs hgo.1;obtain ⟨I,hI⟩:∃ I,I=atI c s tn:=⟨_,rfl⟩;have hA10:At w8 (World.drew1 w6).heap.size 0 I:=by rw [hI];exact hA10
 have hx68:=hx7.t hx8;have hv8:VarI w3.heap.size w8.heap.size w8 w4.heap.size z:=(hv6.ext hx68).mono (lr _) (by omega);have hx38:Ext w3 w8:=hx36.t hx68
 have hres:∀ (zz:DState) (w9:World),Ext w3 w9→VarI w3.heap.size w9.heap.size w9 w4.heap.size zz→zz=zch c s tn →
     RD tp (Instr.loadAt 36 (.pointer (some ⟨w4.heap.size,0,none⟩))) w9 λx148=>OPU tp (Instr.storeAt 36 (.pointer (some ⟨w2.heap.size,0,none⟩)) x148) w9 λw'=>
       RD tp (zaJ 36 (.pointer (some ⟨w2.heap.size,0,none⟩))) w' λr6=>Ext w w'∧Own w.heap.size w' r6 (zch c s tn):=by
   intro zz w9 hx9 hv9 he;have hs9:=hx9.size;refine zdm zcT hv9 (Ext.refl w9) λv148 o148=>?_;obtain ⟨a,b,c',rfl⟩:=zxe o148;refine zbU (α:=DState) zcT rfl (hB3.ext hx9) rfl o148 λw10 hc10 hB10=>?_;refine zer hB10 zcT ?_;refine ⟨Ext.chgI (hx1.t (hx2.t (hx3.t hx9))) hc10 (by omega),?_⟩;have:=o148.chg hc10 (by omega);rw [he] at this;exact this.own.mono (by omega)
 refine JOIN.mk (λus w'=>us=[.int .i64 (zcx c s tn)]∧Ext w3 w'∧∃ z':DStV,VarI w3.heap.size w'.heap.size w' w4.heap.size z'∧z'.vars=(zaN c s tn).vars∧z'.owner=(zaN c s tn).owner∧z'.stacks.l.map RV.l=(zaN c s tn).stacks∧z'.stacks.l[tn]?=some x∧(I.op≠4∧I.op≠9)) ?_ ?_
 · refine zaa za6 ?_
   refine zac ty3 (zaA hA10) (Ext.refl w8) λ_=>?_;have hzv:z.vars=s.vars:=congrArg DState.vars hz;have hzo:z.owner=s.owner:=congrArg DState.owner hz;have hzx:z.stacks.l[tn]?=some x:=by rw [List.getElem?_eq_getElem hzn,hx]
   have same:∀ w9,Ext w8 w9→(I.op≠1∧I.op≠4∧I.op≠5∧I.op≠6∧I.op≠7∧I.op≠9)→∃ z':DStV,VarI w3.heap.size w9.heap.size w9 w4.heap.size z'∧z'.vars=(zaN c s tn).vars∧z'.owner=(zaN c s tn).owner∧z'.stacks.l.map RV.l=(zaN c s tn).stacks∧z'.stacks.l[tn]?=some x∧(I.op≠4∧I.op≠9):=by
     rintro w9 hx9 ⟨q1,q4,q5,q6,q7,q9⟩;have he:zaN c s tn=s:=by unfold zaN;rw [←hI,if_neg q1,if_neg q5,if_neg q6,if_neg q7]
     rw [he];exact ⟨z,(hv8.ext hx9).mono (lr _) hx9.size,hzv,hzo,hzl,hzx,q4,q9⟩
   have hnext:I.op≠2→I.op≠3→zcx c s tn=zcH s tn+1:=λq2 q3=>by unfold zcx;rw [←hI,if_neg q2,if_neg q3]
   refine zag ?_;refine br (λq1=>?_) (λq1=>?_)
   · have hx9:=zai w8
     have hs9:=hx9.size;have hg8:=hv8.lt;obtain ⟨har0,har1⟩:=zsN hc hs hat0 (hI▸q1);rw [←hI] at har0 har1;obtain ⟨ar,har⟩:∃ ar:Nat,I.arg=ar:=⟨I.arg.toNat,by omega⟩;have har2:ar<z.vars.length:=by rw [hzv];omega
     obtain ⟨u,b,a,cap,hr,hIs,hu,hst⟩:=zpX (hv8.ext hx9) (by omega) har2;refine zaa zel ?_;refine zca zaK hr ?_;refine zaa zaZ ?_;refine zac ty3 (zaw hA10) hx9 λ_=>?_;refine zaa zdo ?_;refine zab za4 (zb3 hA10) hx9 λv54 h54=>?_;refine zaa zdR ?_;refine zab zc0 (zbe hA1) (hx16.t (hx68.t hx9)) λv56 h56=>?_;refine zaa zel ?_;refine zab zaK (zbt hA2) (hx26.t (hx68.t hx9)) λv58 h58=>?_
     have hok:zaU 6 I.term=true:=by
       have:=hR.2.2.1;rw [←hI,if_pos (.inl q1)] at this;exact this.1
     refine (zkX 6 h54 hx9 h56 (hx16.t (hx68.t hx9)) h58 (hx26.t (hx68.t hx9)) hok).mono ?_;rintro _ w10 ⟨hx10,rfl⟩;refine ⟨hx10,?_⟩;have hs10:=hx10.size;rw [har];refine zcD u25 ty3 hu har2 ?_;have hwr:=zdb c.globals s.vars 6 I.term;refine hst w10 hx10 _ (by unfold I64;omega) _ λw11 hc11 hv11=>?_;have hs11:=hc11.size;have hrest:zaN c s tn=⟨s.vars.set I.arg.toNat (workT c.globals s.vars 6 I.term),s.owner,s.stacks⟩:=by unfold zaN;rw [←hI,if_pos q1]
     refine ⟨by rw [hnext (by omega) (by omega)],Ext.chgI ((hx38.t hx9).trans hx10) hc11 (by omega),_,hv11.mono (lr _) (by omega),?_,?_,?_,hzx,by omega,by omega⟩
     · rw [hrest,hzv,har];rfl
     · rw [hrest];exact hzo
     rw [hrest];exact hzl
   refine zag ?_;refine br (λq2=>?_) (λq2=>?_)
   · refine zaa zdo ?_
     refine zab za4 (zb3 hA10) (Ext.refl w8) λv54 h54=>?_;refine zaa zdR ?_;refine zab zc0 (zbe hA1) (hx16.t hx68) λv56 h56=>?_;refine zaa zel ?_;refine zab zaK (zbt hA2) (hx26.t hx68) λv58 h58=>?_
     have hok:zaU 6 I.term=true:=by
       have:=hR.2.2.1;rw [←hI,if_pos (.inr q2)] at this;exact this.1
     refine (zkX 6 h54 (Ext.refl w8) h56 (hx16.t hx68) h58 (hx26.t hx68) hok).mono ?_;rintro _ w9 ⟨hx9,rfl⟩;refine zag ?_;refine br (λq=>?_) (λq=>?_)
     · refine zaa zcC ?_
       refine zac ty3 (zbB hA10) hx9 λ_=>?_;exact ⟨by unfold zcx;rw [←hI,if_pos q2,if_pos q],hx38.t hx9,same w9 hx9 (by omega)⟩
     exact ⟨by unfold zcx;rw [←hI,if_pos q2,if_neg q],hx38.t hx9,same w9 hx9 (by omega)⟩
   refine zag ?_;refine br (λq3=>?_) (λq3=>?_)
   · refine zaa zcC ?_
     refine zac ty3 (zbB hA10) (Ext.refl w8) λ_=>?_;exact ⟨by unfold zcx;rw [←hI,if_neg q2,if_pos q3],hx38,same w8 (Ext.refl w8) (by omega)⟩
   have hn:=hnext q2 q3;refine zag ?_;refine br (λq4=>?_) (λq4=>?_)
   · have hx9:=zai w8
     have hs9:=hx9.size;have hg8:=hv8.lt;obtain ⟨har0,har1⟩:=zgf hc hs hat0 (.inl (hI▸q4));rw [←hI] at har0 har1;obtain ⟨ar,har⟩:∃ ar:Nat,I.arg=ar:=⟨I.arg.toNat,by omega⟩;obtain ⟨F,hO,hF⟩:=hv6.ext (hx68.t hx9);have hlt:=hO.lts;obtain ⟨G1,hL1⟩:=zcP (Lens.var hO);obtain ⟨b2,a2,cap2,G2,hv2,hG21,hL2⟩:=hL1.elemV hzn;rw [←hx] at hL2;obtain ⟨cs1,⟨rfl,_⟩,hr1,_,_,hg1,_⟩:=hL1.here;obtain ⟨cs,⟨rfl,hrow⟩,_,hnG,_,hb2,_⟩:=hL2.here
     have hG2F:∀ c∈G2,c∈F:=λc hcm=>by
       rcases List.mem_cons.1 (hL2.sub c (by simp [hcm])) with rfl | h
       · exact absurd (hG21 _ (by simp [hcm])) hg1
       exact h
     have hGb:∀ c∈G2,w3.heap.size≤c∧c<w4.heap.size:=λc hcm=>hF c (hG2F c hcm);have hX3:∀ c,c∈G2→w3.heap.size≤c:=λc hcm=>(hGb c hcm).1;have hx39:=hx38.t hx9;refine XR.mk (λc=>c∈G2) ?_;refine zet zaW ?_;refine zeI zd5 hr1 (λh=>by have:=hGb _ h;omega) ?_;refine zet za7 ?_;refine zdv (w0:=w3) hX3 hx39 ?_;refine zab zaK (zap hA1) (hx2.t hx3) λv74 h74=>?_;refine zet zaZ ?_;refine zeI ty3 (zbF (zsp (zaw hA10)) hx9) (λh=>by have:=hGb _ h;omega) ?_;rw [har];refine zdv (w0:=w3) hX3 hx39 ?_;refine zad u25 ty3 h74 (by omega) λb77 o77 hA77=>?_;rw [zbr] at hA77;refine zdv (w0:=w3) hX3 hx39 ?_;refine zac ty3 hA77 (hx2.t hx3) λhI78=>?_;refine zd9 (β:=Int) (G:=G2) u25 ty3 z3 zc3 (by decide) hrow hnG (zbh hI78) (by simp) (by rw [zak,hxl];omega) (by rw [hxl];omega) (λw10 v80 w11 G' hx10 hc11 hR11 hN11 hs11=>?_) λsv w10 hx10 hop=>⟨hx10.toX,hop⟩;refine ⟨hc11.toX (λc h=>h),?_⟩;have hs10:=hx10.size;have hs11':=hc11.size;have hc911:Chg G2 (World.drew1 w8) w11:=(hx10.chg G2).trans hc11;have hx311:Ext w3 w11:=Ext.chgI hx39 (hc911.toI (lo:=w3.heap.size) (hi:=w4.heap.size) hGb) (lr _);refine zdv (w0:=w3) hX3 hx311 ?_;refine zcD u33 zaK hv2 hzn ?_;refine zgb zaK hL2 hlt hc911 hR11 hN11 (λc hcm=>?_) λw12 hc12 ⟨F',hO',hF'⟩=>?_
     · rcases hs11 c hcm with h | h | h
       · exact .inl h
       · simp at h
       exact .inr h
     have hs12:=hc12.size
     have hcI:ChgI w3.heap.size w8.heap.size (World.drew1 w8) w12:=hc12.toI λc hcm=>by
       have:=hL2.sub c hcm;rcases List.mem_cons.1 this with rfl | h
       · exact ⟨by omega,hg8⟩
       have:=hF c h;omega
     refine hres _ w12 (Ext.chgI hx39 hcI (lr _)) (zlV ⟨F',hO',λc hcm=>?_⟩) ?_
     · have h1:=hO'.lts c (by simp [hcm])
       rcases hF' c hcm with h | h
       · rcases List.mem_cons.1 h with rfl | h
         · obtain ⟨_,_,_,_,_,hnn,_⟩:=hO';exact absurd hcm hnn
         have:=hF c h;omega
       omega
     unfold zch DStV.er;have e1:((tn:Int)).toNat=tn:=by omega
     rw [←hI,if_pos q4];simp only [DState.mk.injEq,hzv,hzo,true_and];rw [List.map_set,hzl,hxl,e1,har,Int.toNat_natCast]
   refine zag ?_;refine br (λq5=>?_) (λq5=>?_)
   · have hg8:=hv8.lt
     obtain ⟨har0,har1⟩:=zgf hc hs hat0 (.inr (hI▸q5));rw [←hI] at har0 har1;obtain ⟨ar,har⟩:∃ ar:Nat,I.arg=ar:=⟨I.arg.toNat,by omega⟩;have hzlen:z.stacks.l.length=s.stacks.length:=by have:=congrArg List.length hzl;simpa using this
     refine zaa zaW ?_;refine zab (α:=RIntss) zd5 (zeu hv8.at) (Ext.refl w8) λv86 k86=>?_;obtain ⟨rfl,h86⟩:=zku k86;refine zae u33 h86 ?_;rw [hzlen];refine zaf ?_;refine br (λqq=>?_) (λqq=>?_)
     · have hx9:=zai w8
       have hs9:=hx9.size;obtain ⟨F,hO,hF⟩:=hv8.ext hx9;have hlt:=hO.lts;obtain ⟨G1,hL1⟩:=zcP (Lens.var hO);refine zaa zaW ?_;refine ziT zd5 (zeu hv8.at) hx9 ?_;refine zaa za7 ?_;refine zab zaK (zap hA1) (hx16.t (hx68.t hx9)) λv92 h92=>?_;refine zaa zaZ ?_;refine zac ty3 (zaw hA10) hx9 λ_=>?_;rw [har];refine zad u25 ty3 h92 (by omega) λb95 o95 hA95=>?_;rw [zbr] at hA95;refine zac ty3 hA95 (hx16.t (hx68.t hx9)) λhI96=>?_;refine zbE (β:=Int) u25 ty3 z3 (by decide) (zbh hI96) λv97 w10 hx10 r97=>?_;refine ⟨hx10,?_⟩;have hs10:=hx10.size;obtain ⟨GX,hMX,hGX⟩:=zh5 r97;obtain ⟨cs,⟨rfl,hrow⟩,_,hnG,_⟩:=hL1.here;have hGlt:∀ c∈G1,c<(World.drew1 w8).heap.size:=λc hcm=>hlt c (hL1.sub c (by simp [hcm]));refine zd9 (β:=RInts) (G:=G1) (w:=w10) u33 zaK z25 zt5 (by decide) (hrow.keep λc hcm=>hx10.heap (hGlt c hcm)) hnG hMX (λc hcm hg=>by have:=hGX c hcm;have:=hGlt c hg;omega) (by rw [zak,hzlen];omega) (by rw [hzlen];omega) (λw11 v99 w12 G' hx11 hc12' hR12 hN12 hs12=>?_) λsv w11 hx11 hop=>⟨hx11,hop⟩;have hc12:Chg G1 w10 w12:=(hx11.chg G1).trans hc12';refine zaa zaW ?_;refine zgb zd5 hL1 hlt ((hx10.chg G1).trans hc12) hR12 hN12 (λc hcm=>?_) λw13 hc13 ⟨F',hO',hF'⟩=>?_
       · rcases hs12 c hcm with h | h | h
         · exact .inl h
         · exact .inr (hGX c h).1
         exact .inr (by omega)
       have hs13:=hc13.size
       have hcI:ChgI w3.heap.size w8.heap.size (World.drew1 w8) w13:=hc13.toI λc hcm=>by
         have:=hL1.sub c hcm;rcases List.mem_cons.1 this with rfl | h
         · exact ⟨by omega,hg8⟩
         exact hF c h
       have hrest:zaN c s tn=⟨s.vars,s.owner,s.stacks++[[en c I.arg.toNat]]⟩:=by unfold zaN;rw [←hI,if_neg q1,if_pos q5,if_pos (by omega)]
       refine ⟨by rw [hn],Ext.chgI (hx38.t hx9) hcI (lr _),_,⟨F',hO',λc hcm=>?_⟩,?_,?_,?_,?_,by omega,by omega⟩
       · have h1:=hO'.lts c (by simp [hcm])
         rcases hF' c hcm with h | h
         · rcases List.mem_cons.1 h with rfl | h
           · obtain ⟨_,_,_,_,_,hnn,_⟩:=hO';exact absurd hcm hnn
           have:=hF c h;omega
         omega
       · rw [hrest];exact hzv
       · rw [hrest];exact hzo
       · rw [hrest]
         simp only [List.map_append,List.map_cons,List.map_nil,hzl,har,Int.toNat_natCast]
       show (z.stacks.l++_)[tn]?=some x;rw [List.getElem?_append_left hzn];exact hzx
     have hrest:zaN c s tn=s:=by unfold zaN;rw [←hI,if_neg q1,if_pos q5,if_neg (by omega)]
     refine ⟨by rw [hn],hx38,z,hv8,?_,?_,?_,hzx,by omega,by omega⟩
     · rw [hrest];exact hzv
     · rw [hrest];exact hzo
     rw [hrest];exact hzl
   refine zag ?_;refine br (λq6=>?_) (λq6=>?_)
   · have hg8:=hv8.lt
     obtain ⟨har0,har1⟩:=zdN hc hs hat0 (.inl (hI▸q6));rw [←hI] at har0 har1;obtain ⟨ar,har⟩:∃ ar:Nat,I.arg=ar:=⟨I.arg.toNat,by omega⟩;have har2:ar<z.owner.length:=by rw [hzo];omega
     obtain ⟨u,b,a,cap,hr,hIs,hu,hst⟩:=zhq hv8 (by omega) har2;refine zaa zc2 ?_;refine zca zaK hr ?_;refine zaa zaZ ?_;refine zac ty3 (zaw hA10) (Ext.refl w8) λ_=>?_;rw [har];refine zcD u25 ty3 hu har2 ?_;have hmany:=hs.2.2.1;refine hst w8 (Ext.refl w8) _ (by unfold I64;omega) _ λw11 hc11 hv11=>?_;have hs11:=hc11.size;have hrest:zaN c s tn=⟨s.vars,s.owner.set I.arg.toNat tn,s.stacks⟩:=by unfold zaN;rw [←hI,if_neg q1,if_neg q5,if_pos q6]
     refine ⟨by rw [hn],Ext.chgI hx38 hc11 (by omega),_,hv11.mono (lr _) (by omega),?_,?_,?_,hzx,by omega,by omega⟩
     · rw [hrest];exact hzv
     · rw [hrest,hzo,har];rfl
     rw [hrest];exact hzl
   refine zag ?_;refine br (λq7=>?_) (λq7=>?_)
   · have hg8:=hv8.lt
     obtain ⟨har0,har1⟩:=zdN hc hs hat0 (.inr (hI▸q7));rw [←hI] at har0 har1;obtain ⟨ar,har⟩:∃ ar:Nat,I.arg=ar:=⟨I.arg.toNat,by omega⟩;have har2:ar<z.owner.length:=by rw [hzo];omega
     obtain ⟨u,b,a,cap,hr,hIs,hu,hst⟩:=zhq hv8 (by omega) har2;refine zaa zc2 ?_;refine zca zaK hr ?_;refine zaa zaZ ?_;refine zac ty3 (zaw hA10) (Ext.refl w8) λ_=>?_;rw [har];refine zad u25 ty3 hIs har2 λb115 o115 hA115=>?_;refine zac ty3 hA115 (Ext.refl w8) λ_=>?_
     have how:z.owner[ar]=ow s I.arg:=by
       have:ar<s.owner.length:=by rw [←hzo];exact har2
       rw [har,←zsH this];congr 1
     rw [how];refine zag ?_;refine br (λqq=>?_) (λqq=>?_)
     · refine zaa zc2 ?_
       refine zca zaK hr ?_;refine zaa zaZ ?_;refine zac ty3 (zaw hA10) (Ext.refl w8) λ_=>?_;rw [har];refine zcD u25 ty3 hu har2 ?_;refine hst w8 (Ext.refl w8) _ (by unfold I64;omega) _ λw11 hc11 hv11=>?_;have hs11:=hc11.size;have hrest:zaN c s tn=⟨s.vars,s.owner.set I.arg.toNat (-1),s.stacks⟩:=by unfold zaN;rw [←hI,if_neg q1,if_neg q5,if_neg q6,if_pos q7,if_pos qq]
       refine ⟨by rw [hn],Ext.chgI hx38 hc11 (by omega),_,hv11.mono (lr _) (by omega),?_,?_,?_,hzx,by omega,by omega⟩
       · rw [hrest];exact hzv
       · rw [hrest,hzo,har];rfl
       rw [hrest];exact hzl
     have hrest:zaN c s tn=s:=by unfold zaN;rw [←hI,if_neg q1,if_neg q5,if_neg q6,if_pos q7,if_neg qq]
     refine ⟨by rw [hn],hx38,z,hv8,?_,?_,?_,hzx,by omega,by omega⟩
     · rw [hrest];exact hzv
     · rw [hrest];exact hzo
     rw [hrest];exact hzl
   refine zag ?_;refine br (λq9=>?_) (λq9=>?_)
   · have hx9:=zai w8
     have hs9:=hx9.size;have hg8:=hv8.lt;have hx39:=hx38.t hx9;obtain ⟨F,hO,hF⟩:=hv6.ext (hx68.t hx9);have hlt:=hO.lts;obtain ⟨G1v,hL1v⟩:=zcP (Lens.var hO);obtain ⟨b2v,a2v,cap2v,G2v,hv2v,hG21v,hL2v⟩:=hL1v.elemV hzn;rw [←hx] at hL2v;obtain ⟨cs1,⟨rfl,_⟩,hr1v,_,_,hg1v,_⟩:=hL1v.here;obtain ⟨cs2,⟨rfl,hrow2⟩,hr2v,_,_,_,hwb2⟩:=hL2v.here;have hOs:OAt F (World.drew1 w8) w4.heap.size 0 s:=by have:=zsM hO;rwa [hz] at this
     obtain ⟨G1,hL1⟩:=zd3 (Lens.var hOs);obtain ⟨_,_,_,_,_,hgG1,_⟩:=hL1.here;obtain ⟨u1,b2,a2,cap2,G2,hr1,hIs1,hu1,hL2⟩:=hL1.elem htn;have hu:u1=z.stacks.v:=zcQ hr1 hr1v;refine zaa zaW ?_;refine zca zd5 hr1 ?_
     have hbb:b2=b2v∧a2=a2v:=by
       rw [hu,hv2v] at hu1;simp only [Value.slice.injEq,Option.some.injEq,Addr.mk.injEq] at hu1;exact ⟨hu1.1.1.symm,hu1.1.2.1.symm⟩
     obtain ⟨rfl,rfl⟩:=hbb;obtain ⟨ux,hMx,hrx,hGx,_⟩:=hL2.row;obtain ⟨_,_,_,_,_,hb2G2,_⟩:=hL2.here;have hux:ux=x.v:=zcQ hrx hr2v;have hsl:s.stacks[tn]=x.l:=by rw [hxl];exact zdK (t:=(tn:Int)) (by simpa using htn)
     rw [hux,hsl] at hMx;refine zxd u25 ty3 hMx (by omega) (by rw [hxl];exact hne) λbx ax capx v132 G' hxv hM' hG' hv'=>?_;refine zcD u33 zaK hu1 htn ?_;have hb2G':b2∉G':=λh=>hb2G2 (hG' _ h);have hb2g:b2≠w4.heap.size:=λe=>hg1v (e▸hG21v b2 (by simp));have hrep':=zbA rfl hM'.own;have hone':v132.oneCell'=true:=Rep.one hrep' v132 (by simp);refine ziU zaK hwb2 hr2v hrow2.one hone' λw10 hch hr10=>?_;have hkeep':∀ c∈G',w10.heap[c]?=(World.drew1 w8).heap[c]?:=λc hcm=>hch.chg.block c (hM'.lt c hcm) (by simp;exact λe=>hb2G' (e▸hcm));obtain ⟨cb,eb,hcb⟩:=hwb2;obtain ⟨cb',hcb',_⟩:=hch.cell cb eb hcb;have hOy:OAt G' w10 b2 (a2+tn*Rep.size (List Int)) (x.l.take top):=⟨[v132],Rep.keep hrep' hkeep',hr10,hM'.nodup,hM'.wr.keep hkeep',hb2G',cb',eb,hcb'⟩;have hg10:w10.heap[w4.heap.size]?=(World.drew1 w8).heap[w4.heap.size]?:=hch.chg.block _ (hlt _ (by simp)) (by simp;exact λe=>hb2g e.symm);obtain ⟨F',hO',hF'⟩:=hL2.back w10 G' (x.l.take top) (hch.mono (lr _) (lr _) (by simp)) hOy (λc hcm=>.inl (hG' c hcm));have hs10:=hch.chg.size
     have hFb:∀ c∈F',w3.heap.size≤c∧c<w4.heap.size:=λc hcm=>by
       have hin:c∈w4.heap.size :: F:=by
         rcases hF' c hcm with h | h
         · exact h
         exact hGx c (hG' c h)
       rcases List.mem_cons.1 hin with rfl | h
       · obtain ⟨_,_,_,_,_,hnn,_⟩:=hO';exact absurd hcm hnn
       exact hF c h
     have hb2F:b2∈w4.heap.size :: F:=hL2.sub b2 (by simp)
     have hcI:ChgI w3.heap.size w8.heap.size (World.drew1 w8) w10:=hch.chg.toI λc hcm=>by
       simp only [List.mem_cons,List.not_mem_nil,or_false] at hcm;subst hcm;rcases List.mem_cons.1 hb2F with h | h
       · rw [h];exact ⟨by omega,hg8⟩
       have:=hF _ h;omega
     have hx310:Ext w3 w10:=Ext.chgI hx39 hcI (lr _);have e1:((tn:Int)).toNat=tn:=by omega
     have hlen:x.l.length=top+1:=by omega
     have htop8:top<8:=by have h:=htl;rw [hxl] at h;omega
     refine zb1 ?_;refine br (λhp=>?_) (λhp=>?_)
     · refine za0 (by unfold I64;omega) ?_
       obtain ⟨tp,htp⟩:∃ tp:Nat,(top:Int)-1=tp:=⟨top-1,by omega⟩;rw [htp];obtain ⟨G1',hL1'⟩:=zd3 (Lens.var hO');have hk':tn<(s.stacks.set tn (x.l.take top)).length:=by simpa using htn
       obtain ⟨u1',b2',a2',cap2',G2',hr1',_,hu1',hL2'⟩:=hL1'.elem hk';have hu':u1'=u1:=zcQ hr1' (za2 hr1 hg10)
       have hbb':b2'=b2∧a2'=a2:=by
         rw [hu',hu1] at hu1';simp only [Value.slice.injEq,Option.some.injEq,Addr.mk.injEq] at hu1';exact ⟨hu1'.1.1.symm,hu1'.1.2.1.symm⟩
       obtain ⟨rfl,rfl⟩:=hbb';have hel:(s.stacks.set tn (x.l.take top))[tn]'hk'=x.l.take top:=List.getElem_set_self ..;simp only [hel] at hL2';obtain ⟨uy,by',ay',capy',G3',hry,hIsy,huy,hL3'⟩:=hL2'.elem (k:=tp) (by simp;omega);have huy':uy=v132:=zcQ hry hr10;have hv132:=hv' (by omega)
       have hbx:by'=bx∧ay'=ax:=by
         rw [huy',hv132] at huy;simp only [Value.slice.injEq,Option.some.injEq,Addr.mk.injEq] at huy;exact ⟨huy.1.1.symm,huy.1.2.1.symm⟩
       obtain ⟨rfl,rfl⟩:=hbx;refine zcD u25 ty3 hxv (k:=tp) (by omega) ?_
       have hval:(x.l.take top)[tp]'(by simp;omega)=st x.l tp:=by
         rw [List.getElem_take,zeJ]
       refine zac ty3 hL3'.here.at (Ext.refl w10) λhI140=>?_;rw [hval]
       have hstr:0≤st x.l tp∧st x.l tp<c.ins.length:=by
         have hmem:=hs.2.2.2.2.2 x.l (by rw [←hsl];exact List.getElem_mem _);exact hmem.2.1 tp (by omega)
       refine zcG (by unfold I64;omega) ?_;refine zcD u25 ty3 hxv (k:=tp) (by omega) ?_;have hg10':w4.heap.size<w10.heap.size:=by omega
       refine zga (α:=DState) (lo:=w3.heap.size) (hi:=w10.heap.size) ty3 hL3' (λc hcm=>by have:=hFb c hcm;omega) (by omega) (zbh (x:=st x.l tp+1) (by unfold I64;omega)) λw11 hc11 hv11=>?_;have hs11:=hc11.size;refine hres _ w11 (Ext.chgI hx310 hc11 (lr _)) (hv11.mono (lr _) (by omega)) ?_;unfold zch;rw [←hI,if_neg q4,if_pos q9];simp only [DState.mk.injEq,true_and,e1,List.set_set];congr 1;unfold zfg;rw [←hxl,hlen,if_neg (by omega),show top+1-1=top by omega,show top+1-2=tp by omega]
     refine hres _ w10 hx310 ⟨F',hO',λc hcm=>by have:=hFb c hcm;omega⟩ ?_;unfold zch;rw [←hI,if_neg q4,if_pos q9];simp only [DState.mk.injEq,true_and,e1];congr 1;unfold zfg;have ht0:top=0:=by omega
     subst ht0;rw [←hxl,hlen];simp
   exact ⟨by rw [hn],hx38,same w8 (Ext.refl w8) (by omega)⟩
 rintro uj w9 ⟨hu,hx9,z',hv9,hz1,hz2,hz3,hz4,ho4,ho9⟩;try replace hu:=zbG hu
 rw [hu];have hs9:=hx9.size;obtain ⟨hk',hxk⟩:=List.getElem?_eq_some_iff.1 hz4;have hg9:=hv9.lt;obtain ⟨F,hO,hF⟩:=hv9;obtain ⟨G1,hL1⟩:=zcP (Lens.var hO);obtain ⟨b2,a2,cap2,G2,hv2,_,hL2⟩:=hL1.elemV hk';rw [hxk] at hL2;refine zpM (e:=3) u25 ty3 hL2 htl λb3 o3 G3 hL3=>?_
 have hI64:I64 (zcx c s tn):=by
   have hto:I.op=2∨I.op=3→I64 I.to:=λh=>by
     have:=hR.2.2.2;rw [←hI,if_pos h] at this;obtain ⟨i,hi,_,_,hpr⟩:=hc.f.find hc.1.procs8.2 hat0 hatlt.2;have h1:=hc.f.nonneg hi;have h2:=(hc.f.lt i hi).2;rw [hpr,zds,Int.toNat_natCast] at this;unfold I64;omega
   unfold zcx;rw [←hI];split
   · split
     · exact hto (.inl (by assumption))
     unfold I64;omega
   split
   · exact hto (.inr (by assumption))
   unfold I64;omega
 refine zga ty3 hL3 hF (by omega) (zbh hI64) λw10 hc10 hv10=>?_;have hs10:=hc10.size;refine hres _ w10 (Ext.chgI hx9 hc10 (lr _)) (zlV (hv10.mono (lr _) (by omega))) ?_;unfold zch DStV.er;rw [←hI,if_neg ho4,if_neg ho9];simp only [DState.mk.injEq,hz1,hz2,true_and];have e1:((tn:Int)).toNat=tn:=by omega
 have e2:(stk s tn).length-1=top:=by rw [←hxl];omega
 rw [List.map_set,hz3,hxl,e1,e2]
def F10 (a0:Value) (w:World) (R:VW):Prop:=
 oX 28 a0 w λx1 w=>
 oP (aL 36) w λx2 w=>
 rL 28 x1 w λx5=>
 cL 41 [x5] w λx6 w=>
 rT x6 w λx7=>
 BR x7
 (rD (Instr.build 36 #[]) w λx8=>
 oS 36 x2 x8 w λw=>
 rD (zaJ 36 x2) w λr2=>R r2 w)
 (rF 28 x1 0 w λx9=>
 rL 24 x9 w λx10=>
 rN 24 3 x10 w λx11=>
 oP (Instr.makeSlice 25 x11 x11) w λx12 w=>
 rD (Instr.build 36 #[(0,x12)]) w λx13=>
 oP (aL 36) w λx3 w=>
 oS 36 x3 x13 w λw=>
 LOOPI [4] [(iV 0)] w λu5 w n5=>
 rF 28 x1 1 w λx15=>
 rL 24 x15 w λx16=>
 rN 24 3 x16 w λx17=>
 rC (u5 4) x17 w λx18=>
 BR x18
 (rF 36 x3 1 w λx21=>
 rL 25 x21 w λx22=>
 oP (Instr.buildSlice 25 1 #[(0,(iV (-1)))]) w λx23 w=>
 oP (aP 25 x22 x23) w λx24 w=>
 rF 36 x3 1 w λx25=>
 oS 25 x25 x24 w λw=>
 rI (u5 4) w λx20=>
 n5 [x20] w)
 ((λw=>rF 36 x3 2 w λx26=>
 rL 33 x26 w λx27=>
 rF 28 x1 3 w λx28=>
 rL 25 x28 w λx29=>
 rL 28 x1 w λx30=>
 (λw_=>cL 43 [x30] w_ λx31 w=>
 Ext w_ w ∧
 rX 25 x29 x31 w λx32=>
 rL 3 x32 w λx33=>
 (λw_=>oP (bS 25 x33) w_ λx34 w=>
 Ext w_ w ∧
 ((λw_=>oP (bS 33 x34) w_ λx35 w=>
 Ext w_ w ∧
 (oP (aP 33 x27 x35) w λx36 w=>
 rF 36 x3 2 w λx37=>
 oS 33 x37 x36 w λw=>
 rL 36 x3 w λx38=>
 oS 36 x2 x38 w λw=>
 rD (zaJ 36 x2) w λr2=>R r2 w)) w)) w) w) (World.drew1 w)))
theorem F10_call {a0 w R} (h:F10 a0 w R):cL 10 [a0] w R:=co (g:=(kf [] [(5,67092496,[4])] [(8,[0,1,2,3,4,5,6,7,8,9,10,11,12],800)])) Tryz.func10 h
def zeK (c:DCode):DState:=⟨List.replicate c.globals.length 0,List.replicate c.locks.length (-1),[[en c (plc zgr c.procs).toNat]]⟩
def zjQ (c:DCode):DState:=if CodeR c then zeK c else ⟨[],[],[]⟩
theorem zlI:zcu tp 3=some [.int .i64 0]:=by kernel_rfl
theorem zoR {c:DCode} (hc:CodeR c):0≤plc zgr c.procs∧(plc zgr c.procs).toNat<c.entry.length:=by
 have h1:=zeS.2 hc.1.2.2.2.2.2.2;have h2:=zjq (s:=zgr) (l:=c.procs);have h3:=hc.2.1.1;omega
theorem zpY {lo hi:Nat} {w:World}:OwnI lo hi w (.agg #[.slice none 0 0,.slice none 0 0,.slice none 0 0]) (⟨[],[],[]⟩:DState):=
 (zfa (s:=⟨[],[],[]⟩) (lo:=lo) (hi:=lo) (l0:=lo) (h0:=lo) (l1:=lo) (h1:=lo) (l2:=lo) (h2:=lo) (zdr none) (zdr none) (zdr none) (by omega) (by omega) (by omega) (by omega) (by omega) (by omega)).elim λF h=>⟨F,h.1,λb hb=>by have:=h.2 b hb;omega⟩
def F43 (a0:Value) (w:World) (R:VW):Prop:=
 oX 28 a0 w λx1 w=>
 rF 28 x1 2 w λx3=>
 rL 24 x3 w λx4=>
 cL 89 [x4,(Value.string (ByteArray.mk #[109,97,105,110]))] w λx5 w=>
 R x5 w
theorem F43_call {a0 w R} (h:F43 a0 w R):cL 43 [a0] w R:=co (g:=(kf [] [] [])) Tryz.func43 h
theorem zib {w:World} {v0:Value} {W0:World} {c:DCode}  (h0:Is W0 v0 c) (e0:Ext W0 w)  :
   CALL tp 43 [v0] w λr w'=>Ext w w'∧(r=.int .i64 (plc zgr c.procs)):=by
 refine F43_call ?_;unfold F43;refine zao zcv rfl h0 e0 λw1_ η1 hA1 hV1=>?_;refine zaa zdd ?_;refine zab zc0 (zbb hA1) (Ext.refl w1_) λv4 h4=>?_;refine (zb9 h4 (Ext.refl w1_)).mono ?_;rintro _ w2_ ⟨η2,rfl⟩;refine ⟨(η1.t η2),?_⟩;rfl
theorem zkx {w W:World} {v:Value} {c:DCode} (h:Is W v c) (e:Ext W w) (hw:zt9 c≤1048576) :
   CALL tp 10 [v] w λr w'=>Ext w w'∧Own w.heap.size w' r (zjQ c):=by
 refine F10_call ?_;unfold F10;refine zcb h e λw1 hx1 hA=>?_;refine zbH ztL λw2 hx2 hB2=>?_;have hg2:=hB2.lt;have hs1:=hx1.size;refine zab zcv hA hx2 λv5 h5=>?_;refine (zfu h5 hx2).mono ?_;rintro _ w3 ⟨hx3,rfl⟩;have hs3:=hx3.size;refine zav ?_;refine br (λhn=>?_) (λhc=>?_)
 · refine zaX (cells:=#[.slice none 0 0,.slice none 0 0,.slice none 0 0]) (by kernel_rfl) ?_
   refine zbU (lo:=w3.heap.size) (hi:=w3.heap.size) zcT rfl (hB2.ext hx3) rfl zpY λw4 hc4 hB4=>?_;refine zer hB4 zcT ?_;refine ⟨Ext.chgI (hx1.t (hx2.t hx3)) hc4 (by omega),?_⟩;unfold zjQ;rw [if_neg hn];exact (zpY (lo:=w4.heap.size) (hi:=w4.heap.size)).own.mono (by have:=hc4.size;omega)
 have hc:=Decidable.not_not.1 hc;have hsz:c.globals.length≤1048576∧c.locks.length≤1048576:=by unfold zt9 ztK at hw;omega
 refine zaa zdR ?_;refine zab zc0 (zbe hA) (hx2.t hx3) λv10 h10=>?_;refine zae u24 h10 ?_;refine zfw (α:=Int) u25 ty3 rfl rfl zlI (by omega) (by omega) λw4 hx4 r12=>?_;have hs4:=hx4.size;refine zaX (cells:=#[.slice (some ⟨w3.heap.size,0,none⟩) c.globals.length c.globals.length,.slice none 0 0,.slice none 0 0]) (by kernel_rfl) ?_;refine zbH ztL λw5 hx5 hB5=>?_;have hg5:=hB5.lt;have hs5:=hx5.size;have o12:=(r12.own.ext hx5)
 refine zbU (x:=(⟨List.replicate c.globals.length 0,[],[]⟩:DState)) (lo:=w3.heap.size) (hi:=w4.heap.size) zcT rfl hB5 rfl
   (zfa (l0:=w3.heap.size) (h0:=w4.heap.size) (l1:=w4.heap.size) (h1:=w4.heap.size) (l2:=w4.heap.size) (h2:=w4.heap.size) o12 (zdr none) (zdr none) (by omega) (by omega) (by omega) (by omega) (by omega) (by omega)) λw6 hc6 hB6=>?_
 have hs6:=hc6.size;have r12':=(r12.ext hx5).chg hc6 (by omega);have hx16:Ext w1 w6:=Ext.chgI (hx2.t (hx3.t (hx4.t hx5))) hc6 (by omega)
 refine zat c.locks.length (λk us w'=>us=[.int .i64 (k:Int)]∧∃ v1 hi,hi≤w'.heap.size∧w6.heap.size≤w'.heap.size∧Ext w1 w'∧Blk w4.heap.size 36 w' [.slice (some ⟨w3.heap.size,0,none⟩) c.globals.length c.globals.length,v1,.slice none 0 0] ∧
   RowI w3.heap.size w4.heap.size 3 w' (.slice (some ⟨w3.heap.size,0,none⟩) c.globals.length c.globals.length) (List.replicate c.globals.length 0)∧RowI w6.heap.size hi 3 w' v1 (List.replicate k (-1))∧Blk w1.heap.size 36 w' [.slice none 0 0,.slice none 0 0,.slice none 0 0]) 0 (z0 _)
   ⟨rfl,.slice none 0 0,w6.heap.size,lr _,Nat.le_refl _,hx16,hB6,r12',zcm _ _ _ _,((hB2.ext hx3).ext (hx4.t hx5)).chgI hc6 (by omega)⟩ ?_
 rintro k m u w7 hkm ⟨hu,v1,hi,hhi,hs7,hx7,hB7,o7,r7,hB27⟩;try replace hu:=zbG hu
 rw [hu];refine zaa zdD ?_;refine zab zc0 (zba hA) hx7 λv16 h16=>?_;refine zae u24 h16 ?_;refine zaf ?_;refine br (λhlt=>?_) (λhge=>?_)
 · refine zaa zc2 ?_
   refine zas zaK hB7 rfl ?_;refine zcn (α:=Int) (lo2:=w7.heap.size) (hi2:=w7.heap.size) u25 ty3 z3 zc3 (by decide) r7 (by omega) (ownI_int (by unfold I64;omega)) (by omega) (by omega) (by rw [zak,List.length_replicate];omega) (by rw [List.length_replicate];omega) λv24 w8 hc8 r8=>?_;have hs8:=hc8.size;refine zaa zc2 ?_;refine zbp (α:=List Int) zaK rfl rfl (hB7.chgI hc8 (by omega)) (by simp) r8.own λw9 hc9 hB9=>?_;have hs9:=hc9.size;refine zaB ?_;refine ⟨m-1,by omega,k+1,by omega,rfl,v24,w8.heap.size,by omega,by omega,Ext.chgI (Ext.chgI hx7 hc8 (by omega)) hc9 (by omega),hB9,(o7.chg hc8 (by omega)).chg hc9 (by omega),?_,(hB27.chgI hc8 (by omega)).chgI hc9 (by omega)⟩;have:=r8.chg hc9 (by omega)
   rwa [←List.replicate_succ'] at this
 have hk:k=c.locks.length:=by omega
 subst hk;have hx8:=zai w7;have hs8:=hx8.size;refine zaa zaW ?_;refine zas zd5 (hB7.ext hx8) rfl ?_;refine zaa za7 ?_;refine zab zaK (zap hA) (hx7.t hx8) λv29 h29=>?_;refine zab zcv hA (hx7.t hx8) λv30 h30=>?_;refine (zib h30 (hx7.t hx8)).mono ?_;rintro _ w9 ⟨hx9,rfl⟩;have hs9:=hx9.size;refine ⟨hx9,?_⟩;obtain ⟨hp0,hp1⟩:=zoR hc;refine zax u25 ty3 h29 hp0 hp1 λb o hA2=>?_;refine zac ty3 hA2 (hx7.t (hx8.t hx9)) λhI=>?_;refine zhO (α:=Int) (lo:=w9.heap.size) (hi:=w9.heap.size) u25 ty3 z3 (by decide) (ownI_int hI) (by omega) λv34 w10 hx10 o34=>?_;have hs10:=hx10.size;refine ⟨hx10,?_⟩;refine ziN (α:=List Int) (lo:=w9.heap.size) (hi:=w9.heap.size) u33 zaK z25 zt5 (by decide) (zcm _ _ _ _) (by omega) o34 (by omega) (by omega) (by rw [zak];simp) (by simp) λv36 w11 hc11 r36=>?_;have hs11:=hc11.size;have hB11:=((hB7.ext (hx8.t (hx9.t hx10)))).chgI hc11 (by omega);have o11:=((o7.ext (hx8.t (hx9.t hx10)))).chg hc11 (by omega);have r11:=((r7.ext (hx8.t (hx9.t hx10)))).chg hc11 (by omega);have hB211:=((hB27.ext (hx8.t (hx9.t hx10)))).chgI hc11 (by omega);refine zaa zaW ?_;refine zbp (α:=List (List Int)) zd5 rfl rfl hB11 (by simp) r36.own λw12 hc12 hB12=>?_;have hs12:=hc12.size;refine zgL hB12 zcT ?_
 have ost:OwnI w3.heap.size w11.heap.size w12 (.agg #[.slice (some ⟨w3.heap.size,0,none⟩) c.globals.length c.globals.length,v1,v36]) (zeK c):=by
   refine zfa (l0:=w3.heap.size) (h0:=w4.heap.size) (l1:=w6.heap.size) (h1:=hi) (l2:=w9.heap.size) (h2:=w11.heap.size) (o11.chg hc12 (by omega)).own (r11.chg hc12 (by omega)).own ?_ (by omega) (by omega) (by omega) (by omega) (by omega) (by omega);have:=(r36.chg hc12 (by omega)).own;rw [zbr] at this;exact this
 refine zbU zcT rfl (hB211.chgI hc12 (by omega)) rfl ost λw13 hc13 hB13=>?_;have hs13:=hc13.size;refine zer hB13 zcT ?_;refine ⟨Ext.chgI (Ext.chgI (Ext.chgI (hx1.t (hx7.t (hx8.t (hx9.t hx10)))) hc11 (by omega)) hc12 (by omega)) hc13 (by omega),?_⟩;unfold zjQ;rw [if_pos hc];exact (ost.chg hc13 (by omega)).own.mono (by omega)
theorem zdW {α:Type} {l:List α} {i:Nat} {x y:α} (h:y∈l.set i x):y=x∨y∈l:=by
 rcases List.mem_or_eq_of_mem_set h with h | h
 · exact .inr h
 exact .inl h
theorem zoS {c:DCode} (hc:CodeR c):zaF c (zeK c):=by
 obtain ⟨hp0,hp1⟩:=zoR hc;have hl:=hc.f.lt _ hp1;have h0:=hc.f.nonneg hp1;refine ⟨by simp [zeK],by simp [zeK],by simp [zeK],λv hv=>?_,λo ho=>?_,λl hl'=>?_⟩
 · have:=List.eq_of_mem_replicate hv;omega
 · have:=List.eq_of_mem_replicate ho;simp only [zeK,List.length_cons,List.length_nil];omega
 simp only [zeK,List.mem_cons,List.not_mem_nil,or_false] at hl';subst hl';refine ⟨by simp,λi hi=>?_,λi hi=>by simp at hi⟩;have:i=0:=by simp at hi;omega
 subst this;simp only [st,List.getD_cons_zero];omega
theorem zxf {l:List Int} {i j:Nat} {x:Int} (hi:i<l.length):st (l.set i x) j=if i=j then x else st l j:=by
 unfold st;rw [List.getD_eq_getElem?_getD,List.getD_eq_getElem?_getD,List.getElem?_set];by_cases h:i=j
 · subst h;simp [hi]
 simp [h]
theorem zlW {l:List Int} {k j:Nat} (hj:j<k):st (l.take k) j=st l j:=by
 unfold st;rw [List.getD_eq_getElem?_getD,List.getD_eq_getElem?_getD,List.getElem?_take,if_pos hj]
theorem zoT {l:List Int} {j:Nat} {x:Int}:st (l++[x]) j=if j=l.length then x else st l j:=by
 unfold st;rw [List.getD_eq_getElem?_getD,List.getD_eq_getElem?_getD,List.getElem?_append];by_cases h:j<l.length
 · rw [if_pos h,if_neg (by omega)]
 by_cases h2:j=l.length
 · subst h2;simp
 rw [if_neg h,if_neg h2,List.getElem?_eq_none (by simp;omega),List.getElem?_eq_none (by omega)]
theorem zjR {c:DCode} (hc:CodeR c) {a:Int} (h0:0≤a) (h1:a<c.ins.length) (ho:(zan c a.toNat).op≠9):a+1<c.ins.length∧zaH c (a+1)=zaH c a:=by
 obtain ⟨i,hi,h2,h3,h4⟩:=hc.f.find hc.1.procs8.2 h0 h1;have h5:=(hc.2.1.2.2.2 a.toNat (by omega));rw [Int.toNat_of_nonneg h0,h4,zds] at h5;have h6:zdL c i-1≠a:=λe=>ho (h5.2 e);have h7:=(hc.f.lt i hi).2;exact ⟨by omega,by rw [h4];exact hc.f.proc hi (by omega) (by omega)⟩
theorem zic {c:DCode} (hc:CodeR c) {a:Int} (h0:0≤a) (h1:a<c.ins.length) (ho:(zan c a.toNat).op=2∨(zan c a.toNat).op=3) :
   0≤(zan c a.toNat).to∧(zan c a.toNat).to<c.ins.length∧zaH c (zan c a.toNat).to=zaH c a:=by
 obtain ⟨i,hi,h2,h3,h4⟩:=hc.f.find hc.1.procs8.2 h0 h1;have h5:=(zfO hc (j:=a.toNat) (by omega)).2.2.2;rw [if_pos ho,Int.toNat_of_nonneg h0,h4,zds,Int.toNat_natCast] at h5;have h6:=hc.f.nonneg hi;have h7:=(hc.f.lt i hi).2;exact ⟨by omega,by omega,by rw [h4];exact hc.f.proc hi h5.1 (by omega)⟩
theorem zlX {c:DCode} (hc:CodeR c) {i:Nat} (hi:i<c.entry.length):0≤en c i∧en c i<c.ins.length∧zaH c (en c i)=i:=by
 have h6:=hc.f.nonneg hi;have h7:=hc.f.lt i hi;exact ⟨h6,by omega,hc.f.proc hi (Int.le_refl _) h7.1⟩
theorem zqZ (c:DCode):zbY c []:=⟨by simp,λi hi=>by simp at hi,λi hi=>by simp at hi⟩
theorem zq0 {c:DCode} {n:Int} (h0:0≤n) (h1:n<c.ins.length):zbY c [n]:=by
 refine ⟨by simp,λi hi=>?_,λi hi=>by simp at hi⟩;have:i=0:=by simp at hi;omega
 subst this;exact ⟨h0,h1⟩
theorem zkY {c:DCode} {l:List Int} {n:Int} (h:zbY c l) (hl:0<l.length) (h0:0≤n) (h1:n<c.ins.length) (hp:zaH c n=zaH c (st l (l.length-1))):zbY c (l.set (l.length-1) n):=by
 have hs:∀ j,st (l.set (l.length-1) n) j=if l.length-1=j then n else st l j:=λj=>zxf (by omega);refine ⟨by rw [List.length_set];exact h.1,λi hi=>?_,λi hi=>?_⟩
 · rw [List.length_set] at hi
   rw [hs];split
   · exact ⟨h0,h1⟩
   exact h.2.1 i hi
 rw [List.length_set] at hi;have h2:=h.2.2 i hi;rw [hs i,if_neg (by omega)];refine ⟨h2.1,?_⟩;rw [hs (i+1)];split
 · rename_i he
   rw [hp,he];exact h2.2
 exact h2.2
theorem zoU {c:DCode} {l:List Int} {n:Int} (h:zbY c l) (hl:l.length<8) (h0:0≤n) (h1:n<c.ins.length) (hp:0<l.length→(zan c (st l (l.length-1)).toNat).op=4∧zaH c n=(zan c (st l (l.length-1)).toNat).arg):zbY c (l++[n]):=by
 refine ⟨by simp;omega,λi hi=>?_,λi hi=>?_⟩
 · rw [zoT]
   split
   · exact ⟨h0,h1⟩
   exact h.2.1 i (by simp at hi;omega)
 simp only [List.length_append,List.length_cons,List.length_nil] at hi;rw [zoT,zoT,if_neg (by omega)];by_cases e:i+1=l.length
 · rw [if_pos e]
   have:i=l.length-1:=by omega
   subst this;exact hp (by omega)
 rw [if_neg e];exact h.2.2 i (by omega)
theorem zoV {c:DCode} {l:List Int} (h:zbY c l) (k:Nat):zbY c (l.take k):=by
 refine ⟨by rw [List.length_take];have:=h.1;omega,λi hi=>?_,λi hi=>?_⟩
 · rw [List.length_take] at hi
   rw [zlW (by omega)];exact h.2.1 i (by omega)
 rw [List.length_take] at hi;rw [zlW (by omega),zlW (by omega)];exact h.2.2 i (by omega)
theorem zq1 {c:DCode} (hc:CodeR c) {l:List Int} (h:zbY c l) (hl:0<l.length):zbY c (zfg l):=by
 unfold zfg;split
 · exact zqZ c
 rename_i h1
 have h2:=h.2.2 (l.length-2) (by omega);have h3:=h.2.1 (l.length-2) (by omega);obtain ⟨h4,h5⟩:=zjR hc h3.1 h3.2 (by omega)
 have h6:=zkY (n:=st l (l.length-2)+1) (zoV h (l.length-1)) (by rw [List.length_take];omega) (by omega) h4 (by
   rw [List.length_take,zlW (by omega),h5];congr 2;omega)
 rw [List.length_take] at h6;rw [show min (l.length-1) l.length-1=l.length-2 by omega] at h6;exact h6
theorem zid {c:DCode} {s:DState} (hs:zaF c s) {k:Nat} {l:List Int} (hl:zbY c l):zaF c ⟨s.vars,s.owner,s.stacks.set k l⟩:=by
 refine ⟨hs.1,hs.2.1,by simp only [List.length_set];exact hs.2.2.1,hs.2.2.2.1,by simp only [List.length_set];exact hs.2.2.2.2.1,λx hx=>?_⟩;rcases zdW hx with rfl | hx
 · exact hl
 exact hs.2.2.2.2.2 x hx
theorem zne {c:DCode} {s:DState} {t:Int} (hc:CodeR c) (hs:zaF c s) (hgo:GoR c s t):zaF c (zaN c s t):=by
 have hth:=zev hgo.1;unfold zaN;split
 · refine ⟨by simp only [List.length_set];exact hs.1,hs.2.1,hs.2.2.1,λv hv=>?_,hs.2.2.2.2.1,hs.2.2.2.2.2⟩
   rcases zdW hv with rfl | hv
   · exact zdb _ _ _ _
   exact hs.2.2.2.1 v hv
 split
 · split
   · rename_i h1 h5 h6
     have hp:=zgf hc hs hgo.1 (.inr h5);refine ⟨hs.1,hs.2.1,by simp only [List.length_append,List.length_cons,List.length_nil];omega,hs.2.2.2.1,λo ho=>?_,λx hx=>?_⟩
     · have:=hs.2.2.2.2.1 o ho
       simp only [List.length_append,List.length_cons,List.length_nil];omega
     rcases List.mem_append.1 hx with hx | hx
     · exact hs.2.2.2.2.2 x hx
     simp only [List.mem_cons,List.not_mem_nil,or_false] at hx;subst hx;obtain ⟨h7,h8,_⟩:=zlX hc hp.2;exact zq0 h7 h8
   exact hs
 split
 · refine ⟨hs.1,by simp only [List.length_set];exact hs.2.1,hs.2.2.1,hs.2.2.2.1,λo ho=>?_,hs.2.2.2.2.2⟩
   rcases zdW ho with rfl | ho
   · simp only;omega
   exact hs.2.2.2.2.1 o ho
 split
 · split
   · refine ⟨hs.1,by simp only [List.length_set];exact hs.2.1,hs.2.2.1,hs.2.2.2.1,λo ho=>?_,hs.2.2.2.2.2⟩
     rcases zdW ho with rfl | ho
     · simp only;omega
     exact hs.2.2.2.2.1 o ho
   exact hs
 exact hs
theorem zkZ {c:DCode} {s:DState} {t:Int} (hc:CodeR c) (hs:zaF c s) (hgo:GoR c s t):zaF c (zch c s t):=by
 have hth:=zev hgo.1;obtain ⟨tn,rfl,htn,hne,hl8,hat⟩:=ziY hs hgo.1;have hpos:=List.length_pos_iff.2 hne;have hk:=hs.2.2.2.2.2 (stk s tn) (by rw [←zdK (by omega)];exact List.getElem_mem _);have hlt:=zlS hs tn;unfold zch;split
 · rename_i h4
   have hp:=zgf hc hs hgo.1 (.inl h4);obtain ⟨h7,h8,h9⟩:=zlX hc hp.2;have h10:=hgo.2.2 h4;refine zid hs (zoU hk (by omega) h7 h8 λ_=>?_);rw [←hat];refine ⟨h4,?_⟩;rw [h9];have:=hp.1;unfold atI at this ⊢;omega
 split
 · exact zid hs (zq1 hc hk hpos)
 rename_i h4 h9
 have hn:=zjR hc hgo.1 hlt.2 h9
 have key:0≤zcx c s tn∧zcx c s tn<c.ins.length∧zaH c (zcx c s tn)=zaH c (zcH s tn):=by
   unfold zcx;have hnx:0≤zcH s tn+1∧zcH s tn+1<c.ins.length∧zaH c (zcH s tn+1)=zaH c (zcH s tn):=⟨by have:=hgo.1;omega,hn.1,hn.2⟩;split
   · rename_i h2
     split
     · exact zic hc hgo.1 hlt.2 (.inl h2)
     exact hnx
   split
   · rename_i h3
     exact zic hc hgo.1 hlt.2 (.inr h3)
   exact hnx
 refine zid (zne hc hs hgo) (zkY hk hpos key.1 key.2.1 ?_);rw [key.2.2,hat]
end Go.Proofs.YtakjaofncelghaaGreat
namespace Go.Sh
def za9 (l:List Nat):List Int:=l.map λx:Nat=>(x:Int)
theorem zaj (l:List Nat):(za9 l).length=l.length:=by simp [za9]
theorem zbz {l:List Nat} {i:Nat} (h:i<(za9 l).length):(za9 l)[i]=((l[i]'(by rw [←zaj];exact h):Nat):Int):=by simp [za9]
theorem zcR (l m:List Nat):za9 (l++m)=za9 l++za9 m:=by simp [za9]
theorem zsO (l:List Nat) (k:Nat):za9 (l.take k)=(za9 l).take k:=by simp [za9]
def mkd (ms:List Bool) (i:Nat):Prop:=ms.getD i false=true
theorem zbK {ms:List Bool} {i:Nat} (h:i<ms.length):mkd ms i↔ms[i]=true:=by
 unfold mkd;rw [List.getD_eq_getElem?_getD,List.getElem?_eq_getElem h];rfl
theorem zpZ {ms:List Bool} {i:Nat} (h:mkd ms i):i<ms.length:=by
 rcases Nat.lt_or_ge i ms.length with h' | h'
 · exact h'
 unfold mkd at h;rw [List.getD_eq_getElem?_getD,List.getElem?_eq_none h'] at h;cases h
theorem zcE {ms:List Bool} {i j:Nat} (hi:i<ms.length):mkd (ms.set i true) j↔mkd ms j∨j=i:=by
 unfold mkd;rw [List.getD_eq_getElem?_getD,List.getD_eq_getElem?_getD,List.getElem?_set];by_cases h:i=j
 · subst h;simp [hi]
 have:¬j=i:=λe=>h e.symm;simp [h,this]
theorem zb5 {n i:Nat}:¬mkd (List.replicate n false) i:=by
 unfold mkd;rw [List.getD_eq_getElem?_getD,List.getElem?_replicate];split<;>simp
theorem zsP {ms ns:List Bool} (hl:ms.length=ns.length) (h:∀ i,i<ms.length→(mkd ms i↔mkd ns i)):ms=ns:=by
 refine List.ext_getElem hl λi h1 h2=>?_;have:=h i h1;rw [zbK h1,zbK h2] at this;cases e1:ms[i]<;>cases e2:ns[i]<;>simp_all
def ziZ (ms:List Bool):Nat:=ms.count true
theorem zfR (ms:List Bool):ziZ ms≤ms.length:=List.count_le_length
theorem zhr:∀ {ms:List Bool} {i:Nat},i<ms.length→¬mkd ms i→ziZ (ms.set i true)=ziZ ms+1
 | b :: ms,0,_,h=>by
   have:b=false:=by cases b<;>simp_all [mkd]
   subst this;simp [ziZ]
 | b :: ms,i+1,hi,h=>by
   have ih:=zhr (ms:=ms) (i:=i) (by simpa using hi) (by simpa [mkd] using h);simp only [ziZ,List.set_cons_succ,List.count_cons] at ih ⊢;omega
inductive RP (nx:Nat→List Nat) (a:Nat):Nat→Prop
 | one {b:Nat} (h:b∈nx a):RP nx a b
 | more {b d:Nat} (h:RP nx a b) (k:d∈nx b):RP nx a d
theorem RP.trans {nx:Nat→List Nat} {a b d:Nat} (h:RP nx a b) (k:RP nx b d):RP nx a d:=by
 induction k with
 | one h1=>exact .more h h1
 | more _ h2 ih=>exact .more ih h2
theorem RP.keeps {nx:Nat→List Nat} {p:Nat→Prop} {a b:Nat} (h:RP nx a b) (ha:p a) (hp:∀ i j,p i→j∈nx i→p j):p b:=by
 induction h with
 | one h=>exact hp _ _ ha h
 | more _ h ih=>exact hp _ _ ih h
structure SInv (nx:Nat→List Nat) (n a:Nat) (M0 ms:List Bool) (td:List Nat) (k:Nat):Prop where
 len:ms.length=n
 sub:∀ i,mkd M0 i→mkd ms i
 src:∀ i,mkd ms i→mkd M0 i∨RP nx a i
 tdo:∀ i∈td,(i=a∨RP nx a i)∧i<n
 clo:∀ i,(i=a∨(mkd ms i∧¬mkd M0 i))→i∈td∨∀ j∈nx i,mkd ms j
 cnt:td.length+k+ziZ M0=1+ziZ ms
structure SIn2 (nx:Nat→List Nat) (n a:Nat) (M0 ms:List Bool) (td:List Nat) (k x q:Nat):Prop where
 len:ms.length=n
 sub:∀ i,mkd M0 i→mkd ms i
 src:∀ i,mkd ms i→mkd M0 i∨RP nx a i
 tdo:∀ i∈td,(i=a∨RP nx a i)∧i<n
 clo:∀ i,(i=a∨(mkd ms i∧¬mkd M0 i))→i∈td∨(i=x∧∀ j∈(nx x).take q,mkd ms j)∨∀ j∈nx i,mkd ms j
 cnt:td.length+k+1+ziZ M0=1+ziZ ms
 met:x=a∨RP nx a x
section
variable {nx:Nat→List Nat} {n a k x q:Nat} {M0 ms:List Bool} {td td':List Nat}
theorem SInv.start (hl:M0.length=n) (ha:a<n):SInv nx n a M0 M0 [a] 0:=
 ⟨hl,λ_ h=>h,λ_ h=>.inl h,λi hi=>by simp only [List.mem_cons,List.not_mem_nil,or_false] at hi;exact ⟨.inl hi,hi▸ha⟩,λi hi=>by
   rcases hi with rfl | ⟨h1,h2⟩
   · exact .inl (by simp)
   exact absurd h1 h2,by simp⟩
theorem SInv.bound (h:SInv nx n a M0 ms td k):td.length+k≤1+n:=by
 have h1:=h.cnt;have h2:=zfR ms;rw [h.len] at h2;omega
theorem SInv.pop (h:SInv nx n a M0 ms td k) (hm:∀ i,i∈td↔i∈td'∨i=x) (hl:td.length=td'.length+1):SIn2 nx n a M0 ms td' k x 0:=
 ⟨h.len,h.sub,h.src,λi hi=>h.tdo i ((hm i).2 (.inl hi)),λi hi=>by
   rcases h.clo i hi with h1 | h1
   · rcases (hm i).1 h1 with h1 | rfl
     · exact .inl h1
     exact .inr (.inl ⟨rfl,by simp⟩)
   exact .inr (.inr h1),by have:=h.cnt;omega,(h.tdo x ((hm x).2 (.inr rfl))).1⟩
theorem SIn2.skip (h:SIn2 nx n a M0 ms td k x q) (hq:q<(nx x).length) (hmk:mkd ms (nx x)[q]):SIn2 nx n a M0 ms td k x (q+1):=
 ⟨h.len,h.sub,h.src,h.tdo,λi hi=>by
   rcases h.clo i hi with h1 | ⟨rfl,h1⟩ | h1
   · exact .inl h1
   · refine .inr (.inl ⟨rfl,λj hj=>?_⟩)
     rw [tk hq] at hj;rcases List.mem_append.1 hj with hj | hj
     · exact h1 j hj
     simp only [List.mem_cons,List.not_mem_nil,or_false] at hj;rw [hj];exact hmk
   exact .inr (.inr h1),h.cnt,h.met⟩
theorem SIn2.push (h:SIn2 nx n a M0 ms td k x q) (hq:q<(nx x).length) (hn:(nx x)[q]<n) (hmk:¬mkd ms (nx x)[q]):SIn2 nx n a M0 (ms.set (nx x)[q] true) (td++[(nx x)[q]]) k x (q+1):=by
 have hs:=λj=>zcE (ms:=ms) (i:=(nx x)[q]) (j:=j) (by rw [h.len];exact hn)
 have hr:RP nx a (nx x)[q]:=by
   rcases h.met with e | e
   · exact .one (e▸List.getElem_mem hq)
   exact .more e (List.getElem_mem hq)
 refine ⟨by simp [h.len],λi hi=>(hs i).2 (.inl (h.sub i hi)),λi hi=>?_,λi hi=>?_,λi hi=>?_,?_,h.met⟩
 · rcases (hs i).1 hi with h1 | h1
   · exact h.src i h1
   exact .inr (h1▸hr)
 · rcases List.mem_append.1 hi with h1 | h1
   · exact h.tdo i h1
   simp only [List.mem_cons,List.not_mem_nil,or_false] at h1;exact ⟨.inr (h1▸hr),h1▸hn⟩
 · have hi':i=(nx x)[q]∨(i=a∨(mkd ms i∧¬mkd M0 i)):=by
     rcases hi with h1 | ⟨h1,h2⟩
     · exact .inr (.inl h1)
     rcases (hs i).1 h1 with h1 | h1
     · exact .inr (.inr ⟨h1,h2⟩)
     exact .inl h1
   rcases hi' with h1 | h1
   · exact .inl (List.mem_append_right _ (by simp [h1]))
   rcases h.clo i h1 with h1 | ⟨rfl,h1⟩ | h1
   · exact .inl (List.mem_append_left _ h1)
   · refine .inr (.inl ⟨rfl,λj hj=>?_⟩)
     rw [tk hq] at hj;rcases List.mem_append.1 hj with hj | hj
     · exact (hs j).2 (.inl (h1 j hj))
     simp only [List.mem_cons,List.not_mem_nil,or_false] at hj;exact (hs j).2 (.inr hj)
   exact .inr (.inr λj hj=>(hs j).2 (.inl (h1 j hj)))
 have:=h.cnt;rw [zhr (by rw [h.len];exact hn) hmk,List.length_append];simp only [List.length_cons,List.length_nil];omega
theorem SIn2.done (h:SIn2 nx n a M0 ms td k x q) (hq:(nx x).length≤q):SInv nx n a M0 ms td (k+1):=
 ⟨h.len,h.sub,h.src,h.tdo,λi hi=>by
   rcases h.clo i hi with h1 | ⟨rfl,h1⟩ | h1
   · exact .inl h1
   · rw [List.take_of_length_le hq] at h1;exact .inr h1
   exact .inr h1,by have:=h.cnt;omega⟩
theorem SInv.fin (h:SInv nx n a M0 ms [] k) (hc:∀ i,mkd M0 i→i≠a→∀ j∈nx i,mkd M0 j) (i:Nat):mkd ms i↔mkd M0 i∨RP nx a i:=by
 refine ⟨h.src i,λhi=>?_⟩;rcases hi with hi | hi
 · exact h.sub i hi
 have hcl:∀ b,(b=a∨mkd ms b)→∀ j∈nx b,mkd ms j:=λb hb=>by
   by_cases hba:b=a
   · rcases h.clo b (.inl hba) with h1 | h1
     · cases h1
     exact h1
   have hb:=hb.resolve_left hba;by_cases hm:mkd M0 b
   · exact λj hj=>h.sub j (hc b hm hba j hj)
   rcases h.clo b (.inr ⟨hb,hm⟩) with h1 | h1
   · cases h1
   exact h1
 induction hi with
 | one h1=>exact hcl a (.inl rfl) _ h1
 | more _ h2 ih=>exact hcl _ (.inr ih) _ h2
end
noncomputable def zdf (n:Nat) (p:Nat→Prop):List Bool:=(List.range n).map λi=>@decide (p i) (Classical.propDecidable _)
noncomputable def zcr (n:Nat) (p:Nat→Prop):List Nat:=(List.range n).filter λi=>@decide (p i) (Classical.propDecidable _)
noncomputable def zcF (p:Nat→Prop):Nat→Nat
 | 0=>0
 | n+1=>zcF p n ||| (if @decide (p n) (Classical.propDecidable _) then 2^n else 0)
section
variable {n:Nat} {p q:Nat→Prop}
theorem zaD:(zdf n p).length=n:=by simp [zdf]
theorem zb6 {i:Nat}:mkd (zdf n p) i↔i<n∧p i:=by
 constructor
 · intro h
   have hl:=zpZ h;rw [zbK hl] at h;rw [zaD] at hl;refine ⟨hl,?_⟩;simpa [zdf] using h
 rintro ⟨h1,h2⟩;rw [zbK (by rw [zaD];exact h1)];simpa [zdf] using h2
theorem zci {ms:List Bool} (hl:ms.length=n) (h:∀ i,i<n→(mkd ms i↔p i)):ms=zdf n p:=
 zsP (by rw [hl,zaD]) λi hi=>by
   rw [zb6,h i (hl▸hi)];exact ⟨λh=>⟨hl▸hi,h⟩,λh=>h.2⟩
theorem zbw (h:∀ i,i<n→(p i↔q i)):zdf n p=zdf n q:=zci zaD λi hi=>by rw [zb6,←h i hi];exact ⟨λh=>h.2,λh=>⟨hi,h⟩⟩
theorem zbq {i:Nat}:i∈zcr n p↔i<n∧p i:=by simp [zcr]
theorem zgg (h:∀ i,i<n→(p i↔q i)):zcr n p=zcr n q:=by
 refine List.filter_congr λi hi=>?_;have:=h i (List.mem_range.1 hi);by_cases hp:p i
 · simp [hp,this.1 hp]
 have hq:¬q i:=λhq=>hp (this.2 hq);simp [hp,hq]
theorem znf:zcr (n+1) p=zcr n p++(if @decide (p n) (Classical.propDecidable _) then [n] else []):=by
 simp only [zcr,List.range_succ,List.filter_append,List.filter_cons,List.filter_nil]
theorem zea (h:p n):zcr (n+1) p=zcr n p++[n]:=by rw [znf];simp [h]
theorem zeW (h:¬p n):zcr (n+1) p=zcr n p:=by rw [znf];simp [h]
theorem zc6:(zcr n p).length≤n:=Nat.le_trans (List.length_filter_le _ _) (by simp)
theorem zaY {i:Nat}:(zcF p n).testBit i=true↔i<n∧p i:=by
 induction n with
 | zero=>simp [zcF]
 | succ n ih=>
   rw [zcF,Nat.testBit_or,Bool.or_eq_true,ih];by_cases hp:p n
   · simp only [hp,decide_true,if_true,Nat.testBit_two_pow,decide_eq_true_eq]
     constructor
     · rintro (⟨h1,h2⟩ | rfl)
       · exact ⟨by omega,h2⟩
       exact ⟨by omega,hp⟩
     rintro ⟨h1,h2⟩;rcases Nat.lt_or_eq_of_le (Nat.lt_succ_iff.1 h1) with h | h
     · exact .inl ⟨h,h2⟩
     exact .inr h.symm
   simp only [hp,decide_false,Bool.false_eq_true,if_false,Nat.zero_testBit,or_false];constructor
   · rintro ⟨h1,h2⟩;exact ⟨by omega,h2⟩
   rintro ⟨h1,h2⟩;rcases Nat.lt_or_eq_of_le (Nat.lt_succ_iff.1 h1) with h | h
   · exact ⟨h,h2⟩
   exact absurd (h▸h2) hp
theorem zlY:zcF p n<2^n:=by
 refine Nat.lt_pow_two_of_testBit _ λi hi=>?_;cases h:(zcF p n).testBit i
 · rfl
 have:=(zaY.1 h).1;omega
theorem zew {m:Nat} (h:∀ i,m.testBit i=true↔i<n∧p i):m=zcF p n:=
 Nat.eq_of_testBit_eq λi=>by
   have h1:=h i;rw [←zaY] at h1;cases e1:m.testBit i<;>cases e2:(zcF p n).testBit i<;>simp_all
theorem zbx (h:∀ i,i<n→(p i↔q i)):zcF p n=zcF q n:=zew λi=>by
 rw [zaY];exact ⟨λ⟨h1,h2⟩=>⟨h1,(h i h1).1 h2⟩,λ⟨h1,h2⟩=>⟨h1,(h i h1).2 h2⟩⟩
end
end Go.Sh
namespace Go.Proofs.YtakjaofncelghaaGreat
open Go Go.Sh Go.Proofs
open Rep (rep)
def F120 (a0 a1:Value) (w:World) (R:VW):Prop:=
 NIL a0 <|
 rF 101 a0 0 w λx8=>
 rF 28 x8 4 w λx9=>
 rL 26 x9 w λx10=>
 rX 26 x10 a1 w λx12=>
 rL 118 x12 w λx13=>
 oP (aL 118) w λx5 w=>
 oS 118 x5 x13 w λw=>
 rF 118 x5 0 w λx14=>
 rL 3 x14 w λx15=>
 rQ x15 (iV 9) w λx17=>
 BR x17
 (R (Value.slice none 0 0) w)
 (rQ x15 (iV 3) w λx19=>
 BR x19
 (rF 118 x5 3 w λx20=>
 rL 3 x20 w λx21=>
 oP (bS 25 x21) w λx22 w=>
 R x22 w)
 (rQ x15 (iV 2) w λx24=>
 BR x24
 (rF 118 x5 3 w λx25=>
 rL 3 x25 w λx26=>
 rI a1 w λx28=>
 rB .neq 3 T0 T0 x26 x28 w λx29=>
 BR x29
 (rI a1 w λx31=>
 rF 118 x5 3 w λx32=>
 rL 3 x32 w λx33=>
 oP (Instr.buildSlice 25 2 #[(0,x31),(1,x33)]) w λx34 w=>
 R x34 w)
 (rI a1 w λx36=>
 oP (bS 25 x36) w λx37 w=>
 R x37 w))
 (rI a1 w λx36=>
 oP (bS 25 x36) w λx37 w=>
 R x37 w)))
theorem F120_call {a0 a1 w R} (h:F120 a0 a1 w R):cL 120 [a0,a1] w R:=co (g:=(kf [] [] [])) Tryz.func120 h
def F236 (a0 a1:Value) (w:World) (R:VW):Prop:=
 oX 28 a0 w λx2 w=>
 rF 28 x2 4 w λx6=>
 rL 26 x6 w λx7=>
 rX 26 x7 a1 w λx9=>
 rL 118 x9 w λx10=>
 oP (aL 118) w λx5 w=>
 oS 118 x5 x10 w λw=>
 rF 118 x5 0 w λx11=>
 rL 3 x11 w λx12=>
 rQ x12 (iV 2) w λx14=>
 BR x14
 (rF 118 x5 3 w λx15=>
 rL 3 x15 w λx16=>
 rI a1 w λx18=>
 rB .eql 3 T0 T0 x16 x18 w λx19=>
 BR x19
 (rI a1 w λx21=>
 oP (bS 25 x21) w λx22 w=>
 R x22 w)
 (rI a1 w λx24=>
 rF 118 x5 3 w λx25=>
 rL 3 x25 w λx26=>
 oP (Instr.buildSlice 25 2 #[(0,x24),(1,x26)]) w λx27 w=>
 R x27 w))
 (rQ x12 (iV 3) w λx29=>
 BR x29
 (rF 118 x5 3 w λx30=>
 rL 3 x30 w λx31=>
 oP (bS 25 x31) w λx32 w=>
 R x32 w)
 (rQ x12 (iV 9) w λx34=>
 BR x34
 (oP (Instr.buildSlice 25 0 #[]) w λx35 w=>
 R x35 w)
 (rI a1 w λx37=>
 oP (bS 25 x37) w λx38 w=>
 R x38 w)))
theorem F236_call {a0 a1 w R} (h:F236 a0 a1 w R):cL 236 [a0,a1] w R:=co (g:=(kf [] [] [])) Tryz.func236 h
def zaO (c:DCode) (i:Nat):List Nat:=
 if (zan c i).op=9 then [] else if (zan c i).op=3 then [(zan c i).to.toNat] else if (zan c i).op=2∧(zan c i).to≠(i:Int)+1 then [i+1,(zan c i).to.toNat] else [i+1]
theorem zeb {c:DCode} (hc:CodeR c) {i j:Nat} (hi:i<c.ins.length) (h:j∈zaO c i):j<c.ins.length∧zaH c j=zaH c i:=by
 have h9:=zjR hc (a:=(i:Int)) (by omega) (by omega);have hto:=zic hc (a:=(i:Int)) (by omega) (by omega);simp only [Int.toNat_natCast] at h9 hto;unfold zaO at h;split at h
 · cases h
 rename_i ho
 have h1:=h9 ho;have e1:((i+1:Nat):Int)=(i:Int)+1:=by omega
 split at h
 · rename_i h3
   simp only [List.mem_cons,List.not_mem_nil,or_false] at h;subst h;have h2:=hto (.inr h3);rw [Int.toNat_of_nonneg h2.1];exact ⟨by omega,h2.2.2⟩
 split at h
 · rename_i h2
   simp only [List.mem_cons,List.not_mem_nil,or_false] at h;rcases h with rfl | rfl
   · exact ⟨by omega,by rw [e1];exact h1.2⟩
   have h2:=hto (.inl h2.1);rw [Int.toNat_of_nonneg h2.1];exact ⟨by omega,h2.2.2⟩
 simp only [List.mem_cons,List.not_mem_nil,or_false] at h;subst h;exact ⟨by omega,by rw [e1];exact h1.2⟩
theorem zfS (c:DCode) (i:Nat):(zaO c i).length≤2:=by
 unfold zaO;split
 · simp
 split
 · simp
 split<;>simp
section
variable {P:Program} {w:World} {K:Value→World→Prop}
def vsI (l:List Int):List Value:=l.map λx=>.int .i64 x
theorem zng {w:World}:∀ {l:List Int},(∀ x∈l,I64 x)→Cells [] w (vsI l) l
 | [],_=>⟨rfl,rfl⟩
 | x :: l,h=>⟨[],[],[.int .i64 x],vsI l,rfl,rfl,⟨rfl,rfl,h x (by simp)⟩,zng λy hy=>h y (by simp [hy])⟩
theorem zv7 {l:List Int} {e:Nat} (hl:∀ x∈l,I64 x) (hm:l.length≤maxLen):Own w.heap.size (w.alloc (.cells (vsI l).toArray e)) (.slice (some ⟨w.heap.size,0,none⟩) l.length l.length) l:=by
 have hB:Blk w.heap.size e (w.alloc (.cells (vsI l).toArray e)) (vsI l):=heap_alloc_new w _;refine ⟨[w.heap.size],⟨⟨_,⟨some ⟨w.heap.size,0,none⟩,l.length,[],vsI l,rfl,lr _,hm,zng hl,.inr ⟨_,_,rfl,rfl,hB.range,?_⟩⟩,rfl⟩,by simp,λi hi=>?_⟩,by simp⟩
 · exact (Array.getElem?_eq_some_iff.1 hB).1
 simp only [List.mem_cons,List.not_mem_nil,or_false] at hi;subst hi;exact ⟨_,_,hB⟩
theorem zk0 {t e:TypeId} {by_:Nat} {x y:Int} (ht:P.underlying t=some (.slice e)) (he:tyI P e=some (1,by_,false)) (hz:zcu P e=some [.int .i64 0]) (hx:I64 x) (hy:I64 y)
   (k:∀ v w',Ext w w'→Own w.heap.size w' v [x,y]→K v w'):OP P (Instr.buildSlice t 2 #[(0,.int .i64 x),(1,.int .i64 y)]) w K:=by
 unfold zcu at hz;cases hi:P.info? e with
 | none=>simp [hi] at hz
 | some i=>
   simp only [hi] at hz;obtain ⟨v,hv,hvc⟩:=Option.map_eq_some_iff.1 hz;refine ⟨_,w.alloc (.cells (vsI [x,y]).toArray e),?_,k _ _ (zaP w _) (zv7 (l:=[x,y]) (e:=e) (by simp [hx,hy]) (by simp [maxLen]))⟩;have hvc':v.cells=#[.int .i64 0]:=Array.ext' (by simpa using hvc);have e1:∀ n:Int,(Value.int .i64 n).cells=#[.int .i64 n]:=λ_=>rfl;simp only [Instr.buildSlice,Sem.run_bind,run_underlying ht,Result.andThen_ok,zaM he];have e2:Array.range 2=#[0,1]:=by decide
   simp [zeroValue,typeInfo,hi,hv,newRow,Instr.fill,hvc',vsI,e1,e2]
end
theorem zxM:zcu tp 3=some [.int .i64 0]:=by kernel_rfl
theorem zjS {w W0:World} {b:Nat} {c:DCode} {i:Nat} (hA:At W0 b 0 c) (e0:Ext W0 w) (hc:CodeR c) (hi:i<c.ins.length) :
   CALL tp 120 [.pointer (some ⟨b,0,none⟩),.int .i64 (i:Int)] w λr w'=>Ext w w'∧Own w.heap.size w' r (za9 (zaO c i)):=by
 refine F120_call ?_;unfold F120;have hil:=hc.f.ins;have hto:=zic hc (a:=(i:Int)) (by omega) (by omega);simp only [Int.toNat_natCast] at hto;refine NIL.mk rfl ?_;refine zaa zcK ?_;refine zaa zaR ?_;refine zab zdn (zal hA) e0 λv10 h10=>?_;refine zad u26 zbm h10 hi λb12 o12 h12=>?_;rw [zaE] at h12;have hnx:zaO c i=if (zan c i).op=9 then [] else if (zan c i).op=3 then [(zan c i).to.toNat] else if (zan c i).op=2∧(zan c i).to≠(i:Int)+1 then [i+1,(zan c i).to.toNat] else [i+1]:=rfl;generalize zan c i=I at *;refine zab zbm h12 e0 λv13 h13=>?_;refine zcX zhM rfl zbm rfl h13 e0 λw1 hx1 hA5 hV5=>?_;refine zaa za6 ?_;refine zac ty3 (zaA hA5) (Ext.refl _) λ_=>?_;refine zag ?_;refine br (λc9=>?_) (λc9=>?_)
 · rw [hnx,if_pos c9]
   exact ⟨hx1,zje rfl⟩
 rw [if_neg c9] at hnx;refine zag ?_;refine br (λc3=>?_) (λc3=>?_)
 · rw [if_pos c3] at hnx
   have ht:=hto (.inr c3);refine zaa zcC ?_;refine zac ty3 (zbB hA5) (Ext.refl _) λhI=>?_;refine zbE (x:=I.to) u25 ty3 z3 (by decide) (zbh hI) λv w2 hx2 hr=>?_;refine ⟨hx1.t hx2,?_⟩;rw [hnx];have e:za9 [I.to.toNat]=[I.to]:=by simp [za9,Int.toNat_of_nonneg ht.1]
   rw [e];have:=hx1.size;exact hr.own.own.mono (by omega)
 rw [if_neg c3] at hnx;have e1:za9 [i+1]=[((i+1:Nat):Int)]:=by simp [za9]
 refine zag ?_;refine br (λc2=>?_) (λc2=>?_)
 · have ht:=hto (.inl c2)
   refine zaa zcC ?_;refine zac ty3 (zbB hA5) (Ext.refl _) λhI=>?_;refine zaB ?_;refine zaV ?_;refine br (λcn=>?_) (λcn=>?_)
   · rw [if_pos ⟨c2,by omega⟩] at hnx
     refine zaB ?_;refine zaa zcC ?_;refine zac ty3 (zbB hA5) (Ext.refl _) λ_=>?_;refine zk0 u25 ty3 zxM (by unfold I64;omega) hI λv w2 hx2 hr=>?_;refine ⟨hx1.t hx2,?_⟩;have e:za9 [i+1,I.to.toNat]=[((i+1:Nat):Int),I.to]:=by simp [za9,Int.toNat_of_nonneg ht.1]
     rw [hnx,e];have:=hx1.size;exact hr.mono (by omega)
   rw [if_neg (λh=>cn (by have:=h.2;omega))] at hnx;refine zaB ?_;refine zbE (x:=((i+1:Nat):Int)) u25 ty3 z3 (by decide) (zbh (by unfold I64;omega)) λv w2 hx2 hr=>?_;refine ⟨hx1.t hx2,?_⟩;rw [hnx,e1];have:=hx1.size;exact hr.own.own.mono (by omega)
 rw [if_neg (λh=>c2 h.1)] at hnx;refine zaB ?_;refine zbE (x:=((i+1:Nat):Int)) u25 ty3 z3 (by decide) (zbh (by unfold I64;omega)) λv w2 hx2 hr=>?_;refine ⟨hx1.t hx2,?_⟩;rw [hnx,e1];have:=hx1.size;exact hr.own.own.mono (by omega)
theorem zk1 {w W0:World} {v0:Value} {c:DCode} {i:Nat} (h0:Is W0 v0 c) (e0:Ext W0 w) (hc:CodeR c) (hi:i<c.ins.length) :
   CALL tp 236 [v0,.int .i64 (i:Int)] w λr w'=>Ext w w'∧Own w.heap.size w' r (za9 (zaO c i)):=by
 refine F236_call ?_;unfold F236;have hil:=hc.f.ins;have hto:=zic hc (a:=(i:Int)) (by omega) (by omega);simp only [Int.toNat_natCast] at hto;refine zcb h0 e0 λw0 hx0 hA=>?_;refine zaa zaR ?_;refine zab zdn (zal hA) (Ext.refl _) λv10 h10=>?_;refine zad u26 zbm h10 hi λb12 o12 h12=>?_;rw [zaE] at h12;have hnx:zaO c i=if (zan c i).op=9 then [] else if (zan c i).op=3 then [(zan c i).to.toNat] else if (zan c i).op=2∧(zan c i).to≠(i:Int)+1 then [i+1,(zan c i).to.toNat] else [i+1]:=rfl;generalize zan c i=I at *;refine zab zbm h12 (Ext.refl _) λv13 h13=>?_;refine zcX zhM rfl zbm rfl h13 (Ext.refl _) λw1 hx1 hA5 hV5=>?_;have hs0:=hx0.size;have hs1:=hx1.size;have hx01:=hx0.t hx1;have e1:za9 [i+1]=[((i+1:Nat):Int)]:=by simp [za9]
 refine zaa za6 ?_;refine zac ty3 (zaA hA5) (Ext.refl _) λ_=>?_;refine zag ?_;refine br (λc2=>?_) (λc2=>?_)
 · have ht:=hto (.inl c2)
   rw [if_neg (by omega),if_neg (by omega)] at hnx;refine zaa zcC ?_;refine zac ty3 (zbB hA5) (Ext.refl _) λhI=>?_;refine zaB ?_;refine zag ?_;refine br (λcn=>?_) (λcn=>?_)
   · rw [if_neg (λh=>h.2 (by omega))] at hnx
     refine zaB ?_;refine zbE (x:=((i+1:Nat):Int)) u25 ty3 z3 (by decide) (zbh (by unfold I64;omega)) λv w2 hx2 hr=>?_;refine ⟨hx01.t hx2,?_⟩;rw [hnx,e1];exact hr.own.own.mono (by omega)
   rw [if_pos ⟨c2,by omega⟩] at hnx;refine zaB ?_;refine zaa zcC ?_;refine zac ty3 (zbB hA5) (Ext.refl _) λ_=>?_;refine zk0 u25 ty3 zxM (by unfold I64;omega) hI λv w2 hx2 hr=>?_;refine ⟨hx01.t hx2,?_⟩;have e:za9 [i+1,I.to.toNat]=[((i+1:Nat):Int),I.to]:=by simp [za9,Int.toNat_of_nonneg ht.1]
   rw [hnx,e];exact hr.mono (by omega)
 refine zag ?_;refine br (λc3=>?_) (λc3=>?_)
 · rw [if_neg (by omega),if_pos c3] at hnx
   have ht:=hto (.inr c3);refine zaa zcC ?_;refine zac ty3 (zbB hA5) (Ext.refl _) λhI=>?_;refine zbE (x:=I.to) u25 ty3 z3 (by decide) (zbh hI) λv w2 hx2 hr=>?_;refine ⟨hx01.t hx2,?_⟩;rw [hnx];have e:za9 [I.to.toNat]=[I.to]:=by simp [za9,Int.toNat_of_nonneg ht.1]
   rw [e];exact hr.own.own.mono (by omega)
 refine zag ?_;refine br (λc9=>?_) (λc9=>?_)
 · rw [if_pos c9] at hnx
   rw [hnx];refine zaQ (α:=Int) u25 ty3 λa w2 hx2 hr=>?_;have hs2:=hx2.size;exact ⟨hx01.t hx2,hr.own.own.mono (by omega)⟩
 rw [if_neg c9,if_neg c3,if_neg (λh=>c2 h.1)] at hnx;refine zaB ?_;refine zbE (x:=((i+1:Nat):Int)) u25 ty3 z3 (by decide) (zbh (by unfold I64;omega)) λv w2 hx2 hr=>?_;refine ⟨hx01.t hx2,?_⟩;rw [hnx,e1];exact hr.own.own.mono (by omega)
def F239 (a0 a1:Value) (w:World) (R:VW):Prop:=
 oX 28 a0 w λx2 w=>
 rF 28 x2 4 w λx10=>
 rL 26 x10 w λx11=>
 rN 26 3 x11 w λx12=>
 oP (Instr.makeSlice 85 x12 x12) w λx13 w=>
 oP (bS 25 a1) w λx15 w=>
 LOOPI [6,7] [x15,(iV 0)] w λu4 w n4=>
 rN 25 3 (u4 6) w λx18=>
 rC (u4 7) x18 w λx19=>
 BR x19
 ((λw=>rL 28 x2 w λx22=>
 rX 25 (u4 6) (u4 7) w λx25=>
 rL 3 x25 w λx26=>
 cL 236 [x22,x26] w λx27 w=>
 LOOPI [6,9] [(u4 6),(iV 0)] w λu8 w n8=>
 rN 25 3 x27 w λx30=>
 rC (u8 9) x30 w λx31=>
 BR x31
 (rX 25 x27 (u8 9) w λx37=>
 rL 3 x37 w λx38=>
 rX 85 x13 x38 w λx39=>
 rL 4 x39 w λx40=>
 rT x40 w λx41=>
 BR x41
 (rX 25 x27 (u8 9) w λx45=>
 rL 3 x45 w λx46=>
 rX 85 x13 x46 w λx47=>
 oS 4 x47 vT w λw=>
 rX 25 x27 (u8 9) w λx51=>
 rL 3 x51 w λx52=>
 oP (bS 25 x52) w λx53 w=>
 oP (aP 25 (u8 6) x53) w λx54 w=>
 rI (u8 9) w λx33=>
 n8 [x54,x33] w)
 (rI (u8 9) w λx33=>
 n8 [(u8 6),x33] w))
 (rI (u4 7) w λx21=>
 n4 [(u8 6),x21] w)) (World.drew1 w))
 (R x13 w)
theorem F239_call {a0 a1 w R} (h:F239 a0 a1 w R):cL 239 [a0,a1] w R:=co (g:=(kf [] [(4,36028797018899392,[6,7]),(8,36028796750529088,[6,9])] [(6,[0,1,2,3,4,5,6],0)])) Tryz.func239 h
def F73 (a0 a1 a2:Value) (w:World) (R:VW):Prop:=
 oP (bS 25 a2) w λx11 w=>
 LOOPI [6] [x11] w λu1 w n1=>
 rN 25 3 (u1 6) w λx13=>
 rB .gtr 3 T0 U0 x13 (iV 0) w λx14=>
 BR x14
 (rN 25 3 (u1 6) w λx17=>
 rB .sub 3 T0 U0 x17 (iV 1) w λx18=>
 rX 25 (u1 6) x18 w λx19=>
 rL 3 x19 w λx20=>
 rN 25 3 (u1 6) w λx23=>
 rB .sub 3 T0 U0 x23 (iV 1) w λx24=>
 rD (Instr.sliceAt 25 (u1 6) none (some x24) none) w λx25=>
 cL 120 [a0,x20] w λx28 w=>
 rN 25 3 x28 w λx29=>
 LOOPI [6,30] [x25,(iV 0)] w λu5 w n5=>
 rC (u5 30) x29 w λx31=>
 BR x31
 (rX 25 x28 (u5 30) w λx32=>
 rL 3 x32 w λx33=>
 rX 85 a1 x33 w λx36=>
 rL 4 x36 w λx37=>
 rT x37 w λx38=>
 BR x38
 (rX 85 a1 x33 w λx41=>
 oS 4 x41 vT w λw=>
 oP (bS 25 x33) w λx44 w=>
 oP (aP 25 (u5 6) x44) w λx45 w=>
 rI (u5 30) w λx46=>
 n5 [x45,x46] w)
 (rI (u5 30) w λx46=>
 n5 [(u5 6),x46] w))
 (n1 [(u5 6)] w))
 (R (Value.tuple #[]) w)
theorem F73_call {a0 a1 a2 w R} (h:F73 a0 a1 a2 w R):cL 73 [a0,a1,a2] w R:=co (g:=(kf [] [(1,140737488351936,[6]),(5,140736414614080,[6,30])] [])) Tryz.func73 h
section
variable {P:Program} {w w':World}
theorem zi0 {α:Type} [Rep α] [Flat α] {F:List Nat} {v:Value} {l:List α} (hm:Mine F w v l) (hl:l≠[]):∃ b o cap,v=.slice (some ⟨b,o,none⟩) l.length cap∧F=[b]:=by
 obtain ⟨⟨cs,⟨a,cap,Fi,xs,rfl,h1,h2,hc,h4⟩,rfl⟩,hn,hw⟩:=hm;rcases h4 with ⟨h4,_⟩ | ⟨b,o,rfl,rfl,hr,hb⟩
 · exact absurd h4 hl
 have hFi:=Cells.flat (xs:=xs) hc;subst hFi;exact ⟨b,o,cap,rfl,rfl⟩
theorem zcs {α:Type} [Rep α] [Flat α] (h1:Rep.size α=1) {t by_ m n i:Nat} {l:List α} {y:α} {u:Value} {K:World→Prop} (ht:tyI P t=some (1,by_,Rep.agg α)) (hm:Mine [m] w (.slice (some ⟨m,0,none⟩) n n) l) (hl:l.length=n) (hi:i<n) (hu:Mine [] w u y)
   (k:∀ w',Chg [m] w w'→Mine [m] w' (.slice (some ⟨m,0,none⟩) n n) (l.set i y)→K w'):OPU P (Instr.storeAt t (.pointer (some ⟨m,i*1,none⟩)) u) w K:=by
 obtain ⟨b,a,cap,G,hv,hL⟩:=ztX hm (k:=i) (by omega);simp only [Value.slice.injEq,Option.some.injEq,Addr.mk.injEq,and_true] at hv;obtain ⟨⟨rfl,rfl⟩,_⟩:=hv;rw [h1,Nat.zero_add] at hL;refine ze9 (y':=y) (by rw [h1];exact ht) hL hu λw8 F' hc8 hm8 hF8=>?_
 have hF9:F'=[m]:=by
   obtain ⟨b,o,cap,hv,hF2⟩:=zi0 hm8 (by intro e;have h:=congrArg List.length e;rw [List.length_set,hl] at h;simp only [List.length_nil] at h;omega);subst hF2;have:=hF8 b (by simp);simpa using this
 subst hF9;exact k w8 hc8 hm8
theorem zdx {α:Type} [Rep α] {t e by_ m n i:Nat} {K:Value→Prop} (h1:Rep.size α=1) (ht:P.underlying t=some (.slice e)) (he:tyI P e=some (1,by_,Rep.agg α)) (hi:i<n) (kk:K (.pointer (some ⟨m,i*1,none⟩))) :
   RD P (Instr.indexAt t (.slice (some ⟨m,0,none⟩) n n) (.int .i64 (i:Int))) w K:=zjf ht he hi kk
end
structure WI (w1 w:World) (m n lo hi:Nat) (tv:Value) (L:List Nat) (ms:List Bool):Prop where
 chg:ChgI m (m+1) w1 w
 row:RowI lo hi 3 w tv (za9 L)
 mks:Mine [m] w (.slice (some ⟨m,0,none⟩) n n) ms
 l0:w1.heap.size≤lo
 m1:m<lo
 h2:lo≤hi
 h3:hi≤w.heap.size
section
variable {w1 w w':World} {m n lo hi:Nat} {tv:Value} {L:List Nat} {ms:List Bool}
theorem WI.step (h:WI w1 w m n lo hi tv L ms) (hx:Ext w w'):WI w1 w' m n lo hi tv L ms:=
 ⟨h.chg.trans hx.toI,h.row.ext hx,h.mks.ext hx,h.l0,h.m1,h.h2,Nat.le_trans h.h3 hx.size⟩
theorem WI.push {tv':Value} {x:Nat} {lo' hi':Nat} (h:WI w1 w m n lo hi tv L ms) (hc:ChgI lo hi w w') (hr:RowI lo' hi' 3 w' tv' (za9 L++[(x:Int)])) (hd:lo'=lo∧hi'=hi∨lo'=w.heap.size∧hi'=w'.heap.size) :
   WI w1 w' m n lo' hi' tv' (L++[x]) ms:=by
 have hs:=hc.size;have h1:=h.l0;have h2:=h.h2;have h3:=h.h3;have h4:=h.chg.size;have h5:=h.m1;have hml:=h.mks.lt m (by simp);refine ⟨⟨hc.os.trans h.chg.os,hc.tape.trans h.chg.tape,hc.output.trans h.chg.output,Nat.le_trans h4 hs,λb hb ho=>(hc.block b (Nat.lt_of_lt_of_le hb h4) (by omega)).trans (h.chg.block b hb ho)⟩,by rw [zcR];exact hr,h.mks.keep λb hb=>?_,by omega,by omega,by omega,by omega⟩;simp only [List.mem_cons,List.not_mem_nil,or_false] at hb;subst hb;exact hc.block b hml (by omega)
theorem WI.mark {ms':List Bool} (h:WI w1 w m n lo hi tv L ms) (hc:Chg [m] w w') (hm:Mine [m] w' (.slice (some ⟨m,0,none⟩) n n) ms'):WI w1 w' m n lo hi tv L ms':=by
 have hc':ChgI m (m+1) w w':=hc.toI λb hb=>by simp only [List.mem_cons,List.not_mem_nil,or_false] at hb;omega
 have h5:=h.m1;exact ⟨h.chg.trans hc',h.row.chg hc' (by omega),hm,h.l0,h5,h.h2,Nat.le_trans h.h3 hc'.size⟩
end
theorem zwJ:zcu tp 4=some [.bool false]:=by kernel_rfl
theorem zex {w:World} {x:Int} (lo hi:Nat) (h:I64 x):OwnI lo hi w (.int .i64 x) x:=⟨[],zbh h,by simp⟩
theorem zbP {w:World} {b:Bool}:Mine [] w (.bool b) b:=⟨⟨[.bool b],⟨rfl,rfl⟩,rfl⟩,List.nodup_nil,Wr.nil w⟩
theorem znh {w W0:World} {v0:Value} {c:DCode} {a:Nat} (h0:Is W0 v0 c) (e0:Ext W0 w) (hc:CodeR c) (ha:a<c.ins.length) :
   CALL tp 239 [v0,.int .i64 (a:Int)] w λr w'=>Ext w w'∧∃ m,r=.slice (some ⟨m,0,none⟩) c.ins.length c.ins.length∧w.heap.size≤m∧Mine [m] w' (.slice (some ⟨m,0,none⟩) c.ins.length c.ins.length) (zdf c.ins.length (RP (zaO c) a)):=by
 refine F239_call ?_;unfold F239;have hil:=hc.f.ins;have hnl:=λ{i j:Nat}=>zeb hc (i:=i) (j:=j);refine zcb h0 e0 λw1 hx1 hA=>?_;refine zaa zaR ?_;refine zab zdn (zal hA) (Ext.refl _) λv11 h11=>?_;refine zae u26 h11 ?_;generalize hn:c.ins.length=n at *;refine zfw (α:=Bool) u85 ty4 rfl rfl zwJ (by omega) (by omega) λw2 hx2 hr2=>?_;have hs1:=hx1.size;have hs2:=hx2.size
 have hM2:Mine [w1.heap.size] w2 (.slice (some ⟨w1.heap.size,0,none⟩) n n) (List.replicate n (RepZ.zv:Bool)):=by
   obtain ⟨F,hM,hF⟩:=hr2.own;obtain ⟨b,o,cap,hv,hF2⟩:=zi0 hM (by intro e;have:=congrArg List.length e;simp at this;omega);simp only [Value.slice.injEq,Option.some.injEq,Addr.mk.injEq,List.cons.injEq,and_true] at hv;obtain ⟨⟨hb,ho⟩,_⟩:=hv;rw [←hb] at hF2
   rwa [hF2] at hM
 have hzz:(List.replicate n (RepZ.zv:Bool))=List.replicate n false:=rfl;rw [hzz] at hM2;refine zbE (x:=(a:Int)) u25 ty3 z3 (by decide) (zbh (by unfold I64;omega)) λv15 w3 hx3 hr3=>?_;have hs3:=hx3.size;generalize hm:w1.heap.size=m at *;have hW3:WI w1 w3 m n w2.heap.size w3.heap.size v15 [a] (List.replicate n false):=⟨(hx2.t hx3).toI,hr3,hM2.ext hx3,by omega,by have:=hM2.lt m (by simp);omega,hs3,Nat.le_refl _⟩;refine zat (1+n) (λh us w'=>∃ (tv:Value) (lo hi:Nat) (L:List Nat) (ms:List Bool),us=[tv,.int .i64 (h:Int)]∧h≤L.length∧WI w1 w' m n lo hi tv L ms∧SInv (zaO c) n a (List.replicate n false) ms (L.drop h) h) 0 (z0 _) ⟨v15,_,_,[a],_,rfl,by simp,hW3,SInv.start (by simp) ha⟩ ?_;rintro h mk u w4 hkm ⟨tv,lo,hi,L,ms,hu,hhL,hW4,hS4⟩;obtain ⟨hu1,hu2⟩:=zd4 hu;rw [hu1,hu2];have hb4:=hS4.bound;rw [List.length_drop] at hb4;refine zae u25 hW4.row.is ?_;rw [zaj];refine zaf ?_;refine br (λhlt=>?_) (λhge=>?_)
 case refine_2=>
   have hhe:h=L.length:=by omega
   rw [hhe,List.drop_length] at hS4;have hfin:=hS4.fin λi hi=>absurd hi zb5
   have hms:ms=zdf n (RP (zaO c) a):=zci hS4.len λi hi=>by
     rw [hfin i];exact ⟨λh=>h.resolve_left zb5,.inr⟩
   rw [←hms];have hx4:Ext w1 w4:=(Ext.refl w1).chgI hW4.chg (by omega);exact ⟨hx1.t hx4,m,rfl,by omega,hW4.mks⟩
 have hh:h<L.length:=by omega
 have hx5:=zai w4;have hW5:=hW4.step hx5;generalize World.drew1 w4=w5 at *;have hxa:∀ {w:World} {lo hi tv L ms},WI w1 w m n lo hi tv L ms→Ext w1 w:=λh=>(Ext.refl w1).chgI h.chg (by omega);refine zab zcv hA (hxa hW5) λv22 h22=>?_;refine zad u25 ty3 (i:=h) hW5.row.is (by rw [zaj];exact hh) λb1 o1 hA1=>?_;rw [zbz] at hA1;refine zac ty3 hA1 (Ext.refl _) λ_=>?_;generalize hx:L[h]=x at *;have hdr:L.drop h=x :: L.drop (h+1):=by rw [List.drop_eq_getElem_cons hh,hx]
 have hxn:x<n:=(hS4.tdo x (by rw [hdr];simp)).2;refine (zk1 h22 (hxa hW5) hc (by rw [hn];exact hxn)).mono ?_;rintro v27 w6 ⟨hx6,ho6⟩;have hW6:=hW5.step hx6;have hI6:=hW5.h3;have hm6:=hW5.mks.lt m (by simp);have hS6:SIn2 (zaO c) n a (List.replicate n false) ms (L.drop (h+1)) h x 0:=hS4.pop (λi=>by rw [hdr];simp [or_comm]) (by rw [hdr];simp);have hl2:=zfS c x;refine zat (zaO c x).length (λq us w'=>∃ (tv:Value) (lo hi:Nat) (L:List Nat) (ms:List Bool),us=[tv,.int .i64 (q:Int)]∧q≤(zaO c x).length∧h<L.length∧WI w1 w' m n lo hi tv L ms∧SIn2 (zaO c) n a (List.replicate n false) ms (L.drop (h+1)) h x q∧OwnI w5.heap.size w6.heap.size w' v27 (za9 (zaO c x))∧(hi≤w5.heap.size∨w6.heap.size≤lo)∧w6.heap.size≤w'.heap.size) 0 (z0 _) ⟨tv,lo,hi,L,ms,rfl,z0 _,hh,hW6,hS6,ho6.toI,.inl hI6,Nat.le_refl _⟩ ?_;rintro q mk8 u8 w7 hkm8 ⟨tv7,lo7,hi7,L7,ms7,hu8,hql,hh7,hW7,hS7,ho7,hd7,hz7⟩;obtain ⟨hu81,hu82⟩:=zd4 hu8;rw [hu81,hu82];refine zae u25 ho7.is ?_;rw [zaj];refine zaf ?_;refine br (λhlt8=>?_) (λhge8=>?_)
 case refine_2=>refine zaB ?_;exact ⟨mk-1,by omega,h+1,by omega,tv7,lo7,hi7,L7,ms7,rfl,by omega,hW7,hS7.done (by omega)⟩
 have hq:q<(zaO c x).length:=by omega
 have hrd:∀ {w:World} {K:Value→Prop} (ho:OwnI w5.heap.size w6.heap.size w v27 (za9 (zaO c x))) (k:K (.int .i64 (((zaO c x)[q]:Nat):Int))),RD tp (Instr.indexAt 25 v27 (.int .i64 (q:Int))) w λx37=>RD tp (Instr.loadAt 3 x37) w K:=λho k=>by
   refine zad u25 ty3 (i:=q) ho.is (by rw [zaj];exact hq) λb1 o1 hA1=>?_;rw [zbz] at hA1;exact zac ty3 hA1 (Ext.refl _) λ_=>k
 have hy:=hnl hxn (List.getElem_mem hq);refine hrd ho7 ?_;have hlen7:=hS7.len;refine zad u85 ty4 hW7.mks.is (by rw [hlen7];exact hy.1) λb2 o2 hA2=>?_;refine zby ty4 hA2 (Ext.refl _) ?_;refine za1 ?_;have hmk7:=zbK (ms:=ms7) (i:=(zaO c x)[q]) (by rw [hlen7];exact hy.1);refine zcd (λhf=>?_) (λhf=>?_)
 · have hnm:¬mkd ms7 (zaO c x)[q]:=by rw [hmk7];simpa using hf
   refine hrd ho7 ?_;refine zdx (α:=Bool) rfl u85 ty4 hy.1 ?_;refine zcs (α:=Bool) rfl ty4 hW7.mks hlen7 hy.1 zbP λw8 hc8 hm8=>?_;have hW8:=hW7.mark hc8 hm8;have hc8':ChgI m (m+1) w7 w8:=hc8.toI λb hb=>by simp only [List.mem_cons,List.not_mem_nil,or_false] at hb;omega
   have ho8:=ho7.chg hc8' (by omega);refine hrd ho8 ?_;have hS8:=hS7.push hq hy.1 hnm;generalize (zaO c x)[q]=y at *
   have hLb:L7.length≤2+n:=by
     have h1:=hS7.cnt;have h2:=zfR ms7;rw [List.length_drop] at h1;omega
   refine zfd (x:=(y:Int)) u25 ty3 z3 zc3 (by decide) hW8.row (zex 0 0 (by unfold I64;omega)) (by rw [zak,zaj];omega) (by rw [zaj];omega) λv54 w9 lo9 hi9 hc9 hr9 hd9=>?_;have hW9:=hW8.push hc9 hr9 hd9;have hsz8:=hc8'.size;have hsz7:=ho7.is;refine zaB ?_;refine ⟨mk8-1,by omega,q+1,by omega,v54,lo9,hi9,L7++[y],_,rfl,by omega,by simp;omega,hW9,?_,ho8.chg hc9 (by omega),by omega,by have:=hc9.size;omega⟩;rw [List.drop_append_of_le_length (by omega)];exact hS8
 have hnm:mkd ms7 (zaO c x)[q]:=by rw [hmk7];simpa using hf
 refine zaB ?_;exact ⟨mk8-1,by omega,q+1,by omega,tv7,lo7,hi7,L7,ms7,rfl,by omega,hh7,hW7,hS7.skip hq hnm,ho7,hd7,hz7⟩
section
variable {P:Program} {w:World} {α:Type} [Rep α] [Flat α] {lo hi e:Nat} {v:Value} {l:List α}
theorem zv8 {t e b o n cap k by_:Nat} {K:Value→Prop} (ht:P.underlying t=some (.slice e)) (he:tyI P e=some (Rep.size α,by_,Rep.agg α)) (hk:k≤n) (hn:n≤cap) (kk:K (.slice (some ⟨b,o,none⟩) k cap)) :
   RD P (Instr.sliceAt t (.slice (some ⟨b,o,none⟩) n cap) none (some (.int .i64 (k:Int))) none) w K:=by
 refine za3 (λw' _=>?_) kk
 have hbd:(Instr.sliceBounds true n cap none (some (.int .i64 (k:Int))) none).run P w'=.ok (0,k,cap) w':=by
   have h5:(k:Int)≤(cap:Int):=by omega
   simp [Instr.sliceBounds,Instr.sliceBound,asIntOf,h5];intro h6;omega
 simp only [Instr.sliceAt,Instr.slice,Sem.run_bind,run_underlying ht,Result.andThen_ok,hbd,zaM he];simp [Addr.add_mid]
theorem zuq (h:RowI lo hi e w v l) (hl:l≠[]) {k:Nat} (hk:k≤l.length):∃ g cap,v=.slice (some ⟨g,0,none⟩) l.length cap∧l.length≤cap∧RowI lo hi e w (.slice (some ⟨g,0,none⟩) k cap) (l.take k):=by
 rcases h with ⟨a,_,h⟩ | ⟨F,⟨xs,Fi,⟨hlen,ho⟩,hc,hF,hw⟩,hn,hb⟩
 · exact absurd h hl
 rcases ho with ⟨_,h0⟩ | ⟨g,cap,cur,rfl,_,hg,h1,h2,h3,h4⟩
 · exact absurd (List.eq_nil_of_length_eq_zero h0) hl
 refine ⟨g,cap,rfl,h1,.inr ⟨F,⟨xs.take (k*Rep.size α),[],⟨?_,.inr ⟨g,cap,cur,?_,z0 _,hg,by rw [List.length_take];omega,h2,h3,?_⟩⟩,?_,?_,Wr.nil w⟩,hn,hb⟩⟩
 · rw [List.length_take,List.length_take,hlen,Nat.min_eq_left hk]
   exact Nat.min_eq_left (Nat.mul_le_mul_right _ hk)
 · rw [List.length_take,Nat.min_eq_left hk]
 · rw [List.length_take,Nat.min_eq_left hk,←h4,List.take_take,Nat.min_eq_left (Nat.mul_le_mul_right _ hk)]
 · have e1:l=l.take k++l.drop k:=by simp
   have hFi:=Cells.flat (xs:=xs) hc;subst hFi;rw [e1] at hc;obtain ⟨F1,F2,x1,x2,hF12,hx12,c1,c2⟩:=Cells.split hc;have hF1:=Cells.flat (xs:=x1) c1;subst hF1;have hl1:=Cells.len c1;rw [List.length_take,Nat.min_eq_left hk] at hl1;rw [hx12,List.take_left' hl1];exact c1
 have hFi:=Cells.flat (xs:=xs) hc;subst hFi;rw [hF];rfl
end
def KAt (W0 w:World) (b:Nat) (c:DCode):Prop:=∃ F cs,Rep.rep F W0 cs c∧w.rangeAt b 0 cs∧b<w.heap.size
theorem KAt.at {W0 w:World} {b:Nat} {c:DCode} (h:KAt W0 w b c) (hx:Ext W0 w):At w b 0 c:=by
 obtain ⟨F,cs,hr,hc,_⟩:=h;exact ⟨F,cs,zb8 hr hx,hc⟩
theorem KAt.keep {W0 w w':World} {b:Nat} {c:DCode} (h:KAt W0 w b c) (hb:w'.heap[b]?=w.heap[b]?) (hs:w.heap.size≤w'.heap.size):KAt W0 w' b c:=by
 obtain ⟨F,cs,hr,hc,hl⟩:=h;exact ⟨F,cs,hr,za2 hc hb,by omega⟩
theorem KAt.lt {W0 w:World} {b:Nat} {c:DCode} (h:KAt W0 w b c):b<w.heap.size:=by obtain ⟨_,_,_,_,h⟩:=h;exact h
theorem zsQ {w W0:World} {b m n a:Nat} {c:DCode} {ms0:List Bool} (hk:KAt W0 w b c) (e0:Ext W0 w) (hc:CodeR c) (hn:c.ins.length=n) (ha:a<n) (hM:Mine [m] w (.slice (some ⟨m,0,none⟩) n n) ms0) (hl:ms0.length=n) (h0:W0.heap.size≤m) (hb:b≠m)
   (hclo:∀ i,mkd ms0 i→i≠a→∀ j∈zaO c i,mkd ms0 j) :
   CALL tp 73 [.pointer (some ⟨b,0,none⟩),.slice (some ⟨m,0,none⟩) n n,.int .i64 (a:Int)] w λr w'=>r=.tuple #[]∧ChgI m (m+1) w w'∧Mine [m] w' (.slice (some ⟨m,0,none⟩) n n) (zdf n λi=>mkd ms0 i∨RP (zaO c) a i):=by
 refine F73_call ?_;unfold F73;have hil:=hc.f.ins;have hnl:=λ{i j:Nat}=>zeb hc (i:=i) (j:=j);rw [hn] at hnl hil;refine zbE (x:=(a:Int)) u25 ty3 z3 (by decide) (zbh (by unfold I64;omega)) λv11 w1 hx1 hr1=>?_;have hW1:WI w w1 m n w.heap.size w1.heap.size v11 [a] ms0:=⟨hx1.toI,hr1,hM.ext hx1,lr _,hM.lt m (by simp),hx1.size,Nat.le_refl _⟩;have hKA:∀ {w':World} {lo hi tv L ms},WI w w' m n lo hi tv L ms→At w' b 0 c:=λh=>(hk.keep (h.chg.block b hk.lt (by omega)) h.chg.size).at (e0.chgI h.chg h0);refine zat (1+n) (λh us w'=>∃ (tv:Value) (lo hi:Nat) (L:List Nat) (ms:List Bool),us=[tv]∧WI w w' m n lo hi tv L ms∧SInv (zaO c) n a ms0 ms L h) 0 (z0 _) ⟨v11,_,_,[a],_,rfl,hW1,SInv.start hl ha⟩ ?_;rintro h mk u w4 hkm ⟨tv,lo,hi,L,ms,hu,hW4,hS4⟩;try replace hu:=zbG hu
 rw [hu];have hb4:=hS4.bound;refine zae u25 hW4.row.is ?_;rw [zaj];refine zb1 ?_;refine br (λhlt=>?_) (λhge=>?_)
 case refine_2=>have hL0:L=[]:=List.eq_nil_of_length_eq_zero (by omega);rw [hL0] at hS4;have hfin:=hS4.fin hclo;have hms:ms=zdf n (λi=>mkd ms0 i∨RP (zaO c) a i):=zci hS4.len λi hi=>hfin i;rw [←hms];exact ⟨rfl,hW4.chg,hW4.mks⟩
 obtain ⟨z,hz⟩:∃ z,L.length=z+1:=⟨L.length-1,by omega⟩;have hzl:z<L.length:=by omega
 have hne:za9 L≠[]:=λe=>by have:=congrArg List.length e;rw [zaj,hz] at this;cases this
 refine zae u25 hW4.row.is ?_;rw [zaj];refine za0 (by unfold I64;omega) ?_;have ez:(L.length:Int)-1=(z:Int):=by omega
 rw [ez];refine zad u25 ty3 (i:=z) hW4.row.is (by rw [zaj];exact hzl) λb1 o1 hA1=>?_;rw [zbz] at hA1;refine zac ty3 hA1 (Ext.refl _) λ_=>?_;generalize hx:L[z]=x at *;refine zae u25 hW4.row.is ?_;rw [zaj];refine za0 (by unfold I64;omega) ?_;rw [ez];obtain ⟨g,cap,hv4,hcap,hr4⟩:=zuq hW4.row hne (k:=z) (by rw [zaj];omega);rw [zaj] at hv4 hcap;rw [hv4];refine zv8 (α:=Int) u25 ty3 (by omega) hcap ?_
 have hLz:L=L.take z++[x]:=by
   have:=tk hzl;rw [←hz,List.take_length,hx] at this;exact this
 rw [←zsO] at hr4;have hW5:WI w w4 m n lo hi (.slice (some ⟨g,0,none⟩) z cap) (L.take z) ms:=⟨hW4.chg,hr4,hW4.mks,hW4.l0,hW4.m1,hW4.h2,hW4.h3⟩;have hxn:x<n:=(hS4.tdo x (by rw [hLz];simp)).2;refine (zjS (hKA hW5) (Ext.refl _) hc (by rw [hn];exact hxn)).mono ?_;rintro v27 w6 ⟨hx6,ho6⟩;have hW6:=hW5.step hx6;have hI6:=hW5.h3;have hm6:=hW5.mks.lt m (by simp)
 have hLm:∀ i,i∈L↔i∈L.take z∨i=x:=λi=>by
   have:i∈L↔i∈L.take z++[x]:=by rw [←hLz]
   rw [this];simp
 have hS6:SIn2 (zaO c) n a ms0 ms (L.take z) h x 0:=hS4.pop hLm (by rw [List.length_take];omega);have hl2:=zfS c x;refine zae u25 ho6.is ?_;rw [zaj];refine zat (zaO c x).length (λq us w'=>∃ (tv:Value) (lo hi:Nat) (L:List Nat) (ms:List Bool),us=[tv,.int .i64 (q:Int)]∧q≤(zaO c x).length∧WI w w' m n lo hi tv L ms∧SIn2 (zaO c) n a ms0 ms L h x q∧OwnI w4.heap.size w6.heap.size w' v27 (za9 (zaO c x))∧(hi≤w4.heap.size∨w6.heap.size≤lo)∧w6.heap.size≤w'.heap.size) 0 (z0 _) ⟨_,lo,hi,_,ms,rfl,z0 _,hW6,hS6,ho6.toI,.inl hI6,Nat.le_refl _⟩ ?_;rintro q mk8 u8 w7 hkm8 ⟨tv7,lo7,hi7,L7,ms7,hu8,hql,hW7,hS7,ho7,hd7,hz7⟩;obtain ⟨hu81,hu82⟩:=zd4 hu8;rw [hu81,hu82];refine zaf ?_;refine br (λhlt8=>?_) (λhge8=>?_)
 case refine_2=>exact ⟨mk-1,by omega,h+1,by omega,tv7,lo7,hi7,L7,ms7,rfl,hW7,hS7.done (by omega)⟩
 have hq:q<(zaO c x).length:=by omega
 have hy:=hnl hxn (List.getElem_mem hq);refine zad u25 ty3 (i:=q) ho7.is (by rw [zaj];exact hq) λb3 o3 hA3=>?_;rw [zbz] at hA3;refine zac ty3 hA3 (Ext.refl _) λ_=>?_;have hlen7:=hS7.len;refine zad u85 ty4 hW7.mks.is (by rw [hlen7];exact hy.1) λb2 o2 hA2=>?_;refine zby ty4 hA2 (Ext.refl _) ?_;refine za1 ?_;have hmk7:=zbK (ms:=ms7) (i:=(zaO c x)[q]) (by rw [hlen7];exact hy.1);refine zcd (λhf=>?_) (λhf=>?_)
 · have hnm:¬mkd ms7 (zaO c x)[q]:=by rw [hmk7];simpa using hf
   refine zdx (α:=Bool) rfl u85 ty4 hy.1 ?_;refine zcs (α:=Bool) rfl ty4 hW7.mks hlen7 hy.1 zbP λw8 hc8 hm8=>?_;have hW8:=hW7.mark hc8 hm8;have hc8':ChgI m (m+1) w7 w8:=hc8.toI λb hb=>by simp only [List.mem_cons,List.not_mem_nil,or_false] at hb;omega
   have ho8:=ho7.chg hc8' (by omega);have hS8:=hS7.push hq hy.1 hnm;generalize (zaO c x)[q]=y at *
   have hLb:L7.length≤2+n:=by
     have h1:=hS7.cnt;have h2:=zfR ms7;omega
   refine zfd (x:=(y:Int)) u25 ty3 z3 zc3 (by decide) hW8.row (zex 0 0 (by unfold I64;omega)) (by rw [zak,zaj];omega) (by rw [zaj];omega) λv54 w9 lo9 hi9 hc9 hr9 hd9=>?_;have hW9:=hW8.push hc9 hr9 hd9;have hsz8:=hc8'.size;refine zaB ?_;exact ⟨mk8-1,by omega,q+1,by omega,v54,lo9,hi9,L7++[y],_,rfl,by omega,hW9,hS8,ho8.chg hc9 (by omega),by omega,by have:=hc9.size;omega⟩
 have hnm:mkd ms7 (zaO c x)[q]:=by rw [hmk7];simpa using hf
 refine zaB ?_;exact ⟨mk8-1,by omega,q+1,by omega,tv7,lo7,hi7,L7,ms7,rfl,by omega,hW7,hS7.skip hq hnm,ho7,hd7,hz7⟩
def F232 (a0:Value) (w:World) (R:VW):Prop:=
 oP (Instr.buildSlice 25 0 #[]) w λx5 w=>
 LOOPI [3,4] [x5,(iV 0)] w λu3 w n3=>
 rN 85 3 a0 w λx8=>
 rC (u3 4) x8 w λx9=>
 BR x9
 (rX 85 a0 (u3 4) w λx14=>
 rL 4 x14 w λx15=>
 BR x15
 (oP (bS 25 (u3 4)) w λx18 w=>
 oP (aP 25 (u3 3) x18) w λx19 w=>
 rI (u3 4) w λx11=>
 n3 [x19,x11] w)
 (rI (u3 4) w λx11=>
 n3 [(u3 3),x11] w))
 (R (u3 3) w)
theorem F232_call {a0 w R} (h:F232 a0 w R):cL 232 [a0] w R:=co (g:=(kf [] [(3,1048536,[3,4])] [])) Tryz.func232 h
def F277 (a0 a1:Value) (w:World) (R:VW):Prop:=
 oX 28 a0 w λx2 w=>
 (λw=>rL 28 x2 w λx6=>
 rF 28 x2 3 w λx7=>
 rL 25 x7 w λx8=>
 rX 25 x8 a1 w λx10=>
 rL 3 x10 w λx11=>
 cL 239 [x6,x11] w λx12 w=>
 rF 28 x2 3 w λx14=>
 rL 25 x14 w λx15=>
 rX 25 x15 a1 w λx17=>
 rL 3 x17 w λx18=>
 rX 85 x12 x18 w λx19=>
 oS 4 x19 vT w λw=>
 R x12 w) (World.drew1 w)
theorem F277_call {a0 a1 w R} (h:F277 a0 a1 w R):cL 277 [a0,a1] w R:=co (g:=(kf [] [] [(1,[0,1,2,3,4,5,6,7],0)])) Tryz.func277 h
def F237 (a0 a1 a2:Value) (w:World) (R:VW):Prop:=
 oX 28 a0 w λx3 w=>
 rL 28 x3 w λx10=>
 cL 277 [x10,a1] w λx12 w=>
 rF 28 x3 2 w λx13=>
 rL 24 x13 w λx14=>
 rN 24 3 x14 w λx15=>
 oP (Instr.makeSlice 85 x15 x15) w λx16 w=>
 LOOPI [9] [(iV 0)] w λu4 w n4=>
 rF 28 x3 4 w λx18=>
 rL 26 x18 w λx19=>
 rN 26 3 x19 w λx20=>
 rC (u4 9) x20 w λx21=>
 BR x21
 (rX 85 x12 (u4 9) w λx26=>
 rL 4 x26 w λx27=>
 BR x27
 (rF 28 x3 4 w λx29=>
 rL 26 x29 w λx30=>
 rX 26 x30 (u4 9) w λx32=>
 rF 118 x32 0 w λx33=>
 rL 3 x33 w λx34=>
 rB .eql 3 T0 T0 x34 a2 w λx36=>
 BR x36
 (rF 28 x3 4 w λx39=>
 rL 26 x39 w λx40=>
 rX 26 x40 (u4 9) w λx42=>
 rF 118 x42 1 w λx43=>
 rL 3 x43 w λx44=>
 rX 85 x16 x44 w λx45=>
 oS 4 x45 vT w λw=>
 rI (u4 9) w λx23=>
 n4 [x23] w)
 (rI (u4 9) w λx23=>
 n4 [x23] w))
 (rI (u4 9) w λx23=>
 n4 [x23] w))
 (cL 232 [x16] w λx47 w=>
 R x47 w)
theorem F237_call {a0 a1 a2 w R} (h:F237 a0 a1 a2 w R):cL 237 [a0,a1,a2] w R:=co (g:=(kf [] [(4,70368744047104,[9])] [])) Tryz.func237 h
def zv9 (ms:List Bool) (n:Nat):List Nat:=(List.range n).filter λi=>ms.getD i false
theorem zni (ms:List Bool) (n:Nat):zv9 ms (n+1)=zv9 ms n++(if ms.getD n false then [n] else []):=by
 simp only [zv9,List.range_succ,List.filter_append,List.filter_cons,List.filter_nil]
theorem zur (ms:List Bool) (n:Nat):(zv9 ms n).length≤n:=Nat.le_trans (List.length_filter_le _ _) (by simp)
theorem zjT (n:Nat) (p:Nat→Prop):zv9 (zdf n p) n=zcr n p:=by
 refine List.filter_congr λi hi=>?_;have hi':=List.mem_range.1 hi;have:=zb6 (n:=n) (p:=p) (i:=i);unfold mkd at this;by_cases h:p i
 · rw [this.2 ⟨hi',h⟩];simp [h]
 have h2:(zdf n p).getD i false≠true:=λe=>h (this.1 e).2;simp only [h,decide_false];cases hh:(zdf n p).getD i false
 · rfl
 exact absurd hh h2
theorem zfT {w W0:World} {v0:Value} {ms:List Bool} (h0:Is W0 v0 ms) (e0:Ext W0 w) (hn:ms.length≤1000000) :
   CALL tp 232 [v0] w λr w'=>Ext w w'∧Own w.heap.size w' r (za9 (zv9 ms ms.length)):=by
 refine F232_call ?_;unfold F232;refine zaQ (α:=Int) u25 ty3 λa w1 hx1 hr1=>?_;have hs1:=hx1.size;refine zat ms.length (λk us w'=>∃ (v:Value),us=[v,.int .i64 (k:Int)]∧k≤ms.length∧Ext w w'∧RowI w.heap.size w'.heap.size 3 w' v (za9 (zv9 ms k))) 0 (z0 _) ⟨_,rfl,z0 _,hx1,hr1.mono hs1 (lr _)⟩ ?_;rintro k mk u w2 hkm ⟨v,hu,hkl,hx2,hr2⟩;obtain ⟨hu1,hu2⟩:=zd4 hu;rw [hu1,hu2];refine zae u85 h0 ?_;refine zaf ?_;refine br (λhlt=>?_) (λhge=>?_)
 case refine_2=>
   have:k=ms.length:=by omega
   rw [this] at hr2;exact ⟨hx2,hr2.own.own⟩
 have hk:k<ms.length:=by omega
 have hs2:=hx2.size;have hg:ms.getD k false=ms[k]:=by rw [List.getD_eq_getElem?_getD,List.getElem?_eq_getElem hk];rfl
 have hil:=zur ms k;refine zad u85 ty4 h0 hk λb2 o2 hA2=>?_;refine zby ty4 hA2 (e0.t hx2) ?_;refine zcd (λhf=>?_) (λhf=>?_)
 · refine zcn (lo2:=w2.heap.size) (hi2:=w2.heap.size) (x:=(k:Int)) u25 ty3 z3 zc3 (by decide) hr2 hs2 (zex _ _ (by unfold I64;omega)) (lr _) hs2 (by rw [zak,zaj];omega) (by rw [zaj];omega) λv54 w9 hc9 hr9=>?_
   refine zaB ?_;refine ⟨mk-1,by omega,k+1,by omega,v54,rfl,by omega,hx2.chgI hc9 (lr _),?_⟩;rw [zni,hg,hf,if_pos rfl,zcR];exact hr9
 refine zaB ?_;refine ⟨mk-1,by omega,k+1,by omega,v,rfl,by omega,hx2,?_⟩;rw [zni,hg,hf];simpa using hr2
def zct (c:DCode) (p:Nat) (i:Nat):Prop:=i=(en c p).toNat∨RP (zaO c) (en c p).toNat i
theorem zq2 {w W0:World} {v0:Value} {c:DCode} {p:Nat} (h0:Is W0 v0 c) (e0:Ext W0 w) (hc:CodeR c) (hp:p<c.entry.length) :
   CALL tp 277 [v0,.int .i64 (p:Int)] w λr w'=>Ext w w'∧Own w.heap.size w' r (zdf c.ins.length (zct c p)):=by
 refine F277_call ?_;unfold F277;have hen:=zlX hc hp;refine zcb h0 e0 λw1 hx1 hA=>?_;have hx2:=zai w1;generalize World.drew1 w1=w2 at *;have hs1:=hx1.size;have hs2:=hx2.size;obtain ⟨a,hae⟩:∃ a:Nat,en c p=(a:Int):=⟨(en c p).toNat,by omega⟩
 have hla:zct c p=λi=>i=a∨RP (zaO c) a i:=by
   funext i;unfold zct;rw [hae];rfl
 have ha:a<c.ins.length:=by omega
 rw [hla];refine zab zcv hA hx2 λv6 h6=>?_;refine zaa za7 ?_;refine zab zaK (zap hA) hx2 λv8 h8=>?_;refine zad u25 ty3 h8 hp λb1 o1 hA1=>?_;rw [zbr hp,hae] at hA1;refine zac ty3 hA1 hx2 λ_=>?_;refine (znh h6 hx2 hc ha).mono ?_;rintro _ w3 ⟨hx3,m,rfl,hm,hM⟩;have hs3:=hx3.size;refine zaa za7 ?_;refine zab zaK (zap hA) (hx2.t hx3) λv15 h15=>?_;refine zad u25 ty3 h15 hp λb2 o2 hA2=>?_;rw [zbr hp,hae] at hA2;refine zac ty3 hA2 (hx2.t hx3) λ_=>?_;refine zdx (α:=Bool) rfl u85 ty4 ha ?_;refine zcs (α:=Bool) rfl ty4 hM zaD ha zbP λw4 hc4 hm4=>?_
 have hset:(zdf c.ins.length (RP (zaO c) a)).set a true=zdf c.ins.length (λi=>i=a∨RP (zaO c) a i):=zci (by rw [List.length_set,zaD]) λi hi=>by
   rw [zcE (by rw [zaD];exact ha),zb6];constructor
   · rintro (⟨_,h⟩ | h)
     · exact .inr h
     exact .inl h
   rintro (h | h)
   · exact .inr h
   exact .inl ⟨hi,h⟩
 rw [hset] at hm4;have hc4':ChgI m (m+1) w3 w4:=hc4.toI λb hb=>by simp only [List.mem_cons,List.not_mem_nil,or_false] at hb;omega
 exact ⟨((hx1.t hx2).trans hx3).chgI hc4' (by omega),[m],hm4,λb hb=>by simp only [List.mem_cons,List.not_mem_nil,or_false] at hb;omega⟩
theorem zgh {w:World} {n:Nat} {K:Value→World→Prop} (h0:0<n) (hn:n≤1000000)
   (k:∀ w',Ext w w'→Mine [w.heap.size] w' (.slice (some ⟨w.heap.size,0,none⟩) n n) (List.replicate n false)→K (.slice (some ⟨w.heap.size,0,none⟩) n n) w'):OP tp (Instr.makeSlice 85 (.int .i64 (n:Int)) (.int .i64 (n:Int))) w K:=
 zfw (α:=Bool) u85 ty4 rfl rfl zwJ (by omega) (by omega) λw2 hx2 hr2=>by
   refine k w2 hx2 ?_;obtain ⟨F,hM,hF⟩:=hr2.own;obtain ⟨b,o,cap,hv,hF2⟩:=zi0 hM (by intro e;have:=congrArg List.length e;simp at this;omega);simp only [Value.slice.injEq,Option.some.injEq,Addr.mk.injEq,List.cons.injEq,and_true] at hv;obtain ⟨⟨hb,ho⟩,_⟩:=hv;rw [←hb] at hF2;rw [hF2] at hM;exact hM
theorem zeX (n:Nat) {p:Nat→Prop} (h:∀ i,¬p i):List.replicate n false=zdf n p:=
 zci (by simp) λi _=>⟨λh=>absurd h zb5,λhp=>absurd hp (h i)⟩
theorem zus {n q:Nat} {p p':Nat→Prop} (hq:q<n) (h:∀ i,p' i↔p i∨i=q):(zdf n p).set q true=zdf n p':=
 zci (by rw [List.length_set,zaD]) λi hi=>by
   rw [zcE (by rw [zaD];exact hq),zb6,h];exact ⟨λh=>h.imp (·.2) id,λh=>h.imp (λh=>⟨hi,h⟩) id⟩
def znj (c:DCode) (p:Nat) (op:Int) (q:Nat):Prop:=∃ i,i<c.ins.length∧zct c p i∧(zan c i).op=op∧(zan c i).arg=(q:Int)
theorem znk {w W0:World} {v0:Value} {c:DCode} {p:Nat} {op:Int} (h0:Is W0 v0 c) (e0:Ext W0 w) (hc:CodeR c) (hp:p<c.entry.length) (hop:op=4∨op=5) :
   CALL tp 237 [v0,.int .i64 (p:Int),.int .i64 op] w λr w'=>Ext w w'∧Own w.heap.size w' r (za9 (zcr c.procs.length (znj c p op))):=by
 refine F237_call ?_;unfold F237;have hil:=hc.f.ins;have h8:=hc.1.procs8;refine zcb h0 e0 λw1 hx1 hA=>?_;refine zab zcv hA (Ext.refl _) λv10 h10=>?_;refine (zq2 h10 (Ext.refl _) hc hp).mono ?_;rintro v12 w2 ⟨hx2,ho2⟩;refine zaa zdd ?_;refine zab zc0 (zbb hA) hx2 λv14 h14=>?_;refine zae u24 h14 ?_;have hs1:=hx1.size;have hs2:=hx2.size;refine zgh h8.2 (by omega) λw3 hx3 hM3=>?_;have hs3:=hx3.size;have ho3:=ho2.toI.ext hx3;have hm3:=hM3.lt _ (List.mem_singleton.2 rfl);have hx13:=hx2.t hx3;generalize hm:w2.heap.size=m at *;rw [zeX c.procs.length (p:=λq=>∃ i,i<0∧zct c p i∧(zan c i).op=op∧(zan c i).arg=(q:Int)) (λi ⟨j,h,_⟩=>by omega)] at hM3;refine zat c.ins.length (λk us w'=>us=[.int .i64 (k:Int)]∧k≤c.ins.length∧ChgI m (m+1) w3 w'∧Mine [m] w' (.slice (some ⟨m,0,none⟩) c.procs.length c.procs.length) (zdf c.procs.length λq=>∃ i,i<k∧zct c p i∧(zan c i).op=op∧(zan c i).arg=(q:Int))) 0 (z0 _) ⟨rfl,z0 _,ChgI.refl _,hM3⟩ ?_;rintro k mk u w4 hkm ⟨hu,hkl,hc4,hM4⟩;try replace hu:=zbG hu
 rw [hu];have hx4:Ext w1 w4:=hx13.chgI hc4 (by omega);have ho4:=ho3.chg hc4 (by omega);refine zaa zaR ?_;refine zab zdn (zal hA) hx4 λv19 h19=>?_;refine zae u26 h19 ?_;refine zaf ?_;refine br (λhlt=>?_) (λhge=>?_)
 case refine_2=>
   have hke:k=c.ins.length:=by omega
   rw [hke] at hM4;refine (zfT hM4.is (Ext.refl _) (by rw [zaD];omega)).mono ?_;rintro r w5 ⟨hx5,ho5⟩;rw [zaD,zjT] at ho5;have hsz:=hx4.size;exact ⟨(hx1.t hx4).trans hx5,ho5.mono (by omega)⟩
 have hk:k<c.ins.length:=by omega
 have hno:¬(zct c p k∧(zan c k).op=op)→(zdf c.procs.length λq=>∃ i,i<k∧zct c p i∧(zan c i).op=op∧(zan c i).arg=(q:Int))=zdf c.procs.length λq=>∃ i,i<k+1∧zct c p i∧(zan c i).op=op∧(zan c i).arg=(q:Int):=λhn=>zbw λq _=>by
   constructor
   · rintro ⟨i,h1,h2⟩
     exact ⟨i,by omega,h2⟩
   rintro ⟨i,h1,h2,h3,h4⟩;by_cases h:i=k
   · subst h;exact absurd ⟨h2,h3⟩ hn
   exact ⟨i,by omega,h2,h3,h4⟩
 refine zad u85 ty4 (i:=k) ho4.is (by rw [zaD];exact hk) λb2 o2 hA2=>?_;refine zby ty4 hA2 (Ext.refl _) ?_;have hmk:=zb6 (n:=c.ins.length) (p:=zct c p) (i:=k);rw [zbK (by rw [zaD];exact hk)] at hmk;refine zcd (λhf=>?_) (λhf=>?_)
 case refine_2=>refine zaB ?_;refine ⟨mk-1,by omega,k+1,by omega,rfl,by omega,hc4,?_⟩;rw [←hno λh=>by rw [hmk.2 ⟨hk,h.1⟩] at hf;cases hf];exact hM4
 have hlive:=(hmk.1 hf).2;refine zaa zaR ?_;refine zab zdn (zal hA) hx4 λv30 h30=>?_;refine zad u26 zbm h30 hk λb3 o3 hA3=>?_;rw [zaE] at hA3;refine zaa za6 ?_;refine zac ty3 (zaA hA3) hx4 λ_=>?_;refine zag ?_;refine br (λho=>?_) (λho=>?_)
 case refine_2=>refine zaB ?_;refine ⟨mk-1,by omega,k+1,by omega,rfl,by omega,hc4,?_⟩;rw [←hno λh=>ho h.2];exact hM4
 have harg:=(zfO hc hk).2.1;unfold zbQ at harg;rw [if_neg (by omega),if_pos (by omega)] at harg;obtain ⟨q,hq⟩:∃ q:Nat,(zan c k).arg=(q:Int):=⟨(zan c k).arg.toNat,by omega⟩;have hql:q<c.procs.length:=by omega
 refine zaa zaR ?_;refine zab zdn (zal hA) hx4 λv40 h40=>?_;refine zad u26 zbm h40 hk λb5 o5 hA5=>?_;rw [zaE] at hA5;refine zaa zaZ ?_;refine zac ty3 (zaw hA5) hx4 λ_=>?_;rw [hq];refine zdx (α:=Bool) rfl u85 ty4 hql ?_;refine zcs (α:=Bool) rfl ty4 hM4 zaD hql zbP λw5 hc5 hm5=>?_;have hc5':ChgI m (m+1) w4 w5:=hc5.toI λb hb=>by simp only [List.mem_cons,List.not_mem_nil,or_false] at hb;omega
 refine zaB ?_;refine ⟨mk-1,by omega,k+1,by omega,rfl,by omega,hc4.trans hc5',?_⟩;rw [←zus (p:=λq=>∃ i,i<k∧zct c p i∧(zan c i).op=op∧(zan c i).arg=(q:Int)) hql λr=>?_]
 · exact hm5
 constructor
 · rintro ⟨i,h1,h2,h3,h4⟩
   by_cases h:i=k
   · subst h;right;omega
   exact .inl ⟨i,by omega,h2,h3,h4⟩
 rintro (⟨i,h1,h2⟩ | rfl)
 · exact ⟨i,by omega,h2⟩
 exact ⟨k,by omega,hlive,ho,hq⟩
end Go.Proofs.YtakjaofncelghaaGreat
namespace Go.Sh
def zlZ (m n:Nat):Nat:=Nat.bitwise (λa b=>a&&!b) m n
theorem zdy (m n i:Nat):(zlZ m n).testBit i=(m.testBit i&&!n.testBit i):=Nat.testBit_bitwise rfl m n i
theorem zjU (m n:Nat):zlZ m n≤m:=Nat.le_of_testBit λi h=>by rw [zdy] at h;simp at h;exact h.1
section
variable {P:Program} {w:World} {K:Value→Prop} {t:TypeId} {x y:Operand}
theorem zp0 {m n:Nat} (hm:m<4611686018427387904) (hn:n<4611686018427387904) (k:K (.int .i64 ((m &&& n:Nat):Int))):RD P (bin .and t x y (.int .i64 (m:Int)) (.int .i64 (n:Int))) w K:=by
 have hlt:m &&& n≤m:=Nat.and_le_left;refine za3 (λw' _=>?_) k;have e1:IntKind.i64.wrap ((m &&& n:Nat):Int)=((m &&& n:Nat):Int):=IntWalk.i64_in _ (by omega)
 have e2:((BitVec.ofInt 64 (m:Int)) &&& (BitVec.ofInt 64 (n:Int))).toNat=m &&& n:=by
   simp only [BitVec.toNat_and,BitVec.ofInt_natCast,BitVec.toNat_ofNat];rw [Nat.mod_eq_of_lt (by omega),Nat.mod_eq_of_lt (by omega)]
 show (do eqGuard .and t x y (.int .i64 (m:Int)) (.int .i64 (n:Int));binOp .and t (.int .i64 (m:Int)) (.int .i64 (n:Int)):Sem Value).run P w'=_;simp only [eqGuard,binOp,Op.intBits];show Result.ok (Value.int .i64 (IntKind.i64.wrap (((BitVec.ofInt 64 (m:Int)) &&& (BitVec.ofInt 64 (n:Int))).toNat:Nat))) w'=_;rw [e2,e1]
theorem znl {m n:Nat} (hm:m<4611686018427387904) (hn:n<4611686018427387904) (k:K (.int .i64 ((zlZ m n:Nat):Int))):RD P (bin .andNot t x y (.int .i64 (m:Int)) (.int .i64 (n:Int))) w K:=by
 have hlt:zlZ m n≤m:=zjU m n;refine za3 (λw' _=>?_) k;have e1:IntKind.i64.wrap ((zlZ m n:Nat):Int)=((zlZ m n:Nat):Int):=IntWalk.i64_in _ (by omega)
 have e2:((BitVec.ofInt 64 (m:Int)) &&& ~~~(BitVec.ofInt 64 (n:Int))).toNat=zlZ m n:=by
   apply Nat.eq_of_testBit_eq;intro i;have hm64:m<2^64:=by omega
   have hn64:n<2^64:=by omega
   simp only [BitVec.testBit_toNat,BitVec.getLsbD_and,BitVec.getLsbD_not,BitVec.ofInt_natCast,BitVec.getLsbD_ofNat,zdy];by_cases hi:i<64
   · simp [hi]
   have:m.testBit i=false:=Nat.testBit_lt_two_pow (Nat.lt_of_lt_of_le hm64 (Nat.pow_le_pow_right (by omega) (by omega)));simp [hi,this]
 show (do eqGuard .andNot t x y (.int .i64 (m:Int)) (.int .i64 (n:Int));binOp .andNot t (.int .i64 (m:Int)) (.int .i64 (n:Int)):Sem Value).run P w'=_;simp only [eqGuard,binOp,Op.intBits];show Result.ok (Value.int .i64 (IntKind.i64.wrap (((BitVec.ofInt 64 (m:Int)) &&& ~~~(BitVec.ofInt 64 (n:Int))).toNat:Nat))) w'=_;rw [e2,e1]
theorem zvm {m n:Nat} {ku:IntKind} (hm:m<4611686018427387904) (k:K (.int .i64 ((m >>> n:Nat):Int))):RD P (bin .shr t x y (.int .i64 (m:Int)) (.int ku (n:Int))) w K:=by
 refine za3 (λw' _=>?_) k;have e0:¬((n:Int)<0):=by omega
 have e1:(m:Int).fdiv (2^(min n 64))=((m >>> n:Nat):Int):=by
   rw [Nat.shiftRight_eq_div_pow];have h2:((2:Int)^(min n 64))=((2^(min n 64):Nat):Int):=by simp
   rw [h2,Int.fdiv_eq_ediv_of_nonneg _ (Int.natCast_nonneg _),←Int.natCast_ediv];by_cases h:n≤64
   · rw [Nat.min_eq_left h]
   rw [Nat.min_eq_right (by omega),Nat.div_eq_of_lt (by omega),Nat.div_eq_of_lt (Nat.lt_of_lt_of_le (by omega:m<2^64) (Nat.pow_le_pow_right (by omega) (by omega)))]
 show (do eqGuard .shr t x y (.int .i64 (m:Int)) (.int ku (n:Int));binOp .shr t (.int .i64 (m:Int)) (.int ku (n:Int)):Sem Value).run P w'=_;simp only [eqGuard,binOp,Op.shift,e0,if_false,Int.toNat_natCast];show Result.ok (Value.int .i64 ((m:Int).fdiv (2^(min n 64)))) w'=_;rw [e1]
end
def zdg (m:Nat):Nat→List Int
 | 0=>[]
 | k+1=>if m.testBit k then zdg m k++[(k:Int)] else zdg m k
theorem zfh (m:Nat):∀ k,(zdg m k).length≤k
 | 0=>Nat.le_refl _
 | k+1=>by
   have:=zfh m k;rw [zdg];split
   · simp;omega
   omega
theorem zjV {m k:Nat} (h:m<2^k):∀ {j:Nat},k≤j→zdg m j=zdg m k
 | 0,hj=>by rw [Nat.le_zero.1 hj]
 | j+1,hj=>by
   by_cases e:k=j+1
   · rw [e]
   rw [zdg,if_neg,zjV h (by omega)];rw [Nat.testBit_lt_two_pow (Nat.lt_of_lt_of_le h (Nat.pow_le_pow_right (by omega) (by omega)))];simp
def zbL (m:Nat):List Int:=zdg m 64
theorem zi1 {m k:Nat} (h:m<2^k) (hk:k≤64):zbL m=zdg m k:=zjV h hk
theorem zdh {m:Nat} {x:Int}:∀ {k:Nat},x∈zdg m k↔∃ i,i<k∧x=(i:Int)∧m.testBit i=true
 | 0=>by simp [zdg]
 | k+1=>by
   rw [zdg];constructor
   · intro h
     split at h
     · rename_i hb
       rcases List.mem_append.1 h with h | h
       · obtain ⟨i,h1,h2,h3⟩:=zdh.1 h;exact ⟨i,by omega,h2,h3⟩
       simp at h;exact ⟨k,by omega,h,hb⟩
     obtain ⟨i,h1,h2,h3⟩:=zdh.1 h;exact ⟨i,by omega,h2,h3⟩
   rintro ⟨i,h1,h2,h3⟩;by_cases e:i=k
   · subst e;rw [if_pos h3];simp [h2]
   have:=(zdh (m:=m) (x:=x) (k:=k)).2 ⟨i,by omega,h2,h3⟩;split
   · simp [this]
   exact this
theorem zsR (m i:Nat):decide (((m >>> i &&& 1:Nat):Int)=1)=m.testBit i:=by
 have h:m >>> i &&& 1=(m.testBit i).toNat:=by
   rw [Nat.and_one_is_mod,Nat.testBit_eq_decide_div_mod_eq,Nat.shiftRight_eq_div_pow];rcases Nat.mod_two_eq_zero_or_one (m / 2^i) with h | h<;>simp [h]
 rw [h];cases m.testBit i<;>rfl
theorem zut (m i:Nat):decide (((m &&& 2^i:Nat):Int)≠0)=m.testBit i:=by
 have hp:0<2^i:=Nat.pow_pos (by omega);cases hb:m.testBit i with
 | false=>
   have:m &&& 2^i=0:=by
     apply Nat.eq_of_testBit_eq;intro j;rw [Nat.testBit_and,Nat.testBit_two_pow];by_cases e:i=j
     · subst e;simp [hb]
     simp [e]
   simp [this]
 | true=>
   have:m &&& 2^i≠0:=λe=>by
     have:=congrArg (·.testBit i) e;simp [Nat.testBit_and,Nat.testBit_two_pow,hb] at this
   simp only [ne_eq,decide_eq_true_eq];omega
theorem zp1 {m i:Nat}:m >>> i=0↔m<2^i:=by
 rw [Nat.shiftRight_eq_div_pow,Nat.div_eq_zero_iff];have:¬(2^i=0):=by have:0<2^i:=Nat.pow_pos (by omega);omega
 simp [this]
end Go.Sh
namespace Go.Proofs.YtakjaofncelghaaGreat
open Go Go.Sh Go.Proofs
open Rep (rep)
def F90 (a0 a1:Value) (w:World) (R:VW):Prop:=
 rD (convert 3 77 a1) w λx7=>
 rB .shr 3 T0 T0 a0 x7 w λx8=>
 rB .and 3 T0 U0 x8 (iV 1) w λx9=>
 rQ x9 (iV 1) w λx10=>
 R x10 w
theorem F90_call {a0 a1 w R} (h:F90 a0 a1 w R):cL 90 [a0,a1] w R:=co (g:=(kf [] [] [])) Tryz.func90 h
theorem zsS {w:World} {m:Nat} {i:Nat}   (hm:m<4611686018427387904) (hi:i<4611686018427387904) :
   CALL tp 90 [.int .i64 (m:Int),.int .i64 (i:Int)] w λr w'=>Ext w w'∧(r=.bool (m.testBit i)):=by
 refine F90_call ?_;unfold F90;refine zce (by kernel_rfl) u77 (by omega) ?_;refine zvm (by omega) ?_;refine zp0 (n:=1) (Nat.lt_of_le_of_lt (Nat.shiftRight_le m i) hm) (by omega) ?_;refine zag ?_;refine ⟨Ext.refl w,?_⟩;rw [zsR]
def F45 (a0:Value) (w:World) (R:VW):Prop:=
 LOOPI [3,4] [(Value.slice none 0 0),(iV 0)] w λu3 w n3=>
 rD (convert 3 77 (u3 4)) w λx7=>
 rB .shr 3 T0 T0 a0 x7 w λx8=>
 rB .neq 3 T0 U0 x8 (iV 0) w λx9=>
 BR x9
 (cL 90 [a0,(u3 4)] w λx14 w=>
 BR x14
 (oP (bS 25 (u3 4)) w λx17 w=>
 oP (aP 25 (u3 3) x17) w λx18 w=>
 rI (u3 4) w λx11=>
 n3 [x18,x11] w)
 (rI (u3 4) w λx11=>
 n3 [(u3 3),x11] w))
 (R (u3 3) w)
theorem F45_call {a0 w R} (h:F45 a0 w R):cL 45 [a0] w R:=co (g:=(kf [] [(3,524280,[3,4])] [])) Tryz.func45 h
theorem zhs {w:World} {m:Nat}   (hm:m<4611686018427387904) :
   CALL tp 45 [.int .i64 (m:Int)] w λr w'=>Ext w w'∧(Own w.heap.size w' r (zbL m)):=by
 refine F45_call ?_;unfold F45;refine zat (62) (λk us w'=>∃ v:Value,us=[v,.int .i64 (k:Int)]∧Ext w w'∧(RowI w.heap.size w'.heap.size 3 w' v (zdg m k))) (0) (by omega) ⟨_,rfl,Ext.refl w,zcm _ _ _ _⟩ ?_;rintro k m3 uu3 w1_ hk3 ⟨v3,hu,η1,hrow⟩;have σ1:=η1.size;obtain ⟨hu0,hu1⟩:=zd4 hu;try rw [hu0]
 try rw [hu1]
 try clear hu0 hu1
 have hrl:=zfh m k;refine zce (by kernel_rfl) u77 (by omega) ?_;refine zvm (by omega) ?_;refine zaV ?_;refine br (λc1=>?_) (λc1=>?_)
 · have hk62:k<62:=by
     rcases Nat.lt_or_ge k 62 with h | h
     · exact h
     have h1:m<2^k:=Nat.lt_of_lt_of_le (show m<2^62 by omega) (Nat.pow_le_pow_right (by omega) h);exact absurd (by rw [zp1.2 h1];rfl) c1
   refine (zsS (by omega) (by omega)).mono ?_;rintro _ w2_ ⟨η2,rfl⟩;have σ2:=η2.size;refine zcd (λc2=>?_) (λc2=>?_)
   · refine zcn (α:=Int) u25 ty3 z3 zc3 (by decide) (hrow.ext η2) (by omega) (ownI_int (lo:=w2_.heap.size) (hi:=w2_.heap.size) (by first | assumption | (unfold I64 at *;omega))) (by omega) (by omega) (by rw [zak];omega) (by omega) λv18 w3_ hc3_ o18=>?_
     have σhc3_:=hc3_.size;refine zaB ?_;refine ⟨m3-1,by omega,k+1,by omega,_,rfl,(Ext.chgI (η1.t η2) hc3_ (by omega)),?_⟩;rw [zdg,if_pos c2];exact o18
   refine zaB ?_;refine ⟨m3-1,by omega,k+1,by omega,_,rfl,(η1.t η2),?_⟩;rw [zdg,if_neg (by simp [c2])];exact (hrow.ext η2).mono (by omega) (by omega)
 refine ⟨η1,?_⟩;have h1:m >>> k=0:=by have:=Decidable.not_not.1 c1;omega
 rw [zi1 (zp1.1 h1) (by omega)];exact hrow.own.own
def F234 (a0:Value) (w:World) (R:VW):Prop:=
 rD (convert 3 77 a0) w λx4=>
 rB .shl 3 U0 T0 (iV 1) x4 w λx5=>
 R x5 w
theorem F234_call {a0 w R} (h:F234 a0 w R):cL 234 [a0] w R:=co (g:=(kf [] [] [])) Tryz.func234 h
theorem zjW {w:World} {i:Nat}   (hi:i<62) :
   CALL tp 234 [.int .i64 (i:Int)] w λr w'=>Ext w w'∧(r=.int .i64 ((2^i:Nat):Int)):=by
 refine F234_call ?_;unfold F234;refine zce (by kernel_rfl) u77 (by omega) ?_;refine zfo (by omega) ?_;refine ⟨Ext.refl w,?_⟩;rfl
def F223 (a0 a1:Value) (w:World) (R:VW):Prop:=
 cL 234 [a1] w λx7 w=>
 rB .and 3 T0 T0 a0 x7 w λx8=>
 rB .neq 3 T0 U0 x8 (iV 0) w λx9=>
 R x9 w
theorem F223_call {a0 a1 w R} (h:F223 a0 a1 w R):cL 223 [a0,a1] w R:=co (g:=(kf [] [] [])) Tryz.func223 h
theorem zuu {w:World} {m:Nat} {i:Nat}   (hm:m<4611686018427387904) (hi:i<62) :
   CALL tp 223 [.int .i64 (m:Int),.int .i64 (i:Int)] w λr w'=>Ext w w'∧(r=.bool (m.testBit i)):=by
 refine F223_call ?_;unfold F223;refine (zjW (by omega)).mono ?_;rintro _ w1_ ⟨η1,rfl⟩;have hp:2^i<4611686018427387904:=Nat.lt_of_lt_of_le (Nat.pow_lt_pow_right (by omega) hi) (by omega:2^62≤4611686018427387904);refine zp0 (by omega) (by omega) ?_;refine zaV ?_;refine ⟨η1,?_⟩;rw [zut]
def F279 (a0:Value) (w:World) (R:VW):Prop:=
 cL 151 [a0,(iV 0),(iV 63)] w λx4 w=>
 R x4 w
theorem F279_call {a0 w R} (h:F279 a0 w R):cL 279 [a0] w R:=co (g:=(kf [] [] [])) Tryz.func279 h
theorem zp2 {w:World} {a:Int}    :
   CALL tp 279 [.int .i64 a] w λr w'=>Ext w w'∧(r=.bool (decide (0≤a∧a≤63))):=by
 refine F279_call ?_;unfold F279;refine (l01In_ok ).mono ?_;rintro _ w1_ ⟨η1,rfl⟩;refine ⟨η1,?_⟩;rfl
theorem zi2 {c:DCode} {s:DState} (hc:CodeR c) (hs:zaF c s) (t:Int):-1≤zbc c s t∧zbc c s t<c.locks.length∧(0≤zbc c s t→(zbc c s t).toNat<s.owner.length∧0≤ow s (zbc c s t)∧ow s (zbc c s t)<s.stacks.length):=by
 unfold zbc;split
 · rename_i h
   have h1:=zdN hc hs h.1 (.inl h.2.1);have h2:=zlT hs h1.1 h1.2;have h3:=hs.2.1;refine ⟨by omega,by omega,λ_=>⟨h1.2,h.2.2,h2.2⟩⟩
 exact ⟨by omega,by omega,λh=>by omega⟩
def zjX (c:DCode) (s:DState) (t:Int):Nat→Nat→Int→Nat
 | 0,_,_=>0
 | n+1,m,u=>if zbc c s u<0 then 0 else if ow s (zbc c s u)=t then m ||| 2^(zbc c s u).toNat else zjX c s t n (m ||| 2^(zbc c s u).toNat) (ow s (zbc c s u))
def znm (c:DCode) (s:DState) (t:Int):Nat:=zjX c s t s.stacks.length 0 t
theorem zp3 {m i:Nat} (hm:m<64) (hi:i<6):m ||| 2^i<64:=Nat.or_lt_two_pow (n:=6) hm (Nat.pow_lt_pow_right (by omega) hi)
theorem zp4 {c:DCode} {s:DState} (hc:CodeR c) (hs:zaF c s) (t:Int):∀ n m u,m<64→zjX c s t n m u<64
 | 0,_,_,_=>by rw [zjX];omega
 | n+1,m,u,hm=>by
   have h1:=zi2 hc hs u;have h2:=hc.1.locks6;rw [zjX];split
   · omega
   have h3:=zp3 hm (i:=(zbc c s u).toNat) (by omega);split
   · exact h3
   exact zp4 hc hs t n _ _ h3
theorem zsT {c:DCode} {s:DState} (hc:CodeR c) (hs:zaF c s) (t:Int):znm c s t<64:=zp4 hc hs t _ _ _ (by omega)
def F46 (a0 a1 a2:Value) (w:World) (R:VW):Prop:=
 oX 28 a0 w λx3 w=>
 oX 36 a1 w λx4 w=>
 rF 36 x4 2 w λx11=>
 rL 33 x11 w λx12=>
 rN 33 3 x12 w λx13=>
 LOOPI [7,8,14] [(iV 0),a2,(iV 0)] w λu3 w n3=>
 rC (u3 14) x13 w λx15=>
 BR x15
 (rL 28 x3 w λx16=>
 rL 36 x4 w λx17=>
 cL 91 [x16,x17,(u3 8)] w λx19 w=>
 rB .lss 3 T0 U0 x19 (iV 0) w λx21=>
 BR x21
 (R (iV 0) w)
 (rD (convert 3 77 x19) w λx24=>
 rB .shl 3 U0 T0 (iV 1) x24 w λx25=>
 rB .or 3 T0 T0 (u3 7) x25 w λx26=>
 rL 36 x4 w λx27=>
 cL 92 [x27,x19] w λx29 w=>
 rB .eql 3 T0 T0 x29 a2 w λx32=>
 BR x32
 (R x26 w)
 (rI (u3 14) w λx34=>
 n3 [x26,x29,x34] w)))
 (R (iV 0) w)
theorem F46_call {a0 a1 a2 w R} (h:F46 a0 a1 a2 w R):cL 46 [a0,a1,a2] w R:=co (g:=(kf [] [(3,34359722944,[7,8,14])] [])) Tryz.func46 h
theorem zwa {w:World} {v0:Value} {W0:World} {c:DCode} {v1:Value} {W1:World} {s:DState} {t:Int}  (h0:Is W0 v0 c) (e0:Ext W0 w) (h1:Is W1 v1 s) (e1:Ext W1 w) (hc:CodeR c) (hs:zaF c s) :
   CALL tp 46 [v0,v1,.int .i64 t] w λr w'=>Ext w w'∧(r=.int .i64 (znm c s t:Int)):=by
 refine F46_call ?_;unfold F46;refine zao zcv rfl h0 e0 λw1_ η1 hA3 hV3=>?_;refine zao zcT rfl h1 (e1.trans η1) λw2_ η2 hA4 hV4=>?_;refine zaa zaW ?_;refine zab zd5 (zay hA4) (Ext.refl w2_) λv12 h12=>?_;have hln13:=zah h12;refine zae u33 h12 ?_;refine zat (s.stacks.length) (λk us w'=>∃ q:Nat×Int,us=[.int .i64 (q.1:Int),.int .i64 q.2,.int .i64 (k:Int)]∧Ext w2_ w'∧(q.1<64∧zjX c s t (s.stacks.length-k) q.1 q.2=znm c s t)) (0) (by omega) ⟨(0,t),rfl,Ext.refl w2_,by simp,rfl⟩ ?_;rintro k m3 uu3 w3_ hk3 ⟨q,hu,η3,hq1,hq2⟩;obtain ⟨hu0,hu1,hu2⟩:=zxw hu;try rw [hu0]
 try rw [hu1]
 try rw [hu2]
 try clear hu0 hu1 hu2
 obtain ⟨q,u⟩:=q;simp only at hq1 hq2 ⊢;have hw:=zi2 hc hs u;have hl6:=hc.1.locks6;have hmany:=hs.2.2.1;refine zaf ?_;refine br (λc1=>?_) (λc1=>?_)
 · refine zau hV3 (η2.t η3) ?_
   refine zau hV4 η3 ?_;refine (zuo h0 (e0.t (η1.t (η2.t η3))) h1 (e1.trans (η1.t (η2.t η3))) (by assumption) (by assumption)).mono ?_;rintro _ w4_ ⟨η4,rfl⟩;refine zaf ?_;refine br (λc2=>?_) (λc2=>?_)
   · refine ⟨(η1.t (η2.t (η3.t η4))),?_⟩
     rw [show s.stacks.length-k=(s.stacks.length-k-1)+1 by omega,zjX,if_pos (by omega)] at hq2;rw [←hq2];rfl
   rw [show s.stacks.length-k=(s.stacks.length-k-1)+1 by omega,zjX,if_neg (by omega)] at hq2;obtain ⟨l,hl⟩:∃ l:Nat,zbc c s u=(l:Int):=⟨(zbc c s u).toNat,by omega⟩;have hw2:=hw.2.2 (by omega);rw [hl] at hw hw2 hq2 ⊢;simp only [Int.toNat_natCast] at hq2 hw2;have ho6:=zp3 hq1 (i:=l) (by omega);have hp:2^l<64:=Nat.pow_lt_pow_right (n:=6) (by omega) (by omega);refine zce (by kernel_rfl) u77 (by omega) ?_;refine zfo (by omega) ?_;refine zhJ (by omega) (by omega) ?_;refine zau hV4 (η3.t η4) ?_;refine (zgN h1 (e1.trans (η1.t (η2.t (η3.t η4)))) (by omega) (by omega)).mono ?_;rintro _ w5_ ⟨η5,rfl⟩;refine zag ?_;refine br (λc3=>?_) (λc3=>?_)
   · refine ⟨(η1.t (η2.t (η3.t (η4.t η5)))),?_⟩
     rw [if_pos (by omega)] at hq2;rw [hq2]
   refine zaB ?_;refine ⟨m3-1,by omega,k+1,by omega,(q ||| 2^l,max (ow s (l:Int)) (-1)),rfl,(η3.t (η4.t η5)),?_⟩;rw [if_neg (by omega)] at hq2;refine ⟨ho6,?_⟩;rw [←hq2];simp only;rw [show max (ow s (l:Int)) (-1)=ow s (l:Int) by omega,Nat.sub_sub]
 refine ⟨(η1.t (η2.t η3)),?_⟩;rw [show s.stacks.length-k=0 by omega,zjX] at hq2;rw [←hq2];rfl
def zsU (c:DCode) (s:DState) (t:Int):List Int:=if CodeR c∧zaF c s then zbL (znm c s t) else []
theorem zq3:zbL 0=[]:=by rw [zi1 (k:=0) (by omega) (by omega)];rfl
def F11 (a0 a1 a2:Value) (w:World) (R:VW):Prop:=
 oX 28 a0 w λx3 w=>
 oX 36 a1 w λx4 w=>
 rL 28 x3 w λx7=>
 rL 36 x4 w λx8=>
 cL 44 [x7,x8] w λx9 w=>
 rT x9 w λx10=>
 BR x10
 (R (Value.slice none 0 0) w)
 (rL 28 x3 w λx11=>
 rL 36 x4 w λx12=>
 cL 46 [x11,x12,a2] w λx14 w=>
 cL 45 [x14] w λx15 w=>
 R x15 w)
theorem F11_call {a0 a1 a2 w R} (h:F11 a0 a1 a2 w R):cL 11 [a0,a1,a2] w R:=co (g:=(kf [] [] [])) Tryz.func11 h
theorem zl0 {w:World} {v0:Value} {W0:World} {c:DCode} {v1:Value} {W1:World} {s:DState} {t:Int}  (h0:Is W0 v0 c) (e0:Ext W0 w) (h1:Is W1 v1 s) (e1:Ext W1 w)  :
   CALL tp 11 [v0,v1,.int .i64 t] w λr w'=>Ext w w'∧(Own w.heap.size w' r (zsU c s t)):=by
 refine F11_call ?_;unfold F11;have σe0:=e0.size;have σe1:=e1.size;refine zao zcv rfl h0 e0 λw1_ η1 hA3 hV3=>?_;have σ1:=η1.size;refine zao zcT rfl h1 (e1.trans η1) λw2_ η2 hA4 hV4=>?_;have σ2:=η2.size;refine zau hV3 η2 ?_;refine zau hV4 (Ext.refl w2_) ?_;refine (zeV h0 (e0.t (η1.t η2)) h1 (e1.trans (η1.t η2))).mono ?_;rintro _ w3_ ⟨η3,rfl⟩;have σ3:=η3.size;refine zav ?_;refine br (λc1=>?_) (λc1=>?_)
 · refine ⟨(η1.t (η2.t η3)),?_⟩
   unfold zsU;rw [if_neg c1];exact zje rfl
 refine zau hV3 (η2.t η3) ?_;refine zau hV4 η3 ?_;refine (zwa h0 (e0.t (η1.t (η2.t η3))) h1 (e1.trans (η1.t (η2.t η3))) (Decidable.not_not.1 c1).1 (Decidable.not_not.1 c1).2).mono ?_;rintro _ w4_ ⟨η4,rfl⟩;have σ4:=η4.size;have hk64:=zsT (Decidable.not_not.1 c1).1 (Decidable.not_not.1 c1).2 t;refine (zhs (by omega)).mono ?_;rintro r15 w5_ ⟨η5,o15⟩;have o15:=o15.toI;have σ5:=η5.size;refine ⟨(η1.t (η2.t (η3.t (η4.t η5)))),?_⟩;unfold zsU;rw [if_pos (Decidable.not_not.1 c1)];exact o15.own.mono (by omega)
def F140 (a0 a1:Value) (w:World) (R:VW):Prop:=
 cL 45 [a1] w λx9 w=>
 rN 25 3 x9 w λx10=>
 LOOPI [5,11] [(iV 0),(iV 0)] w λu3 w n3=>
 rC (u3 11) x10 w λx12=>
 BR x12
 (rX 25 x9 (u3 11) w λx13=>
 rL 3 x13 w λx14=>
 rX 25 a0 x14 w λx18=>
 rL 3 x18 w λx19=>
 rB .or 3 T0 T0 (u3 5) x19 w λx20=>
 rI (u3 11) w λx21=>
 n3 [x20,x21] w)
 (R (u3 5) w)
theorem F140_call {a0 a1 w R} (h:F140 a0 a1 w R):cL 140 [a0,a1] w R:=co (g:=(kf [] [(3,4192416,[5,11])] [])) Tryz.func140 h
def orL (sets:List Nat) (l:List Int):Nat:=l.foldl (λa i=>a ||| sets.getD i.toNat 0) 0
theorem zuv (sets:List Nat) (l:List Int) (i:Int):orL sets (l++[i])=orL sets l ||| sets.getD i.toNat 0:=by simp [orL]
theorem zsV {sets:List Nat} (hs:∀ x∈sets,x<256) (l:List Int):orL sets l<256:=by
 have key:∀ (l:List Int) (a:Nat),a<256→l.foldl (λa i=>a ||| sets.getD i.toNat 0) a<256:=λl=>by
   induction l with
   | nil=>exact λa h=>h
   | cons i l ih=>
     intro a ha;rw [List.foldl_cons];refine ih _ (Nat.or_lt_two_pow (n:=8) ha ?_);rw [List.getD_eq_getElem?_getD];cases h:sets[i.toNat]? with
     | none=>simp
     | some x=>exact hs x (List.mem_of_getElem? h)
 exact key l 0 (by omega)
theorem zie {w W0:World} {v0:Value} {sets:List Nat} {m:Nat} (h0:Is W0 v0 (za9 sets)) (e0:Ext W0 w) (hs:∀ x∈sets,x<256) (hl:sets.length≤8) (hm:m<2^sets.length) :
   CALL tp 140 [v0,.int .i64 (m:Int)] w λr w'=>Ext w w'∧r=.int .i64 (orL sets (zbL m):Nat):=by
 refine F140_call ?_;unfold F140;have h256:2^sets.length≤2^8:=Nat.pow_le_pow_right (by omega) hl;refine (zhs (m:=m) (by omega)).mono ?_;rintro v9 w1 ⟨hx1,ho1⟩;have hbl:(zbL m).length≤64:=zfh m 64;refine zae u25 ho1.is ?_;refine zat (zbL m).length (λk us w'=>us=[.int .i64 ((orL sets ((zbL m).take k):Nat):Int),.int .i64 (k:Int)]∧k≤(zbL m).length∧Ext w1 w') 0 (z0 _) ⟨rfl,z0 _,Ext.refl _⟩ ?_;rintro k mk u w2 hkm ⟨hu,hkl,hx2⟩;obtain ⟨hu1,hu2⟩:=zd4 hu;rw [hu1,hu2];refine zaf ?_;refine br (λhlt=>?_) (λhge=>?_)
 case refine_2=>
   have:k=(zbL m).length:=by omega
   rw [this,List.take_length];exact ⟨hx1.t hx2,rfl⟩
 have hk:k<(zbL m).length:=by omega
 have hmem:(zbL m)[k]∈zbL m:=List.getElem_mem hk;obtain ⟨i,hi1,hi2,hi3⟩:=zdh.1 hmem
 have hil:i<sets.length:=Decidable.byContradiction λhc=>by
   have:=Nat.testBit_lt_two_pow (Nat.lt_of_lt_of_le hm (Nat.pow_le_pow_right (by omega) (by omega:sets.length≤i)));rw [this] at hi3;cases hi3
 refine zad u25 ty3 (i:=k) ho1.is hk λb1 o1 hA1=>?_;refine zac ty3 hA1 hx2 λ_=>?_;rw [hi2];refine zad u25 ty3 (i:=i) h0 (by rw [zaj];exact hil) λb2 o2 hA2=>?_;rw [zbz] at hA2;refine zac ty3 hA2 ((e0.t hx1).trans hx2) λ_=>?_;have h1:=zsV hs ((zbL m).take k);have h2:=hs sets[i] (List.getElem_mem hil);refine zhJ (by omega) (by omega) ?_;refine zaB ?_;refine ⟨mk-1,by omega,k+1,by omega,?_,by omega,hx2⟩;rw [tk hk,zuv,hi2,Int.toNat_natCast,List.getD_eq_getElem?_getD,List.getElem?_eq_getElem hil];rfl
def F175 (a0 a1:Value) (w:World) (R:VW):Prop:=
 oX 28 a0 w λx2 w=>
 rF 28 x2 2 w λx10=>
 rL 24 x10 w λx11=>
 rN 24 3 x11 w λx12=>
 oP (Instr.makeSlice 85 x12 x12) w λx13 w=>
 rX 85 x13 a1 w λx16=>
 oS 4 x16 vT w λw=>
 oP (bS 25 a1) w λx18 w=>
 LOOPI [6,7] [x18,(iV 0)] w λu5 w n5=>
 rN 25 3 (u5 6) w λx21=>
 rC (u5 7) x21 w λx22=>
 BR x22
 ((λw=>rL 28 x2 w λx25=>
 rX 25 (u5 6) (u5 7) w λx28=>
 rL 3 x28 w λx29=>
 cL 237 [x25,x29,(iV 4)] w λx30 w=>
 LOOPI [6,9] [(u5 6),(iV 0)] w λu9 w n9=>
 rN 25 3 x30 w λx33=>
 rC (u9 9) x33 w λx34=>
 BR x34
 (rX 25 x30 (u9 9) w λx40=>
 rL 3 x40 w λx41=>
 rX 85 x13 x41 w λx42=>
 rL 4 x42 w λx43=>
 rT x43 w λx44=>
 BR x44
 (rX 25 x30 (u9 9) w λx48=>
 rL 3 x48 w λx49=>
 rX 85 x13 x49 w λx50=>
 oS 4 x50 vT w λw=>
 rX 25 x30 (u9 9) w λx54=>
 rL 3 x54 w λx55=>
 oP (bS 25 x55) w λx56 w=>
 oP (aP 25 (u9 6) x56) w λx57 w=>
 rI (u9 9) w λx36=>
 n9 [x57,x36] w)
 (rI (u9 9) w λx36=>
 n9 [(u9 6),x36] w))
 (rI (u5 7) w λx24=>
 n5 [(u9 6),x24] w)) (World.drew1 w))
 (R x13 w)
theorem F175_call {a0 a1 w R} (h:F175 a0 a1 w R):cL 175 [a0,a1] w R:=co (g:=(kf [] [(5,288230376151188416,[6,7]),(9,288230374004228672,[6,9])] [(7,[0,1,2,3,4,5,6],0)])) Tryz.func175 h
noncomputable def znn (c:DCode) (p:Nat):List Nat:=zcr c.procs.length (znj c p 4)
theorem zoW {w W0:World} {v0:Value} {c:DCode} {a:Nat} (h0:Is W0 v0 c) (e0:Ext W0 w) (hc:CodeR c) (ha:a<c.procs.length) :
   CALL tp 175 [v0,.int .i64 (a:Int)] w λr w'=>Ext w w'∧∃ m,r=.slice (some ⟨m,0,none⟩) c.procs.length c.procs.length∧w.heap.size≤m∧Mine [m] w' (.slice (some ⟨m,0,none⟩) c.procs.length c.procs.length) (zdf c.procs.length λi=>i=a∨RP (znn c) a i):=by
 refine F175_call ?_;unfold F175;have h8:=hc.1.procs8;have hep:=hc.2.1.1;have hcn:∀ x,znn c x=zcr c.procs.length (znj c x 4):=λ_=>rfl;refine zcb h0 e0 λw1 hx1 hA=>?_;refine zaa zdd ?_;refine zab zc0 (zbb hA) (Ext.refl _) λv11 h11=>?_;refine zae u24 h11 ?_;generalize hn:c.procs.length=n at *;have hnl:∀ {i j:Nat},i<n→j∈znn c i→j<n∧True:=λ{i j} _ hj=>by rw [hcn] at hj;exact ⟨(zbq.1 hj).1,trivial⟩
 have hnxl:∀ x,(znn c x).length≤n:=λx=>by rw [hcn];exact zc6
 refine zgh h8.2 (by omega) λw2 hx2 hM2=>?_;have hs1:=hx1.size;have hs2:=hx2.size;refine zdx (α:=Bool) rfl u85 ty4 ha ?_;refine zcs (α:=Bool) rfl ty4 hM2 (by simp) ha zbP λw2b hc2 hM2b=>?_;have hc2':ChgI w1.heap.size (w1.heap.size+1) w2 w2b:=hc2.toI λb hb=>by simp only [List.mem_cons,List.not_mem_nil,or_false] at hb;omega
 have hs2b:=hc2'.size;have hM0l:((List.replicate n false).set a true).length=n:=by simp
 have hM0:∀ i,mkd ((List.replicate n false).set a true) i↔i=a:=λi=>by
   rw [zcE (by simp;exact ha)];exact ⟨λh=>h.resolve_left zb5,.inr⟩
 generalize (List.replicate n false).set a true=M0 at *;refine zbE (x:=(a:Int)) u25 ty3 z3 (by decide) (zbh (by unfold I64;omega)) λv15 w3 hx3 hr3=>?_;have hs3:=hx3.size;generalize hm:w1.heap.size=m at *;have hW3:WI w1 w3 m n w2b.heap.size w3.heap.size v15 [a] M0:=⟨(hx2.toI.trans hc2').trans hx3.toI,hr3,hM2b.ext hx3,by omega,by have:=hM2b.lt m (by simp);omega,hs3,Nat.le_refl _⟩;generalize znn c=nx at *;refine zat (1+n) (λh us w'=>∃ (tv:Value) (lo hi:Nat) (L:List Nat) (ms:List Bool),us=[tv,.int .i64 (h:Int)]∧h≤L.length∧WI w1 w' m n lo hi tv L ms∧SInv nx n a M0 ms (L.drop h) h) 0 (z0 _) ⟨v15,_,_,[a],_,rfl,by simp,hW3,SInv.start hM0l ha⟩ ?_;rintro h mk u w4 hkm ⟨tv,lo,hi,L,ms,hu,hhL,hW4,hS4⟩;obtain ⟨hu1,hu2⟩:=zd4 hu;rw [hu1,hu2];have hb4:=hS4.bound;rw [List.length_drop] at hb4;refine zae u25 hW4.row.is ?_;rw [zaj];refine zaf ?_;refine br (λhlt=>?_) (λhge=>?_)
 case refine_2=>
   have hhe:h=L.length:=by omega
   rw [hhe,List.drop_length] at hS4;have hfin:=hS4.fin λi hi hne=>absurd ((hM0 i).1 hi) hne;have hms:ms=zdf n (λi=>i=a∨RP nx a i):=zci hS4.len λi hi=>by rw [hfin i,hM0]
   rw [←hms];have hx4:Ext w1 w4:=(Ext.refl w1).chgI hW4.chg (by omega);exact ⟨hx1.t hx4,m,rfl,by omega,hW4.mks⟩
 have hh:h<L.length:=by omega
 have hx5:=zai w4;have hW5:=hW4.step hx5;generalize World.drew1 w4=w5 at *;have hxa:∀ {w:World} {lo hi tv L ms},WI w1 w m n lo hi tv L ms→Ext w1 w:=λh=>(Ext.refl w1).chgI h.chg (by omega);refine zab zcv hA (hxa hW5) λv22 h22=>?_;refine zad u25 ty3 (i:=h) hW5.row.is (by rw [zaj];exact hh) λb1 o1 hA1=>?_;rw [zbz] at hA1;refine zac ty3 hA1 (Ext.refl _) λ_=>?_;generalize hx:L[h]=x at *;have hdr:L.drop h=x :: L.drop (h+1):=by rw [List.drop_eq_getElem_cons hh,hx]
 have hxn:x<n:=(hS4.tdo x (by rw [hdr];simp)).2;refine (znk h22 (hxa hW5) hc (by omega) (.inl rfl)).mono ?_;rintro v27 w6 ⟨hx6,ho6⟩;rw [hn,←hcn] at ho6;have hW6:=hW5.step hx6;have hI6:=hW5.h3;have hm6:=hW5.mks.lt m (by simp);have hS6:SIn2 nx n a M0 ms (L.drop (h+1)) h x 0:=hS4.pop (λi=>by rw [hdr];simp [or_comm]) (by rw [hdr];simp);have hl2:=hnxl x;refine zat (nx x).length (λq us w'=>∃ (tv:Value) (lo hi:Nat) (L:List Nat) (ms:List Bool),us=[tv,.int .i64 (q:Int)]∧q≤(nx x).length∧h<L.length∧WI w1 w' m n lo hi tv L ms∧SIn2 nx n a M0 ms (L.drop (h+1)) h x q∧OwnI w5.heap.size w6.heap.size w' v27 (za9 (nx x))∧(hi≤w5.heap.size∨w6.heap.size≤lo)∧w6.heap.size≤w'.heap.size) 0 (z0 _) ⟨tv,lo,hi,L,ms,rfl,z0 _,hh,hW6,hS6,ho6.toI,.inl hI6,Nat.le_refl _⟩ ?_;rintro q mk8 u8 w7 hkm8 ⟨tv7,lo7,hi7,L7,ms7,hu8,hql,hh7,hW7,hS7,ho7,hd7,hz7⟩;obtain ⟨hu81,hu82⟩:=zd4 hu8;rw [hu81,hu82];refine zae u25 ho7.is ?_;rw [zaj];refine zaf ?_;refine br (λhlt8=>?_) (λhge8=>?_)
 case refine_2=>refine zaB ?_;exact ⟨mk-1,by omega,h+1,by omega,tv7,lo7,hi7,L7,ms7,rfl,by omega,hW7,hS7.done (by omega)⟩
 have hq:q<(nx x).length:=by omega
 have hrd:∀ {w:World} {K:Value→Prop} (ho:OwnI w5.heap.size w6.heap.size w v27 (za9 (nx x))) (k:K (.int .i64 (((nx x)[q]:Nat):Int))),RD tp (Instr.indexAt 25 v27 (.int .i64 (q:Int))) w λx37=>RD tp (Instr.loadAt 3 x37) w K:=λho k=>by
   refine zad u25 ty3 (i:=q) ho.is (by rw [zaj];exact hq) λb1 o1 hA1=>?_;rw [zbz] at hA1;exact zac ty3 hA1 (Ext.refl _) λ_=>k
 have hy:=hnl hxn (List.getElem_mem hq);refine hrd ho7 ?_;have hlen7:=hS7.len;refine zad u85 ty4 hW7.mks.is (by rw [hlen7];exact hy.1) λb2 o2 hA2=>?_;refine zby ty4 hA2 (Ext.refl _) ?_;refine za1 ?_;have hmk7:=zbK (ms:=ms7) (i:=(nx x)[q]) (by rw [hlen7];exact hy.1);refine zcd (λhf=>?_) (λhf=>?_)
 · have hnm:¬mkd ms7 (nx x)[q]:=by rw [hmk7];simpa using hf
   refine hrd ho7 ?_;refine zdx (α:=Bool) rfl u85 ty4 hy.1 ?_;refine zcs (α:=Bool) rfl ty4 hW7.mks hlen7 hy.1 zbP λw8 hc8 hm8=>?_;have hW8:=hW7.mark hc8 hm8;have hc8':ChgI m (m+1) w7 w8:=hc8.toI λb hb=>by simp only [List.mem_cons,List.not_mem_nil,or_false] at hb;omega
   have ho8:=ho7.chg hc8' (by omega);refine hrd ho8 ?_;have hS8:=hS7.push hq hy.1 hnm;generalize (nx x)[q]=y at *
   have hLb:L7.length≤2+n:=by
     have h1:=hS7.cnt;have h2:=zfR ms7;rw [List.length_drop] at h1;omega
   refine zfd (x:=(y:Int)) u25 ty3 z3 zc3 (by decide) hW8.row (zex 0 0 (by unfold I64;omega)) (by rw [zak,zaj];omega) (by rw [zaj];omega) λv54 w9 lo9 hi9 hc9 hr9 hd9=>?_;have hW9:=hW8.push hc9 hr9 hd9;have hsz8:=hc8'.size;have hsz7:=ho7.is;refine zaB ?_;refine ⟨mk8-1,by omega,q+1,by omega,v54,lo9,hi9,L7++[y],_,rfl,by omega,by simp;omega,hW9,?_,ho8.chg hc9 (by omega),by omega,by have:=hc9.size;omega⟩;rw [List.drop_append_of_le_length (by omega)];exact hS8
 have hnm:mkd ms7 (nx x)[q]:=by rw [hmk7];simpa using hf
 refine zaB ?_;exact ⟨mk8-1,by omega,q+1,by omega,tv7,lo7,hi7,L7,ms7,rfl,by omega,hh7,hW7,hS7.skip hq hnm,ho7,hd7,hz7⟩
noncomputable def m6 (p:Nat→Prop):Nat:=zcF p 6
theorem zvn {p:Nat→Prop} {l:Nat}:(m6 p).testBit l=true↔l<6∧p l:=zaY
theorem zxg {p:Nat→Prop}:m6 p<64:=zlY (n:=6)
theorem zfU {m l:Nat} (h:m<64) (hb:m.testBit l=true):l<6:=Decidable.byContradiction λhc=>by
 have:=Nat.testBit_lt_two_pow (Nat.lt_of_lt_of_le (show m<2^6 from h) (Nat.pow_le_pow_right (by omega) (by omega:6≤l)));rw [this] at hb;cases hb
theorem zxN {m:Nat} {p:Nat→Prop} (h:m<64) (hb:∀ l,l<6→(m.testBit l=true↔p l)):m=m6 p:=
 zew λl=>⟨λe=>⟨zfU h e,(hb l (zfU h e)).1 e⟩,λe=>(hb l e.1).2 e.2⟩
def za5 (l:List Nat) (i:Nat):Nat:=l.getD i 0
theorem zcI {l:List Nat} {i:Nat} (h:i<l.length):l[i]=za5 l i:=by unfold za5;rw [List.getD_eq_getElem?_getD,List.getElem?_eq_getElem h];rfl
theorem zeL {l:List Nat} {i j v:Nat} (hi:i<l.length):za5 (l.set i v) j=if i=j then v else za5 l j:=by
 unfold za5;rw [List.getD_eq_getElem?_getD,List.getD_eq_getElem?_getD,List.getElem?_set];by_cases h:i=j
 · subst h;simp [hi]
 simp [h]
theorem zoX:∀ {l:List Nat} {i v:Nat},i<l.length→(l.set i v).sum+za5 l i=l.sum+v
 | x :: l,0,v,_=>by simp [za5];omega
 | x :: l,i+1,v,h=>by
   have:=zoX (l:=l) (i:=i) (v:=v) (by simpa using h);simp only [za5,List.set_cons_succ,List.sum_cons,List.getD_cons_succ] at this ⊢;omega
theorem zht (l:List Nat) (i v:Nat):za9 (l.set i v)=(za9 l).set i (v:Int):=by simp [za9,List.map_set]
theorem sum_le {l:List Nat} {b:Nat} (h:∀ x∈l,x≤b):l.sum≤l.length*b:=by
 induction l with
 | nil=>simp
 | cons x l ih=>
   have h1:=ih λy hy=>h y (by simp [hy]);have h2:=h x (by simp);rw [List.sum_cons,List.length_cons,Nat.add_mul];omega
theorem zuw {l:List Nat} {i:Nat} (h:i<l.length):za5 l i∈l:=by rw [←zcI h];exact List.getElem_mem h
theorem zcj {l:List Nat} {i:Nat} (h:i<(za9 l).length):(za9 l)[i]=(za5 l i:Int):=by rw [zbz,zcI]
def eN (c:DCode) (p:Nat):Nat:=(en c p).toNat
def zN (c:DCode) (p:Nat):Nat:=(zdL c p-1).toNat
def agN (c:DCode) (i:Nat):Nat:=(zan c i).arg.toNat
theorem ziI {c:DCode} (hc:CodeR c) {p:Nat} (hp:p<c.entry.length):en c p=(eN c p:Int)∧eN c p<c.ins.length∧zaH c (eN c p)=p:=by
 have h:=zlX hc hp;unfold eN;rw [Int.toNat_of_nonneg h.1];exact ⟨rfl,by omega,h.2.2⟩
theorem zux {c:DCode} (hc:CodeR c) {p:Nat} (hp:p<c.entry.length):zdL c p=(zN c p:Int)+1∧eN c p≤zN c p∧zN c p<c.ins.length:=by
 have h1:=hc.f.lt p hp;have h2:=hc.f.nonneg hp;have h4:=hc.f.lt p hp;have h5:zdL c p≤c.ins.length:=h4.2;unfold zN eN;omega
theorem zjY {c:DCode} (hc:CodeR c) {p i:Nat} (hp:p<c.entry.length) (h:zct c p i):i<c.ins.length∧zaH c i=p:=by
 have he:=ziI hc hp;rcases h with rfl | h
 · exact ⟨he.2.1,he.2.2⟩
 refine h.keeps (p:=λi=>i<c.ins.length∧zaH c i=p) ⟨he.2.1,he.2.2⟩ λi j hi hj=>?_;have:=zeb hc hi.1 hj;exact ⟨this.1,this.2.trans hi.2⟩
theorem zsW {c:DCode} {p i j:Nat} (h:zct c p i) (hj:j∈zaO c i):zct c p j:=by
 rcases h with rfl | h
 · exact .inr (.one hj)
 exact .inr (.more h hj)
theorem zwb {c:DCode} (hc:CodeR c) {p i:Nat} (hi:i<c.ins.length) (hp:p<c.entry.length) (h:zaH c i=p):eN c p≤i∧i≤zN c p:=by
 obtain ⟨q,hq,h1,h2,h3⟩:=hc.f.find hc.1.procs8.2 (a:=(i:Int)) (by omega) (by omega);have:q=p:=by omega
 subst this;have h4:=zux hc hp;have h5:=ziI hc hp;omega
theorem zwc {c:DCode} (hc:CodeR c) {p i:Nat} (hp:p<c.entry.length) (h1:eN c p≤i) (h2:i≤zN c p):zaH c i=p:=by
 have h4:=zux hc hp;have h5:=ziI hc hp;exact hc.f.proc hp (by omega) (by omega)
theorem zey {c:DCode} (hc:CodeR c) {i:Nat} (hi:i<c.ins.length) (ho:(zan c i).op=4∨(zan c i).op=5):(zan c i).arg=(agN c i:Int)∧agN c i<c.procs.length:=by
 have harg:=(zfO hc hi).2.1;unfold zbQ at harg;rw [if_neg (by omega),if_pos (by omega)] at harg;unfold agN;omega
theorem zdz {c:DCode} (hc:CodeR c) {i:Nat} (hi:i<c.ins.length) (ho:(zan c i).op=6∨(zan c i).op=7):(zan c i).arg=(agN c i:Int)∧agN c i<c.locks.length∧agN c i<6:=by
 have h:=zpV hc hi ho;have h6:=hc.1.locks6;unfold agN;omega
def zxr (c:DCode) (K G:Nat→Nat→Prop) (i l:Nat):Prop:=((zan c i).op=7∧agN c i=l)∨((zan c i).op=4∧¬K (agN c i) l∧¬G (agN c i) l)
def zuy (c:DCode) (G:Nat→Nat→Prop) (i l:Nat):Prop:=¬((zan c i).op=6∧agN c i=l)∧¬((zan c i).op=4∧G (agN c i) l)
inductive LostP (c:DCode) (K G:Nat→Nat→Prop) (p:Nat) (h:Nat→Prop):Nat→Nat→Prop
 | ent {l:Nat} (h0:¬h l):LostP c K G p h (eN c p) l
 | gen {i j l:Nat} (h0:zct c p i) (hj:j∈zaO c i) (h1:zxr c K G i l):LostP c K G p h j l
 | pass {i j l:Nat} (h0:zct c p i) (hj:j∈zaO c i) (h1:LostP c K G p h i l) (h2:zuy c G i l):LostP c K G p h j l
theorem LostP.mono {c:DCode} {K K' G G':Nat→Nat→Prop} {p:Nat} {h h':Nat→Prop} (hK:∀ q l,K' q l→K q l) (hG:∀ q l,G' q l→G q l) (hh:∀ l,h' l→h l) {i l:Nat} (hl:LostP c K G p h i l):LostP c K' G' p h' i l:=by
 induction hl with
 | ent h0=>exact .ent λe=>h0 (hh _ e)
 | gen h0 hj h1=>exact .gen h0 hj (h1.imp id λ⟨a,b,d⟩=>⟨a,λe=>b (hK _ _ e),λe=>d (hG _ _ e)⟩)
 | pass h0 hj _ h2 ih=>exact .pass h0 hj ih ⟨h2.1,λ⟨a,b⟩=>h2.2 ⟨a,hG _ _ b⟩⟩
abbrev Tab:=List (Nat×Nat)
def tbl (T:Tab) (q:Nat):Nat×Nat:=T.getD q (0,0)
def tK (T:Tab) (q l:Nat):Prop:=(tbl T q).1.testBit l=true
def tG (T:Tab) (q l:Nat):Prop:=(tbl T q).2.testBit l=true
def aft (c:DCode) (T:Tab) (i m:Nat):Nat:=
 if (zan c i).op=6 then m ||| 2^agN c i else if (zan c i).op=7 then zlZ m (2^agN c i) else if (zan c i).op=4 then (m &&& (tbl T (agN c i)).1) ||| (tbl T (agN c i)).2 else m
theorem zwd {c:DCode} {T:Tab} {i m l:Nat}:(aft c T i m).testBit l=false↔zxr c (tK T) (tG T) i l∨(zuy c (tG T) i l∧m.testBit l=false):=by
 unfold aft zxr zuy tK tG;split
 · rename_i h
   rw [Nat.testBit_or,Nat.testBit_two_pow];have e6:((zan c i).op=6)=True:=eq_true h;have e4:((zan c i).op=4)=False:=eq_false (by omega);have e7:((zan c i).op=7)=False:=eq_false (by omega);simp only [e6,e4,e7,true_and,false_and,false_or,or_false,not_false_eq_true,and_true,Bool.or_eq_false_iff,decide_eq_false_iff_not];exact ⟨λ⟨a,b⟩=>⟨b,a⟩,λ⟨a,b⟩=>⟨b,a⟩⟩
 rename_i h6
 have e6:((zan c i).op=6)=False:=eq_false h6;split
 · rename_i h
   have e7:((zan c i).op=7)=True:=eq_true h;have e4:((zan c i).op=4)=False:=eq_false (by omega);rw [zdy,Nat.testBit_two_pow];simp only [e6,e4,e7,true_and,false_and,false_or,or_false,not_false_eq_true,and_true,Bool.and_eq_false_iff,Bool.not_eq_false',decide_eq_true_eq];exact ⟨λh=>h.elim .inr .inl,λh=>h.elim .inr .inl⟩
 rename_i h7
 have e7:((zan c i).op=7)=False:=eq_false h7;split
 · rename_i h
   have e4:((zan c i).op=4)=True:=eq_true h;rw [Nat.testBit_or,Nat.testBit_and];simp only [e6,e4,e7,true_and,false_and,false_or,not_false_eq_true];cases (tbl T (agN c i)).1.testBit l<;>cases (tbl T (agN c i)).2.testBit l<;>cases m.testBit l<;>simp
 rename_i h4
 simp [h6,h7,h4]
noncomputable def zxO (c:DCode) (T:Tab) (p h:Nat):List Nat:=(List.range c.ins.length).map λi=>m6 λl=>¬LostP c (tK T) (tG T) p (λl=>h.testBit l=true) i l
def FromP (c:DCode) (p q:Nat):Prop:=q=p∨RP (znn c) p q
theorem FromP.lt {c:DCode} {p q:Nat} (hp:p<c.procs.length) (h:FromP c p q):q<c.procs.length:=by
 rcases h with rfl | h
 · exact hp
 exact h.keeps (p:=λi=>i<c.procs.length) hp λi j _ hj=>(zbq.1 hj).1
theorem FromP.trans {c:DCode} {p q r:Nat} (h:FromP c p q) (k:FromP c q r):FromP c p r:=by
 rcases h with rfl | h
 · exact k
 rcases k with rfl | k
 · exact .inr h
 exact .inr (h.trans k)
theorem FromP.call {c:DCode} {p q r:Nat} (h:FromP c p q) (hr:r<c.procs.length) (k:znj c q 4 r):FromP c p r:=h.trans (.inr (.one (zbq.2 ⟨hr,k⟩)))
noncomputable def zx9 (c:DCode) (T:Tab) (p:Nat):Nat:=za5 (zxO c T p 0) (zN c p)
def ziJ (c:DCode):Nat:=(plc zgr c.procs).toNat
inductive RootP (c:DCode):Nat→Prop
 | main:RootP c (ziJ c)
 | spawn {r p q:Nat} (h0:RootP c r) (h1:FromP c r p) (h2:znj c p 5 q) (hq:q<c.procs.length):RootP c q
def UsedP (c:DCode) (p:Nat):Prop:=∃ r,RootP c r∧FromP c r p
theorem zhu {c:DCode} (hc:CodeR c):plc zgr c.procs=(ziJ c:Int)∧ziJ c<c.procs.length:=by
 have h:=zoR hc;have h2:=hc.2.1.1;unfold ziJ;omega
theorem RootP.lt {c:DCode} (hc:CodeR c) {r:Nat} (h:RootP c r):r<c.procs.length:=by
 cases h with
 | main=>exact (zhu hc).2
 | spawn _ _ _ hq=>exact hq
theorem UsedP.lt {c:DCode} (hc:CodeR c) {p:Nat} (h:UsedP c p):p<c.procs.length:=by
 obtain ⟨r,h1,h2⟩:=h;exact h2.lt (h1.lt hc)
theorem RootP.used {c:DCode} {r:Nat} (h:RootP c r):UsedP c r:=⟨r,h,.inl rfl⟩
theorem UsedP.call {c:DCode} {p q:Nat} (h:UsedP c p) (hq:q<c.procs.length) (k:znj c p 4 q):UsedP c q:=by
 obtain ⟨r,h1,h2⟩:=h;exact ⟨r,h1,h2.call hq k⟩
theorem zgP {l:List Nat} (h:∀ x∈l,x<64) (i:Nat):za5 l i<64:=by
 rcases Nat.lt_or_ge i l.length with hi | hi
 · exact h _ (zuw hi)
 unfold za5;rw [List.getD_eq_getElem?_getD,List.getElem?_eq_none hi];simp
inductive MetP (c:DCode):Nat→Prop
 | root {p:Nat} (h:RootP c p):MetP c (eN c p)
 | call {i:Nat} (h:MetP c i) (ho:(zan c i).op=4):MetP c (eN c (agN c i))
 | next {i j:Nat} (h:MetP c i) (ho:¬(zan c i).op=4) (hj:j∈zaO c i):MetP c j
 | back {i j:Nat} (h:MetP c i) (ho:(zan c i).op=4) (hz:MetP c (zN c (agN c i))) (hj:j∈zaO c i):MetP c j
theorem MetP.lt {c:DCode} (hc:CodeR c) {i:Nat} (h:MetP c i):i<c.ins.length:=by
 induction h with
 | root h=>exact (ziI hc (by rw [hc.2.1.1];exact h.lt hc)).2.1
 | call _ ho ih=>exact (ziI hc (by rw [hc.2.1.1];exact (zey hc ih (.inl ho)).2)).2.1
 | next _ _ hj ih=>exact (zeb hc ih hj).1
 | back _ _ _ hj ih _=>exact (zeb hc ih hj).1
inductive MayP (c:DCode):Nat→Nat→Prop
 | lock {i j l:Nat} (h:MetP c i) (ho:(zan c i).op=6) (ha:agN c i=l) (hj:j∈zaO c i):MayP c j l
 | pass {i j l:Nat} (h:MetP c i) (ho:¬(zan c i).op=4) (ha:¬((zan c i).op=7∧agN c i=l)) (hm:MayP c i l) (hj:j∈zaO c i):MayP c j l
 | call {i l:Nat} (h:MetP c i) (ho:(zan c i).op=4) (hm:MayP c i l):MayP c (eN c (agN c i)) l
 | back {i j l:Nat} (h:MetP c i) (ho:(zan c i).op=4) (hz:MetP c (zN c (agN c i))) (hm:MayP c (zN c (agN c i)) l) (hj:j∈zaO c i):MayP c j l
noncomputable def zhG (c:DCode):List Bool:=zdf c.ins.length (MetP c)
noncomputable def zno (c:DCode):List Nat:=(List.range c.ins.length).map λi=>m6 (MayP c i)
theorem zi3 (c:DCode):(zno c).length=c.ins.length:=by simp [zno]
theorem zoY {c:DCode} {i:Nat} (hi:i<c.ins.length):za5 (zno c) i=m6 (MayP c i):=by rw [←zcI (by rw [zi3];exact hi)];simp [zno]
theorem zsX (c:DCode):∀ x∈zno c,x<64:=λx hx=>by
 obtain ⟨i,_,rfl⟩:=List.mem_map.1 hx;exact zxg
structure MetC (c:DCode) (M:Nat→Prop):Prop where
 root:∀ p,RootP c p→M (eN c p)
 call:∀ i,M i→(zan c i).op=4→M (eN c (agN c i))
 next:∀ i j,M i→¬(zan c i).op=4→j∈zaO c i→M j
 back:∀ i j,M i→(zan c i).op=4→M (zN c (agN c i))→j∈zaO c i→M j
theorem MetC.all {c:DCode} {M:Nat→Prop} (h:MetC c M) {i:Nat} (k:MetP c i):M i:=by
 induction k with
 | root h1=>exact h.root _ h1
 | call _ ho ih=>exact h.call _ ih ho
 | next _ ho hj ih=>exact h.next _ _ ih ho hj
 | back _ ho _ hj ih1 ih2=>exact h.back _ _ ih1 ho ih2 hj
structure MayC (c:DCode) (H:Nat→Nat→Prop):Prop where
 lock:∀ i j,MetP c i→(zan c i).op=6→j∈zaO c i→H j (agN c i)
 pass:∀ i j l,MetP c i→l<6→¬(zan c i).op=4→¬((zan c i).op=7∧agN c i=l)→H i l→j∈zaO c i→H j l
 call:∀ i l,MetP c i→l<6→(zan c i).op=4→H i l→H (eN c (agN c i)) l
 back:∀ i j l,MetP c i→l<6→(zan c i).op=4→MetP c (zN c (agN c i))→H (zN c (agN c i)) l→j∈zaO c i→H j l
theorem MayC.all {c:DCode} {H:Nat→Nat→Prop} (h:MayC c H) {i l:Nat} (hl:l<6) (k:MayP c i l):H i l:=by
 induction k with
 | lock hm ho ha hj=>exact ha▸h.lock _ _ hm ho hj
 | pass hm ho ha _ hj ih=>exact h.pass _ _ _ hm hl ho ha (ih hl) hj
 | call hm ho _ ih=>exact h.call _ _ hm hl ho (ih hl)
 | back hm ho hz _ hj ih=>exact h.back _ _ _ hm hl ho hz (ih hl) hj
structure DEffect where
 keep:Int
 gen:Int
theorem DEffect.ext_iff {x y:DEffect}:x=y↔(x.keep=y.keep∧x.gen=y.gen):=⟨λh=>by rw [h];exact ⟨rfl,rfl⟩,λh=>by obtain ⟨h0,h1⟩:=h;cases x;cases y;simp only at h0 h1;simp only [h0,h1]⟩
instance:DecidableEq DEffect:=λx y=>decidable_of_iff (x.keep=y.keep∧x.gen=y.gen) DEffect.ext_iff.symm
instance:Rep DEffect:=Rep.via λx=>(x.keep,x.gen)
instance:RepZ DEffect:=⟨⟨(RepZ.zv:Int),(RepZ.zv:Int)⟩,RepZ.zc (Int×Int),λw=>RepZ.zr (α:=Int×Int) w⟩
instance:Flat DEffect:=⟨λh=>Flat.flat (α:=Int×Int) h⟩
theorem zl1 {n:Nat} (h:n<6):2^n<64:=Nat.pow_lt_pow_right (n:=6) (by omega) h
def F235 (a0 a1:Value) (w:World) (R:VW):Prop:=
 cL 279 [a0] w λx6 w=>
 rT x6 w λx7=>
 BR x7
 (R (iV 0) w)
 (cL 279 [a1] w λx10 w=>
 rT x10 w λx11=>
 BR x11
 (R (iV 0) w)
 (rB .sub 3 U0 T0 (iV 63) a1 w λx15=>
 rB .and 3 T0 T0 a0 x15 w λx16=>
 R x16 w))
theorem F235_call {a0 a1 w R} (h:F235 a0 a1 w R):cL 235 [a0,a1] w R:=co (g:=(kf [] [] [])) Tryz.func235 h
theorem zq4 {w:World} {a:Nat} {b:Nat}   (ha:a<64) (hb:b<64) :
   CALL tp 235 [.int .i64 (a:Int),.int .i64 (b:Int)] w λr w'=>Ext w w'∧(r=.int .i64 ((a &&& (63-b):Nat):Int)):=by
 refine F235_call ?_;unfold F235;refine (zp2 ).mono ?_;rintro _ w1_ ⟨η1,rfl⟩;refine zav ?_;refine br (λc1=>?_) (λc1=>?_)
 · refine ⟨η1,?_⟩
   first | rfl | (exfalso;omega)
 refine (zp2 ).mono ?_;rintro _ w2_ ⟨η2,rfl⟩;refine zav ?_;refine br (λc2=>?_) (λc2=>?_)
 · refine ⟨(η1.t η2),?_⟩
   first | rfl | (exfalso;omega)
 have e63:(63:Int)-(b:Int)=((63-b:Nat):Int):=by omega
 refine za0 (by unfold I64;omega) ?_;rw [e63];refine zp0 (by omega) (by omega) ?_;refine ⟨(η1.t η2),?_⟩
 first | rfl | (exfalso;omega)
theorem zoZ {a b:Nat} (ha:a<64) (hb:b<64):a &&& (63-b)=zlZ a b:=by
 refine Nat.eq_of_testBit_eq λl=>?_;rw [Nat.testBit_and,zdy];cases h:a.testBit l
 · rfl
 have hl:=zfU ha h;have:=Nat.testBit_two_pow_sub_succ (n:=6) (x:=b) hb l;rw [show 2^6-(b+1)=63-b by omega] at this;rw [this,decide_eq_true hl,Bool.true_and]
def F139 (a0 a1:Value) (w:World) (R:VW):Prop:=
 NIL a0 <|
 rF 101 a0 0 w λx9=>
 rF 28 x9 3 w λx10=>
 rL 25 x10 w λx11=>
 rX 25 x11 a1 w λx13=>
 rL 3 x13 w λx14=>
 LOOPI [5,6] [(Value.slice none 0 0),x14] w λu3 w n3=>
 NIL a0 <|
 rF 101 a0 0 w λx18=>
 rL 28 x18 w λx19=>
 cL 111 [x19,a1] w λx21 w=>
 rC (u3 6) x21 w λx22=>
 BR x22
 (NIL a0 <|
 rF 101 a0 1 w λx27=>
 rL 85 x27 w λx28=>
 rX 85 x28 (u3 6) w λx30=>
 rL 4 x30 w λx31=>
 BR x31
 (oP (bS 25 (u3 6)) w λx34 w=>
 oP (aP 25 (u3 5) x34) w λx35 w=>
 rI (u3 6) w λx24=>
 n3 [x35,x24] w)
 (rI (u3 6) w λx24=>
 n3 [(u3 5),x24] w))
 (R (u3 5) w)
theorem F139_call {a0 a1 w R} (h:F139 a0 a1 w R):cL 139 [a0,a1] w R:=co (g:=(kf [] [(3,68719444064,[5,6])] [])) Tryz.func139 h
open Rep (rep)
def zjZ (c:DCode) (i:Nat):Prop:=∃ p,p<c.procs.length∧zct c p i
structure WL (W0:World) (b:Nat) (c:DCode):Prop where
 code:At W0 b 0 c
 live:At W0 b (0+5) (zdf c.ins.length (zjZ c))
theorem znp {n m:Nat} {p:Nat→Prop} (h:n≤m) (hp:∀ i,n≤i→i<m→¬p i):zcr m p=zcr n p:=by
 induction m with
 | zero=>(have:n=0:=by omega);subst this;rfl
 | succ m ih=>
   by_cases e:n=m+1
   · rw [e]
   rw [zeW (hp m (by omega) (by omega)),ih (by omega) λi h1 h2=>hp i h1 (by omega)]
theorem zsY {w W0:World} {b p:Nat} {c:DCode} (hW:WL W0 b c) (e0:Ext W0 w) (hc:CodeR c) (hp:p<c.procs.length) :
   CALL tp 139 [.pointer (some ⟨b,0,none⟩),.int .i64 (p:Int)] w λr w'=>Ext w w'∧Own w.heap.size w' r (za9 (zcr c.ins.length (zct c p))):=by
 refine F139_call ?_;unfold F139;have hpe:p<c.entry.length:=by rw [hc.2.1.1];exact hp
 have hil:=hc.f.ins;have h8:=hc.1.procs8;obtain ⟨he1,he2,he3⟩:=ziI hc hpe;obtain ⟨hz1,hz2,hz3⟩:=zux hc hpe
 have hlv:∀ i,zct c p i→eN c p≤i∧i≤zN c p:=λi h=>by
   have:=zjY hc hpe h;exact zwb hc this.1 hpe this.2
 refine NIL.mk rfl ?_;refine zaa zcK ?_;refine zaa za7 ?_;refine zab zaK (zap hW.code) e0 λv11 h11=>?_;refine zad u25 ty3 h11 hpe λb1 o1 hA1=>?_;rw [zbr hpe,he1] at hA1;refine zac ty3 hA1 e0 λ_=>?_;generalize hE:eN c p=E at *;generalize hZ:zN c p=Z at *
 have h0:zcr E (zct c p)=[]:=by
   rw [znp (n:=0) (z0 _) λi _ h2 h3=>by have:=hlv i h3;omega];rfl
 refine zat (Z+1-E) (λk us w'=>∃ (v:Value),us=[v,.int .i64 ((E+k:Nat):Int)]∧E+k≤Z+1∧Ext w w'∧RowI w.heap.size w'.heap.size 3 w' v (za9 (zcr (E+k) (zct c p)))) 0 (z0 _) ⟨_,rfl,by omega,Ext.refl _,by rw [Nat.add_zero,h0];exact zcm _ _ _ _⟩ ?_;rintro k mk u w2 hkm ⟨v,hu,hkl,hx2,hr2⟩;obtain ⟨hu1,hu2⟩:=zd4 hu;rw [hu1,hu2];have hx02:=e0.t hx2;have hs2:=hx2.size;refine NIL.mk rfl ?_;refine zaa zcK ?_;refine zab zcv hW.code hx02 λv19 h19=>?_;refine (zeF h19 hx02 (by omega)).mono ?_;rintro _ w3 ⟨hx3,rfl⟩;rw [hz1];have hx03:=hx02.t hx3;refine zaf ?_;refine br (λhlt=>?_) (λhge=>?_)
 case refine_2=>
   have hk:E+k=Z+1:=by omega
   refine ⟨hx2.t hx3,?_⟩;rw [znp (n:=Z+1) (by omega) λi h1 _ h3=>by have:=hlv i h3;omega,←hk];exact (hr2.ext hx3).own.own
 have hk:E+k<c.ins.length:=by omega
 refine NIL.mk rfl ?_;refine zaa zom ?_;refine zab zhF hW.live hx03 λv28 h28=>?_;refine zad u85 ty4 (i:=E+k) h28 (by rw [zaD];exact hk) λb2 o2 hA2=>?_;refine zby ty4 hA2 hx03 ?_;have hmk:=zb6 (n:=c.ins.length) (p:=zjZ c) (i:=E+k);rw [zbK (by rw [zaD];exact hk)] at hmk
 have hiff:zjZ c (E+k)↔zct c p (E+k):=by
   constructor
   · rintro ⟨q,hq,hl⟩
     have h1:=zjY hc (by rw [hc.2.1.1];exact hq) hl;have h2:=zwc hc (p:=p) (i:=E+k) hpe (by omega) (by omega);have:q=p:=by omega
     rwa [this] at hl
   exact λh=>⟨p,hp,h⟩
 have hsl:=zc6 (n:=E+k) (p:=zct c p);refine zcd (λhf=>?_) (λhf=>?_)
 · refine zcn (lo2:=w3.heap.size) (hi2:=w3.heap.size) (x:=((E+k:Nat):Int)) u25 ty3 z3 zc3 (by decide) (hr2.ext hx3) (by have:=hx3.size;omega) (zex _ _ (by unfold I64;omega)) (by have:=hx3.size;omega) (by have:=hx3.size;omega) (by rw [zak,zaj];omega) (by rw [zaj];omega) λv54 w9 hc9 hr9=>?_
   refine zaB ?_;refine ⟨mk-1,by omega,k+1,by omega,v54,rfl,by omega,(hx2.t hx3).chgI hc9 (by omega),?_⟩;rw [←Nat.add_assoc,zea (hiff.1 (hmk.1 hf).2),zcR];exact hr9
 refine zaB ?_;refine ⟨mk-1,by omega,k+1,by omega,v,rfl,by omega,hx2.t hx3,?_⟩;rw [←Nat.add_assoc,zeW λh=>by rw [hmk.2 ⟨hk,hiff.2 h⟩] at hf;cases hf];exact (hr2.ext hx3).mono (lr _) hx3.size
theorem zhv {w:World} {n:Nat} {K:Value→World→Prop} (h0:0<n) (hn:n≤1000000)
   (k:∀ w',Ext w w'→Mine [w.heap.size] w' (.slice (some ⟨w.heap.size,0,none⟩) n n) (za9 (List.replicate n 0))→K (.slice (some ⟨w.heap.size,0,none⟩) n n) w'):OP tp (Instr.makeSlice 25 (.int .i64 (n:Int)) (.int .i64 (n:Int))) w K:=
 zfw (α:=Int) u25 ty3 rfl rfl zxM (by omega) (by omega) λw2 hx2 hr2=>by
   refine k w2 hx2 ?_;obtain ⟨F,hM,hF⟩:=hr2.own;obtain ⟨b,o,cap,hv,hF2⟩:=zi0 hM (by intro e;have:=congrArg List.length e;simp at this;omega);simp only [Value.slice.injEq,Option.some.injEq,Addr.mk.injEq,List.cons.injEq,and_true] at hv;obtain ⟨⟨hb,ho⟩,_⟩:=hv;rw [←hb] at hF2;rw [hF2] at hM;have e:za9 (List.replicate n 0)=List.replicate n (RepZ.zv:Int):=by simp only [za9,List.map_replicate];rfl
   rw [e];exact hM
section
variable {w1 w w':World} {g n:Nat} {out:List Nat}
end
theorem zgi {w:World} {v:Nat} (h:v<9223372036854775808):Mine [] w (.int .i64 (v:Int)) (v:Int):=zbh (by unfold I64;omega)
section
variable {c:DCode} {T:Tab} {p h k i q m:Nat} {out0 L out:List Nat} {ag:Bool}
end
theorem zj0 {p:Nat→Prop} {n:Nat}:∀ {k:Nat},k≤n→zdg (zcF p n) k=za9 (zcr k p)
 | 0,_=>rfl
 | k+1,h=>by
   rw [zdg,zj0 (k:=k) (by omega)];by_cases hp:p k
   · rw [if_pos (zaY.2 ⟨by omega,hp⟩),zea hp,zcR];rfl
   rw [if_neg λe=>hp (zaY.1 e).2,zeW hp]
theorem zq5 {p:Nat→Prop} {n:Nat} (h:n≤62):zbL (zcF p n)=za9 (zcr n p):=by
 rw [zi1 (k:=n) zlY (by omega),zj0 (lr _)]
theorem zeh {p:Nat→Prop} {n:Nat} (h:n≤8):zcF p n<256:=Nat.lt_of_lt_of_le zlY (Nat.pow_le_pow_right (n:=2) (by omega) h)
noncomputable def cls (c:DCode) (op:Int):List Nat:=(List.range c.procs.length).map λp=>zcF (znj c p op) c.procs.length
noncomputable def frs (c:DCode):List Nat:=(List.range c.procs.length).map λp=>zcF (FromP c p) c.procs.length
theorem zif (c:DCode) (op:Int):(cls c op).length=c.procs.length:=by simp [cls]
theorem zl2 (c:DCode):(frs c).length=c.procs.length:=by simp [frs]
theorem zvo {c:DCode} {op:Int} {p:Nat} (hp:p<c.procs.length):za5 (cls c op) p=zcF (znj c p op) c.procs.length:=by rw [←zcI (by rw [zif];exact hp)];simp [cls]
theorem zvp {c:DCode} {p:Nat} (hp:p<c.procs.length):za5 (frs c) p=zcF (FromP c p) c.procs.length:=by rw [←zcI (by rw [zl2];exact hp)];simp [frs]
noncomputable def zhw (c:DCode):Nat:=zcF (RootP c) c.procs.length
noncomputable def zq6 (c:DCode):Nat:=zcF (UsedP c) c.procs.length
structure WAt (W0:World) (b:Nat) (c:DCode):Prop where
 wl:WL W0 b c
 calls:At W0 b (0+6) (za9 (cls c 4))
 spawns:At W0 b (0+7) (za9 (cls c 5))
 frm:At W0 b (0+8) (za9 (frs c))
 roots:At W0 b (0+9) (zhw c:Int)
 used:At W0 b (0+10) (zq6 c:Int)
theorem zdi {α:Type} {l:List α} {k:Nat} (hk:k<l.length) {x:α}:x∈l.take (k+1)↔x∈l.take k∨x=l[k]:=by
 rw [tk hk,List.mem_append];simp
theorem ziC {c:DCode} (hc:CodeR c) {p:Nat} (hp:p<c.procs.length):zdL c p=((zN c p+1:Nat):Int)∧zeU c p=(zN c p:Int)∧zN c p<c.ins.length:=by
 have h:=zux hc (p:=p) (by rw [hc.2.1.1];exact hp);refine ⟨by omega,?_,h.2.2⟩;rw [zds];omega
section
variable {w1 w w':World} {g:Nat} {v:Value} {T:Tab}
end
def F174 (a0:Value) (w:World) (R:VW):Prop:=
 oX 28 a0 w λx1 w=>
 rF 28 x1 2 w λx10=>
 rL 24 x10 w λx11=>
 rN 24 3 x11 w λx12=>
 oP (Instr.makeSlice 85 x12 x12) w λx13 w=>
 rL 28 x1 w λx15=>
 cL 43 [x15] w λx16 w=>
 rX 85 x13 x16 w λx17=>
 oS 4 x17 vT w λw=>
 rL 28 x1 w λx18=>
 cL 43 [x18] w λx19 w=>
 oP (bS 25 x19) w λx20 w=>
 LOOPI [4,5] [x20,(iV 0)] w λu5 w n5=>
 rN 25 3 (u5 4) w λx23=>
 rC (u5 5) x23 w λx24=>
 BR x24
 ((λw=>rL 28 x1 w λx27=>
 rX 25 (u5 4) (u5 5) w λx30=>
 rL 3 x30 w λx31=>
 cL 175 [x27,x31] w λx32 w=>
 cL 232 [x32] w λx33 w=>
 LOOPI [4,7] [(u5 4),(iV 0)] w λu9 w n9=>
 rN 25 3 x33 w λx36=>
 rC (u9 7) x36 w λx37=>
 BR x37
 ((λw=>rL 28 x1 w λx40=>
 rX 25 x33 (u9 7) w λx43=>
 rL 3 x43 w λx44=>
 cL 237 [x40,x44,(iV 5)] w λx45 w=>
 LOOPI [4,9] [(u9 4),(iV 0)] w λu13 w n13=>
 rN 25 3 x45 w λx48=>
 rC (u13 9) x48 w λx49=>
 BR x49
 (rX 25 x45 (u13 9) w λx55=>
 rL 3 x55 w λx56=>
 rX 85 x13 x56 w λx57=>
 rL 4 x57 w λx58=>
 rT x58 w λx59=>
 BR x59
 (rX 25 x45 (u13 9) w λx63=>
 rL 3 x63 w λx64=>
 rX 85 x13 x64 w λx65=>
 oS 4 x65 vT w λw=>
 rX 25 x45 (u13 9) w λx69=>
 rL 3 x69 w λx70=>
 oP (bS 25 x70) w λx71 w=>
 oP (aP 25 (u13 4) x71) w λx72 w=>
 rI (u13 9) w λx51=>
 n13 [x72,x51] w)
 (rI (u13 9) w λx51=>
 n13 [(u13 4),x51] w))
 (rI (u9 7) w λx39=>
 n9 [(u13 4),x39] w)) (World.drew1 w))
 (rI (u5 5) w λx26=>
 n5 [(u9 4),x26] w)) (World.drew1 w))
 (R x13 w)
theorem F174_call {a0 w R} (h:F174 a0 w R):cL 174 [a0] w R:=co (g:=(kf [] [(5,9444732965739288331248,[4,5]),(9,9444732965722110559120,[4,7]),(13,9444732895370546250256,[4,9])] [(7,[0,1,2,3,4,5,6,7],0),(11,[0,1,2,3,4,5,6],0)])) Tryz.func174 h
open Rep (rep)
noncomputable def zrE (c:DCode) (p:Nat):List Nat:=zcr c.procs.length (znj c p 5)
noncomputable def zuz (c:DCode) (r:Nat):List Nat:=zcr c.procs.length (FromP c r)
noncomputable def zk2 (c:DCode) (r:Nat):List Nat:=(zuz c r).flatMap (zrE c)
theorem zsZ {c:DCode} (hc:CodeR c) (q:Nat):RootP c q↔q=ziJ c∨RP (zk2 c) (ziJ c) q:=by
 have hmem:∀ r q,q∈zk2 c r↔∃ p,p<c.procs.length∧FromP c r p∧q<c.procs.length∧znj c p 5 q:=λr q=>by
   unfold zk2 zuz zrE;simp only [List.mem_flatMap,zbq];exact ⟨λ⟨p,⟨h1,h2⟩,h3,h4⟩=>⟨p,h1,h2,h3,h4⟩,λ⟨p,h1,h2,h3,h4⟩=>⟨p,⟨h1,h2⟩,h3,h4⟩⟩
 constructor
 · intro h
   induction h with
   | main=>exact .inl rfl
   | @spawn r p q h0 h1 h2 hq ih=>
     have hm:=(hmem r q).2 ⟨p,h1.lt (h0.lt hc),h1,hq,h2⟩;rcases ih with rfl | ih
     · exact .inr (.one hm)
     exact .inr (.more ih hm)
 rintro (rfl | h)
 · exact .main
 refine h.keeps (p:=RootP c) .main λi j hi hj=>?_;obtain ⟨p,_,h1,h2,h3⟩:=(hmem i j).1 hj;exact .spawn hi h1 h3 h2
theorem zuA {α β:Type} {f:α→List β} {L:List α} {i j:Nat} (hi:i<L.length) (hj:j<(f L[i]).length):∃ h:((L.take i).flatMap f).length+j<(L.flatMap f).length,(L.flatMap f)[((L.take i).flatMap f).length+j]=(f L[i])[j]:=by
 have e:L.flatMap f=(L.take i).flatMap f++(f L[i]++(L.drop (i+1)).flatMap f):=by
   rw [←List.flatMap_cons,←List.flatMap_append];congr 1;rw [←List.drop_eq_getElem_cons hi,List.take_append_drop]
 have hlt:((L.take i).flatMap f).length+j<(L.flatMap f).length:=by rw [e];simp only [List.length_append];omega
 refine ⟨hlt,?_⟩
 have:(L.flatMap f)[((L.take i).flatMap f).length+j]?=some (f L[i])[j]:=by
   rw [e,List.getElem?_append_right (by omega),Nat.add_sub_cancel_left,List.getElem?_append_left hj,List.getElem?_eq_getElem hj]
 rw [List.getElem?_eq_getElem hlt] at this;exact Option.some.inj this
theorem zs0 {α β:Type} {f:α→List β} {L:List α} {i:Nat} (hi:i<L.length):((L.take (i+1)).flatMap f).length=((L.take i).flatMap f).length+(f L[i]).length:=by
 rw [tk hi,List.flatMap_append,List.length_append];simp
theorem zo0 {w W0:World} {v0:Value} {c:DCode} (h0:Is W0 v0 c) (e0:Ext W0 w) (hc:CodeR c) :
   CALL tp 174 [v0] w λr w'=>Ext w w'∧Own w.heap.size w' r (zdf c.procs.length (RootP c)):=by
 refine F174_call ?_;unfold F174;have h8:=hc.1.procs8;obtain ⟨hm1,hm2⟩:=zhu hc;have hR:=zsZ hc;have hcn:∀ x,zk2 c x=(zuz c x).flatMap (zrE c):=λ_=>rfl
 have hnl:∀ {i j:Nat},i<c.procs.length→j∈zk2 c i→j<c.procs.length∧True:=λ{i j} _ hj=>by
   rw [hcn] at hj;obtain ⟨p,_,h⟩:=List.mem_flatMap.1 hj;exact ⟨(zbq.1 h).1,trivial⟩
 refine zcb h0 e0 λw1 hx1 hA=>?_;have hs1:=hx1.size;refine zaa zdd ?_;refine zab zc0 (zbb hA) (Ext.refl _) λv11 h11=>?_;refine zae u24 h11 ?_;refine zgh h8.2 (by omega) λw2 hx2 hM2=>?_;have hs2:=hx2.size;refine zab zcv hA hx2 λv15 h15=>?_;refine (zib h15 hx2).mono ?_;rintro _ w2a ⟨hx2a,rfl⟩;rw [hm1];have hs2a:=hx2a.size;have hM2a:=hM2.ext hx2a;generalize hn:c.procs.length=n at *;generalize ziJ c=a at *;refine zdx (α:=Bool) rfl u85 ty4 hm2 ?_;refine zcs (α:=Bool) rfl ty4 hM2a (by simp) hm2 zbP λw2b hc2 hM2b=>?_;have hc2':ChgI w1.heap.size (w1.heap.size+1) w2a w2b:=hc2.toI λb hb=>by simp only [List.mem_cons,List.not_mem_nil,or_false] at hb;omega
 have hs2b:=hc2'.size;have hM0l:((List.replicate n false).set a true).length=n:=by simp
 have hM0:∀ i,mkd ((List.replicate n false).set a true) i↔i=a:=λi=>by
   rw [zcE (by simp;exact hm2)];exact ⟨λh=>h.resolve_left zb5,.inr⟩
 generalize (List.replicate n false).set a true=M0 at *;have hx12b:Ext w1 w2b:=(hx2.t hx2a).chgI hc2' (by omega);refine zab zcv hA hx12b λv18 h18=>?_;refine (zib h18 hx12b).mono ?_;rintro _ w2c ⟨hx2c,rfl⟩;rw [hm1];have hs2c:=hx2c.size;refine zbE (x:=(a:Int)) u25 ty3 z3 (by decide) (zbh (by unfold I64;omega)) λv20 w3 hx3 hr3=>?_;have hs3:=hx3.size;generalize hm:w1.heap.size=m at *;have hW3:WI w1 w3 m n w2c.heap.size w3.heap.size v20 [a] M0:=⟨(((hx2.t hx2a).toI.trans hc2').trans hx2c.toI).trans hx3.toI,hr3,(hM2b.ext hx2c).ext hx3,by omega,by have:=hM2b.lt m (by simp);omega,hs3,Nat.le_refl _⟩;have hfl:∀ x p,p∈zuz c x→p<n:=λx p hp=>by have:=(zbq.1 hp).1;omega
 have hfll:∀ x,(zuz c x).length≤n:=λx=>by have:=zc6 (n:=c.procs.length) (p:=FromP c x);rw [hn] at this;unfold zuz;rw [hn];exact this
 have holl:∀ x,(zrE c x).length≤n:=λx=>by have:=zc6 (n:=c.procs.length) (p:=znj c x 5);rw [hn] at this;unfold zrE;rw [hn];exact this
 generalize hnx:zk2 c=nx at *;refine zat (1+n) (λh us w'=>∃ (tv:Value) (lo hi:Nat) (L:List Nat) (ms:List Bool),us=[tv,.int .i64 (h:Int)]∧h≤L.length∧WI w1 w' m n lo hi tv L ms∧SInv nx n a M0 ms (L.drop h) h) 0 (z0 _) ⟨v20,_,_,[a],_,rfl,by simp,hW3,SInv.start hM0l hm2⟩ ?_;rintro h mk u w4 hkm ⟨tv,lo,hi,L,ms,hu,hhL,hW4,hS4⟩;obtain ⟨hu1,hu2⟩:=zd4 hu;clear hu;rw [hu1,hu2];have hb4:=hS4.bound;rw [List.length_drop] at hb4;refine zae u25 hW4.row.is ?_;rw [zaj];refine zaf ?_;refine br (λhlt=>?_) (λhge=>?_)
 case refine_2=>
   have hhe:h=L.length:=by omega
   rw [hhe,List.drop_length] at hS4;have hfin:=hS4.fin λi hi hne=>absurd ((hM0 i).1 hi) hne;have hms:ms=zdf n (RootP c):=zci hS4.len λi hi=>by rw [hfin i,hM0,hR]
   rw [←hms];have hx4:Ext w1 w4:=(Ext.refl w1).chgI hW4.chg (by omega);exact ⟨hx1.t hx4,[m],hW4.mks,λb hb=>by simp only [List.mem_cons,List.not_mem_nil,or_false] at hb;omega⟩
 have hh:h<L.length:=by omega
 have hx5:=zai w4;have hW5:=hW4.step hx5;generalize World.drew1 w4=w5 at *;have hxa:∀ {w:World} {lo hi tv L ms},WI w1 w m n lo hi tv L ms→Ext w1 w:=λh=>(Ext.refl w1).chgI h.chg (by omega);refine zab zcv hA (hxa hW5) λv27 h27=>?_;refine zad u25 ty3 (i:=h) hW5.row.is (by rw [zaj];exact hh) λb1 o1 hA1=>?_;rw [zbz] at hA1;refine zac ty3 hA1 (Ext.refl _) λ_=>?_;generalize hx:L[h]=x at *;have hdr:L.drop h=x :: L.drop (h+1):=by rw [List.drop_eq_getElem_cons hh,hx]
 have hxn:x<n:=(hS4.tdo x (by rw [hdr];simp)).2;refine (zoW h27 (hxa hW5) hc (by rw [hn];exact hxn)).mono ?_;rintro _ w6a ⟨hx6a,gf,rfl,hgf,hMf⟩;refine (zfT hMf.is (Ext.refl _) (by rw [zaD];omega)).mono ?_;rintro v33 w6 ⟨hx6,ho6⟩;have hFr:(λi=>i=x∨RP (znn c) x i)=FromP c x:=rfl;rw [zaD,zjT,hFr] at ho6;have ho6':Own w6a.heap.size w6 v33 (za9 (zuz c x)):=ho6;have hW6:=(hW5.step hx6a).step hx6;have hI6:=hW5.h3;have hs6a:=hx6a.size;have hs6:=hx6.size;have hS6:SIn2 nx n a M0 ms (L.drop (h+1)) h x 0:=hS4.pop (λi=>by rw [hdr];simp [or_comm]) (by rw [hdr];simp);have hfx:=hfll x;have hflx:=hfl x;have hnxx:nx x=(zuz c x).flatMap (zrE c):=hcn x;generalize zuz c x=Fl at *;refine zat Fl.length (λk us w'=>∃ (tv:Value) (lo hi:Nat) (L:List Nat) (ms:List Bool),us=[tv,.int .i64 (k:Int)]∧k≤Fl.length∧h<L.length∧WI w1 w' m n lo hi tv L ms∧SIn2 nx n a M0 ms (L.drop (h+1)) h x ((Fl.take k).flatMap (zrE c)).length∧OwnI w6a.heap.size w6.heap.size w' v33 (za9 Fl)∧(hi≤w6a.heap.size∨w6.heap.size≤lo)∧w6.heap.size≤w'.heap.size) 0 (z0 _) ⟨tv,lo,hi,L,ms,rfl,z0 _,hh,hW6,hS6,ho6'.toI,.inl (by omega),Nat.le_refl _⟩ ?_;rintro k mk9 u w7 hkm9 ⟨tv7,lo7,hi7,L7,ms7,hu,hkl,hh7,hW7,hS7,ho7,hd7,hz7⟩;obtain ⟨hu1,hu2⟩:=zd4 hu;clear hu;rw [hu1,hu2];refine zae u25 ho7.is ?_;rw [zaj];refine zaf ?_;refine br (λhlt7=>?_) (λhge7=>?_)
 case refine_2=>refine zaB ?_;refine ⟨mk-1,by omega,h+1,by omega,tv7,lo7,hi7,L7,ms7,rfl,by omega,hW7,hS7.done ?_⟩;rw [hnxx,show Fl.take k=Fl from List.take_of_length_le (by omega)];exact Nat.le_refl _
 have hk:k<Fl.length:=by omega
 have hx8:=zai w7;have hW8:=hW7.step hx8;have ho8:=ho7.ext hx8;have hs8:=hx8.size;generalize World.drew1 w7=w8 at *;refine zab zcv hA (hxa hW8) λv40 h40=>?_;refine zad u25 ty3 (i:=k) ho8.is (by rw [zaj];exact hk) λb2 o2 hA2=>?_;rw [zbz] at hA2;refine zac ty3 hA2 (Ext.refl _) λ_=>?_;have hfp:=λj=>zuA (f:=zrE c) (L:=Fl) (i:=k) (j:=j) hk;have hfn:=zs0 (f:=zrE c) (L:=Fl) (i:=k) hk;have hpn:=hflx _ (List.getElem_mem hk);rw [←hnxx] at hfp;generalize Fl[k]=p at *;refine (znk h40 (hxa hW8) hc (p:=p) (op:=5) (by rw [hc.2.1.1,hn];exact hpn) (.inr rfl)).mono ?_;rintro v45 w9 ⟨hx9,ho9⟩;have ho9':Own w8.heap.size w9 v45 (za9 (zrE c p)):=ho9;have hW9:=hW8.step hx9;have hs9:=hx9.size;have hop:=holl p;generalize zrE c p=Ol at *;generalize hq0:((Fl.take k).flatMap (zrE c)).length=q0 at *;have hI8:=hW8.h3;refine zat Ol.length (λj us w'=>∃ (tv:Value) (lo hi:Nat) (L:List Nat) (ms:List Bool),us=[tv,.int .i64 (j:Int)]∧j≤Ol.length∧h<L.length∧WI w1 w' m n lo hi tv L ms∧SIn2 nx n a M0 ms (L.drop (h+1)) h x (q0+j)∧OwnI w6a.heap.size w6.heap.size w' v33 (za9 Fl)∧(hi≤w6a.heap.size∨w6.heap.size≤lo)∧OwnI w8.heap.size w9.heap.size w' v45 (za9 Ol)∧(hi≤w8.heap.size∨w9.heap.size≤lo)∧w9.heap.size≤w'.heap.size) 0 (z0 _) ⟨tv7,lo7,hi7,L7,ms7,rfl,z0 _,hh7,hW9,hS7,ho8.ext hx9,hd7,ho9'.toI,.inl hI8,Nat.le_refl _⟩ ?_;rintro j mk13 u w10 hkm13 ⟨tv10,lo10,hi10,L10,ms10,hu,hjl,hh10,hW10,hS10,ho10,hd10,hp10,hd10b,hz10⟩;obtain ⟨hu1,hu2⟩:=zd4 hu;rw [hu1,hu2];refine zae u25 hp10.is ?_;rw [zaj];refine zaf ?_;refine br (λhlt10=>?_) (λhge10=>?_)
 case refine_2=>refine zaB ?_;refine ⟨mk9-1,by omega,k+1,by omega,tv10,lo10,hi10,L10,ms10,rfl,by omega,hh10,hW10,?_,ho10,hd10,by omega⟩;rw [hfn,show Ol.length=j by omega];exact hS10
 have hj:j<Ol.length:=by omega
 obtain ⟨hq,hqe⟩:=hfp j hj
 have hrd:∀ {w:World} {K:Value→Prop} (ho:OwnI w8.heap.size w9.heap.size w v45 (za9 Ol)) (kk:K (.int .i64 (((nx x)[q0+j]:Nat):Int))),RD tp (Instr.indexAt 25 v45 (.int .i64 (j:Int))) w λx37=>RD tp (Instr.loadAt 3 x37) w K:=λho kk=>by
   refine zad u25 ty3 (i:=j) ho.is (by rw [zaj];exact hj) λb1 o1 hA1=>?_;rw [zbz,←hqe] at hA1;exact zac ty3 hA1 (Ext.refl _) λ_=>kk
 have hy:=hnl hxn (List.getElem_mem hq);refine hrd hp10 ?_;have hlen10:=hS10.len;refine zad u85 ty4 hW10.mks.is (by rw [hlen10];exact hy.1) λb3 o3 hA3=>?_;refine zby ty4 hA3 (Ext.refl _) ?_;refine za1 ?_;have hmk10:=zbK (ms:=ms10) (i:=(nx x)[q0+j]) (by rw [hlen10];exact hy.1);refine zcd (λhf=>?_) (λhf=>?_)
 · have hnm:¬mkd ms10 (nx x)[q0+j]:=by rw [hmk10];simpa using hf
   refine hrd hp10 ?_;refine zdx (α:=Bool) rfl u85 ty4 hy.1 ?_;refine zcs (α:=Bool) rfl ty4 hW10.mks hlen10 hy.1 zbP λw11 hc11 hm11=>?_;have hW11:=hW10.mark hc11 hm11;have hc11':ChgI m (m+1) w10 w11:=hc11.toI λb hb=>by simp only [List.mem_cons,List.not_mem_nil,or_false] at hb;omega
   have hm4:=hW5.mks.lt m (by simp);have ho11:=ho10.chg hc11' (by omega);have hp11:=hp10.chg hc11' (by omega);refine hrd hp11 ?_;have hS11:=hS10.push hq hy.1 hnm;generalize (nx x)[q0+j]=y at *
   have hLb:L10.length≤2+n:=by
     have h1:=hS10.cnt;have h2:=zfR ms10;rw [List.length_drop] at h1;omega
   refine zfd (x:=(y:Int)) u25 ty3 z3 zc3 (by decide) hW11.row (zex 0 0 (by unfold I64;omega)) (by rw [zak,zaj];omega) (by rw [zaj];omega) λv54 w12 lo12 hi12 hc12 hr12 hd12=>?_;have hW12:=hW11.push hc12 hr12 hd12;have hsz11:=hc11'.size;have hsz12:=hc12.size;refine zaB ?_;refine ⟨mk13-1,by omega,j+1,by omega,v54,lo12,hi12,L10++[y],_,rfl,by omega,by simp;omega,hW12,?_,ho11.chg hc12 (by omega),by omega,hp11.chg hc12 (by omega),by omega,by omega⟩;rw [List.drop_append_of_le_length (by omega)];exact hS11
 have hnm:mkd ms10 (nx x)[q0+j]:=by rw [hmk10];simpa using hf
 refine zaB ?_;exact ⟨mk13-1,by omega,j+1,by omega,tv10,lo10,hi10,L10,ms10,rfl,by omega,hh10,hW10,hS10.skip hq hnm,ho10,hd10,hp10,hd10b,hz10⟩
def MC (c:DCode) (ms:List Bool) (i:Nat):Prop:=
 ((zan c i).op=4→mkd ms (eN c (agN c i))∧(mkd ms (zN c (agN c i))→∀ j∈zaO c i,mkd ms j))∧(¬(zan c i).op=4→∀ j∈zaO c i,mkd ms j)
structure TP (c:DCode) (ms0:List Bool) (ag:Bool) (ms:List Bool) (k:Nat):Prop where
 len:ms.length=c.ins.length
 snd:∀ i,mkd ms i→MetP c i
 root:∀ p,RootP c p→mkd ms (eN c p)
 yes:ag=true→ziZ ms0<ziZ ms
 no:ag=false→ms=ms0∧∀ i,i<k→mkd ms0 i→MC c ms0 i
theorem zeM {ms:List Bool} {i j:Nat} (h:mkd ms j):mkd (ms.set i true) j:=by
 have hl:=zpZ h;by_cases hi:i<ms.length
 · exact (zcE hi).2 (.inl h)
 rw [List.set_eq_of_length_le (by omega)];exact h
theorem zj1 {ms:List Bool} {i:Nat} (h:mkd ms i):ms.set i true=ms:=by
 have hl:=zpZ h;rw [zbK hl] at h;rw [←h];exact List.set_getElem_self hl
def zwK (ms:List Bool) (i:Nat) (ag:Bool):Bool:=ag || !ms.getD i false
theorem zp5 {ms:List Bool} {i:Nat} {ag:Bool} (h:mkd ms i):zwK ms i ag=ag:=by
 unfold mkd at h;unfold zwK;rw [h];simp
theorem zp6 {ms:List Bool} {i:Nat} {ag:Bool} (h:¬mkd ms i):zwK ms i ag=true:=by
 unfold mkd at h;unfold zwK;rw [Bool.not_eq_true] at h;rw [h];simp
theorem TP.meet {c:DCode} {ms0 ms:List Bool} {ag:Bool} {k i:Nat} (h:TP c ms0 ag ms k) (hi:i<c.ins.length) (hm:MetP c i):TP c ms0 (zwK ms i ag) (ms.set i true) k:=by
 by_cases hk:mkd ms i
 · rw [zp5 hk,zj1 hk];exact h
 rw [zp6 hk];have hc:=zhr (by rw [h.len];exact hi) hk;refine ⟨by simp [h.len],λj hj=>?_,λp hp=>zeM (h.root p hp),λ_=>?_,λe=>by cases e⟩
 · rcases (zcE (by rw [h.len];exact hi)).1 hj with h1 | h1
   · exact h.snd j h1
   rw [h1];exact hm
 cases ag with
 | true=>have:=h.yes rfl;omega
 | false=>rw [←(h.no rfl).1];omega
theorem TP.next {c:DCode} {ms0 ms:List Bool} {ag:Bool} {k:Nat} (h:TP c ms0 ag ms k) (hk:mkd ms k→MC c ms k):TP c ms0 ag ms (k+1):=
 ⟨h.len,h.snd,h.root,h.yes,λe=>⟨(h.no e).1,λi hi hm=>by
   by_cases e2:i=k
   · subst e2;rw [(h.no e).1] at hk;exact hk hm
   exact (h.no e).2 i (by omega) hm⟩⟩
theorem TP.fin {c:DCode} (hc:CodeR c) {ms0 ms:List Bool} (h:TP c ms0 false ms c.ins.length):ms=zhG c:=by
 obtain ⟨h1,h2⟩:=h.no rfl;refine zci h.len λi hi=>⟨h.snd i,λhm=>?_⟩;have hC:MetC c (mkd ms):=⟨h.root,λi hi ho=>?_,λi j hi ho hj=>?_,λi j hi ho hz hj=>?_⟩
 · exact hC.all hm
 all_goals
   have hil:=zpZ hi;rw [h.len] at hil;have:=h2 i hil (by rw [←h1];exact hi);rw [←h1] at this
 · exact (this.1 ho).1
 · exact this.2 ho j hj
 exact (this.1 ho).2 hz j hj
theorem TP.again {c:DCode} {ms0 ms:List Bool} {ag:Bool} {k:Nat} (h:TP c ms0 ag ms k):TP c ms false ms 0:=
 ⟨h.len,h.snd,h.root,λe=>(by cases e),λ_=>⟨rfl,λi hi=>by omega⟩⟩
def zgj (m n:Nat):Prop:=∀ l,l<6→m.testBit l=true→n.testBit l=true
def HC (c:DCode) (out:List Nat) (i:Nat):Prop:=
 ((zan c i).op=4→zgj (za5 out i) (za5 out (eN c (agN c i)))∧(MetP c (zN c (agN c i))→∀ j∈zaO c i,zgj (za5 out (zN c (agN c i))) (za5 out j)))∧(¬(zan c i).op=4→∀ j∈zaO c i,zgj (aft c [] i (za5 out i)) (za5 out j))
structure HP (c:DCode) (out0:List Nat) (ag:Bool) (out:List Nat) (k:Nat):Prop where
 len:out.length=c.ins.length
 lt:∀ x∈out,x<64
 snd:∀ i l,i<c.ins.length→(za5 out i).testBit l=true→MayP c i l∧MetP c i
 yes:ag=true→out0.sum<out.sum
 no:ag=false→out=out0∧∀ i,i<k→MetP c i→HC c out0 i
theorem HP.lt0 {c:DCode} {out0 out:List Nat} {ag:Bool} {k:Nat} (h:HP c out0 ag out k) (i:Nat):za5 out i<64:=zgP h.lt i
theorem zs1 {m n:Nat} (h:n ||| m=n):zgj m n:=λl _ hb=>by
 rw [←h,Nat.testBit_or,hb];simp
theorem zvq {m n:Nat}:zgj m (n ||| m):=λl _ hb=>by rw [Nat.testBit_or,hb];simp
theorem zj2 {m n k:Nat} (h:zgj k n):zgj k (n ||| m):=λl hl hb=>by rw [Nat.testBit_or,h l hl hb];rfl
theorem znq {m n:Nat} (hm:m<64) (hn:n<64):zlZ m n=0↔zgj m n:=by
 constructor
 · intro h l hl hb
   have:=congrArg (·.testBit l) h;simp only [zdy,hb,Bool.true_and,Nat.zero_testBit,Bool.not_eq_false'] at this;exact this
 intro h;refine Nat.eq_of_testBit_eq λl=>?_;rw [zdy,Nat.zero_testBit];cases e:m.testBit l
 · rfl
 rw [h l (zfU hm e) e];rfl
theorem zl3 {m n:Nat} (hm:m<64) (hn:n<64):n ||| m<64:=Nat.or_lt_two_pow (n:=6) hn hm
theorem zuB {m n:Nat} (h:¬n ||| m=n):n<n ||| m:=by
 have:n≤n ||| m:=Nat.left_le_or;omega
theorem HP.add {c:DCode} {out0 out:List Nat} {ag:Bool} {k i m:Nat} (h:HP c out0 ag out k) (hi:i<c.ins.length) (hm:m<64) (hmet:MetP c i) (hmay:∀ l,l<6→m.testBit l=true→MayP c i l) (hn:¬zgj m (za5 out i)):HP c out0 true (out.set i (za5 out i ||| m)) k:=by
 have h64:=h.lt0 i;refine ⟨by simp [h.len],λx hx=>?_,λj l hj hb=>?_,λ_=>?_,λe=>by cases e⟩
 · rcases zdW hx with rfl | hx
   · exact zl3 hm h64
   exact h.lt x hx
 · rw [zeL (by rw [h.len];exact hi)] at hb
   split at hb
   · rename_i e
     subst e;rw [Nat.testBit_or,Bool.or_eq_true] at hb;rcases hb with hb | hb
     · exact h.snd i l hj hb
     exact ⟨hmay l (zfU hm hb) hb,hmet⟩
   exact h.snd j l hj hb
 have h1:=zoX (l:=out) (i:=i) (v:=za5 out i ||| m) (by rw [h.len];exact hi);have h2:=zuB (m:=m) (n:=za5 out i) λe=>hn (zs1 e);cases ag with
 | true=>have:=h.yes rfl;omega
 | false=>rw [←(h.no rfl).1];omega
theorem HP.next {c:DCode} {out0 out:List Nat} {ag:Bool} {k:Nat} (h:HP c out0 ag out k) (hk:ag=false→MetP c k→HC c out k):HP c out0 ag out (k+1):=
 ⟨h.len,h.lt,h.snd,h.yes,λe=>⟨(h.no e).1,λi hi hm=>by
   by_cases e2:i=k
   · subst e2
     have:=hk e hm;rw [(h.no e).1] at this;exact this
   exact (h.no e).2 i (by omega) hm⟩⟩
theorem zl4 {c:DCode} {i m l:Nat} (h4:¬(zan c i).op=4):(aft c [] i m).testBit l=true↔¬((zan c i).op=7∧agN c i=l)∧(((zan c i).op=6∧agN c i=l)∨m.testBit l=true):=by
 rw [←Bool.not_eq_false,zwd];unfold zxr zuy;have e4:((zan c i).op=4)=False:=eq_false h4;simp only [e4,false_and,or_false,not_false_eq_true,and_true,not_or,not_and,Bool.not_eq_false];constructor
 · rintro ⟨h1,h2⟩
   refine ⟨h1,?_⟩;by_cases e:(zan c i).op=6∧agN c i=l
   · exact .inl e
   exact .inr (h2 λa b=>e ⟨a,b⟩)
 rintro ⟨h1,h2⟩;refine ⟨h1,λh3=>?_⟩;rcases h2 with h2 | h2
 · exact absurd h2.2 (h3 h2.1)
 exact h2
theorem zs2 {c:DCode} {i j m l:Nat} (h4:¬(zan c i).op=4) (hm:MetP c i) (hj:j∈zaO c i) (hmay:m.testBit l=true→MayP c i l) (hb:(aft c [] i m).testBit l=true):MayP c j l:=by
 obtain ⟨h1,h2⟩:=(zl4 h4).1 hb;rcases h2 with h2 | h2
 · exact .lock hm h2.1 h2.2 hj
 exact .pass hm h4 h1 (hmay h2) hj
theorem HC.may {c:DCode} {out:List Nat} (hc:CodeR c) (h:∀ i,MetP c i→HC c out i):MayC c λi l=>(za5 out i).testBit l=true:=by
 refine ⟨λi j hm ho hj=>?_,λi j l hm hl ho ha hb hj=>?_,λi l hm hl ho hb=>?_,λi j l hm hl ho hz hb hj=>?_⟩
 · have ha:=zdz hc (hm.lt hc) (.inl ho)
   exact (h i hm).2 (by omega) j hj _ ha.2.2 ((zl4 (by omega)).2 ⟨λh=>by omega,.inl ⟨ho,rfl⟩⟩)
 · exact (h i hm).2 ho j hj l hl ((zl4 ho).2 ⟨ha,.inr hb⟩)
 · exact ((h i hm).1 ho).1 l hl hb
 exact ((h i hm).1 ho).2 hz j hj l hl hb
theorem zs3 {c:DCode} (hc:CodeR c) {out:List Nat} (hlen:out.length=c.ins.length) (hlt:∀ x∈out,x<64) (hs:∀ i l,i<c.ins.length→(za5 out i).testBit l=true→MayP c i l) (h:∀ i,MetP c i→HC c out i):out=zno c:=by
 have hC:=HC.may hc h;refine List.ext_getElem (by rw [hlen,zi3]) λi h1 h2=>?_;have hi:i<c.ins.length:=by rw [←hlen];exact h1
 rw [zcI h1,zcI h2,zoY hi];exact zxN (zgP hlt i) λl hl=>⟨hs i l hi,λhm=>hC.all hl hm⟩
theorem HP.fin {c:DCode} (hc:CodeR c) {out0 out:List Nat} (h:HP c out0 false out c.ins.length):out=zno c:=by
 obtain ⟨h1,h2⟩:=h.no rfl;exact zs3 hc h.len h.lt (λi l hi hb=>(h.snd i l hi hb).1) λi hm=>by rw [h1];exact h2 i (hm.lt hc) hm
theorem HP.again {c:DCode} {out0 out:List Nat} {ag:Bool} {k:Nat} (h:HP c out0 ag out k):HP c out false out 0:=
 ⟨h.len,h.lt,h.snd,λe=>(by cases e),λ_=>⟨rfl,λi hi=>by omega⟩⟩
theorem HP.start {c:DCode}:HP c (List.replicate c.ins.length 0) false (List.replicate c.ins.length 0) 0:=
 ⟨by simp,λx hx=>by rw [(List.mem_replicate.1 hx).2];omega,λi l hi hb=>by rw [←zcI (by simp;exact hi)] at hb;simp at hb,λe=>(by cases e),λ_=>⟨rfl,λi hi=>by omega⟩⟩
theorem HP.sum_le {c:DCode} {out0 out:List Nat} {ag:Bool} {k:Nat} (h:HP c out0 ag out k):out.sum≤c.ins.length*63:=by
 rw [←h.len];exact Go.Proofs.YtakjaofncelghaaGreat.sum_le λx hx=>by have:=h.lt x hx;omega
end Go.Proofs.YtakjaofncelghaaGreat
