/-
  Parts of the proof, put together by program.
-/
import Derived.Test.YtbnjpfjjmhodnaaGreatDoorPReportOf4
set_option linter.unusedVariables false
set_option linter.unusedSimpArgs false
set_option linter.unusedSectionVars false
namespace Go.Proofs.YtbnjpfjjmhodnaaGreatDoor
open Go Go.Sh Go.Proofs
open Rep (rep)
def F180 (a0 a1 a2:Value) (w:World) (R:VW):Prop:=
 (fun w=>NIL a0 <|
 rF 97 a0 0 w fun x13=>
 rL 31 x13 w fun x14=>
 (fun w_=>cL 147 [a0,a1,a2,(iV 0)] w_ fun x10 w=>
 Ext w_ w ∧
 cL 85 [x14,a2] w fun x16 w=>
 rB .sub 3 T0 U0 x16 (iV 1) w fun x17=>
 rX 23 x10 x17 w fun x18=>
 rL 3 x18 w fun x19=>
 R x19 w) w) (World.drew1 w)
def cfg180:Cfg:=⟨extL,[],[],[(1,[0,1,2,4,5,6,7,8,3,9,10,11,12,13],8)],[],[],[]⟩
theorem F180_call {a0 a1 a2:Value} {w:World} {R:VW} (h:F180 a0 a1 a2 w R):cL 180 [a0,a1,a2] w R:=co (g:=cfg180) Tryz.func180 (by kernel_rfl) (by kernel_rfl) (by kernel_rfl) h
def F172 (a0 a1 a2:Value) (w:World) (R:VW):Prop:=
 oP (Instr.box 31 a0) w fun x3 w=>
 (fun w=>rL 31 x3 w fun x7=>
 rL 31 x3 w fun x11=>
 (fun w_=>cL 124 [x7,a1,a2,(iV 0)] w_ fun x10 w=>
 Ext w_ w ∧
 cL 67 [x11,a2] w fun x13 w=>
 rX 23 x10 x13 w fun x14=>
 rL 3 x14 w fun x15=>
 R x15 w) w) (World.drew1 w)
def cfg172:Cfg:=⟨extL,[],[],[(1,[0,1,2,4,5,3,6,7,8,9],8)],[],[],[]⟩
theorem F172_call {a0 a1 a2:Value} {w:World} {R:VW} (h:F172 a0 a1 a2 w R):cL 172 [a0,a1,a2] w R:=co (g:=cfg172) Tryz.func172 (by kernel_rfl) (by kernel_rfl) (by kernel_rfl) h
def F179 (a0:Value) (w:World) (R:VW):Prop:=
 NIL a0 <|
 rF 97 a0 0 w fun x7=>
 rF 31 x7 2 w fun x8=>
 rL 22 x8 w fun x9=>
 rN 22 3 x9 w fun x10=>
 LOOPI [3,11] [(Value.slice none 0 0),(iV 0)] w fun u3 w next3=>
 rC (u3 11) x10 w fun x12=>
 BR x12
 (cL 217 [a0,(u3 11)] w fun x17 w=>
 rD (Instr.build 197 #[(0,x17),(1,(iV 63))]) w fun x18=>
 oP (Instr.buildSlice 162 1 #[(0,x18)]) w fun x19 w=>
 oP (Builtin.append_ #[162,162] 162 [(u3 3),x19].toArray) w fun x20 w=>
 rA (u3 11) (iV 1) w fun x21=>
 next3 [x20,x21] w)
 (R (u3 3) w)
def cfg179:Cfg:=⟨extL,[],[(3,4192280,[3,11])],[],[],[],[]⟩
theorem F179_call {a0:Value} {w:World} {R:VW} (h:F179 a0 w R):cL 179 [a0] w R:=co (g:=cfg179) Tryz.func179 (by kernel_rfl) (by kernel_rfl) (by kernel_rfl) h
def F171 (a0:Value) (w:World) (R:VW):Prop:=
 oP (Instr.box 31 a0) w fun x1 w=>
 oP (Instr.buildSlice 162 0 #[]) w fun x5 w=>
 LOOPI [3,4] [x5,(iV 0)] w fun u3 w next3=>
 rF 31 x1 2 w fun x7=>
 rL 22 x7 w fun x8=>
 rN 22 3 x8 w fun x9=>
 rC (u3 4) x9 w fun x10=>
 BR x10
 (rL 31 x1 w fun x14=>
 cL 213 [x14,(u3 4)] w fun x16 w=>
 rD (Instr.build 197 #[(0,x16),(1,(iV 63))]) w fun x17=>
 oP (Instr.buildSlice 162 1 #[(0,x17)]) w fun x18 w=>
 oP (Builtin.append_ #[162,162] 162 [(u3 3),x18].toArray) w fun x19 w=>
 rA (u3 4) (iV 1) w fun x12=>
 next3 [x19,x12] w)
 (R (u3 3) w)
def cfg171:Cfg:=⟨extL,[],[(3,1048536,[3,4])],[],[],[],[]⟩
theorem F171_call {a0:Value} {w:World} {R:VW} (h:F171 a0 w R):cL 171 [a0] w R:=co (g:=cfg171) Tryz.func171 (by kernel_rfl) (by kernel_rfl) (by kernel_rfl) h
def F145 (a0:Value) (w:World) (R:VW):Prop:=
 cL 179 [a0] w fun x8 w=>
 LOOPI [4] [(Value.bool true)] w fun u3 w next3=>
 BR (u3 4)
 (rN 162 3 x8 w fun x11=>
 LOOPI [4,12] [(Value.bool false),(iV 0)] w fun u6 w next6=>
 rC (u6 12) x11 w fun x13=>
 BR x13
 (cL 180 [a0,x8,(u6 12)] w fun x18 w=>
 rX 162 x8 (u6 12) w fun x22=>
 rF 197 x22 1 w fun x23=>
 rL 3 x23 w fun x24=>
 rB .neq 3 T0 T0 x18 x24 w fun x25=>
 BR x25
 (rX 162 x8 (u6 12) w fun x29=>
 rF 197 x29 1 w fun x30=>
 oS 3 x30 x18 w fun w=>
 rA (u6 12) (iV 1) w fun x31=>
 next6 [(Value.bool true),x31] w)
 (rA (u6 12) (iV 1) w fun x31=>
 next6 [(u6 4),x31] w))
 (next3 [(u6 4)] w))
 (R x8 w)
def cfg145:Cfg:=⟨extL,[],[(3,4294966896,[4]),(6,4294963312,[4,12])],[],[],[],[]⟩
theorem F145_call {a0:Value} {w:World} {R:VW} (h:F145 a0 w R):cL 145 [a0] w R:=co (g:=cfg145) Tryz.func145 (by kernel_rfl) (by kernel_rfl) (by kernel_rfl) h
def F121 (a0:Value) (w:World) (R:VW):Prop:=
 oP (Instr.box 31 a0) w fun x1 w=>
 rL 31 x1 w fun x7=>
 cL 171 [x7] w fun x8 w=>
 LOOPI [4] [(Value.bool true)] w fun u3 w next3=>
 BR (u3 4)
 (LOOPI [4,5] [(Value.bool false),(iV 0)] w fun u6 w next6=>
 rF 31 x1 2 w fun x11=>
 rL 22 x11 w fun x12=>
 rN 22 3 x12 w fun x13=>
 rC (u6 5) x13 w fun x14=>
 BR x14
 (rL 31 x1 w fun x17=>
 cL 172 [x17,x8,(u6 5)] w fun x20 w=>
 rX 162 x8 (u6 5) w fun x24=>
 rF 197 x24 1 w fun x25=>
 rL 3 x25 w fun x26=>
 rB .neq 3 T0 T0 x20 x26 w fun x27=>
 BR x27
 (rX 162 x8 (u6 5) w fun x31=>
 rF 197 x31 1 w fun x32=>
 oS 3 x32 x20 w fun w=>
 rA (u6 5) (iV 1) w fun x16=>
 next6 [(Value.bool true),x16] w)
 (rA (u6 5) (iV 1) w fun x16=>
 next6 [(u6 4),x16] w))
 (next3 [(u6 4)] w))
 (R x8 w)
def cfg121:Cfg:=⟨extL,[],[(3,8589934192,[4]),(6,8589933680,[4,5])],[],[],[],[]⟩
theorem F121_call {a0:Value} {w:World} {R:VW} (h:F121 a0 w R):cL 121 [a0] w R:=co (g:=cfg121) Tryz.func121 (by kernel_rfl) (by kernel_rfl) (by kernel_rfl) h
open Rep (rep)
theorem zdj {c:DCode} (hc:CodeR c) {p:Nat} (hp:p<c.procs.length):zdh c p=((zN c p+1:Nat):Int)∧zeB c p=(zN c p:Int)∧zN c p<c.ins.length:=by
 have h:=zjb hc (p:=p) (by rw [hc.2.1.1];exact hp)
 refine ⟨by omega,?_,h.2.2⟩
 rw [zdR];omega
theorem zsd {w W0 W1:World} {b p:Nat} {v1:Value} {c:DCode} {T:Tab} (hW:WL W0 b c) (e0:Ext W0 w) (h1:Is W1 v1 (zfL T)) (e1:Ext W1 w) (hc:CodeR c) (hT:zrC c T) (hp:p<c.procs.length) :
   CALL Tryz.prog 180 [.pointer (some ⟨b,0,none⟩),v1,.int .i64 (p:Int)] w fun r w'=>Ext w w'∧r=.int .i64 (zc6 c T p:Nat):=by
 refine F180_call ?_
 unfold F180
 obtain ⟨hz1,hz2,hz3⟩:=zdj hc hp
 have hil:=hc.f.ins
 have h8:=hc.1.procs8
 have hxd:=zak w
 generalize World.drew1 w=w1 at *
 refine NIL.mk rfl ?_
 refine zaa zbd ?_
 refine zac zbt hW.code (e0.trans hxd) fun v14 h14=>?_
 refine (zmV hW (e0.trans hxd) h1 (e1.trans hxd) hc hT hp (h:=0) (by omega)).mono ?_
 rintro v10 w2 ⟨hx2,ho2⟩
 refine ⟨hx2,?_⟩
 refine (zcz h14 ((e0.trans hxd).trans hx2) (by omega)).mono ?_
 rintro _ w3 ⟨hx3,rfl⟩
 rw [hz1]
 refine zbf (by unfold I64;omega) ?_
 rw [show ((zN c p+1:Nat):Int)-1=(zN c p:Int) by omega]
 refine zad u23 ty3 ho2.is (by rw [zae,zc5];exact hz3) fun b1 o1 hA1=>?_
 rw [zaG] at hA1
 refine zab ty3 hA1 hx3 fun _=>?_
 exact ⟨hxd.trans (hx2.trans hx3),rfl⟩
theorem zqx {w W0 W1:World} {p:Nat} {v0 v1:Value} {c:DCode} {T:Tab} (h0:Is W0 v0 c) (e0:Ext W0 w) (h1:Is W1 v1 (zfL T)) (e1:Ext W1 w) (hc:CodeR c) (hT:zrC c T) (hp:p<c.procs.length) :
   CALL Tryz.prog 172 [v0,v1,.int .i64 (p:Int)] w fun r w'=>Ext w w'∧r=.int .i64 (zc6 c T p:Nat):=by
 refine F172_call ?_
 unfold F172
 obtain ⟨hz1,hz2,hz3⟩:=zdj hc hp
 have hil:=hc.f.ins
 have h8:=hc.1.procs8
 refine zbr h0 e0 fun w0 hx0 hA=>?_
 have hxd:=zak w0
 generalize World.drew1 w0=w1 at *
 refine zac zbt hA hxd fun v7 h7=>?_
 refine zac zbt hA hxd fun v11 h11=>?_
 refine (zg2 h7 hxd h1 (e1.trans (hx0.trans hxd)) hc hT hp (h:=0) (by omega)).mono ?_
 rintro v10 w2 ⟨hx2,ho2⟩
 refine ⟨hx2,?_⟩
 refine (zdE h11 (hxd.trans hx2) (p:=(p:Int)) (by omega) (by omega) hc.2.1.nonneg).mono ?_
 rintro _ w3 ⟨hx3,rfl⟩
 rw [hz2]
 refine zad u23 ty3 ho2.is (by rw [zae,zc5];exact hz3) fun b1 o1 hA1=>?_
 rw [zaG] at hA1
 refine zab ty3 hA1 hx3 fun _=>?_
 exact ⟨(hx0.trans hxd).trans (hx2.trans hx3),rfl⟩
noncomputable def zpo (c:DCode) (k:Nat):Tab:=(List.range k).map fun p=>(zeh c p,63)
theorem zlD (c:DCode) (k:Nat):zfL (zpo c (k+1))=zfL (zpo c k)++[zrD (zeh c k,63)]:=by simp [zpo,zfL,List.range_succ]
theorem zhJ (c:DCode) (k:Nat):(zfL (zpo c k)).length=k:=by simp [zpo,zfL]
theorem znV {w:World} (lo hi:Nat) {x:Nat×Nat} (h1:x.1<64) (h2:x.2<64):OwnI lo hi w (.agg #[.int .i64 (x.1:Int),.int .i64 (x.2:Int)]) (zrD x):=
 ⟨[],zoG (x:=zrD x) (by unfold zrD I64;simp only;omega) (by unfold zrD I64;simp only;omega),by simp⟩
theorem ziw {w W0:World} {b:Nat} {c:DCode} (hW:WAt W0 b c) (e0:Ext W0 w) (hc:CodeR c) :
   CALL Tryz.prog 179 [.pointer (some ⟨b,0,none⟩)] w fun r w'=>Ext w w'∧Own w.heap.size w' r (zfL (zpo c c.procs.length)):=by
 refine F179_call ?_
 unfold F179
 have h8:=hc.1.procs8
 refine NIL.mk rfl ?_
 refine zaa zbd ?_
 refine zaa zba ?_
 refine zac zbP (zar hW.wl.code) e0 fun v9 h9=>?_
 refine zag u22 h9 ?_
 refine zaq c.procs.length (fun k us w'=>∃ v:Value,us=[v,.int .i64 (k:Int)]∧k≤c.procs.length∧Ext w w'∧RowI w.heap.size w'.heap.size 197 w' v (zfL (zpo c k))) 0 (Nat.zero_le _) ⟨_,rfl,Nat.zero_le _,Ext.refl _,zcp _ _ _ _⟩ ?_
 rintro k mk u w2 hkm ⟨v,hu,hkl,hx2,hr2⟩
 obtain ⟨hu1,hu2⟩:=zb1 hu
 rw [hu1,hu2]
 refine zah ?_
 refine br (fun hlt=>?_) (fun hge=>?_)
 case refine_2=>
   have:k=c.procs.length:=by omega
   rw [this] at hr2
   exact ⟨hx2,hr2.own.own⟩
 have hk:k<c.procs.length:=by omega
 have hs2:=hx2.size
 refine (zqw hW (e0.trans hx2) hc hk).mono ?_
 rintro _ w3 ⟨hx3,rfl⟩
 have hs3:=hx3.size
 refine zca (cells:=#[.int .i64 (zeh c k:Nat),.int .i64 63]) (by kernel_rfl) ?_
 refine zbK (lo2:=w3.heap.size) (hi2:=w3.heap.size) (x:=zrD (zeh c k,63)) zpK zi8 zvU zu0 (by decide) (hr2.ext hx3) (by omega) (znV _ _ (x:=(zeh c k,63)) zit (by omega)) (by omega) (by omega) (by rw [zan,zhJ];omega) (by rw [zhJ];omega) fun v54 w9 hc9 hr9=>?_
 refine zaf (by omega) ?_
 refine ⟨mk-1,by omega,k+1,by omega,v54,rfl,by omega,(hx2.trans hx3).chgI hc9 (Nat.le_refl _),?_⟩
 rw [zlD]
 exact hr9
theorem zqy {w W0:World} {v0:Value} {c:DCode} (h0:Is W0 v0 c) (e0:Ext W0 w) (hc:CodeR c) :
   CALL Tryz.prog 171 [v0] w fun r w'=>Ext w w'∧Own w.heap.size w' r (zfL (zpo c c.procs.length)):=by
 refine F171_call ?_
 unfold F171
 have h8:=hc.1.procs8
 refine zbr h0 e0 fun w0 hx0 hA=>?_
 have hs0:=hx0.size
 refine zaY (α:=DEffect) zpK zi8 fun a w1 hx1 hr1=>?_
 have hs1:=hx1.size
 refine zaq c.procs.length (fun k us w'=>∃ v:Value,us=[v,.int .i64 (k:Int)]∧k≤c.procs.length∧Ext w0 w'∧RowI w0.heap.size w'.heap.size 197 w' v (zfL (zpo c k))) 0 (Nat.zero_le _) ⟨_,rfl,Nat.zero_le _,hx1,hr1.mono hs1 (Nat.le_refl _)⟩ ?_
 rintro k mk u w2 hkm ⟨v,hu,hkl,hx2,hr2⟩
 obtain ⟨hu1,hu2⟩:=zb1 hu
 rw [hu1,hu2]
 refine zaa zba ?_
 refine zac zbP (zar hA) hx2 fun v9 h9=>?_
 refine zag u22 h9 ?_
 refine zah ?_
 refine br (fun hlt=>?_) (fun hge=>?_)
 case refine_2=>
   have:k=c.procs.length:=by omega
   rw [this] at hr2
   exact ⟨hx0.trans hx2,hr2.own.own.mono (by omega)⟩
 have hk:k<c.procs.length:=by omega
 have hs2:=hx2.size
 refine zac zbt hA hx2 fun v14 h14=>?_
 refine (zoH h14 hx2 hc hk).mono ?_
 rintro _ w3 ⟨hx3,rfl⟩
 have hs3:=hx3.size
 refine zca (cells:=#[.int .i64 (zeh c k:Nat),.int .i64 63]) (by kernel_rfl) ?_
 refine zbK (lo2:=w3.heap.size) (hi2:=w3.heap.size) (x:=zrD (zeh c k,63)) zpK zi8 zvU zu0 (by decide) (hr2.ext hx3) (by omega) (znV _ _ (x:=(zeh c k,63)) zit (by omega)) (by omega) (by omega) (by rw [zan,zhJ];omega) (by rw [zhJ];omega) fun v54 w9 hc9 hr9=>?_
 refine zaf (by omega) ?_
 refine ⟨mk-1,by omega,k+1,by omega,v54,rfl,by omega,(hx2.trans hx3).chgI hc9 (by omega),?_⟩
 rw [zlD]
 exact hr9
structure FE (w1 w:World) (g:Nat) (v:Value) (T:Tab):Prop where
 ext:Ext w1 w
 mine:Mine [g] w v (zfL T)
 g0:w1.heap.size≤g
section
variable {w1 w w':World} {g:Nat} {v:Value} {T:Tab}
theorem FE.step (h:FE w1 w g v T) (hx:Ext w w'):FE w1 w' g v T:=⟨h.ext.trans hx,h.mine.ext hx,h.g0⟩
theorem FE.own (h:FE w1 w g v T):Own w1.heap.size w v (zfL T):=⟨[g],h.mine,fun b hb=>by simp only [List.mem_cons,List.not_mem_nil,or_false] at hb;have:=h.g0;omega⟩
theorem FE.make (ho:Own w1.heap.size w v (zfL T)) (hx:Ext w1 w) (hT:T≠[]):∃ g,FE w1 w g v T:=by
 obtain ⟨F,hm,hF⟩:=ho
 obtain ⟨b,o,cap,hv,rfl⟩:=zdT hm (by intro e;exact hT (List.map_eq_nil_iff.1 e))
 exact ⟨b,hx,hm,hF b (by simp)⟩
theorem zqz {q m:Nat} {K:World→Prop} (h:FE w1 w g v T) (hT:T≠[]) (hq:q<T.length) (hm:m<64) (k:∀ w',FE w1 w' g v (T.set q ((tbl T q).1,m))→ChgI g (g+1) w w'→K w') :
   RD Tryz.prog (Instr.indexAt 162 v (.int .i64 (q:Int))) w fun a=>RD Tryz.prog (Instr.fieldAt 197 a 1) w fun f=>OPU Tryz.prog (Instr.storeAt 3 f (.int .i64 (m:Int))) w K:=by
 refine zuP (α:=DEffect) (β:=Int) (sel:=DEffect.gen) (g:=fun a y=>⟨a.keep,y⟩) zpK zi8 zh5 ty3 (fun h=>zjc h) h.mine (by rw [zdW];exact hq) (zbk (v:=m) (by omega)) fun w2 F2 hc2 hm2 hF2=>?_
 have hF:F2=[g]:=by
   obtain ⟨b,o,cap,hv,rfl⟩:=zdT hm2 (by intro e;have:=congrArg List.length e;rw [List.length_set,zdW] at this;simp only [List.length_nil] at this;omega)
   have:=hF2 b (by simp)
   simpa using this
 subst hF
 have hcc:=zdH hc2
 refine k w2 ⟨h.ext.chgI hcc h.g0,?_,h.g0⟩ hcc
 rw [zsc]
 rw [zeH] at hm2
 exact hm2
end
theorem zqA {c:DCode} (hc:CodeR c):EI c (zpo c c.procs.length):=EI.start c hc
theorem EI.len {c:DCode} {T:Tab} (h:EI c T):T.length=c.procs.length:=h.tab.1
theorem EI.ne {c:DCode} (hc:CodeR c) {T:Tab} (h:EI c T):T≠[]:=fun e=>by
 have h1:=h.len
 have h2:=hc.1.procs8
 rw [e] at h1;simp at h1;omega
structure EP (c:DCode) (T0:Tab) (k:Nat) (ag:Bool) (T:Tab):Prop where
 ei:EI c T
 yes:ag=true→zqs T<zqs T0
 no:ag=false→T=T0∧∀ p,p<k→zc6 c T0 p=(tbl T0 p).2
theorem EP.set {c:DCode} (hc:CodeR c) {T0 T:Tab} {k:Nat} {ag:Bool} (H:EP c T0 k ag T) (hk:k<c.procs.length) (hne:zc6 c T k≠(tbl T k).2):EP c T0 (k+1) true (T.set k ((tbl T k).1,zc6 c T k)):=by
 refine ⟨H.ei.upd hc hk,fun _=>?_,fun e=>by cases e⟩
 have h1:=zsa (T:=T) (p:=k) (v:=((tbl T k).1,zc6 c T k)) (by rw [H.ei.len];exact hk)
 have h2:=H.ei.le hc hk
 simp only at h1
 cases ag with
 | true=>have:=H.yes rfl;omega
 | false=>rw [(H.no rfl).1] at h1 h2 hne ⊢;omega
theorem EP.skip {c:DCode} {T0 T:Tab} {k:Nat} {ag:Bool} (H:EP c T0 k ag T) (he:zc6 c T k=(tbl T k).2):EP c T0 (k+1) ag T:=
 ⟨H.ei,H.yes,fun e=>⟨(H.no e).1,fun p hp=>by
   by_cases h:p=k
   · subst h;rw [(H.no e).1] at he;exact he
   exact (H.no e).2 p (by omega)⟩⟩
theorem zoI {w W0:World} {b:Nat} {c:DCode} (hW:WAt W0 b c) (e0:Ext W0 w) (hc:CodeR c) :
   CALL Tryz.prog 145 [.pointer (some ⟨b,0,none⟩)] w fun r w'=>Ext w w'∧Own w.heap.size w' r (zfL (zcr c)):=by
 refine F145_call ?_
 unfold F145
 have h8:=hc.1.procs8
 refine (ziw hW e0 hc).mono ?_
 rintro v8 w1 ⟨hx1,ho1⟩
 have hE1:=zqA hc
 obtain ⟨g,hF1⟩:=FE.make ho1 hx1 (hE1.ne hc)
 generalize zpo c c.procs.length=T at *
 refine LOOPI.mk (fun m us w'=>∃ (ag:Bool) (T:Tab),us=[.bool ag]∧m=zqs T+(if ag then 1 else 0)∧FE w w' g v8 T∧EI c T∧(ag=false→∀ p,p<c.procs.length→zc6 c T p=(tbl T p).2)) (zqs T+1) ⟨true,T,rfl,rfl,hF1,hE1,fun e=>by cases e⟩ ?_
 rintro m u w2 ⟨ag,T,hu,hm,hF2,hE2,hsh⟩
 simp only [List.map_cons,List.map_nil,List.cons.injEq,and_true] at hu
 rw [hu]
 refine zbw (fun hag=>?_) (fun hag=>?_)
 case refine_2=>
   rw [hE2.fin hc (hsh hag)] at hF2
   exact ⟨hF2.ext,hF2.own⟩
 rw [hag,if_pos rfl] at hm
 refine zag zpK hF2.mine.is ?_
 rw [zdW,hE2.len]
 refine zaq c.procs.length (fun k us w'=>∃ (ag:Bool) (T':Tab),us=[.bool ag,.int .i64 (k:Int)]∧k≤c.procs.length∧FE w w' g v8 T'∧EP c T k ag T') 0 (Nat.zero_le _) ⟨false,T,rfl,Nat.zero_le _,hF2,hE2,fun e=>(by cases e),fun _=>⟨rfl,fun p hp=>by omega⟩⟩ ?_
 rintro k mk u w3 hkm ⟨ag3,T3,hu,hkl,hF3,hP3⟩
 obtain ⟨hu1,hu2⟩:=zb1 hu
 rw [hu1,hu2]
 refine zah ?_
 refine br (fun hlt=>?_) (fun hge=>?_)
 case refine_2=>
   refine ⟨zqs T3+(if ag3 then 1 else 0),?_,ag3,T3,rfl,rfl,hF3,hP3.ei,fun e p hp=>?_⟩
   · cases ag3 with
     | true=>have:=hP3.yes rfl;simp;omega
     | false=>rw [(hP3.no rfl).1];simp;omega
   have:=hP3.no e
   rw [this.1]
   exact this.2 p (by omega)
 have hk:k<c.procs.length:=by omega
 refine (zsd hW.wl (e0.trans hF3.ext) hF3.mine.is (Ext.refl _) hc hP3.ei.tab hk).mono ?_
 rintro _ w4 ⟨hx4,rfl⟩
 have hF4:=hF3.step hx4
 have hal:=zhG (T:=T3) hc hk
 have hgl:=hP3.ei.tab.2 k
 have hkT:k<T3.length:=by rw [hP3.ei.len];exact hk
 refine zad zpK zi8 hF4.mine.is (by rw [zdW];exact hkT) fun b1 o1 hA1=>?_
 rw [zeH] at hA1
 refine zaa zh5 ?_
 refine zab ty3 (zdV hA1) (Ext.refl _) fun _=>?_
 refine zaI ?_
 refine br (fun hne=>?_) (fun heq=>?_)
 · refine zqz hF4 (hP3.ei.ne hc) hkT hal fun w5 hF5 hc5=>?_
   refine zaf (by omega) ?_
   exact ⟨mk-1,by omega,k+1,by omega,true,_,rfl,by omega,hF5,hP3.set hc hk fun e=>hne (by rw [e];rfl)⟩
 refine zaf (by omega) ?_
 exact ⟨mk-1,by omega,k+1,by omega,ag3,T3,rfl,by omega,hF4,hP3.skip (Int.ofNat_inj.1 (Decidable.not_not.1 heq))⟩
theorem zkr {w W0:World} {v0:Value} {c:DCode} (h0:Is W0 v0 c) (e0:Ext W0 w) (hc:CodeR c) :
   CALL Tryz.prog 121 [v0] w fun r w'=>Ext w w'∧Own w.heap.size w' r (zfL (zcr c)):=by
 refine F121_call ?_
 unfold F121
 have h8:=hc.1.procs8
 refine zbr h0 e0 fun w0 hx0 hA=>?_
 have hs0:=hx0.size
 refine zac zbt hA (Ext.refl _) fun v7 h7=>?_
 refine (zqy h7 (Ext.refl _) hc).mono ?_
 rintro v8 w1 ⟨hx1,ho1⟩
 have hE1:=zqA hc
 obtain ⟨g,hF1⟩:=FE.make ho1 hx1 (hE1.ne hc)
 generalize zpo c c.procs.length=T at *
 refine LOOPI.mk (fun m us w'=>∃ (ag:Bool) (T:Tab),us=[.bool ag]∧m=zqs T+(if ag then 1 else 0)∧FE w0 w' g v8 T∧EI c T∧(ag=false→∀ p,p<c.procs.length→zc6 c T p=(tbl T p).2)) (zqs T+1) ⟨true,T,rfl,rfl,hF1,hE1,fun e=>by cases e⟩ ?_
 rintro m u w2 ⟨ag,T,hu,hm,hF2,hE2,hsh⟩
 simp only [List.map_cons,List.map_nil,List.cons.injEq,and_true] at hu
 rw [hu]
 refine zbw (fun hag=>?_) (fun hag=>?_)
 case refine_2=>
   rw [hE2.fin hc (hsh hag)] at hF2
   exact ⟨hx0.trans hF2.ext,hF2.own.mono (by omega)⟩
 rw [hag,if_pos rfl] at hm
 refine zaq c.procs.length (fun k us w'=>∃ (ag:Bool) (T':Tab),us=[.bool ag,.int .i64 (k:Int)]∧k≤c.procs.length∧FE w0 w' g v8 T'∧EP c T k ag T') 0 (Nat.zero_le _) ⟨false,T,rfl,Nat.zero_le _,hF2,hE2,fun e=>(by cases e),fun _=>⟨rfl,fun p hp=>by omega⟩⟩ ?_
 rintro k mk u w3 hkm ⟨ag3,T3,hu,hkl,hF3,hP3⟩
 obtain ⟨hu1,hu2⟩:=zb1 hu
 rw [hu1,hu2]
 refine zaa zba ?_
 refine zac zbP (zar hA) hF3.ext fun v12 h12=>?_
 refine zag u22 h12 ?_
 refine zah ?_
 refine br (fun hlt=>?_) (fun hge=>?_)
 case refine_2=>
   refine ⟨zqs T3+(if ag3 then 1 else 0),?_,ag3,T3,rfl,rfl,hF3,hP3.ei,fun e p hp=>?_⟩
   · cases ag3 with
     | true=>have:=hP3.yes rfl;simp;omega
     | false=>rw [(hP3.no rfl).1];simp;omega
   have:=hP3.no e
   rw [this.1]
   exact this.2 p (by omega)
 have hk:k<c.procs.length:=by omega
 refine zac zbt hA hF3.ext fun v17 h17=>?_
 refine (zqx h17 hF3.ext hF3.mine.is (Ext.refl _) hc hP3.ei.tab hk).mono ?_
 rintro _ w4 ⟨hx4,rfl⟩
 have hF4:=hF3.step hx4
 have hal:=zhG (T:=T3) hc hk
 have hgl:=hP3.ei.tab.2 k
 have hkT:k<T3.length:=by rw [hP3.ei.len];exact hk
 refine zad zpK zi8 hF4.mine.is (by rw [zdW];exact hkT) fun b1 o1 hA1=>?_
 rw [zeH] at hA1
 refine zaa zh5 ?_
 refine zab ty3 (zdV hA1) (Ext.refl _) fun _=>?_
 refine zaI ?_
 refine br (fun hne=>?_) (fun heq=>?_)
 · refine zqz hF4 (hP3.ei.ne hc) hkT hal fun w5 hF5 hc5=>?_
   refine zaf (by omega) ?_
   exact ⟨mk-1,by omega,k+1,by omega,true,_,rfl,by omega,hF5,hP3.set hc hk fun e=>hne (by rw [e];rfl)⟩
 refine zaf (by omega) ?_
 exact ⟨mk-1,by omega,k+1,by omega,ag3,T3,rfl,by omega,hF4,hP3.skip (Int.ofNat_inj.1 (Decidable.not_not.1 heq))⟩
def F74 (a0:Value) (w:World) (R:VW):Prop:=
 oP (Instr.box 31 a0) w fun x1 w=>
 rF 31 x1 2 w fun x10=>
 rL 22 x10 w fun x11=>
 rN 22 3 x11 w fun x12=>
 oP (Instr.makeSlice 82 x12 x12) w fun x13 w=>
 rL 31 x1 w fun x15=>
 cL 130 [x15] w fun x16 w=>
 rX 82 x13 x16 w fun x17=>
 oS 4 x17 (Value.bool true) w fun w=>
 rL 31 x1 w fun x18=>
 cL 130 [x18] w fun x19 w=>
 oP (Instr.buildSlice 23 1 #[(0,x19)]) w fun x20 w=>
 LOOPI [4,5] [x20,(iV 0)] w fun u5 w next5=>
 rN 23 3 (u5 4) w fun x23=>
 rC (u5 5) x23 w fun x24=>
 BR x24
 ((fun w=>rL 31 x1 w fun x27=>
 rX 23 (u5 4) (u5 5) w fun x30=>
 rL 3 x30 w fun x31=>
 cL 75 [x27,x31] w fun x32 w=>
 cL 125 [x32] w fun x33 w=>
 LOOPI [4,7] [(u5 4),(iV 0)] w fun u9 w next9=>
 rN 23 3 x33 w fun x36=>
 rC (u9 7) x36 w fun x37=>
 BR x37
 ((fun w=>rL 31 x1 w fun x40=>
 rX 23 x33 (u9 7) w fun x43=>
 rL 3 x43 w fun x44=>
 cL 131 [x40,x44,(iV 5)] w fun x45 w=>
 LOOPI [4,9] [(u9 4),(iV 0)] w fun u13 w next13=>
 rN 23 3 x45 w fun x48=>
 rC (u13 9) x48 w fun x49=>
 BR x49
 (rX 23 x45 (u13 9) w fun x55=>
 rL 3 x55 w fun x56=>
 rX 82 x13 x56 w fun x57=>
 rL 4 x57 w fun x58=>
 rD (Op.unary .not x58) w fun x59=>
 BR x59
 (rX 23 x45 (u13 9) w fun x63=>
 rL 3 x63 w fun x64=>
 rX 82 x13 x64 w fun x65=>
 oS 4 x65 (Value.bool true) w fun w=>
 rX 23 x45 (u13 9) w fun x69=>
 rL 3 x69 w fun x70=>
 oP (Instr.buildSlice 23 1 #[(0,x70)]) w fun x71 w=>
 oP (Builtin.append_ #[23,23] 23 [(u13 4),x71].toArray) w fun x72 w=>
 rA (u13 9) (iV 1) w fun x51=>
 next13 [x72,x51] w)
 (rA (u13 9) (iV 1) w fun x51=>
 next13 [(u13 4),x51] w))
 (rA (u9 7) (iV 1) w fun x39=>
 next9 [(u13 4),x39] w)) (World.drew1 w))
 (rA (u5 5) (iV 1) w fun x26=>
 next5 [(u9 4),x26] w)) (World.drew1 w))
 (R x13 w)
def cfg74:Cfg:=⟨extL,[],[(5,9444732965739288331248,[4,5]),(9,9444732965722110559120,[4,7]),(13,9444732895370546250256,[4,9])],[(7,[0,1,2,3,4,5,6,7],0),(11,[0,1,2,3,4,5,6],0)],[],[],[]⟩
theorem F74_call {a0:Value} {w:World} {R:VW} (h:F74 a0 w R):cL 74 [a0] w R:=co (g:=cfg74) Tryz.func74 (by kernel_rfl) (by kernel_rfl) (by kernel_rfl) h
def F123 (a0:Value) (w:World) (R:VW):Prop:=
 oP (Instr.box 31 a0) w fun x1 w=>
 rL 31 x1 w fun x8=>
 cL 74 [x8] w fun x9 w=>
 rF 31 x1 2 w fun x10=>
 rL 22 x10 w fun x11=>
 rN 22 3 x11 w fun x12=>
 oP (Instr.makeSlice 82 x12 x12) w fun x13 w=>
 LOOPI [5] [(iV 0)] w fun u4 w next4=>
 rF 31 x1 2 w fun x15=>
 rL 22 x15 w fun x16=>
 rN 22 3 x16 w fun x17=>
 rC (u4 5) x17 w fun x18=>
 BR x18
 (rX 82 x9 (u4 5) w fun x23=>
 rL 4 x23 w fun x24=>
 rD (Op.unary .not x24) w fun x25=>
 BR x25
 (rA (u4 5) (iV 1) w fun x20=>
 next4 [x20] w)
 (rL 31 x1 w fun x26=>
 cL 75 [x26,(u4 5)] w fun x28 w=>
 LOOPI [7] [(iV 0)] w fun u9 w next9=>
 rN 82 3 x28 w fun x31=>
 rC (u9 7) x31 w fun x32=>
 BR x32
 (rX 82 x13 (u9 7) w fun x39=>
 rL 4 x39 w fun x40=>
 BR x40
 (rX 82 x13 (u9 7) w fun x47=>
 oS 4 x47 (Value.bool true) w fun w=>
 rA (u9 7) (iV 1) w fun x34=>
 next9 [x34] w)
 (rX 82 x28 (u9 7) w fun x44=>
 rL 4 x44 w fun x45=>
 rX 82 x13 (u9 7) w fun x47=>
 oS 4 x47 x45 w fun w=>
 rA (u9 7) (iV 1) w fun x34=>
 next9 [x34] w))
 (rA (u4 5) (iV 1) w fun x20=>
 next4 [x20] w)))
 (R x13 w)
def cfg123:Cfg:=⟨extL,[],[(4,281474976694496,[5]),(9,281474439839872,[7])],[],[],[],[]⟩
theorem F123_call {a0:Value} {w:World} {R:VW} (h:F123 a0 w R):cL 123 [a0] w R:=co (g:=cfg123) Tryz.func123 (by kernel_rfl) (by kernel_rfl) (by kernel_rfl) h
open Rep (rep)
noncomputable def zpp (c:DCode) (p:Nat):List Nat:=zaS c.procs.length (zip c p 5)
noncomputable def zse (c:DCode) (r:Nat):List Nat:=zaS c.procs.length (FromP c r)
noncomputable def zjy (c:DCode) (r:Nat):List Nat:=(zse c r).flatMap (zpp c)
theorem zqB {c:DCode} (hc:CodeR c) (q:Nat):RootP c q↔q=zb0 c∨RP (zjy c) (zb0 c) q:=by
 have hmem:∀ r q,q∈zjy c r↔∃ p,p<c.procs.length∧FromP c r p∧q<c.procs.length∧zip c p 5 q:=fun r q=>by
   unfold zjy zse zpp
   simp only [List.mem_flatMap,zaE]
   exact ⟨fun ⟨p,⟨h1,h2⟩,h3,h4⟩=>⟨p,h1,h2,h3,h4⟩,fun ⟨p,h1,h2,h3,h4⟩=>⟨p,⟨h1,h2⟩,h3,h4⟩⟩
 constructor
 · intro h
   induction h with
   | main=>exact .inl rfl
   | @spawn r p q h0 h1 h2 hq ih=>
     have hm:=(hmem r q).2 ⟨p,h1.lt (h0.lt hc),h1,hq,h2⟩
     rcases ih with rfl | ih
     · exact .inr (.one hm)
     exact .inr (.more ih hm)
 rintro (rfl | h)
 · exact .main
 refine h.keeps (p:=RootP c) .main fun i j hi hj=>?_
 obtain ⟨p,_,h1,h2,h3⟩:=(hmem i j).1 hj
 exact .spawn hi h1 h3 h2
theorem zsf {α β:Type} {f:α→List β} {L:List α} {i j:Nat} (hi:i<L.length) (hj:j<(f L[i]).length):∃ h:((L.take i).flatMap f).length+j<(L.flatMap f).length,(L.flatMap f)[((L.take i).flatMap f).length+j]=(f L[i])[j]:=by
 have e:L.flatMap f=(L.take i).flatMap f++(f L[i]++(L.drop (i+1)).flatMap f):=by
   rw [←List.flatMap_cons,←List.flatMap_append]
   congr 1
   rw [←List.drop_eq_getElem_cons hi,List.take_append_drop]
 have hlt:((L.take i).flatMap f).length+j<(L.flatMap f).length:=by rw [e];simp only [List.length_append];omega
 refine ⟨hlt,?_⟩
 have:(L.flatMap f)[((L.take i).flatMap f).length+j]?=some (f L[i])[j]:=by
   rw [e,List.getElem?_append_right (by omega),Nat.add_sub_cancel_left,List.getElem?_append_left hj,List.getElem?_eq_getElem hj]
 rw [List.getElem?_eq_getElem hlt] at this
 exact Option.some.inj this
theorem zqC {α β:Type} {f:α→List β} {L:List α} {i:Nat} (hi:i<L.length):((L.take (i+1)).flatMap f).length=((L.take i).flatMap f).length+(f L[i]).length:=by
 rw [List.take_succ_eq_append_getElem hi,List.flatMap_append,List.length_append];simp
theorem zeI {w W0:World} {v0:Value} {c:DCode} (h0:Is W0 v0 c) (e0:Ext W0 w) (hc:CodeR c) :
   CALL Tryz.prog 74 [v0] w fun r w'=>Ext w w'∧Own w.heap.size w' r (zbl c.procs.length (RootP c)):=by
 refine F74_call ?_
 unfold F74
 have h8:=hc.1.procs8
 obtain ⟨hm1,hm2⟩:=zdn hc
 have hR:=zqB hc
 have hcn:∀ x,zjy c x=(zse c x).flatMap (zpp c):=fun _=>rfl
 have hnl:∀ {i j:Nat},i<c.procs.length→j∈zjy c i→j<c.procs.length∧True:=fun {i j} _ hj=>by
   rw [hcn] at hj
   obtain ⟨p,_,h⟩:=List.mem_flatMap.1 hj
   exact ⟨(zaE.1 h).1,trivial⟩
 refine zbr h0 e0 fun w1 hx1 hA=>?_
 have hs1:=hx1.size
 refine zaa zba ?_
 refine zac zbP (zar hA) (Ext.refl _) fun v11 h11=>?_
 refine zag u22 h11 ?_
 refine zdm h8.2 (by omega) fun w2 hx2 hM2=>?_
 have hs2:=hx2.size
 refine zac zbt hA hx2 fun v15 h15=>?_
 refine (zfq h15 hx2).mono ?_
 rintro _ w2a ⟨hx2a,rfl⟩
 rw [hm1]
 have hs2a:=hx2a.size
 have hM2a:=hM2.ext hx2a
 generalize hn:c.procs.length=n at *
 generalize zb0 c=a at *
 refine zbs (α:=Bool) rfl u82 ty4 hm2 ?_
 refine za2 (α:=Bool) rfl ty4 hM2a (by simp) hm2 zbh fun w2b hc2 hM2b=>?_
 have hc2':ChgI w1.heap.size (w1.heap.size+1) w2a w2b:=hc2.toI fun b hb=>by simp only [List.mem_cons,List.not_mem_nil,or_false] at hb;omega
 have hs2b:=hc2'.size
 have hM0l:((List.replicate n false).set a true).length=n:=by simp
 have hM0:∀ i,mkd ((List.replicate n false).set a true) i↔i=a:=fun i=>by
   rw [zb8 (by simp;exact hm2)]
   exact ⟨fun h=>h.resolve_left zbj,.inr⟩
 generalize (List.replicate n false).set a true=M0 at *
 have hx12b:Ext w1 w2b:=(hx2.trans hx2a).chgI hc2' (by omega)
 refine zac zbt hA hx12b fun v18 h18=>?_
 refine (zfq h18 hx12b).mono ?_
 rintro _ w2c ⟨hx2c,rfl⟩
 rw [hm1]
 have hs2c:=hx2c.size
 refine zb5 (x:=(a:Int)) u23 ty3 z3 (by decide) (zcq (by unfold I64;omega)) fun v20 w3 hx3 hr3=>?_
 have hs3:=hx3.size
 generalize hm:w1.heap.size=m at *
 have hW3:WI w1 w3 m n w2c.heap.size w3.heap.size v20 [a] M0:=⟨(((hx2.trans hx2a).toI.trans hc2').trans hx2c.toI).trans hx3.toI,hr3,(hM2b.ext hx2c).ext hx3,by omega,by have:=hM2b.lt m (by simp);omega,hs3,Nat.le_refl _⟩
 have hfl:∀ x p,p∈zse c x→p<n:=fun x p hp=>by have:=(zaE.1 hp).1;omega
 have hfll:∀ x,(zse c x).length≤n:=fun x=>by have:=zaT (n:=c.procs.length) (p:=FromP c x);rw [hn] at this;unfold zse;rw [hn];exact this
 have holl:∀ x,(zpp c x).length≤n:=fun x=>by have:=zaT (n:=c.procs.length) (p:=zip c x 5);rw [hn] at this;unfold zpp;rw [hn];exact this
 generalize hnx:zjy c=nx at *
 refine zaq (1+n) (fun h us w'=>∃ (tv:Value) (lo hi:Nat) (L:List Nat) (ms:List Bool),us=[tv,.int .i64 (h:Int)]∧h≤L.length∧WI w1 w' m n lo hi tv L ms∧SInv nx n a M0 ms (L.drop h) h) 0 (Nat.zero_le _) ⟨v20,_,_,[a],_,rfl,by simp,hW3,SInv.start hM0l hm2⟩ ?_
 rintro h mk u w4 hkm ⟨tv,lo,hi,L,ms,hu,hhL,hW4,hS4⟩
 obtain ⟨hu1,hu2⟩:=zb1 hu;clear hu
 rw [hu1,hu2]
 have hb4:=hS4.bound
 rw [List.length_drop] at hb4
 refine zag u23 hW4.row.is ?_
 rw [zae]
 refine zah ?_
 refine br (fun hlt=>?_) (fun hge=>?_)
 case refine_2=>
   have hhe:h=L.length:=by omega
   rw [hhe,List.drop_length] at hS4
   have hfin:=hS4.fin fun i hi hne=>absurd ((hM0 i).1 hi) hne
   have hms:ms=zbl n (RootP c):=zbH hS4.len fun i hi=>by rw [hfin i,hM0,hR]
   rw [←hms]
   have hx4:Ext w1 w4:=(Ext.refl w1).chgI hW4.chg (by omega)
   exact ⟨hx1.trans hx4,[m],hW4.mks,fun b hb=>by simp only [List.mem_cons,List.not_mem_nil,or_false] at hb;omega⟩
 have hh:h<L.length:=by omega
 have hx5:=zak w4
 have hW5:=hW4.step hx5
 generalize World.drew1 w4=w5 at *
 have hxa:∀ {w:World} {lo hi tv L ms},WI w1 w m n lo hi tv L ms→Ext w1 w:=fun h=>(Ext.refl w1).chgI h.chg (by omega)
 refine zac zbt hA (hxa hW5) fun v27 h27=>?_
 refine zad u23 ty3 (i:=h) hW5.row.is (by rw [zae];exact hh) fun b1 o1 hA1=>?_
 rw [zaL] at hA1
 refine zab ty3 hA1 (Ext.refl _) fun _=>?_
 generalize hx:L[h]=x at *
 have hdr:L.drop h=x :: L.drop (h+1):=by rw [List.drop_eq_getElem_cons hh,hx]
 have hxn:x<n:=(hS4.tdo x (by rw [hdr];simp)).2
 refine (zeD h27 (hxa hW5) hc (by rw [hn];exact hxn)).mono ?_
 rintro _ w6a ⟨hx6a,gf,rfl,hgf,hMf⟩
 refine (zdU hMf.is (Ext.refl _) (by rw [zaj];omega)).mono ?_
 rintro v33 w6 ⟨hx6,ho6⟩
 have hFr:(fun i=>i=x∨RP (zis c) x i)=FromP c x:=rfl
 rw [zaj,ze7,hFr] at ho6
 have ho6':Own w6a.heap.size w6 v33 (zaA (zse c x)):=ho6
 have hW6:=(hW5.step hx6a).step hx6
 have hI6:=hW5.h3
 have hs6a:=hx6a.size
 have hs6:=hx6.size
 have hS6:SIn2 nx n a M0 ms (L.drop (h+1)) h x 0:=hS4.pop (fun i=>by rw [hdr];simp [or_comm]) (by rw [hdr];simp)
 have hfx:=hfll x
 have hflx:=hfl x
 have hnxx:nx x=(zse c x).flatMap (zpp c):=hcn x
 generalize zse c x=Fl at *
 refine zaq Fl.length (fun k us w'=>∃ (tv:Value) (lo hi:Nat) (L:List Nat) (ms:List Bool),us=[tv,.int .i64 (k:Int)]∧k≤Fl.length∧h<L.length∧WI w1 w' m n lo hi tv L ms∧SIn2 nx n a M0 ms (L.drop (h+1)) h x ((Fl.take k).flatMap (zpp c)).length∧OwnI w6a.heap.size w6.heap.size w' v33 (zaA Fl)∧(hi≤w6a.heap.size∨w6.heap.size≤lo)∧w6.heap.size≤w'.heap.size) 0 (Nat.zero_le _) ⟨tv,lo,hi,L,ms,rfl,Nat.zero_le _,hh,hW6,hS6,ho6'.toI,.inl (by omega),Nat.le_refl _⟩ ?_
 rintro k mk9 u w7 hkm9 ⟨tv7,lo7,hi7,L7,ms7,hu,hkl,hh7,hW7,hS7,ho7,hd7,hz7⟩
 obtain ⟨hu1,hu2⟩:=zb1 hu;clear hu
 rw [hu1,hu2]
 refine zag u23 ho7.is ?_
 rw [zae]
 refine zah ?_
 refine br (fun hlt7=>?_) (fun hge7=>?_)
 case refine_2=>
   refine zaf (by omega) ?_
   refine ⟨mk-1,by omega,h+1,by omega,tv7,lo7,hi7,L7,ms7,rfl,by omega,hW7,hS7.done ?_⟩
   rw [hnxx,show Fl.take k=Fl from List.take_of_length_le (by omega)]
   exact Nat.le_refl _
 have hk:k<Fl.length:=by omega
 have hx8:=zak w7
 have hW8:=hW7.step hx8
 have ho8:=ho7.ext hx8
 have hs8:=hx8.size
 generalize World.drew1 w7=w8 at *
 refine zac zbt hA (hxa hW8) fun v40 h40=>?_
 refine zad u23 ty3 (i:=k) ho8.is (by rw [zae];exact hk) fun b2 o2 hA2=>?_
 rw [zaL] at hA2
 refine zab ty3 hA2 (Ext.refl _) fun _=>?_
 have hfp:=fun j=>zsf (f:=zpp c) (L:=Fl) (i:=k) (j:=j) hk
 have hfn:=zqC (f:=zpp c) (L:=Fl) (i:=k) hk
 have hpn:=hflx _ (List.getElem_mem hk)
 rw [←hnxx] at hfp
 generalize Fl[k]=p at *
 refine (ziq h40 (hxa hW8) hc (p:=p) (op:=5) (by rw [hc.2.1.1,hn];exact hpn) (.inr rfl)).mono ?_
 rintro v45 w9 ⟨hx9,ho9⟩
 have ho9':Own w8.heap.size w9 v45 (zaA (zpp c p)):=ho9
 have hW9:=hW8.step hx9
 have hs9:=hx9.size
 have hop:=holl p
 generalize zpp c p=Ol at *
 generalize hq0:((Fl.take k).flatMap (zpp c)).length=q0 at *
 have hI8:=hW8.h3
 refine zaq Ol.length (fun j us w'=>∃ (tv:Value) (lo hi:Nat) (L:List Nat) (ms:List Bool),us=[tv,.int .i64 (j:Int)]∧j≤Ol.length∧h<L.length∧WI w1 w' m n lo hi tv L ms∧SIn2 nx n a M0 ms (L.drop (h+1)) h x (q0+j)∧OwnI w6a.heap.size w6.heap.size w' v33 (zaA Fl)∧(hi≤w6a.heap.size∨w6.heap.size≤lo)∧OwnI w8.heap.size w9.heap.size w' v45 (zaA Ol)∧(hi≤w8.heap.size∨w9.heap.size≤lo)∧w9.heap.size≤w'.heap.size) 0 (Nat.zero_le _) ⟨tv7,lo7,hi7,L7,ms7,rfl,Nat.zero_le _,hh7,hW9,hS7,ho8.ext hx9,hd7,ho9'.toI,.inl hI8,Nat.le_refl _⟩ ?_
 rintro j mk13 u w10 hkm13 ⟨tv10,lo10,hi10,L10,ms10,hu,hjl,hh10,hW10,hS10,ho10,hd10,hp10,hd10b,hz10⟩
 obtain ⟨hu1,hu2⟩:=zb1 hu
 rw [hu1,hu2]
 refine zag u23 hp10.is ?_
 rw [zae]
 refine zah ?_
 refine br (fun hlt10=>?_) (fun hge10=>?_)
 case refine_2=>
   refine zaf (by omega) ?_
   refine ⟨mk9-1,by omega,k+1,by omega,tv10,lo10,hi10,L10,ms10,rfl,by omega,hh10,hW10,?_,ho10,hd10,by omega⟩
   rw [hfn,show Ol.length=j by omega]
   exact hS10
 have hj:j<Ol.length:=by omega
 obtain ⟨hq,hqe⟩:=hfp j hj
 have hrd:∀ {w:World} {K:Value→Prop} (ho:OwnI w8.heap.size w9.heap.size w v45 (zaA Ol)) (kk:K (.int .i64 (((nx x)[q0+j]:Nat):Int))),RD Tryz.prog (Instr.indexAt 23 v45 (.int .i64 (j:Int))) w fun x37=>RD Tryz.prog (Instr.loadAt 3 x37) w K:=fun ho kk=>by
   refine zad u23 ty3 (i:=j) ho.is (by rw [zae];exact hj) fun b1 o1 hA1=>?_
   rw [zaL,←hqe] at hA1
   exact zab ty3 hA1 (Ext.refl _) fun _=>kk
 have hy:=hnl hxn (List.getElem_mem hq)
 refine hrd hp10 ?_
 have hlen10:=hS10.len
 refine zad u82 ty4 hW10.mks.is (by rw [hlen10];exact hy.1) fun b3 o3 hA3=>?_
 refine zaw ty4 hA3 (Ext.refl _) ?_
 refine zaV ?_
 have hmk10:=zaM (ms:=ms10) (i:=(nx x)[q0+j]) (by rw [hlen10];exact hy.1)
 refine zbw (fun hf=>?_) (fun hf=>?_)
 · have hnm:¬mkd ms10 (nx x)[q0+j]:=by rw [hmk10];simpa using hf
   refine hrd hp10 ?_
   refine zbs (α:=Bool) rfl u82 ty4 hy.1 ?_
   refine za2 (α:=Bool) rfl ty4 hW10.mks hlen10 hy.1 zbh fun w11 hc11 hm11=>?_
   have hW11:=hW10.mark hc11 hm11
   have hc11':ChgI m (m+1) w10 w11:=hc11.toI fun b hb=>by simp only [List.mem_cons,List.not_mem_nil,or_false] at hb;omega
   have hm4:=hW5.mks.lt m (by simp)
   have ho11:=ho10.chg hc11' (by omega)
   have hp11:=hp10.chg hc11' (by omega)
   refine hrd hp11 ?_
   have hS11:=hS10.push hq hy.1 hnm
   generalize (nx x)[q0+j]=y at *
   have hLb:L10.length≤2+n:=by
     have h1:=hS10.cnt
     have h2:=ze6 ms10
     rw [List.length_drop] at h1
     omega
   refine zcI (x:=(y:Int)) u23 ty3 z3 zc3 (by decide) hW11.row (zb4 0 0 (by unfold I64;omega)) (by rw [zan,zae];omega) (by rw [zae];omega) fun v54 w12 lo12 hi12 hc12 hr12 hd12=>?_
   have hW12:=hW11.push hc12 hr12 hd12
   have hsz11:=hc11'.size
   have hsz12:=hc12.size
   refine zaf (by omega) ?_
   refine ⟨mk13-1,by omega,j+1,by omega,v54,lo12,hi12,L10++[y],_,rfl,by omega,by simp;omega,hW12,?_,ho11.chg hc12 (by omega),by omega,hp11.chg hc12 (by omega),by omega,by omega⟩
   rw [List.drop_append_of_le_length (by omega)]
   exact hS11
 have hnm:mkd ms10 (nx x)[q0+j]:=by rw [hmk10];simpa using hf
 refine zaf (by omega) ?_
 exact ⟨mk13-1,by omega,j+1,by omega,tv10,lo10,hi10,L10,ms10,rfl,by omega,hh10,hW10,hS10.skip hq hnm,ho10,hd10,hp10,hd10b,hz10⟩
theorem zfu {w W0:World} {v0:Value} {c:DCode} (h0:Is W0 v0 c) (e0:Ext W0 w) (hc:CodeR c) :
   CALL Tryz.prog 123 [v0] w fun r w'=>Ext w w'∧Own w.heap.size w' r (zbl c.procs.length (UsedP c)):=by
 refine F123_call ?_
 unfold F123
 have h8:=hc.1.procs8
 refine zbr h0 e0 fun w1 hx1 hA=>?_
 have hs1:=hx1.size
 refine zac zbt hA (Ext.refl _) fun v8 h8'=>?_
 refine (zeI h8' (Ext.refl _) hc).mono ?_
 rintro v9 w2 ⟨hx2,ho2⟩
 have hs2:=hx2.size
 refine zaa zba ?_
 refine zac zbP (zar hA) hx2 fun v11 h11=>?_
 refine zag u22 h11 ?_
 refine zdm h8.2 (by omega) fun w3 hx3 hM3=>?_
 have hs3:=hx3.size
 have ho3:=ho2.toI.ext hx3
 have hm3:=hM3.lt _ (List.mem_singleton.2 rfl)
 have hx13:=hx2.trans hx3
 generalize hm:w2.heap.size=m at *
 rw [zco c.procs.length (p:=fun q=>∃ r,r<0∧RootP c r∧FromP c r q) (fun i ⟨j,h,_⟩=>by omega)] at hM3
 refine zaq c.procs.length (fun k us w'=>us=[.int .i64 (k:Int)]∧k≤c.procs.length∧ChgI m (m+1) w3 w'∧Mine [m] w' (.slice (some ⟨m,0,none⟩) c.procs.length c.procs.length) (zbl c.procs.length fun q=>∃ r,r<k∧RootP c r∧FromP c r q)) 0 (Nat.zero_le _) ⟨rfl,Nat.zero_le _,ChgI.refl _,hM3⟩ ?_
 rintro k mk u w4 hkm ⟨hu,hkl,hc4,hM4⟩
 simp only [List.map_cons,List.map_nil,List.cons.injEq,and_true] at hu
 rw [hu]
 have hx4:Ext w1 w4:=hx13.chgI hc4 (by omega)
 have ho4:=ho3.chg hc4 (by omega)
 have hm4:=hM4.lt _ (List.mem_singleton.2 rfl)
 refine zaa zba ?_
 refine zac zbP (zar hA) hx4 fun v16 h16=>?_
 refine zag u22 h16 ?_
 refine zah ?_
 refine br (fun hlt=>?_) (fun hge=>?_)
 case refine_2=>
   have hke:k=c.procs.length:=by omega
   have hS:(zbl c.procs.length fun q=>∃ r,r<k∧RootP c r∧FromP c r q)=zbl c.procs.length (UsedP c):=zaK fun q _=>
     ⟨fun ⟨r,_,h1,h2⟩=>⟨r,h1,h2⟩,fun ⟨r,h1,h2⟩=>⟨r,by rw [hke];exact h1.lt hc,h1,h2⟩⟩
   rw [hS] at hM4
   exact ⟨hx1.trans hx4,[m],hM4,fun b hb=>by simp only [List.mem_cons,List.not_mem_nil,or_false] at hb;omega⟩
 have hk:k<c.procs.length:=by omega
 refine zad u82 ty4 (i:=k) ho4.is (by rw [zaj];exact hk) fun b2 o2 hA2=>?_
 refine zaw ty4 hA2 (Ext.refl _) ?_
 have hmk:=zaB (n:=c.procs.length) (p:=RootP c) (i:=k)
 rw [zaM (by rw [zaj];exact hk)] at hmk
 refine zaV ?_
 refine zbw (fun hf=>?_) (fun hf=>?_)
 · have hnr:¬RootP c k:=fun h=>by rw [hmk.2 ⟨hk,h⟩] at hf;cases hf
   refine zaf (by omega) ?_
   refine ⟨mk-1,by omega,k+1,by omega,rfl,by omega,hc4,?_⟩
   rw [zaK (q:=fun q=>∃ r,r<k∧RootP c r∧FromP c r q) fun q _=>⟨fun ⟨r,h1,h2,h3⟩=>by
     by_cases e:r=k
     · subst e;exact absurd h2 hnr
     exact ⟨r,by omega,h2,h3⟩,fun ⟨r,h1,h2⟩=>⟨r,by omega,h2⟩⟩]
   exact hM4
 have hroot:RootP c k:=(hmk.1 (by simpa using hf)).2
 refine zac zbt hA hx4 fun v26 h26=>?_
 refine (zeD h26 hx4 hc hk).mono ?_
 rintro _ w5 ⟨hx5,gf,rfl,hgf,hMf⟩
 have hFr:(fun i=>i=k∨RP (zis c) k i)=FromP c k:=rfl
 rw [hFr] at hMf
 have ho5:=ho4.ext hx5
 have hM5:=hM4.ext hx5
 have hc5:=hc4.trans hx5.toI
 refine zaq c.procs.length (fun j us w'=>us=[.int .i64 (j:Int)]∧j≤c.procs.length∧ChgI m (m+1) w5 w'∧Mine [m] w' (.slice (some ⟨m,0,none⟩) c.procs.length c.procs.length) (zbl c.procs.length fun q=>(∃ r,r<k∧RootP c r∧FromP c r q)∨(q<j∧FromP c k q))) 0 (Nat.zero_le _) ⟨rfl,Nat.zero_le _,ChgI.refl _,by rw [zaK (q:=fun q=>∃ r,r<k∧RootP c r∧FromP c r q) fun q _=>⟨fun h=>h.resolve_right fun h=>by omega,.inl⟩];exact hM5⟩ ?_
 rintro j mj u w6 hjm ⟨hu,hjl,hc6,hM6⟩
 simp only [List.map_cons,List.map_nil,List.cons.injEq,and_true] at hu
 rw [hu]
 refine zg1 u82 ?_
 refine zah ?_
 refine br (fun hlt6=>?_) (fun hge6=>?_)
 case refine_2=>
   refine zaf (by omega) ?_
   refine ⟨mk-1,by omega,k+1,by omega,rfl,by omega,hc5.trans hc6,?_⟩
   rw [zaK (q:=fun q=>(∃ r,r<k∧RootP c r∧FromP c r q)∨(q<j∧FromP c k q)) fun q hq=>⟨fun ⟨r,h1,h2,h3⟩=>by
     by_cases e:r=k
     · subst e;exact .inr ⟨by omega,h3⟩
     exact .inl ⟨r,by omega,h2,h3⟩,fun h=>h.elim (fun ⟨r,h1,h2⟩=>⟨r,by omega,h2⟩) fun ⟨_,h⟩=>⟨k,by omega,hroot,h⟩⟩]
   exact hM6
 have hj:j<c.procs.length:=by omega
 have hMf6:Is w6 (.slice (some ⟨gf,0,none⟩) c.procs.length c.procs.length) (zbl c.procs.length (FromP c k)):=(hMf.keep fun b hb=>by
   simp only [List.mem_cons,List.not_mem_nil,or_false] at hb
   subst hb
   exact hc6.block b (hMf.lt b (by simp)) (by omega)).is
 refine zad u82 ty4 (i:=j) hM6.is (by rw [zaj];exact hj) fun b3 o3 hA3=>?_
 refine zaw ty4 hA3 (Ext.refl _) ?_
 have hm1:=zaB (n:=c.procs.length) (p:=fun q=>(∃ r,r<k∧RootP c r∧FromP c r q)∨(q<j∧FromP c k q)) (i:=j)
 have hm2:=zaB (n:=c.procs.length) (p:=FromP c k) (i:=j)
 rw [zaM (by rw [zaj];exact hj)] at hm1 hm2
 have hst:∀ (bb:Bool),(bb=true↔((∃ r,r<k∧RootP c r∧FromP c r j)∨FromP c k j))→RD Tryz.prog (Instr.indexAt 82 (.slice (some ⟨m,0,none⟩) c.procs.length c.procs.length) (.int .i64 (j:Int))) w6 fun x47=>OPU Tryz.prog (Instr.storeAt 4 x47 (.bool bb)) w6 fun w=>RD Tryz.prog (bin .add 3 (.tmp 0) (.const undef) (.int .i64 (j:Int)) (.int .i64 1)) w fun x34=>∃ m',m'<mj∧∃ k',k'+m'=c.procs.length∧[x34]=[.int .i64 (k':Int)]∧k'≤c.procs.length∧ChgI m (m+1) w5 w∧Mine [m] w (.slice (some ⟨m,0,none⟩) c.procs.length c.procs.length) (zbl c.procs.length fun q=>(∃ r,r<k∧RootP c r∧FromP c r q)∨(q<k'∧FromP c k q)):=fun bb hbb=>by
   refine zbs (α:=Bool) rfl u82 ty4 hj ?_
   refine za2 (α:=Bool) rfl ty4 hM6 zaj hj zbh fun w7 hc7 hm7=>?_
   have hc7':ChgI m (m+1) w6 w7:=hc7.toI fun b hb=>by simp only [List.mem_cons,List.not_mem_nil,or_false] at hb;omega
   refine zaf (by omega) ?_
   refine ⟨mj-1,by omega,j+1,by omega,rfl,by omega,hc6.trans hc7',?_⟩
   have hset:(zbl c.procs.length fun q=>(∃ r,r<k∧RootP c r∧FromP c r q)∨(q<j∧FromP c k q)).set j bb=zbl c.procs.length fun q=>(∃ r,r<k∧RootP c r∧FromP c r q)∨(q<j+1∧FromP c k q):=zbH (by rw [List.length_set,zaj]) fun q hq=>by
     unfold mkd
     rw [List.getD_eq_getElem?_getD,List.getElem?_set]
     by_cases e:j=q
     · subst e
       simp only [zaj,hj,if_true,Option.getD_some,hbb]
       exact ⟨fun h=>h.imp id fun h=>⟨by omega,h⟩,fun h=>h.imp id (·.2)⟩
     rw [if_neg e,←List.getD_eq_getElem?_getD]
     show mkd _ q↔_
     rw [zaB]
     exact ⟨fun ⟨_,h⟩=>h.imp id fun h=>⟨by omega,h.2⟩,fun h=>⟨hq,h.imp id fun h=>⟨by omega,h.2⟩⟩⟩
   rw [←hset];exact hm7
 refine zbw (fun hf6=>?_) (fun hf6=>?_)
 · refine hst true ⟨fun _=>((hm1.1 hf6).2).imp id (·.2),fun _=>rfl⟩
 refine zad u82 ty4 (i:=j) hMf6 (by rw [zaj];exact hj) fun b4 o4 hA4=>?_
 refine zaw ty4 hA4 (Ext.refl _) ?_
 refine hst _ ⟨fun h=>.inr (hm2.1 h).2,fun h=>hm2.2 ⟨hj,h.resolve_left fun h=>?_⟩⟩
 rw [hm1.2 ⟨hj,.inl h⟩] at hf6;cases hf6
def F146 (a0 a1:Value) (w:World) (R:VW):Prop:=
 NIL a0 <|
 rF 97 a0 0 w fun x16=>
 rF 31 x16 2 w fun x17=>
 rL 22 x17 w fun x18=>
 rN 22 3 x18 w fun x19=>
 oP (Instr.makeSlice 23 x19 x19) w fun x20 w=>
 rN 23 3 x20 w fun x22=>
 LOOPI [23] [(iV 0)] w fun u3 w next3=>
 rC (u3 23) x22 w fun x24=>
 BR x24
 (NIL a0 <|
 rF 97 a0 5 w fun x28=>
 rL 3 x28 w fun x29=>
 cL 150 [x29,(u3 23)] w fun x31 w=>
 rD (Op.unary .not x31) w fun x32=>
 BR x32
 (rX 23 x20 (u3 23) w fun x35=>
 oS 3 x35 (iV 63) w fun w=>
 rA (u3 23) (iV 1) w fun x36=>
 next3 [x36] w)
 (rA (u3 23) (iV 1) w fun x36=>
 next3 [x36] w))
 (LOOPI [7] [(Value.bool true)] w fun u9 w next9=>
 BR (u9 7)
 (NIL a0 <|
 rF 97 a0 6 w fun x40=>
 rL 3 x40 w fun x41=>
 cL 107 [x41] w fun x42 w=>
 rN 23 3 x42 w fun x43=>
 LOOPI [7,44] [(Value.bool false),(iV 0)] w fun u12 w next12=>
 rC (u12 44) x43 w fun x45=>
 BR x45
 (rX 23 x42 (u12 44) w fun x46=>
 rL 3 x46 w fun x47=>
 rX 23 x20 x47 w fun x53=>
 rL 3 x53 w fun x54=>
 cL 147 [a0,a1,x47,x54] w fun x55 w=>
 cL 88 [a0,x47] w fun x58 w=>
 rN 23 3 x58 w fun x59=>
 LOOPI [7,60] [(u12 7),(iV 0)] w fun u16 w next16=>
 rC (u16 60) x59 w fun x61=>
 BR x61
 (rX 23 x58 (u16 60) w fun x62=>
 rL 3 x62 w fun x63=>
 NIL a0 <|
 rF 97 a0 0 w fun x66=>
 rF 31 x66 4 w fun x67=>
 rL 29 x67 w fun x68=>
 rX 29 x68 x63 w fun x70=>
 rL 94 x70 w fun x71=>
 oP (Instr.alloc 94 true (.tuple #[])) w fun x13 w=>
 oS 94 x13 x71 w fun w=>
 (fun w=>rF 94 x13 0 w fun x72=>
 rL 3 x72 w fun x73=>
 rB .eql 3 T0 U0 x73 (iV 4) w fun x74=>
 BR x74
 (rF 94 x13 1 w fun x77=>
 rL 3 x77 w fun x78=>
 rX 23 x20 x78 w fun x79=>
 rL 3 x79 w fun x80=>
 rX 23 x55 x63 w fun x83=>
 rL 3 x83 w fun x84=>
 rB .and 3 T0 T0 x80 x84 w fun x85=>
 rF 94 x13 1 w fun x87=>
 rL 3 x87 w fun x88=>
 rX 23 x20 x88 w fun x89=>
 rL 3 x89 w fun x90=>
 rB .neq 3 T0 T0 x85 x90 w fun x91=>
 BR x91
 ((fun w=>rF 94 x13 1 w fun x94=>
 rL 3 x94 w fun x95=>
 rX 23 x20 x95 w fun x96=>
 rL 3 x96 w fun x97=>
 rX 23 x55 x63 w fun x100=>
 rL 3 x100 w fun x101=>
 rB .and 3 T0 T0 x97 x101 w fun x102=>
 rX 23 x20 x95 w fun x103=>
 oS 3 x103 x102 w fun w=>
 rA (u16 60) (iV 1) w fun x104=>
 next16 [(Value.bool true),x104] w) (World.drew1 w))
 (rA (u16 60) (iV 1) w fun x104=>
 next16 [(u16 7),x104] w))
 (rA (u16 60) (iV 1) w fun x104=>
 next16 [(u16 7),x104] w)) (World.drew1 w))
 (rA (u12 44) (iV 1) w fun x105=>
 next12 [(u16 7),x105] w))
 (next9 [(u12 7)] w))
 (R x20 w))
def cfg146:Cfg:=⟨extL,[],[(3,137430564928,[23]),(9,81129638414606681695651566204544,[7]),(12,81129638414606681678196819113600,[7,44]),(16,40564819207302187926389895737472,[7,60])],[(19,[0,1,2,3,4,5,6,7,8,9,10,11,12,13,14,15,16,17,18,19,20],0),(20,[0,1,2,3,4,5,6,7,8,9,10,11],0)],[],[],[]⟩
theorem F146_call {a0 a1:Value} {w:World} {R:VW} (h:F146 a0 a1 w R):cL 146 [a0,a1] w R:=co (g:=cfg146) Tryz.func146 (by kernel_rfl) (by kernel_rfl) (by kernel_rfl) h
open Rep (rep)
theorem BI.updM {c:DCode} (hc:CodeR c) {out:List Nat} (h:BI c out) {p i hh:Nat} (hu:UsedP c p) (hi:zaC c p i) (ho:(zal c i).op=4) (hgz:∀ l,l<6→hh.testBit l=false→LostM c (tK (zcr c)) (tG (zcr c)) p none l) :
   BI c (out.set (agN c i) (zau out (agN c i) &&& zau (zbU c (zcr c) p hh) i)):=by
 have hp:=hu.lt hc
 have hil:=(zby hc (by rw [hc.2.1.1];exact hp) hi).1
 have hq:=(zbN hc hil (.inl ho)).2
 refine ⟨by simp [h.len],fun x hx=>?_,fun r l hr hl hb=>?_,fun r l hr hl=>?_⟩
 · rcases zio hx with rfl | hx
   · exact Nat.lt_of_le_of_lt Nat.and_le_left (h.lt0 _)
   exact h.lt x hx
 · rw [zbQ (by rw [h.len];exact hq)] at hb
   split at hb
   · rename_i e
     subst e
     rw [Nat.testBit_and,Bool.and_eq_false_iff] at hb
     rcases hb with hb | hb
     · exact h.snd _ l hr hl hb
     refine .call hu hi ho ?_
     have k:=(znT hil hl).1 hb
     have key:∀ {i l:Nat},l<6→LostP c (tK (zcr c)) (tG (zcr c)) p (fun l=>hh.testBit l=true) i l→LostM c (tK (zcr c)) (tG (zcr c)) p (some i) l:=fun {i l} hl k=>by
       induction k with
       | ent h0=>exact .ent (hgz _ hl (by simpa using h0))
       | gen h0 hj h1=>exact .gen h0 hj h1
       | pass h0 hj _ h2 ih=>exact .pass h0 hj (ih hl) h2
     exact key hl k
   exact h.snd r l hr hl hb
 rw [zbQ (by rw [h.len];exact hq)]
 split
 · rename_i e
   rw [Nat.testBit_and,e,h.root r l hr hl];rfl
 exact h.root r l hr hl
def CL (c:DCode) (out:List Nat) (p i:Nat):Prop:=zau out (agN c i) &&& zau (zbU c (zcr c) p (zau out p)) i=zau out (agN c i)
structure BQ (c:DCode) (out0:List Nat) (ag:Bool) (out:List Nat) (D:Nat→Nat→Prop):Prop where
 bi:BI c out
 yes:ag=true→out.sum<out0.sum
 no:ag=false→out=out0∧∀ p i,D p i→UsedP c p→zaC c p i→(zal c i).op=4→CL c out0 p i
theorem BQ.mono {c:DCode} {out0 out:List Nat} {ag:Bool} {D D':Nat→Nat→Prop} (H:BQ c out0 ag out D) (h:∀ p i,UsedP c p→zaC c p i→(zal c i).op=4→D' p i→D p i):BQ c out0 ag out D':=
 ⟨H.bi,H.yes,fun e=>⟨(H.no e).1,fun p i hd hu hl ho=>(H.no e).2 p i (h p i hu hl ho hd) hu hl ho⟩⟩
theorem BQ.set {c:DCode} (hc:CodeR c) {out0 out:List Nat} {ag:Bool} {D D':Nat→Nat→Prop} (H:BQ c out0 ag out D) {p i hh:Nat} (hu:UsedP c p) (hi:zaC c p i) (ho:(zal c i).op=4) (hb:∀ l,l<6→hh.testBit l=false→LostM c (tK (zcr c)) (tG (zcr c)) p none l)
   (hne:zau out (agN c i) &&& zau (zbU c (zcr c) p hh) i≠zau out (agN c i)):BQ c out0 true (out.set (agN c i) (zau out (agN c i) &&& zau (zbU c (zcr c) p hh) i)) D':=by
 have hil:=(zby hc (by rw [hc.2.1.1];exact hu.lt hc) hi).1
 have hq:=(zbN hc hil (.inl ho)).2
 refine ⟨H.bi.updM hc hu hi ho hb,fun _=>?_,fun e=>by cases e⟩
 have h1:=zgX (l:=out) (i:=agN c i) (v:=zau out (agN c i) &&& zau (zbU c (zcr c) p hh) i) (by rw [H.bi.len];exact hq)
 have h2:=ztk hne
 cases ag with
 | true=>have:=H.yes rfl;omega
 | false=>rw [(H.no rfl).1] at h1 h2 ⊢;omega
theorem BQ.skip {c:DCode} {out0 out:List Nat} {ag:Bool} {D D':Nat→Nat→Prop} (H:BQ c out0 ag out D) {p i hh:Nat} (hz:ag=false→hh=zau out0 p) (hD:∀ q j,D' q j→D q j∨(q=p∧j=i)) (he:zau out (agN c i) &&& zau (zbU c (zcr c) p hh) i=zau out (agN c i)):BQ c out0 ag out D':=
 ⟨H.bi,H.yes,fun e=>⟨(H.no e).1,fun q j hd hu hl ho=>by
   rcases hD q j hd with h | ⟨rfl,rfl⟩
   · exact (H.no e).2 q j h hu hl ho
   unfold CL;rw [←hz e,←(H.no e).1];exact he⟩⟩
def BS (c:DCode) (k:Nat) (out:List Nat):Prop:=out.length=c.procs.length∧∀ p,p<c.procs.length→(¬(p<k∧¬RootP c p)→zau out p=0)∧(p<k→¬RootP c p→zau out p=63)
theorem BS.fin {c:DCode} (hc:CodeR c) {out:List Nat} (h:BS c c.procs.length out):BI c out:=BI.start hc out h.1 fun p hp=>⟨fun hr=>(h.2 p hp).1 fun hn=>hn.2 hr,fun hr=>(h.2 p hp).2 hp hr⟩
theorem zoJ {w W0 W1:World} {b:Nat} {v1:Value} {c:DCode} (hW:WAt W0 b c) (e0:Ext W0 w) (h1:Is W1 v1 (zfL (zcr c))) (e1:Ext W1 w) (hc:CodeR c) :
   CALL Tryz.prog 146 [.pointer (some ⟨b,0,none⟩),v1] w fun r w'=>Ext w w'∧Own w.heap.size w' r (zaA (zt0 c)):=by
 refine F146_call ?_
 unfold F146
 have h8:=hc.1.procs8
 have hil:=hc.f.ins
 have hTR:=zft c
 refine NIL.mk rfl ?_
 refine zaa zbd ?_
 refine zaa zba ?_
 refine zac zbP (zar hW.wl.code) e0 fun v18 h18=>?_
 refine zag u22 h18 ?_
 have hn:c.procs.length=c.procs.length:=rfl
 generalize hnn:c.procs.length=n at hn
 rw [hnn] at h8
 refine zcK (by omega) (by omega) fun w2 hx2 hM2=>?_
 have hs2:=hx2.size
 generalize hg:w.heap.size=g at *
 have hF2:FW w w2 g n (List.replicate n 0):=⟨hx2,hM2,by omega⟩
 have hB2:BS c 0 (List.replicate n 0):=⟨by simp [hnn],fun p hp=>⟨fun _=>by rw [←zaX (by simp;omega)];simp,fun h=>by omega⟩⟩
 refine zg1 u23 ?_
 have hrs:zce c<256:=za3 (by rw [hnn];omega)
 refine zaq n (fun k us w'=>∃ out,us=[.int .i64 (k:Int)]∧k≤n∧FW w w' g n out∧BS c k out) 0 (Nat.zero_le _) ⟨_,rfl,Nat.zero_le _,hF2,hB2⟩ ?_
 rintro k mk u w3 hkm ⟨out,hu,hkl,hF3,hB3⟩
 simp only [List.map_cons,List.map_nil,List.cons.injEq,and_true] at hu
 rw [hu]
 have hol:=hB3.1
 refine zah ?_
 refine br (fun hlt=>?_) (fun hge=>?_)
 · have hk:k<n:=by omega
   refine NIL.mk rfl ?_
   refine zaa zh0 ?_
   refine zab ty3 hW.roots (e0.trans hF3.ext) fun _=>?_
   refine (zee (m:=zce c) (i:=k) (by omega) (by omega)).mono ?_
   rintro _ w4 ⟨hx4,rfl⟩
   have hF4:=hF3.step hx4
   have hbit:(zce c).testBit k=true↔RootP c k:=by
     unfold zce;rw [zaO]
     exact ⟨fun h=>h.2,fun h=>⟨by omega,h⟩⟩
   refine zaV ?_
   refine zbw (fun hf=>?_) (fun hf=>?_)
   · have hnr:¬RootP c k:=fun h=>by rw [hbit.2 h] at hf;cases hf
     refine zbs (α:=Int) rfl u23 ty3 hk ?_
     refine za2 (α:=Int) rfl ty3 hF4.mine (by rw [zae];omega) hk (zbk (v:=63) (by omega)) fun w5 hc5 hm5=>?_
     have hF5:=hF4.set (v:=63) hc5 hm5
     refine zaf (by omega) ?_
     refine ⟨mk-1,by omega,k+1,by omega,_,rfl,by omega,hF5,by simp [hol],fun p hp=>?_⟩
     rw [zbQ (by rw [hol,hnn];exact hk)]
     have:=hB3.2 p hp
     by_cases e:k=p
     · subst e
       exact ⟨fun h=>absurd ⟨by omega,hnr⟩ h,fun _ _=>by rw [if_pos rfl]⟩
     rw [if_neg e]
     exact ⟨fun h=>this.1 fun h2=>h ⟨by omega,h2.2⟩,fun h=>this.2 (by omega)⟩
   have hr:RootP c k:=hbit.1 (by simpa using hf)
   refine zaf (by omega) ?_
   refine ⟨mk-1,by omega,k+1,by omega,_,rfl,by omega,hF4,hol,fun p hp=>?_⟩
   have:=hB3.2 p hp
   by_cases e:k=p
   · subst e
     exact ⟨fun _=>this.1 fun h=>h.2 hr,fun _ h=>absurd hr h⟩
   exact ⟨fun h=>this.1 fun h2=>h ⟨by omega,h2.2⟩,fun h=>this.2 (by omega)⟩
 have hk:k=n:=by omega
 rw [hk,←hnn] at hB3
 have hBI:=hB3.fin hc
 clear hF2 hM2 hB2 hu hkm hB3
 have hus:zdd c<256:=za3 (by rw [hnn];omega)
 refine LOOPI.mk (fun m us w'=>∃ (ag:Bool) (out:List Nat),us=[.bool ag]∧m=out.sum+(if ag then 1 else 0)∧FW w w' g n out∧BI c out∧(ag=false→∀ p i,UsedP c p→zaC c p i→(zal c i).op=4→CL c out p i)) (out.sum+1) ⟨true,out,rfl,rfl,hF3,hBI,fun e=>by cases e⟩ ?_
 rintro m u w6 ⟨ag,out,hu,hm,hF6,hB6,hsh⟩
 simp only [List.map_cons,List.map_nil,List.cons.injEq,and_true] at hu
 rw [hu]
 refine zbw (fun hag=>?_) (fun hag=>?_)
 case refine_2=>
   rw [hB6.fin hc (hsh hag)] at hF6
   have hoo:=hF6.own
   rw [hg] at hoo
   exact ⟨hF6.ext,hoo⟩
 rw [hag,if_pos rfl] at hm
 refine NIL.mk rfl ?_
 refine zaa zh1 ?_
 refine zab ty3 hW.used (e0.trans hF6.ext) fun _=>?_
 refine (zcJ (m:=zdd c) (by omega)).mono ?_
 rintro v42 w7 ⟨hx7,ho7⟩
 unfold zdd at ho7
 rw [zcW (by rw [hnn];omega)] at ho7
 have hF7:=hF6.step hx7
 have hg6:=hF6.lt
 have hL:∀ p,p∈zaS c.procs.length (UsedP c)↔UsedP c p:=fun p=>by rw [zaE];exact ⟨fun h=>h.2,fun h=>⟨h.lt hc,h⟩⟩
 have hLl:(zaS c.procs.length (UsedP c)).length≤8:=Nat.le_trans zaT (by rw [hnn];omega)
 generalize zaS c.procs.length (UsedP c)=L at *
 have hO7:=ho7.toI
 generalize hlo:w6.heap.size=lo at *
 generalize hhi:w7.heap.size=hi at *
 refine zag u23 ho7.is ?_
 rw [zae]
 refine zaq L.length (fun k us w'=>∃ (ag:Bool) (out':List Nat),us=[.bool ag,.int .i64 (k:Int)]∧k≤L.length∧FW w w' g n out'∧OwnI lo hi w' v42 (zaA L)∧BQ c out ag out' (fun p i=>p∈L.take k)) 0 (Nat.zero_le _) ⟨false,out,rfl,Nat.zero_le _,hF7,hO7,hB6,fun e=>(by cases e),fun _=>⟨rfl,fun p i h=>by simp at h⟩⟩ ?_
 rintro k mk u w8 hkm ⟨ag8,out8,hu,hkl,hF8,hO8,hQ8⟩
 obtain ⟨hu1,hu2⟩:=zb1 hu;clear hu
 rw [hu1,hu2]
 refine zah ?_
 refine br (fun hlt=>?_) (fun hge=>?_)
 case refine_2=>
   refine ⟨out8.sum+(if ag8 then 1 else 0),?_,ag8,out8,rfl,rfl,hF8,hQ8.bi,fun e p i hu hl ho=>?_⟩
   · cases ag8 with
     | true=>have:=hQ8.yes rfl;simp;omega
     | false=>rw [(hQ8.no rfl).1];simp;omega
   have:=hQ8.no e
   rw [this.1]
   exact this.2 p i (by rw [List.take_of_length_le (by omega)];exact (hL p).2 hu) hu hl ho
 have hk:k<L.length:=by omega
 refine zad u23 ty3 (i:=k) hO8.is (by rw [zae];exact hk) fun b2 o2 hA2=>?_
 rw [zaL] at hA2
 refine zab ty3 hA2 (Ext.refl _) fun _=>?_
 have htk:=fun x=>za9 hk (x:=x)
 have hup:=(hL L[k]).1 (List.getElem_mem hk)
 generalize L[k]=p at *
 have hpn:=hup.lt hc
 have hpe:p<c.entry.length:=by rw [hc.2.1.1];exact hpn
 have hl8:=hQ8.bi.len
 refine zad u23 ty3 (i:=p) hF8.mine.is (by rw [zae,hl8];exact hpn) fun b3 o3 hA3=>?_
 rw [zaG] at hA3
 refine zab ty3 hA3 (Ext.refl _) fun _=>?_
 have hh64:=hQ8.bi.lt0 p
 have hhb:∀ l,l<6→(zau out8 p).testBit l=false→LostM c (tK (zcr c)) (tG (zcr c)) p none l:=fun l hl hb=>hQ8.bi.snd p l hpn hl hb
 have hhz:ag8=false→zau out8 p=zau out p:=fun e=>by rw [(hQ8.no e).1]
 generalize zau out8 p=hh at *
 refine (zmV hW.wl (e0.trans hF8.ext) h1 (e1.trans hF8.ext) hc hTR hpn hh64).mono ?_
 rintro v55 w9 ⟨hx9,ho9⟩
 have hF9:=hF8.step hx9
 have hO9:=hO8.ext hx9
 have hg8:=hF8.lt
 refine (ze9 hW.wl (e0.trans hF9.ext) hc hpn).mono ?_
 rintro v58 w10 ⟨hx10,ho10⟩
 have hF10:=hF9.step hx10
 have hO10:=hO9.ext hx10
 have hg9:=hF9.lt
 have hA10:=ho9.toI.ext hx10
 have hM:∀ i,i∈zaS c.ins.length (zaC c p)↔zaC c p i:=fun i=>by rw [zaE];exact ⟨fun h=>h.2,fun h=>⟨(zby hc hpe h).1,h⟩⟩
 have hMl:(zaS c.ins.length (zaC c p)).length≤1500:=Nat.le_trans zaT hil
 generalize zaS c.ins.length (zaC c p)=M at *
 have hLv10:=ho10.toI
 generalize hl9:w9.heap.size=lo9 at *
 generalize hl10:w10.heap.size=hi10 at *
 generalize hl8':w8.heap.size=lo8 at *
 refine zag u23 ho10.is ?_
 rw [zae]
 have hfl:(zbU c (zcr c) p hh).length=c.ins.length:=zc5 _ _ _ _
 have hf64:=zgx (c:=c) (T:=zcr c) (p:=p) (h:=hh)
 refine zaq M.length (fun j us w'=>∃ (ag:Bool) (out':List Nat),us=[.bool ag,.int .i64 (j:Int)]∧j≤M.length∧FW w w' g n out'∧OwnI lo hi w' v42 (zaA L)∧OwnI lo8 lo9 w' v55 (zaA (zbU c (zcr c) p hh))∧OwnI lo9 hi10 w' v58 (zaA M)∧BQ c out ag out' (fun q i=>q∈L.take k∨(q=p∧i∈M.take j))∧(ag=false→hh=zau out p)) 0 (Nat.zero_le _) ⟨ag8,out8,rfl,Nat.zero_le _,hF10,hO10,hA10,hLv10,hQ8.mono fun q i _ _ _ h=>h.elim id fun h=>by simp at h,hhz⟩ ?_
 rintro j mj u w11 hjm ⟨ag11,out11,hu,hjl,hF11,hO11,hA11,hLv11,hQ11,hz11⟩
 obtain ⟨hu1,hu2⟩:=zb1 hu;clear hu
 rw [hu1,hu2]
 refine zah ?_
 refine br (fun hlt=>?_) (fun hge=>?_)
 case refine_2=>
   refine zaf (by omega) ?_
   refine ⟨mk-1,by omega,k+1,by omega,ag11,out11,rfl,by omega,hF11,hO11,hQ11.mono fun q i hu hl ho h=>?_⟩
   rcases (htk q).1 h with h | rfl
   · exact .inl h
   exact .inr ⟨rfl,by rw [List.take_of_length_le (by omega)];exact (hM i).2 hl⟩
 have hj:j<M.length:=by omega
 refine zad u23 ty3 (i:=j) hLv11.is (by rw [zae];exact hj) fun b4 o4 hA4=>?_
 rw [zaL] at hA4
 refine zab ty3 hA4 (Ext.refl _) fun _=>?_
 have htj:=fun x=>za9 hj (x:=x)
 have hiv:=(hM M[j]).1 (List.getElem_mem hj)
 generalize M[j]=i at *
 have hin:=(zby hc hpe hiv).1
 refine NIL.mk rfl ?_
 refine zaa zbd ?_
 refine zaa zaJ ?_
 refine zac zct (zai hW.wl.code) (e0.trans hF11.ext) fun v68 h68=>?_
 refine zad u29 zcb h68 hin fun b5 o5 hA5=>?_
 rw [zaF] at hA5
 refine zac zcb hA5 (e0.trans hF11.ext) fun v71 h71=>?_
 refine zbX zmj rfl zcb rfl h71 (e0.trans hF11.ext) fun w12 hx12 hA12 hV12=>?_
 have hx13:=zak w12
 have hx123:=hx12.trans hx13
 have hF13:=hF11.step hx123
 have hO13:=hO11.ext hx123
 have hA13:=hA11.ext hx123
 have hLv13:=hLv11.ext hx123
 generalize World.drew1 w12=w13 at *
 refine zaa za6 ?_
 refine zab ty3 (zas hA12) hx13 fun _=>?_
 refine zao ?_
 have hno:¬(zal c i).op=4→BQ c out ag11 out11 (fun q i=>q∈L.take k∨(q=p∧i∈M.take (j+1))):=fun hn=>hQ11.mono fun q i' _ _ ho h=>h.imp id fun ⟨h1,h2⟩=>⟨h1,by
   rcases (htj i').1 h2 with h | rfl
   · exact h
   exact absurd ho hn⟩
 refine br (fun c4=>?_) (fun c4=>?_)
 case refine_2=>
   refine zaf (by omega) ?_
   exact ⟨mj-1,by omega,j+1,by omega,ag11,out11,rfl,by omega,hF13,hO13,hA13,hLv13,hno c4,hz11⟩
 obtain ⟨hag4,hagn⟩:=zbN hc hin (.inl c4)
 have hl11:=hQ11.bi.len
 have hset:=fun D'=>hQ11.set (D':=D') hc hup hiv c4 hhb
 have hskip:=hQ11.skip (D':=fun q i=>q∈L.take k∨(q=p∧i∈M.take (j+1))) (p:=p) (i:=i) hz11 fun q j' h=>by
   rcases h with h | ⟨h1,h2⟩
   · exact .inl (.inl h)
   rcases (htj j').1 h2 with h | h
   · exact .inl (.inr ⟨h1,h⟩)
   exact .inr ⟨h1,h⟩
 have hq64:=hQ11.bi.lt0 (agN c i)
 have ha64:=zcu hf64 i
 have hrO:∀ {w':World} {K:Value→Prop} (hF:FW w w' g n out11) (k:K (.int .i64 (zau out11 (agN c i):Int))),RD Tryz.prog (Instr.indexAt 23 (.slice (some ⟨g,0,none⟩) n n) (.int .i64 (agN c i:Int))) w' fun x37=>RD Tryz.prog (Instr.loadAt 3 x37) w' K:=fun hF k=>by
   refine zad u23 ty3 (i:=agN c i) hF.mine.is (by rw [zae,hl11];exact hagn) fun b1 o1 hA1=>?_
   rw [zaG] at hA1
   exact zab ty3 hA1 (Ext.refl _) fun _=>k
 have hrA:∀ {w':World} {K:Value→Prop} (hA:OwnI lo8 lo9 w' v55 (zaA (zbU c (zcr c) p hh))) (k:K (.int .i64 (zau (zbU c (zcr c) p hh) i:Int))),RD Tryz.prog (Instr.indexAt 23 v55 (.int .i64 (i:Int))) w' fun x37=>RD Tryz.prog (Instr.loadAt 3 x37) w' K:=fun hA k=>by
   refine zad u23 ty3 (i:=i) hA.is (by rw [zae,hfl];exact hin) fun b1 o1 hA1=>?_
   rw [zaG] at hA1
   exact zab ty3 hA1 (Ext.refl _) fun _=>k
 refine zaa za7 ?_
 refine zab ty3 (zav hA12) hx13 fun _=>?_
 rw [hag4]
 refine hrO hF13 ?_
 refine hrA hA13 ?_
 refine zdi (by omega) (by omega) ?_
 refine zaa za7 ?_
 refine zab ty3 (zav hA12) hx13 fun _=>?_
 rw [hag4]
 refine hrO hF13 ?_
 refine zaI ?_
 refine br (fun hne=>?_) (fun heq=>?_)
 · have hx14:=zak w13
   have hF14:=hF13.step hx14
   have hO14:=hO13.ext hx14
   have hA14:=hA13.ext hx14
   have hLv14:=hLv13.ext hx14
   generalize World.drew1 w13=w14 at *
   refine zaa za7 ?_
   refine zab ty3 (zav hA12) (hx13.trans hx14) fun _=>?_
   rw [hag4]
   refine hrO hF14 ?_
   refine hrA hA14 ?_
   refine zdi (by omega) (by omega) ?_
   have hvl:=Nat.and_le_left (n:=zau out11 (agN c i)) (m:=zau (zbU c (zcr c) p hh) i)
   refine zbs (α:=Int) rfl u23 ty3 (by omega) ?_
   refine za2 (α:=Int) rfl ty3 hF14.mine (by rw [zae,hl11,hnn]) (by omega) (zbk (v:=zau out11 (agN c i) &&& zau (zbU c (zcr c) p hh) i) (by omega)) fun w15 hc15 hm15=>?_
   have hF15:=hF14.set (v:=zau out11 (agN c i) &&& zau (zbU c (zcr c) p hh) i) hc15 hm15
   have hc15':=zdH hc15
   refine zaf (by omega) ?_
   exact ⟨mj-1,by omega,j+1,by omega,true,_,rfl,by omega,hF15,hO14.chg hc15' (by omega),hA14.chg hc15' (by omega),hLv14.chg hc15' (by omega),hset _ fun e=>hne (by rw [e]),fun e=>by cases e⟩
 refine zaf (by omega) ?_
 exact ⟨mj-1,by omega,j+1,by omega,ag11,out11,rfl,by omega,hF13,hO13,hA13,hLv13,hskip (Int.ofNat_inj.1 (Decidable.not_not.1 heq)),hz11⟩
def F122 (a0 a1:Value) (w:World) (R:VW):Prop:=
 oP (Instr.box 31 a0) w fun x2 w=>
 rL 31 x2 w fun x16=>
 cL 74 [x16] w fun x17 w=>
 rL 31 x2 w fun x18=>
 cL 123 [x18] w fun x19 w=>
 oP (Instr.buildSlice 23 0 #[]) w fun x20 w=>
 LOOPI [7,8] [x20,(iV 0)] w fun u5 w next5=>
 rF 31 x2 2 w fun x22=>
 rL 22 x22 w fun x23=>
 rN 22 3 x23 w fun x24=>
 rC (u5 8) x24 w fun x25=>
 BR x25
 (rX 82 x17 (u5 8) w fun x30=>
 rL 4 x30 w fun x31=>
 BR x31
 (oP (Instr.buildSlice 23 1 #[(0,(iV 0))]) w fun x34 w=>
 oP (Builtin.append_ #[23,23] 23 [(u5 7),x34].toArray) w fun x35 w=>
 rA (u5 8) (iV 1) w fun x27=>
 next5 [x35,x27] w)
 (oP (Instr.buildSlice 23 1 #[(0,(iV 63))]) w fun x34 w=>
 oP (Builtin.append_ #[23,23] 23 [(u5 7),x34].toArray) w fun x35 w=>
 rA (u5 8) (iV 1) w fun x27=>
 next5 [x35,x27] w))
 (LOOPI [10] [(Value.bool true)] w fun u12 w next12=>
 BR (u12 10)
 (LOOPI [10,11] [(Value.bool false),(iV 0)] w fun u15 w next15=>
 rF 31 x2 2 w fun x38=>
 rL 22 x38 w fun x39=>
 rN 22 3 x39 w fun x40=>
 rC (u15 11) x40 w fun x41=>
 BR x41
 (rX 82 x19 (u15 11) w fun x46=>
 rL 4 x46 w fun x47=>
 rD (Op.unary .not x47) w fun x48=>
 BR x48
 (rA (u15 11) (iV 1) w fun x43=>
 next15 [(u15 10),x43] w)
 ((fun w=>rL 31 x2 w fun x49=>
 rX 23 (u5 7) (u15 11) w fun x54=>
 rL 3 x54 w fun x55=>
 cL 124 [x49,a1,(u15 11),x55] w fun x56 w=>
 rL 31 x2 w fun x57=>
 cL 173 [x57,(u15 11)] w fun x59 w=>
 rF 31 x2 3 w fun x60=>
 rL 23 x60 w fun x61=>
 rX 23 x61 (u15 11) w fun x63=>
 rL 3 x63 w fun x64=>
 LOOPI [10,14] [(u15 10),x64] w fun u21 w next21=>
 rL 31 x2 w fun x66=>
 cL 67 [x66,(u15 11)] w fun x68 w=>
 rB .leq 3 T0 T0 (u21 14) x68 w fun x69=>
 BR x69
 (rF 31 x2 4 w fun x72=>
 rL 29 x72 w fun x73=>
 rX 29 x73 (u21 14) w fun x75=>
 rL 94 x75 w fun x76=>
 oP (Instr.alloc 94 true (.tuple #[])) w fun x15 w=>
 oS 94 x15 x76 w fun w=>
 (fun w=>rX 82 x59 (u21 14) w fun x79=>
 rL 4 x79 w fun x80=>
 BR x80
 (rF 94 x15 0 w fun x82=>
 rL 3 x82 w fun x83=>
 rB .eql 3 T0 U0 x83 (iV 4) w fun x84=>
 BR x84
 (rF 94 x15 1 w fun x88=>
 rL 3 x88 w fun x89=>
 rX 23 (u5 7) x89 w fun x90=>
 rL 3 x90 w fun x91=>
 rX 23 x56 (u21 14) w fun x94=>
 rL 3 x94 w fun x95=>
 rB .and 3 T0 T0 x91 x95 w fun x96=>
 rF 94 x15 1 w fun x98=>
 rL 3 x98 w fun x99=>
 rX 23 (u5 7) x99 w fun x100=>
 rL 3 x100 w fun x101=>
 rB .neq 3 T0 T0 x96 x101 w fun x102=>
 BR x102
 ((fun w=>rF 94 x15 1 w fun x105=>
 rL 3 x105 w fun x106=>
 rF 94 x15 1 w fun x108=>
 rL 3 x108 w fun x109=>
 rX 23 (u5 7) x109 w fun x110=>
 rL 3 x110 w fun x111=>
 rX 23 x56 (u21 14) w fun x114=>
 rL 3 x114 w fun x115=>
 rB .and 3 T0 T0 x111 x115 w fun x116=>
 rX 23 (u5 7) x106 w fun x117=>
 oS 3 x117 x116 w fun w=>
 rA (u21 14) (iV 1) w fun x71=>
 next21 [(Value.bool true),x71] w) (World.drew1 w))
 (rA (u21 14) (iV 1) w fun x71=>
 next21 [(u21 10),x71] w))
 (rA (u21 14) (iV 1) w fun x71=>
 next21 [(u21 10),x71] w))
 (rA (u21 14) (iV 1) w fun x71=>
 next21 [(u21 10),x71] w)) (World.drew1 w))
 (rA (u15 11) (iV 1) w fun x43=>
 next15 [(u21 10),x43] w)) (World.drew1 w)))
 (next12 [(u15 10)] w))
 (R (u5 7) w))
def cfg122:Cfg:=⟨extL,[],[(5,68717380480,[7,8]),(12,332306998946228968225951696350673920,[10]),(15,332306998946228968225951627631197184,[10,11]),(21,332306998946228931332463617651033088,[10,14])],[(18,[0,1,2,3,4,5,6,7,8],0),(24,[0,1,2,3,4,5,6,7,8,9,10,11,12,13,14,15,16,17,18,19,20,21,22,23,24,25,26],0),(25,[0,1,2,3,4,5,6,7,8,9,10,11,12,13,14],0)],[],[],[]⟩
theorem F122_call {a0 a1:Value} {w:World} {R:VW} (h:F122 a0 a1 w R):cL 122 [a0,a1] w R:=co (g:=cfg122) Tryz.func122 (by kernel_rfl) (by kernel_rfl) (by kernel_rfl) h
open Rep (rep)
structure FV (w1 w:World) (g:Nat) (v:Value) (out:List Nat):Prop where
 ext:Ext w1 w
 mine:Mine [g] w v (zaA out)
 g0:w1.heap.size≤g
section
variable {w1 w w':World} {g:Nat} {v:Value} {out:List Nat}
theorem FV.step (h:FV w1 w g v out) (hx:Ext w w'):FV w1 w' g v out:=⟨h.ext.trans hx,h.mine.ext hx,h.g0⟩
theorem FV.lt (h:FV w1 w g v out):g<w.heap.size:=h.mine.lt g (by simp)
theorem FV.own (h:FV w1 w g v out):Own w1.heap.size w v (zaA out):=⟨[g],h.mine,fun b hb=>by simp only [List.mem_cons,List.not_mem_nil,or_false] at hb;have:=h.g0;omega⟩
theorem FV.make (ho:Own w1.heap.size w v (zaA out)) (hx:Ext w1 w) (hT:0<out.length):∃ g,FV w1 w g v out:=by
 obtain ⟨F,hm,hF⟩:=ho
 obtain ⟨b,o,cap,hv,rfl⟩:=zdT hm (by intro e;have:=congrArg List.length e;rw [zae] at this;simp only [List.length_nil] at this;omega)
 exact ⟨b,hx,hm,hF b (by simp)⟩
theorem zt1 {q m:Nat} {K:World→Prop} (h:FV w1 w g v out) (hq:q<out.length) (hm:m<9223372036854775808) (k:∀ w',FV w1 w' g v (out.set q m)→ChgI g (g+1) w w'→K w') :
   RD Tryz.prog (Instr.indexAt 23 v (.int .i64 (q:Int))) w fun a=>OPU Tryz.prog (Instr.storeAt 3 a (.int .i64 (m:Int))) w K:=by
 refine zdP u23 ty3 h.mine (by rw [zae];exact hq) fun b o G hL=>?_
 refine zdz (upd:=fun y=>(zaA out).set q y) (y':=(m:Int)) ty3 hL (zbk hm) fun w2 F2 hc2 hm2 hF2=>?_
 have hF:F2=[g]:=by
   obtain ⟨b,o,cap,hv,rfl⟩:=zdT hm2 (by intro e;have:=congrArg List.length e;rw [List.length_set,zae] at this;simp only [List.length_nil] at this;omega)
   have:=hF2 b (by simp)
   simpa using this
 subst hF
 have hcc:=zdH hc2
 exact k w2 ⟨h.ext.chgI hcc h.g0,by rw [zeF];exact hm2,h.g0⟩ hcc
end
noncomputable def bg0 (c:DCode) (p:Nat):Nat:=@ite _ (RootP c p) (Classical.propDecidable _) 0 63
noncomputable def bgL (c:DCode) (k:Nat):List Nat:=(List.range k).map (bg0 c)
theorem znW (c:DCode) (k:Nat):zaA (bgL c (k+1))=zaA (bgL c k)++[(bg0 c k:Int)]:=by simp [bgL,zaA,List.range_succ]
theorem zf2 (c:DCode) (k:Nat):(bgL c k).length=k:=by simp [bgL]
theorem zvd {c:DCode} (hc:CodeR c):BI c (bgL c c.procs.length):=BI.start hc _ (zf2 c _) fun p hp=>by
 have:zau (bgL c c.procs.length) p=bg0 c p:=by rw [←zaX (by rw [zf2];exact hp)];simp [bgL]
 rw [this]
 unfold bg0
 exact ⟨fun h=>by rw [if_pos h],fun h=>by rw [if_neg h]⟩
theorem zks {w W0 W1:World} {v0 v1:Value} {c:DCode} (h0:Is W0 v0 c) (e0:Ext W0 w) (h1:Is W1 v1 (zfL (zcr c))) (e1:Ext W1 w) (hc:CodeR c) :
   CALL Tryz.prog 122 [v0,v1] w fun r w'=>Ext w w'∧Own w.heap.size w' r (zaA (zt0 c)):=by
 refine F122_call ?_
 unfold F122
 have h8:=hc.1.procs8
 have hil:=hc.f.ins
 have hTR:=zft c
 have hBI:=zvd hc
 refine zbr h0 e0 fun w0 hx0 hA=>?_
 have hs0:=hx0.size
 refine zac zbt hA (Ext.refl _) fun v16 h16=>?_
 refine (zeI h16 (Ext.refl _) hc).mono ?_
 rintro v17 wa ⟨hxa,hoa⟩
 have hsa:=hxa.size
 refine zac zbt hA hxa fun v18 h18=>?_
 refine (zfu h18 hxa hc).mono ?_
 rintro v19 wb ⟨hxb,hob⟩
 have hsb:=hxb.size
 have hx0b:=hxa.trans hxb
 have hRo:=hoa.is.ext hxb
 have hUs:=hob.is
 have hn:c.procs.length=c.procs.length:=rfl
 generalize hnn:c.procs.length=n at hn
 rw [hnn] at h8
 refine zaY (α:=Int) u23 ty3 fun a w1 hx1 hr1=>?_
 have hs1:=hx1.size
 refine zaq n (fun k us w'=>∃ v,us=[v,.int .i64 (k:Int)]∧k≤n∧Ext wb w'∧RowI wb.heap.size w'.heap.size 3 w' v (zaA (bgL c k))) 0 (Nat.zero_le _) ⟨_,rfl,Nat.zero_le _,hx1,by simpa [bgL,zaA] using hr1.mono hs1 (Nat.le_refl _)⟩ ?_
 rintro k mk u w3 hkm ⟨v,hu,hkl,hx3,hr3⟩
 obtain ⟨hu1,hu2⟩:=zb1 hu;clear hu
 rw [hu1,hu2]
 have hs3:=hx3.size
 have hx03:=hx0b.trans hx3
 refine zaa zba ?_
 refine zac zbP (zar hA) hx03 fun v23 h23=>?_
 refine zag u22 h23 ?_
 rw [hnn]
 refine zah ?_
 refine br (fun hlt=>?_) (fun hge=>?_)
 · have hk:k<n:=by omega
   refine zad u82 ty4 (i:=k) hRo (by rw [zaj];omega) fun b2 o2 hA2=>?_
   refine zaw ty4 hA2 hx3 ?_
   have hmk:=zaB (n:=c.procs.length) (p:=RootP c) (i:=k)
   rw [zaM (by rw [zaj];omega)] at hmk
   refine zbw (fun hf=>?_) (fun hf=>?_)
   · have hb0:bg0 c k=0:=by unfold bg0;rw [if_pos (hmk.1 hf).2]
     refine zbK (lo2:=w3.heap.size) (hi2:=w3.heap.size) (x:=((0:Nat):Int)) u23 ty3 z3 zc3 (by decide) hr3 (by omega) (zb4 _ _ (by unfold I64;omega)) (by omega) (by omega) (by rw [zan,zae,zf2];omega) (by rw [zae,zf2];omega) fun v54 w9 hc9 hr9=>?_
     refine zaf (by omega) ?_
     refine ⟨mk-1,by omega,k+1,by omega,v54,rfl,by omega,hx3.chgI hc9 (Nat.le_refl _),?_⟩
     rw [znW,hb0];exact hr9
   have hb0:bg0 c k=63:=by unfold bg0;rw [if_neg fun h=>by rw [hmk.2 ⟨by omega,h⟩] at hf;cases hf]
   refine zbK (lo2:=w3.heap.size) (hi2:=w3.heap.size) (x:=((63:Nat):Int)) u23 ty3 z3 zc3 (by decide) hr3 (by omega) (zb4 _ _ (by unfold I64;omega)) (by omega) (by omega) (by rw [zan,zae,zf2];omega) (by rw [zae,zf2];omega) fun v54 w9 hc9 hr9=>?_
   refine zaf (by omega) ?_
   refine ⟨mk-1,by omega,k+1,by omega,v54,rfl,by omega,hx3.chgI hc9 (Nat.le_refl _),?_⟩
   rw [znW,hb0];exact hr9
 have hk:k=c.procs.length:=by omega
 rw [hk] at hr3
 obtain ⟨g,hF3⟩:=FV.make hr3.own.own hx3 (by rw [zf2];omega)
 generalize bgL c c.procs.length=out at *
 clear hr3 hkm
 refine LOOPI.mk (fun m us w'=>∃ (ag:Bool) (out:List Nat),us=[.bool ag]∧m=out.sum+(if ag then 1 else 0)∧FV wb w' g v out∧BI c out∧(ag=false→∀ p i,UsedP c p→zaC c p i→(zal c i).op=4→CL c out p i)) (out.sum+1) ⟨true,out,rfl,rfl,hF3,hBI,fun e=>by cases e⟩ ?_
 rintro m u w6 ⟨ag,out,hu,hm,hF6,hB6,hsh⟩
 simp only [List.map_cons,List.map_nil,List.cons.injEq,and_true] at hu
 rw [hu]
 refine zbw (fun hag=>?_) (fun hag=>?_)
 case refine_2=>
   rw [hB6.fin hc (hsh hag)] at hF6
   exact ⟨hx0.trans (hx0b.trans hF6.ext),hF6.own.mono (by omega)⟩
 rw [hag,if_pos rfl] at hm
 refine zaq n (fun k us w'=>∃ (ag:Bool) (out':List Nat),us=[.bool ag,.int .i64 (k:Int)]∧k≤n∧FV wb w' g v out'∧BQ c out ag out' (fun p i=>p<k)) 0 (Nat.zero_le _) ⟨false,out,rfl,Nat.zero_le _,hF6,hB6,fun e=>(by cases e),fun _=>⟨rfl,fun p i h=>by omega⟩⟩ ?_
 rintro p mk u w8 hkm ⟨ag8,out8,hu,hkl,hF8,hQ8⟩
 obtain ⟨hu1,hu2⟩:=zb1 hu;clear hu
 rw [hu1,hu2]
 have hx08:=hx0b.trans hF8.ext
 refine zaa zba ?_
 refine zac zbP (zar hA) hx08 fun v38 h38=>?_
 refine zag u22 h38 ?_
 rw [hnn]
 refine zah ?_
 refine br (fun hlt=>?_) (fun hge=>?_)
 case refine_2=>
   refine ⟨out8.sum+(if ag8 then 1 else 0),?_,ag8,out8,rfl,rfl,hF8,hQ8.bi,fun e p' i hu hl ho=>?_⟩
   · cases ag8 with
     | true=>have:=hQ8.yes rfl;simp;omega
     | false=>rw [(hQ8.no rfl).1];simp;omega
   have:=hQ8.no e
   rw [this.1]
   exact this.2 p' i (by have:=hu.lt hc;omega) hu hl ho
 have hpn':p<n:=by omega
 have hpn:p<c.procs.length:=by omega
 have hpe:p<c.entry.length:=by rw [hc.2.1.1];exact hpn
 refine zad u82 ty4 (i:=p) hUs (by rw [zaj];omega) fun b2 o2 hA2=>?_
 refine zaw ty4 hA2 hF8.ext ?_
 have hmk:=zaB (n:=c.procs.length) (p:=UsedP c) (i:=p)
 rw [zaM (by rw [zaj];omega)] at hmk
 refine zaV ?_
 refine zbw (fun hf=>?_) (fun hf=>?_)
 · have hnu:¬UsedP c p:=fun h=>by rw [hmk.2 ⟨hpn,h⟩] at hf;cases hf
   refine zaf (by omega) ?_
   refine ⟨mk-1,by omega,p+1,by omega,ag8,out8,rfl,by omega,hF8,hQ8.mono fun q i hu _ _ h=>?_⟩
   by_cases e:q=p
   · subst e;exact absurd hu hnu
   omega
 have hup:UsedP c p:=(hmk.1 (by simpa using hf)).2
 have hxd:=zak w8
 have hF8d:=hF8.step hxd
 generalize World.drew1 w8=w8d at *
 have hl8:=hQ8.bi.len
 refine zac zbt hA (hx0b.trans hF8d.ext) fun v49 h49=>?_
 refine zad u23 ty3 (i:=p) hF8d.mine.is (by rw [zae,hl8];exact hpn) fun b3 o3 hA3=>?_
 rw [zaG] at hA3
 refine zab ty3 hA3 (Ext.refl _) fun _=>?_
 have hh64:=hQ8.bi.lt0 p
 have hhb:∀ l,l<6→(zau out8 p).testBit l=false→LostM c (tK (zcr c)) (tG (zcr c)) p none l:=fun l hl hb=>hQ8.bi.snd p l hpn hl hb
 have hhz:ag8=false→zau out8 p=zau out p:=fun e=>by rw [(hQ8.no e).1]
 generalize zau out8 p=hh at *
 refine (zg2 h49 (hx0b.trans hF8d.ext) h1 (e1.trans (hx0.trans (hx0b.trans hF8d.ext))) hc hTR hpn hh64).mono ?_
 rintro v55 w9 ⟨hx9,ho9⟩
 have hF9:=hF8d.step hx9
 have hg8:=hF8d.lt
 refine zac zbt hA (hx0b.trans hF9.ext) fun v57 h57=>?_
 refine (zec h57 (hx0b.trans hF9.ext) hc hpe).mono ?_
 rintro v58 w10 ⟨hx10,ho10⟩
 have hF10:=hF9.step hx10
 have hg9:=hF9.lt
 have hA10:=ho9.toI.ext hx10
 have hLv10:=ho10.toI
 generalize hl9:w9.heap.size=lo9 at *
 generalize hl10:w10.heap.size=hi10 at *
 generalize hl8':w8d.heap.size=lo8 at *
 obtain ⟨he1,he2,he3⟩:=zeG hc hpe
 obtain ⟨hz1,hz2,hz3⟩:=zdj hc hpn
 obtain ⟨_,hez,_⟩:=zjb hc hpe
 refine zaa za1 ?_
 refine zac zbE (zap hA) (hx0b.trans hF10.ext) fun v61 h61=>?_
 refine zad u23 ty3 h61 hpe fun b5 o5 hA5=>?_
 rw [zbe hpe,he1] at hA5
 refine zab ty3 hA5 (hx0b.trans hF10.ext) fun _=>?_
 have hfl:(zbU c (zcr c) p hh).length=c.ins.length:=zc5 _ _ _ _
 have hf64:=zgx (c:=c) (T:=zcr c) (p:=p) (h:=hh)
 have hlz:∀ i,zaC c p i→eN c p≤i∧i≤zN c p:=fun i h=>by
   have:=zby hc hpe h
   exact zmP hc this.1 hpe this.2
 generalize hE:eN c p=E at *
 generalize hZ:zN c p=Z at *
 refine zaq (Z+1-E) (fun j us w'=>∃ (ag:Bool) (out':List Nat),us=[.bool ag,.int .i64 ((E+j:Nat):Int)]∧E+j≤Z+1∧FV wb w' g v out'∧OwnI lo8 lo9 w' v55 (zaA (zbU c (zcr c) p hh))∧OwnI lo9 hi10 w' v58 (zbl c.ins.length (zaC c p))∧BQ c out ag out' (fun q i=>q<p∨(q=p∧i<E+j))∧(ag=false→hh=zau out p)) 0 (Nat.zero_le _) ⟨ag8,out8,rfl,by omega,hF10,hA10,hLv10,hQ8.mono fun q i _ hl _ h=>h.elim id fun ⟨h1,h2⟩=>by subst h1;have:=hlz i hl;omega,hhz⟩ ?_
 rintro j mj u w11 hjm ⟨ag11,out11,hu,hjl,hF11,hA11,hLv11,hQ11,hz11⟩
 obtain ⟨hu1,hu2⟩:=zb1 hu;clear hu
 rw [hu1,hu2]
 have hx11:=hx0b.trans hF11.ext
 refine zac zbt hA hx11 fun v66 h66=>?_
 refine (zdE h66 hx11 (p:=(p:Int)) (by omega) (by omega) hc.2.1.nonneg).mono ?_
 rintro _ w12 ⟨hx12,rfl⟩
 rw [hz2]
 have hF12:=hF11.step hx12
 have hA12:=hA11.ext hx12
 have hLv12:=hLv11.ext hx12
 have hx012:=hx0b.trans hF12.ext
 refine zdw ?_
 refine br (fun hlt=>?_) (fun hge=>?_)
 case refine_2=>
   refine zaf (by omega) ?_
   refine ⟨mk-1,by omega,p+1,by omega,ag11,out11,rfl,by omega,hF12,hQ11.mono fun q i hu hl ho h=>?_⟩
   by_cases e:q=p
   · subst e
     have:=hlz i hl
     exact .inr ⟨rfl,by omega⟩
   exact .inl (by omega)
 have hin:E+j<c.ins.length:=by omega
 generalize hij:E+j=i at *
 refine zaa zaJ ?_
 refine zac zct (zai hA) hx012 fun v73 h73=>?_
 refine zad u29 zcb h73 hin fun b6 o6 hA6=>?_
 rw [zaF] at hA6
 refine zac zcb hA6 hx012 fun v76 h76=>?_
 refine zbX zmj rfl zcb rfl h76 hx012 fun w12b hx12b hAI hV12=>?_
 have hx13:=zak w12b
 have hx123:=hx12b.trans hx13
 have hF13:=hF12.step hx123
 have hA13:=hA12.ext hx123
 have hLv13:=hLv12.ext hx123
 generalize World.drew1 w12b=w13 at *
 have hml:=zaB (n:=c.ins.length) (p:=zaC c p) (i:=i)
 rw [zaM (by rw [zaj];exact hin)] at hml
 have hno:¬(zaC c p i∧(zal c i).op=4)→BQ c out ag11 out11 (fun q i'=>q<p∨(q=p∧i'<i+1)):=fun hn=>hQ11.mono fun q i' _ hl ho h=>h.imp id fun ⟨h1,h2⟩=>⟨h1,by
   by_cases e:i'=i
   · subst e;subst h1;exact absurd ⟨hl,ho⟩ hn
   omega⟩
 have hnext:∀ {w':World} {ag':Bool} {out':List Nat} (hF:FV wb w' g v out') (hA:OwnI lo8 lo9 w' v55 (zaA (zbU c (zcr c) p hh))) (hL:OwnI lo9 hi10 w' v58 (zbl c.ins.length (zaC c p))) (hQ:BQ c out ag' out' (fun q i'=>q<p∨(q=p∧i'<i+1))) (hz:ag'=false→hh=zau out p),
     ∃ m',m'<mj∧∃ k',k'+m'=Z+1-E∧∃ (ag:Bool) (out'':List Nat),[Value.bool ag',Value.int .i64 ((i+1:Nat):Int)]=[.bool ag,.int .i64 ((E+k':Nat):Int)]∧E+k'≤Z+1∧FV wb w' g v out''∧OwnI lo8 lo9 w' v55 (zaA (zbU c (zcr c) p hh))∧OwnI lo9 hi10 w' v58 (zbl c.ins.length (zaC c p))∧BQ c out ag out'' (fun q i=>q<p∨(q=p∧i<E+k'))∧(ag=false→hh=zau out p):=fun {w' ag' out'} hF hA hL hQ hz=>
   ⟨mj-1,by omega,j+1,by omega,ag',out',by rw [show i+1=E+(j+1) by omega],by omega,hF,hA,hL,by rw [show E+(j+1)=i+1 by omega];exact hQ,hz⟩
 refine zad u82 ty4 (i:=i) hLv13.is (by rw [zaj];exact hin) fun b7 o7 hA7=>?_
 refine zaw ty4 hA7 (Ext.refl _) ?_
 refine zbw (fun hf7=>?_) (fun hf7=>?_)
 case refine_2=>
   refine zaf (by omega) ?_
   exact hnext hF13 hA13 hLv13 (hno fun h=>by rw [hml.2 ⟨hin,h.1⟩] at hf7;cases hf7) hz11
 have hiv:zaC c p i:=(hml.1 hf7).2
 refine zaa za6 ?_
 refine zab ty3 (zas hAI) hx13 fun _=>?_
 refine zao ?_
 refine br (fun c4=>?_) (fun c4=>?_)
 case refine_2=>
   refine zaf (by omega) ?_
   exact hnext hF13 hA13 hLv13 (hno fun h=>c4 h.2) hz11
 obtain ⟨hag4,hagn⟩:=zbN hc hin (.inl c4)
 have hl11:=hQ11.bi.len
 have hset:=fun D'=>hQ11.set (D':=D') hc hup hiv c4 hhb
 have hskip:=hQ11.skip (D':=fun q i'=>q<p∨(q=p∧i'<i+1)) (p:=p) (i:=i) hz11 fun q j' h=>by
   rcases h with h | ⟨h1,h2⟩
   · exact .inl (.inl h)
   by_cases e:j'=i
   · exact .inr ⟨h1,e⟩
   exact .inl (.inr ⟨h1,by omega⟩)
 have hq64:=hQ11.bi.lt0 (agN c i)
 have ha64:=zcu hf64 i
 have hrO:∀ {w':World} {K:Value→Prop} (hF:FV wb w' g v out11) (k:K (.int .i64 (zau out11 (agN c i):Int))),RD Tryz.prog (Instr.indexAt 23 v (.int .i64 (agN c i:Int))) w' fun x37=>RD Tryz.prog (Instr.loadAt 3 x37) w' K:=fun hF k=>by
   refine zad u23 ty3 (i:=agN c i) hF.mine.is (by rw [zae,hl11];exact hagn) fun b1 o1 hA1=>?_
   rw [zaG] at hA1
   exact zab ty3 hA1 (Ext.refl _) fun _=>k
 have hrA:∀ {w':World} {K:Value→Prop} (hA:OwnI lo8 lo9 w' v55 (zaA (zbU c (zcr c) p hh))) (k:K (.int .i64 (zau (zbU c (zcr c) p hh) i:Int))),RD Tryz.prog (Instr.indexAt 23 v55 (.int .i64 (i:Int))) w' fun x37=>RD Tryz.prog (Instr.loadAt 3 x37) w' K:=fun hA k=>by
   refine zad u23 ty3 (i:=i) hA.is (by rw [zae,hfl];exact hin) fun b1 o1 hA1=>?_
   rw [zaG] at hA1
   exact zab ty3 hA1 (Ext.refl _) fun _=>k
 refine zaa za7 ?_
 refine zab ty3 (zav hAI) hx13 fun _=>?_
 rw [hag4]
 refine hrO hF13 ?_
 refine hrA hA13 ?_
 refine zdi (by omega) (by omega) ?_
 refine zaa za7 ?_
 refine zab ty3 (zav hAI) hx13 fun _=>?_
 rw [hag4]
 refine hrO hF13 ?_
 refine zaI ?_
 refine br (fun hne=>?_) (fun heq=>?_)
 · have hx14:=zak w13
   have hF14:=hF13.step hx14
   have hA14:=hA13.ext hx14
   have hLv14:=hLv13.ext hx14
   generalize World.drew1 w13=w14 at *
   refine zaa za7 ?_
   refine zab ty3 (zav hAI) (hx13.trans hx14) fun _=>?_
   rw [hag4]
   refine zaa za7 ?_
   refine zab ty3 (zav hAI) (hx13.trans hx14) fun _=>?_
   rw [hag4]
   refine hrO hF14 ?_
   refine hrA hA14 ?_
   refine zdi (by omega) (by omega) ?_
   have hvl:=Nat.and_le_left (n:=zau out11 (agN c i)) (m:=zau (zbU c (zcr c) p hh) i)
   refine zt1 (m:=zau out11 (agN c i) &&& zau (zbU c (zcr c) p hh) i) hF14 (by rw [hl11];exact hagn) (by omega) fun w15 hF15 hc15'=>?_
   refine zaf (by omega) ?_
   exact hnext hF15 (hA14.chg hc15' (by omega)) (hLv14.chg hc15' (by omega)) (hset _ fun e=>hne (by rw [e])) (fun e=>by cases e)
 refine zaf (by omega) ?_
 exact hnext hF13 hA13 hLv13 (hskip (Int.ofNat_inj.1 (Decidable.not_not.1 heq))) hz11
def F91 (a0:Value) (w:World) (R:VW):Prop:=
 cL 145 [a0] w fun x12 w=>
 cL 146 [a0,x12] w fun x15 w=>
 NIL a0 <|
 rF 97 a0 0 w fun x18=>
 rF 31 x18 4 w fun x19=>
 rL 29 x19 w fun x20=>
 rN 29 3 x20 w fun x21=>
 oP (Instr.makeSlice 23 x21 x21) w fun x22 w=>
 rN 23 3 x22 w fun x24=>
 LOOPI [25] [(iV 0)] w fun u5 w next5=>
 rC (u5 25) x24 w fun x26=>
 BR x26
 (rX 23 x22 (u5 25) w fun x30=>
 oS 3 x30 (iV 63) w fun w=>
 rA (u5 25) (iV 1) w fun x31=>
 next5 [x31] w)
 (NIL a0 <|
 rF 97 a0 6 w fun x34=>
 rL 3 x34 w fun x35=>
 cL 107 [x35] w fun x36 w=>
 rN 23 3 x36 w fun x37=>
 LOOPI [38] [(iV 0)] w fun u10 w next10=>
 rC (u10 38) x37 w fun x39=>
 BR x39
 (rX 23 x36 (u10 38) w fun x40=>
 rL 3 x40 w fun x41=>
 rX 23 x15 x41 w fun x47=>
 rL 3 x47 w fun x48=>
 cL 147 [a0,x12,x41,x48] w fun x49 w=>
 NIL a0 <|
 rF 97 a0 0 w fun x52=>
 rF 31 x52 3 w fun x53=>
 rL 23 x53 w fun x54=>
 rX 23 x54 x41 w fun x56=>
 rL 3 x56 w fun x57=>
 LOOPI [10] [x57] w fun u14 w next14=>
 NIL a0 <|
 rF 97 a0 0 w fun x61=>
 rL 31 x61 w fun x62=>
 cL 85 [x62,x41] w fun x64 w=>
 rC (u14 10) x64 w fun x65=>
 BR x65
 (rX 23 x49 (u14 10) w fun x72=>
 rL 3 x72 w fun x73=>
 rX 23 x22 (u14 10) w fun x74=>
 oS 3 x74 x73 w fun w=>
 rA (u14 10) (iV 1) w fun x67=>
 next14 [x67] w)
 (rA (u10 38) (iV 1) w fun x75=>
 next10 [x75] w))
 (R x22 w))
def cfg91:Cfg:=⟨extL,[],[(5,4261412928,[25]),(10,75557863725639445513984,[38]),(14,37778643632581009998848,[10])],[],[],[],[]⟩
theorem F91_call {a0:Value} {w:World} {R:VW} (h:F91 a0 w R):cL 91 [a0] w R:=co (g:=cfg91) Tryz.func91 (by kernel_rfl) (by kernel_rfl) (by kernel_rfl) h
def F71 (a0:Value) (w:World) (R:VW):Prop:=
 oP (Instr.box 31 a0) w fun x1 w=>
 rL 31 x1 w fun x10=>
 cL 121 [x10] w fun x11 w=>
 rL 31 x1 w fun x12=>
 cL 122 [x12,x11] w fun x14 w=>
 rL 31 x1 w fun x15=>
 cL 123 [x15] w fun x16 w=>
 rF 31 x1 4 w fun x17=>
 rL 29 x17 w fun x18=>
 rN 29 3 x18 w fun x19=>
 oP (Instr.makeSlice 23 x19 x19) w fun x20 w=>
 LOOPI [7] [(iV 0)] w fun u6 w next6=>
 rF 31 x1 2 w fun x22=>
 rL 22 x22 w fun x23=>
 rN 22 3 x23 w fun x24=>
 rC (u6 7) x24 w fun x25=>
 BR x25
 ((fun w=>rL 31 x1 w fun x28=>
 rX 23 x14 (u6 7) w fun x33=>
 rL 3 x33 w fun x34=>
 cL 124 [x28,x11,(u6 7),x34] w fun x35 w=>
 rF 31 x1 3 w fun x36=>
 rL 23 x36 w fun x37=>
 rX 23 x37 (u6 7) w fun x39=>
 rL 3 x39 w fun x40=>
 LOOPI [9] [x40] w fun u10 w next10=>
 rL 31 x1 w fun x42=>
 cL 67 [x42,(u6 7)] w fun x44 w=>
 rB .leq 3 T0 T0 (u10 9) x44 w fun x45=>
 BR x45
 (rX 23 x20 (u10 9) w fun x50=>
 oS 3 x50 (iV 63) w fun w=>
 rX 82 x16 (u6 7) w fun x53=>
 rL 4 x53 w fun x54=>
 BR x54
 (rX 23 x35 (u10 9) w fun x59=>
 rL 3 x59 w fun x60=>
 rX 23 x20 (u10 9) w fun x61=>
 oS 3 x61 x60 w fun w=>
 rA (u10 9) (iV 1) w fun x47=>
 next10 [x47] w)
 (rA (u10 9) (iV 1) w fun x47=>
 next10 [x47] w))
 (rA (u6 7) (iV 1) w fun x27=>
 next6 [x27] w)) (World.drew1 w))
 (R x20 w)
def cfg71:Cfg:=⟨extL,[],[(6,4611686018425291648,[7]),(10,4611683819404132864,[9])],[(8,[0,1,2,3,4,5,6,7,8],0)],[],[],[]⟩
theorem F71_call {a0:Value} {w:World} {R:VW} (h:F71 a0 w R):cL 71 [a0] w R:=co (g:=cfg71) Tryz.func71 (by kernel_rfl) (by kernel_rfl) (by kernel_rfl) h
open Rep (rep)
def MS (c:DCode) (out:List Nat) (D:Nat→Prop):Prop:=out.length=c.ins.length∧∀ i,i<c.ins.length→D i→zau out i=zei c i
theorem MS.set {c:DCode} {out:List Nat} {D D':Nat→Prop} (h:MS c out D) {i v:Nat} (hi:i<c.ins.length) (hv:v=zei c i) (hD:∀ j,D' j→D j∨j=i):MS c (out.set i v) D':=by
 refine ⟨by simp [h.1],fun j hj hd=>?_⟩
 rw [zbQ (by rw [h.1];exact hi)]
 by_cases e:i=j
 · subst e;rw [if_pos rfl];exact hv
 rw [if_neg e]
 exact h.2 j hj ((hD j hd).resolve_right fun e'=>e e'.symm)
theorem MS.mono {c:DCode} {out:List Nat} {D D':Nat→Prop} (h:MS c out D) (hD:∀ j,j<c.ins.length→D' j→D j):MS c out D':=⟨h.1,fun j hj hd=>h.2 j hj (hD j hj hd)⟩
theorem MS.fin {c:DCode} {out:List Nat} {D:Nat→Prop} (h:MS c out D) (hD:∀ j,j<c.ins.length→D j):out=zgZ c:=by
 refine List.ext_getElem (by rw [h.1,zgA]) fun i h1 h2=>?_
 have hi:i<c.ins.length:=by rw [←h.1];exact h1
 rw [zaX h1,zaX h2,zsb hi,h.2 i hi (hD i hi)]
theorem zc7 {c:DCode} (hc:CodeR c) {i:Nat} (hi:i<c.ins.length):∃ p,p<c.procs.length∧zat c i=p∧eN c p≤i∧i≤zN c p:=by
 obtain ⟨q,hq,h1,h2,h3⟩:=hc.f.find hc.1.procs8.2 (a:=(i:Int)) (by omega) (by omega)
 have hin:=zmP hc hi hq h3
 exact ⟨q,by have:=hc.2.1.1;omega,h3,hin⟩
theorem zt2 {w W0:World} {b:Nat} {c:DCode} (hW:WAt W0 b c) (e0:Ext W0 w) (hc:CodeR c) :
   CALL Tryz.prog 91 [.pointer (some ⟨b,0,none⟩)] w fun r w'=>Ext w w'∧Own w.heap.size w' r (zaA (zgZ c)):=by
 refine F91_call ?_
 unfold F91
 have h8:=hc.1.procs8
 have hil:=hc.f.ins
 have hTR:=zft c
 refine (zoI hW e0 hc).mono ?_
 rintro v12 w1 ⟨hx1,ho1⟩
 have hs1:=hx1.size
 refine (zoJ hW (e0.trans hx1) ho1.is (Ext.refl _) hc).mono ?_
 rintro v15 w2 ⟨hx2,ho2⟩
 have hs2:=hx2.size
 have hx12:=hx1.trans hx2
 have e2:=e0.trans hx12
 have hE2:=ho1.is.ext hx2
 have hB2:=ho2.is
 refine NIL.mk rfl ?_
 refine zaa zbd ?_
 refine zaa zaJ ?_
 refine zac zct (zai hW.wl.code) e2 fun v20 h20=>?_
 refine zag u29 h20 ?_
 have hn:c.ins.length=c.ins.length:=rfl
 generalize hnn:c.ins.length=n at hn
 rw [hnn] at hil
 have hz0:=(zdj hc h8.2).2.2
 refine zcK (by omega) (by omega) fun w3 hx3 hM3=>?_
 have hs3:=hx3.size
 generalize hg:w2.heap.size=g at *
 have hF3:FW w2 w3 g n (fil n 0):=⟨hx3,by simpa [fil] using hM3,by omega⟩
 refine zg1 u23 ?_
 refine zaq n (fun k us w'=>us=[.int .i64 (k:Int)]∧k≤n∧FW w2 w' g n (fil n k)) 0 (Nat.zero_le _) ⟨rfl,Nat.zero_le _,hF3⟩ ?_
 rintro k mk u w4 hkm ⟨hu,hkl,hF4⟩
 simp only [List.map_cons,List.map_nil,List.cons.injEq,and_true] at hu
 rw [hu]
 refine zah ?_
 refine br (fun hlt=>?_) (fun hge=>?_)
 · have hk:k<n:=by omega
   refine zbs (α:=Int) rfl u23 ty3 hk ?_
   refine za2 (α:=Int) rfl ty3 hF4.mine (by rw [zae,zmT hkl]) hk (zbk (v:=63) (by omega)) fun w5 hc5 hm5=>?_
   have hF5:=hF4.set (v:=63) hc5 hm5
   rw [zmU hk] at hF5
   refine zaf (by omega) ?_
   exact ⟨mk-1,by omega,k+1,by omega,rfl,by omega,hF5⟩
 have hk:k=n:=by omega
 rw [hk,zkq] at hF4
 have hMS:MS c (List.replicate n 63) (fun i=>¬UsedP c (zat c i).toNat):=⟨by simp [hnn],fun i hi hd=>by
   rw [←zaX (by simp;omega)]
   obtain ⟨p,_,h1,_⟩:=zc7 hc hi
   have hd':¬UsedP c (zat c i).toNat:=hd
   rw [h1,Int.toNat_natCast] at hd'
   rw [zjx (p:=p) h1 hd']
   simp⟩
 generalize List.replicate n 63=out at *
 clear hu hkm
 have hus:zdd c<256:=za3 h8.1
 refine NIL.mk rfl ?_
 refine zaa zh1 ?_
 refine zab ty3 hW.used (e2.trans hF4.ext) fun _=>?_
 refine (zcJ (m:=zdd c) (by omega)).mono ?_
 rintro v36 w5 ⟨hx5,ho5⟩
 unfold zdd at ho5
 rw [zcW (by omega)] at ho5
 have hF5:=hF4.step hx5
 have hg4:=hF4.lt
 have hL:∀ p,p∈zaS c.procs.length (UsedP c)↔UsedP c p:=fun p=>by rw [zaE];exact ⟨fun h=>h.2,fun h=>⟨h.lt hc,h⟩⟩
 have hLl:(zaS c.procs.length (UsedP c)).length≤8:=Nat.le_trans zaT h8.1
 generalize zaS c.procs.length (UsedP c)=L at *
 have hO5:=ho5.toI
 generalize hlo:w4.heap.size=lo at *
 generalize hhi:w5.heap.size=hi at *
 refine zag u23 ho5.is ?_
 rw [zae]
 refine zaq L.length (fun k us w'=>∃ (out':List Nat),us=[.int .i64 (k:Int)]∧k≤L.length∧FW w2 w' g n out'∧OwnI lo hi w' v36 (zaA L)∧MS c out' (fun i=>¬UsedP c (zat c i).toNat∨(zat c i).toNat∈L.take k)) 0 (Nat.zero_le _) ⟨out,rfl,Nat.zero_le _,hF5,hO5,hMS.mono fun j _ h=>h.elim id fun h=>by simp at h⟩ ?_
 rintro k mk u w8 hkm ⟨out8,hu,hkl,hF8,hO8,hS8⟩
 simp only [List.map_cons,List.map_nil,List.cons.injEq,and_true] at hu
 rw [hu]
 refine zah ?_
 refine br (fun hlt=>?_) (fun hge=>?_)
 case refine_2=>
   rw [hS8.fin fun j hj=>by
     by_cases hu:UsedP c (zat c j).toNat
     · exact .inr (by rw [List.take_of_length_le (by omega)];exact (hL _).2 hu)
     exact .inl hu] at hF8
   exact ⟨hx12.trans hF8.ext,hF8.own.mono (by omega)⟩
 have hk:k<L.length:=by omega
 refine zad u23 ty3 (i:=k) hO8.is (by rw [zae];exact hk) fun b2 o2 hA2=>?_
 rw [zaL] at hA2
 refine zab ty3 hA2 (Ext.refl _) fun _=>?_
 have htk:=fun x=>za9 hk (x:=x)
 have hup:=(hL L[k]).1 (List.getElem_mem hk)
 generalize L[k]=p at *
 have hpn:=hup.lt hc
 have hpe:p<c.entry.length:=by rw [hc.2.1.1];exact hpn
 have e8:=e2.trans hF8.ext
 refine zad u23 ty3 (i:=p) hB2 (by rw [zae,zhH];exact hpn) fun b3 o3 hA3=>?_
 rw [zaG,zmQ hpn] at hA3
 refine zab ty3 hA3 hF8.ext fun _=>?_
 refine (zmV hW.wl e8 hE2 hF8.ext hc hTR hpn (h:=znS c p) zit).mono ?_
 rintro v49 w9 ⟨hx9,ho9⟩
 have hF9:=hF8.step hx9
 have hO9:=hO8.ext hx9
 have hg8:=hF8.lt
 have hA9:=ho9.toI
 have e9:=e2.trans hF9.ext
 generalize hl8':w8.heap.size=lo8 at *
 generalize hl9:w9.heap.size=lo9 at *
 obtain ⟨he1,he2,he3⟩:=zeG hc hpe
 obtain ⟨hz1,hz2,hz3⟩:=zdj hc hpn
 obtain ⟨_,hez,_⟩:=zjb hc hpe
 have hval:∀ i,eN c p≤i→i≤zN c p→zau (zbU c (zcr c) p (znS c p)) i=zei c i:=fun i h1 h2=>(ziu (zkm hc hpe h1 h2) hup).symm
 have hin:∀ i,i<c.ins.length→(zat c i).toNat=p→eN c p≤i∧i≤zN c p:=fun i hi h=>by
   obtain ⟨q,hq,h1,h2⟩:=zc7 hc hi
   have:q=p:=by rw [h1,Int.toNat_natCast] at h;exact h
   subst this;exact h2
 have hfl:(zbU c (zcr c) p (znS c p)).length=c.ins.length:=zc5 _ _ _ _
 have hf64:=zgx (c:=c) (T:=zcr c) (p:=p) (h:=znS c p)
 generalize zbU c (zcr c) p (znS c p)=fl at *
 refine NIL.mk rfl ?_
 refine zaa zbd ?_
 refine zaa za1 ?_
 refine zac zbE (zap hW.wl.code) e9 fun v54 h54=>?_
 refine zad u23 ty3 h54 hpe fun b5 o5 hA5=>?_
 rw [zbe hpe,he1] at hA5
 refine zab ty3 hA5 e9 fun _=>?_
 generalize hE:eN c p=E at *
 generalize hZ:zN c p=Z at *
 refine zaq (Z+1-E) (fun j us w'=>∃ (out':List Nat),us=[.int .i64 ((E+j:Nat):Int)]∧E+j≤Z+1∧FW w2 w' g n out'∧OwnI lo hi w' v36 (zaA L)∧OwnI lo8 lo9 w' v49 (zaA fl)∧MS c out' (fun i=>¬UsedP c (zat c i).toNat∨(zat c i).toNat∈L.take k∨(E≤i∧i<E+j))) 0 (Nat.zero_le _) ⟨out8,rfl,by omega,hF9,hO9,hA9,hS8.mono fun i _ h=>h.imp id fun h=>h.resolve_right fun h=>by omega⟩ ?_
 rintro j mj u w11 hjm ⟨out11,hu,hjl,hF11,hO11,hA11,hS11⟩
 simp only [List.map_cons,List.map_nil,List.cons.injEq,and_true] at hu
 rw [hu]
 have e11:=e2.trans hF11.ext
 refine NIL.mk rfl ?_
 refine zaa zbd ?_
 refine zac zbt hW.wl.code e11 fun v62 h62=>?_
 refine (zcz h62 e11 (by omega)).mono ?_
 rintro _ w12 ⟨hx12',rfl⟩
 rw [hz1]
 have hF12:=hF11.step hx12'
 have hO12:=hO11.ext hx12'
 have hA12:=hA11.ext hx12'
 refine zah ?_
 refine br (fun hlt=>?_) (fun hge=>?_)
 case refine_2=>
   refine zaf (by omega) ?_
   refine ⟨mk-1,by omega,k+1,by omega,out11,rfl,by omega,hF12,hO12,hS11.mono fun i hi h=>?_⟩
   rcases h with h | h
   · exact .inl h
   rcases (htk _).1 h with h | h
   · exact .inr (.inl h)
   have:=hin i hi h
   exact .inr (.inr (by omega))
 have hij:E+j<n:=by omega
 have hv:=hval (E+j) (by omega) (by omega)
 have hv64:=zcu hf64 (E+j)
 refine zad u23 ty3 (i:=E+j) hA12.is (by rw [zae,hfl,hnn];exact hij) fun b6 o6 hA6=>?_
 rw [zaG] at hA6
 refine zab ty3 hA6 (Ext.refl _) fun _=>?_
 refine zbs (α:=Int) rfl u23 ty3 hij ?_
 refine za2 (α:=Int) rfl ty3 hF12.mine (by rw [zae,hS11.1,hnn]) hij (zbk (v:=zau fl (E+j)) (by omega)) fun w13 hc13 hm13=>?_
 have hF13:=hF12.set (v:=zau fl (E+j)) hc13 hm13
 have hc13':=zdH hc13
 refine zaf (by omega) ?_
 refine ⟨mj-1,by omega,j+1,by omega,_,rfl,by omega,hF13,hO12.chg hc13' (by omega),hA12.chg hc13' (by omega),hS11.set (by rw [hnn];exact hij) hv fun i h=>?_⟩
 by_cases e:i=E+j
 · exact .inr e
 exact .inl (h.imp id fun h=>h.imp id fun h=>by omega)
theorem zoK {w W0:World} {v0:Value} {c:DCode} (h0:Is W0 v0 c) (e0:Ext W0 w) (hc:CodeR c) :
   CALL Tryz.prog 71 [v0] w fun r w'=>Ext w w'∧Own w.heap.size w' r (zaA (zgZ c)):=by
 refine F71_call ?_
 unfold F71
 have h8:=hc.1.procs8
 have hil:=hc.f.ins
 have hTR:=zft c
 refine zbr h0 e0 fun w0 hx0 hA=>?_
 have hs0:=hx0.size
 refine zac zbt hA (Ext.refl _) fun v10 h10=>?_
 refine (zkr h10 (Ext.refl _) hc).mono ?_
 rintro v12 w1 ⟨hx1,ho1⟩
 have hs1:=hx1.size
 refine zac zbt hA hx1 fun v11 h11=>?_
 refine (zks h11 hx1 ho1.is (Ext.refl _) hc).mono ?_
 rintro v15 w1b ⟨hx1b,ho1b⟩
 have hs1b:=hx1b.size
 refine zac zbt hA (hx1.trans hx1b) fun v16 h16=>?_
 refine (zfu h16 (hx1.trans hx1b) hc).mono ?_
 rintro v17 w2 ⟨hx2,ho2⟩
 have hs2:=hx2.size
 have hx12:=hx1.trans (hx1b.trans hx2)
 have hE2:=ho1.is.ext (hx1b.trans hx2)
 have hB2:=ho1b.is.ext hx2
 have hU2:=ho2.is
 refine zaa zaJ ?_
 refine zac zct (zai hA) hx12 fun v20 h20=>?_
 refine zag u29 h20 ?_
 have hn:c.ins.length=c.ins.length:=rfl
 generalize hnn:c.ins.length=n at hn
 rw [hnn] at hil
 have hz0:=(zdj hc h8.2).2.2
 refine zcK (by omega) (by omega) fun w3 hx3 hM3=>?_
 have hs3:=hx3.size
 generalize hg:w2.heap.size=g at *
 have hF3:FW w2 w3 g n (List.replicate n 0):=⟨hx3,hM3,by omega⟩
 refine zaq c.procs.length (fun k us w'=>∃ (out':List Nat),us=[.int .i64 (k:Int)]∧k≤c.procs.length∧FW w2 w' g n out'∧MS c out' (fun i=>(zat c i).toNat<k)) 0 (Nat.zero_le _) ⟨_,rfl,Nat.zero_le _,hF3,by simp [hnn],fun i _ h=>by omega⟩ ?_
 rintro p mk u w8 hkm ⟨out8,hu,hkl,hF8,hS8⟩
 simp only [List.map_cons,List.map_nil,List.cons.injEq,and_true] at hu
 rw [hu]
 have e8:=hx12.trans hF8.ext
 refine zaa zba ?_
 refine zac zbP (zar hA) e8 fun v23 h23=>?_
 refine zag u22 h23 ?_
 refine zah ?_
 refine br (fun hlt=>?_) (fun hge=>?_)
 case refine_2=>
   rw [hS8.fin fun j hj=>by obtain ⟨q,hq,h1,_⟩:=zc7 hc hj;rw [h1,Int.toNat_natCast];omega] at hF8
   exact ⟨hx0.trans (hx12.trans hF8.ext),hF8.own.mono (by omega)⟩
 have hpn:p<c.procs.length:=by omega
 have hpe:p<c.entry.length:=by rw [hc.2.1.1];exact hpn
 have hxd:=zak w8
 have hF8d:=hF8.step hxd
 have e8d:=e8.trans hxd
 generalize World.drew1 w8=w8d at *
 refine zac zbt hA e8d fun v28 h28=>?_
 refine zad u23 ty3 (i:=p) hB2 (by rw [zae,zhH];exact hpn) fun b3 o3 hA3=>?_
 rw [zaG,zmQ hpn] at hA3
 refine zab ty3 hA3 hF8d.ext fun _=>?_
 refine (zg2 h28 e8d hE2 hF8d.ext hc hTR hpn (h:=znS c p) zit).mono ?_
 rintro v49 w9 ⟨hx9,ho9⟩
 have hF9:=hF8d.step hx9
 have hg8:=hF8d.lt
 have hA9:=ho9.toI
 have e9:=hx12.trans hF9.ext
 generalize hl8':w8d.heap.size=lo8 at *
 generalize hl9:w9.heap.size=lo9 at *
 obtain ⟨he1,he2,he3⟩:=zeG hc hpe
 obtain ⟨hz1,hz2,hz3⟩:=zdj hc hpn
 obtain ⟨_,hez,_⟩:=zjb hc hpe
 have hval:UsedP c p→∀ i,eN c p≤i→i≤zN c p→zau (zbU c (zcr c) p (znS c p)) i=zei c i:=fun hu i h1 h2=>(ziu (zkm hc hpe h1 h2) hu).symm
 have hval2:¬UsedP c p→∀ i,eN c p≤i→i≤zN c p→63=zei c i:=fun hu i h1 h2=>(zjx (zkm hc hpe h1 h2) hu).symm
 have hin:∀ i,i<c.ins.length→(zat c i).toNat=p→eN c p≤i∧i≤zN c p:=fun i hi h=>by
   obtain ⟨q,hq,h1,h2⟩:=zc7 hc hi
   have:q=p:=by rw [h1,Int.toNat_natCast] at h;exact h
   subst this;exact h2
 have hfl:(zbU c (zcr c) p (znS c p)).length=c.ins.length:=zc5 _ _ _ _
 have hf64:=zgx (c:=c) (T:=zcr c) (p:=p) (h:=znS c p)
 generalize zbU c (zcr c) p (znS c p)=fl at *
 refine zaa za1 ?_
 refine zac zbE (zap hA) e9 fun v37 h37=>?_
 refine zad u23 ty3 h37 hpe fun b5 o5 hA5=>?_
 rw [zbe hpe,he1] at hA5
 refine zab ty3 hA5 e9 fun _=>?_
 generalize hE:eN c p=E at *
 generalize hZ:zN c p=Z at *
 refine zaq (Z+1-E) (fun j us w'=>∃ (out':List Nat),us=[.int .i64 ((E+j:Nat):Int)]∧E+j≤Z+1∧FW w2 w' g n out'∧OwnI lo8 lo9 w' v49 (zaA fl)∧MS c out' (fun i=>(zat c i).toNat<p∨(E≤i∧i<E+j))) 0 (Nat.zero_le _) ⟨out8,rfl,by omega,hF9,hA9,hS8.mono fun i _ h=>h.resolve_right fun h=>by omega⟩ ?_
 rintro j mj u w11 hjm ⟨out11,hu,hjl,hF11,hA11,hS11⟩
 simp only [List.map_cons,List.map_nil,List.cons.injEq,and_true] at hu
 rw [hu]
 have e11:=hx12.trans hF11.ext
 refine zac zbt hA e11 fun v42 h42=>?_
 refine (zdE h42 e11 (p:=(p:Int)) (by omega) (by omega) hc.2.1.nonneg).mono ?_
 rintro _ w12 ⟨hx12',rfl⟩
 rw [hz2]
 have hF12:=hF11.step hx12'
 have hA12:=hA11.ext hx12'
 refine zdw ?_
 refine br (fun hlt=>?_) (fun hge=>?_)
 case refine_2=>
   refine zaf (by omega) ?_
   refine ⟨mk-1,by omega,p+1,by omega,out11,rfl,by omega,hF12,hS11.mono fun i hi h=>?_⟩
   by_cases e:(zat c i).toNat=p
   · have:=hin i hi e
     exact .inr (by omega)
   exact .inl (by omega)
 have hij:E+j<n:=by omega
 refine zbs (α:=Int) rfl u23 ty3 hij ?_
 refine za2 (α:=Int) rfl ty3 hF12.mine (by rw [zae,hS11.1,hnn]) hij (zbk (v:=63) (by omega)) fun w13 hc13 hm13=>?_
 have hF13:=hF12.set (v:=63) hc13 hm13
 have hc13':=zdH hc13
 have hA13:=hA12.chg hc13' (by omega)
 refine zad u82 ty4 (i:=p) hU2 (by rw [zaj];exact hpn) fun b7 o7 hA7=>?_
 refine zaw ty4 hA7 hF13.ext ?_
 have hmk:=zaB (n:=c.procs.length) (p:=UsedP c) (i:=p)
 rw [zaM (by rw [zaj];exact hpn)] at hmk
 have hD:∀ i:Nat,((zat c i).toNat<p∨(E≤i∧i<E+(j+1)))→((zat c i).toNat<p∨(E≤i∧i<E+j))∨i=E+j:=fun i h=>by
   by_cases e:i=E+j
   · exact .inr e
   exact .inl (h.imp id fun h=>by omega)
 refine zbw (fun hf=>?_) (fun hf=>?_)
 · have hv:=hval (hmk.1 hf).2 (E+j) (by omega) (by omega)
   have hv64:=zcu hf64 (E+j)
   refine zad u23 ty3 (i:=E+j) hA13.is (by rw [zae,hfl,hnn];exact hij) fun b6 o6 hA6=>?_
   rw [zaG] at hA6
   refine zab ty3 hA6 (Ext.refl _) fun _=>?_
   refine zbs (α:=Int) rfl u23 ty3 hij ?_
   refine za2 (α:=Int) rfl ty3 hF13.mine (by rw [zae,List.length_set,hS11.1,hnn]) hij (zbk (v:=zau fl (E+j)) (by omega)) fun w14 hc14 hm14=>?_
   have hF14:=hF13.set (v:=zau fl (E+j)) hc14 hm14
   have hc14':=zdH hc14
   rw [List.set_set] at hF14
   refine zaf (by omega) ?_
   exact ⟨mj-1,by omega,j+1,by omega,_,rfl,by omega,hF14,hA13.chg hc14' (by omega),hS11.set (by rw [hnn];exact hij) hv hD⟩
 have hv:=hval2 (fun h=>by rw [hmk.2 ⟨hpn,h⟩] at hf;cases hf) (E+j) (by omega) (by omega)
 refine zaf (by omega) ?_
 exact ⟨mj-1,by omega,j+1,by omega,_,rfl,by omega,hF13,hA13,hS11.set (by rw [hnn];exact hij) hv hD⟩
def MC (c:DCode) (ms:List Bool) (i:Nat):Prop:=
 ((zal c i).op=4→mkd ms (eN c (agN c i))∧(mkd ms (zN c (agN c i))→∀ j∈zax c i,mkd ms j))∧(¬(zal c i).op=4→∀ j∈zax c i,mkd ms j)
structure TP (c:DCode) (ms0:List Bool) (ag:Bool) (ms:List Bool) (k:Nat):Prop where
 len:ms.length=c.ins.length
 snd:∀ i,mkd ms i→MetP c i
 root:∀ p,RootP c p→mkd ms (eN c p)
 yes:ag=true→zhD ms0<zhD ms
 no:ag=false→ms=ms0∧∀ i,i<k→mkd ms0 i→MC c ms0 i
theorem zdX {ms:List Bool} {i j:Nat} (h:mkd ms j):mkd (ms.set i true) j:=by
 have hl:=znL h
 by_cases hi:i<ms.length
 · exact (zb8 hi).2 (.inl h)
 rw [List.set_eq_of_length_le (by omega)];exact h
theorem zix {ms:List Bool} {i:Nat} (h:mkd ms i):ms.set i true=ms:=by
 have hl:=znL h
 rw [zaM hl] at h
 rw [←h];exact List.set_getElem_self hl
def zuC (ms:List Bool) (i:Nat) (ag:Bool):Bool:=ag || !ms.getD i false
theorem znX {ms:List Bool} {i:Nat} {ag:Bool} (h:mkd ms i):zuC ms i ag=ag:=by
 unfold mkd at h;unfold zuC;rw [h];simp
theorem znY {ms:List Bool} {i:Nat} {ag:Bool} (h:¬mkd ms i):zuC ms i ag=true:=by
 unfold mkd at h;unfold zuC;rw [Bool.not_eq_true] at h;rw [h];simp
theorem TP.meet {c:DCode} {ms0 ms:List Bool} {ag:Bool} {k i:Nat} (h:TP c ms0 ag ms k) (hi:i<c.ins.length) (hm:MetP c i):TP c ms0 (zuC ms i ag) (ms.set i true) k:=by
 by_cases hk:mkd ms i
 · rw [znX hk,zix hk];exact h
 rw [znY hk]
 have hc:=zgu (by rw [h.len];exact hi) hk
 refine ⟨by simp [h.len],fun j hj=>?_,fun p hp=>zdX (h.root p hp),fun _=>?_,fun e=>by cases e⟩
 · rcases (zb8 (by rw [h.len];exact hi)).1 hj with h1 | h1
   · exact h.snd j h1
   rw [h1];exact hm
 cases ag with
 | true=>have:=h.yes rfl;omega
 | false=>rw [←(h.no rfl).1];omega
theorem TP.next {c:DCode} {ms0 ms:List Bool} {ag:Bool} {k:Nat} (h:TP c ms0 ag ms k) (hk:mkd ms k→MC c ms k):TP c ms0 ag ms (k+1):=
 ⟨h.len,h.snd,h.root,h.yes,fun e=>⟨(h.no e).1,fun i hi hm=>by
   by_cases e2:i=k
   · subst e2;rw [(h.no e).1] at hk;exact hk hm
   exact (h.no e).2 i (by omega) hm⟩⟩
theorem TP.fin {c:DCode} (hc:CodeR c) {ms0 ms:List Bool} (h:TP c ms0 false ms c.ins.length):ms=zeU c:=by
 obtain ⟨h1,h2⟩:=h.no rfl
 refine zbH h.len fun i hi=>⟨h.snd i,fun hm=>?_⟩
 have hC:MetC c (mkd ms):=⟨h.root,fun i hi ho=>?_,fun i j hi ho hj=>?_,fun i j hi ho hz hj=>?_⟩
 · exact hC.all hm
 all_goals
   have hil:=znL hi
   rw [h.len] at hil
   have:=h2 i hil (by rw [←h1];exact hi)
   rw [←h1] at this
 · exact (this.1 ho).1
 · exact this.2 ho j hj
 exact (this.1 ho).2 hz j hj
theorem TP.again {c:DCode} {ms0 ms:List Bool} {ag:Bool} {k:Nat} (h:TP c ms0 ag ms k):TP c ms false ms 0:=
 ⟨h.len,h.snd,h.root,fun e=>(by cases e),fun _=>⟨rfl,fun i hi=>by omega⟩⟩
def zfv (m n:Nat):Prop:=∀ l,l<6→m.testBit l=true→n.testBit l=true
def HC (c:DCode) (out:List Nat) (i:Nat):Prop:=
 ((zal c i).op=4→zfv (zau out i) (zau out (eN c (agN c i)))∧(MetP c (zN c (agN c i))→∀ j∈zax c i,zfv (zau out (zN c (agN c i))) (zau out j)))∧(¬(zal c i).op=4→∀ j∈zax c i,zfv (aft c [] i (zau out i)) (zau out j))
structure HP (c:DCode) (out0:List Nat) (ag:Bool) (out:List Nat) (k:Nat):Prop where
 len:out.length=c.ins.length
 lt:∀ x∈out,x<64
 snd:∀ i l,i<c.ins.length→(zau out i).testBit l=true→MayP c i l∧MetP c i
 yes:ag=true→out0.sum<out.sum
 no:ag=false→out=out0∧∀ i,i<k→MetP c i→HC c out0 i
theorem HP.lt0 {c:DCode} {out0 out:List Nat} {ag:Bool} {k:Nat} (h:HP c out0 ag out k) (i:Nat):zau out i<64:=zcu h.lt i
theorem zqD {m n:Nat} (h:n ||| m=n):zfv m n:=fun l _ hb=>by
 rw [←h,Nat.testBit_or,hb];simp
theorem ztm {m n:Nat}:zfv m (n ||| m):=fun l _ hb=>by rw [Nat.testBit_or,hb];simp
theorem ziy {m n k:Nat} (h:zfv k n):zfv k (n ||| m):=fun l hl hb=>by rw [Nat.testBit_or,h l hl hb];rfl
theorem zlE {m n:Nat} (hm:m<64) (hn:n<64):zhE m n=0↔zfv m n:=by
 constructor
 · intro h l hl hb
   have:=congrArg (·.testBit l) h
   simp only [zcd,hb,Bool.true_and,Nat.zero_testBit,Bool.not_eq_false'] at this
   exact this
 intro h
 refine Nat.eq_of_testBit_eq fun l=>?_
 rw [zcd,Nat.zero_testBit]
 cases e:m.testBit l
 · rfl
 rw [h l (zeE hm e) e];rfl
theorem zkt {m n:Nat} (hm:m<64) (hn:n<64):n ||| m<64:=Nat.or_lt_two_pow (n:=6) hn hm
theorem zsg {m n:Nat} (h:¬n ||| m=n):n<n ||| m:=by
 have:n≤n ||| m:=Nat.left_le_or
 omega
theorem HP.add {c:DCode} {out0 out:List Nat} {ag:Bool} {k i m:Nat} (h:HP c out0 ag out k) (hi:i<c.ins.length) (hm:m<64) (hmet:MetP c i) (hmay:∀ l,l<6→m.testBit l=true→MayP c i l) (hn:¬zfv m (zau out i)):HP c out0 true (out.set i (zau out i ||| m)) k:=by
 have h64:=h.lt0 i
 refine ⟨by simp [h.len],fun x hx=>?_,fun j l hj hb=>?_,fun _=>?_,fun e=>by cases e⟩
 · rcases zio hx with rfl | hx
   · exact zkt hm h64
   exact h.lt x hx
 · rw [zbQ (by rw [h.len];exact hi)] at hb
   split at hb
   · rename_i e
     subst e
     rw [Nat.testBit_or,Bool.or_eq_true] at hb
     rcases hb with hb | hb
     · exact h.snd i l hj hb
     exact ⟨hmay l (zeE hm hb) hb,hmet⟩
   exact h.snd j l hj hb
 have h1:=zgX (l:=out) (i:=i) (v:=zau out i ||| m) (by rw [h.len];exact hi)
 have h2:=zsg (m:=m) (n:=zau out i) fun e=>hn (zqD e)
 cases ag with
 | true=>have:=h.yes rfl;omega
 | false=>rw [←(h.no rfl).1];omega
theorem HP.next {c:DCode} {out0 out:List Nat} {ag:Bool} {k:Nat} (h:HP c out0 ag out k) (hk:ag=false→MetP c k→HC c out k):HP c out0 ag out (k+1):=
 ⟨h.len,h.lt,h.snd,h.yes,fun e=>⟨(h.no e).1,fun i hi hm=>by
   by_cases e2:i=k
   · subst e2
     have:=hk e hm
     rw [(h.no e).1] at this
     exact this
   exact (h.no e).2 i (by omega) hm⟩⟩
theorem zku {c:DCode} {i m l:Nat} (h4:¬(zal c i).op=4):(aft c [] i m).testBit l=true↔¬((zal c i).op=7∧agN c i=l)∧(((zal c i).op=6∧agN c i=l)∨m.testBit l=true):=by
 rw [←Bool.not_eq_false,zkn]
 unfold zvb zqp
 have e4:((zal c i).op=4)=False:=eq_false h4
 simp only [e4,false_and,or_false,not_false_eq_true,and_true,not_or,not_and,Bool.not_eq_false]
 constructor
 · rintro ⟨h1,h2⟩
   refine ⟨h1,?_⟩
   by_cases e:(zal c i).op=6∧agN c i=l
   · exact .inl e
   exact .inr (h2 fun a b=>e ⟨a,b⟩)
 rintro ⟨h1,h2⟩
 refine ⟨h1,fun h3=>?_⟩
 rcases h2 with h2 | h2
 · exact absurd h2.2 (h3 h2.1)
 exact h2
theorem zqE {c:DCode} {i j m l:Nat} (h4:¬(zal c i).op=4) (hm:MetP c i) (hj:j∈zax c i) (hmay:m.testBit l=true→MayP c i l) (hb:(aft c [] i m).testBit l=true):MayP c j l:=by
 obtain ⟨h1,h2⟩:=(zku h4).1 hb
 rcases h2 with h2 | h2
 · exact .lock hm h2.1 h2.2 hj
 exact .pass hm h4 h1 (hmay h2) hj
theorem HC.may {c:DCode} {out:List Nat} (hc:CodeR c) (h:∀ i,MetP c i→HC c out i):MayC c fun i l=>(zau out i).testBit l=true:=by
 refine ⟨fun i j hm ho hj=>?_,fun i j l hm hl ho ha hb hj=>?_,fun i l hm hl ho hb=>?_,fun i j l hm hl ho hz hb hj=>?_⟩
 · have ha:=zcl hc (hm.lt hc) (.inl ho)
   exact (h i hm).2 (by omega) j hj _ ha.2.2 ((zku (by omega)).2 ⟨fun h=>by omega,.inl ⟨ho,rfl⟩⟩)
 · exact (h i hm).2 ho j hj l hl ((zku ho).2 ⟨ha,.inr hb⟩)
 · exact ((h i hm).1 ho).1 l hl hb
 exact ((h i hm).1 ho).2 hz j hj l hl hb
theorem zqF {c:DCode} (hc:CodeR c) {out:List Nat} (hlen:out.length=c.ins.length) (hlt:∀ x∈out,x<64) (hs:∀ i l,i<c.ins.length→(zau out i).testBit l=true→MayP c i l) (h:∀ i,MetP c i→HC c out i):out=zlB c:=by
 have hC:=HC.may hc h
 refine List.ext_getElem (by rw [hlen,zhI]) fun i h1 h2=>?_
 have hi:i<c.ins.length:=by rw [←hlen];exact h1
 rw [zaX h1,zaX h2,zmR hi]
 exact zqn (zcu hlt i) fun l hl=>⟨hs i l hi,fun hm=>hC.all hl hm⟩
theorem HP.fin {c:DCode} (hc:CodeR c) {out0 out:List Nat} (h:HP c out0 false out c.ins.length):out=zlB c:=by
 obtain ⟨h1,h2⟩:=h.no rfl
 exact zqF hc h.len h.lt (fun i l hi hb=>(h.snd i l hi hb).1) fun i hm=>by rw [h1];exact h2 i (hm.lt hc) hm
theorem HP.again {c:DCode} {out0 out:List Nat} {ag:Bool} {k:Nat} (h:HP c out0 ag out k):HP c out false out 0:=
 ⟨h.len,h.lt,h.snd,fun e=>(by cases e),fun _=>⟨rfl,fun i hi=>by omega⟩⟩
theorem HP.start {c:DCode}:HP c (List.replicate c.ins.length 0) false (List.replicate c.ins.length 0) 0:=
 ⟨by simp,fun x hx=>by rw [(List.mem_replicate.1 hx).2];omega,fun i l hi hb=>by rw [←zaX (by simp;exact hi)] at hb;simp at hb,fun e=>(by cases e),fun _=>⟨rfl,fun i hi=>by omega⟩⟩
theorem HP.sum_le {c:DCode} {out0 out:List Nat} {ag:Bool} {k:Nat} (h:HP c out0 ag out k):out.sum≤c.ins.length*63:=by
 rw [←h.len];exact Go.Proofs.YtbnjpfjjmhodnaaGreatDoor.sum_le fun x hx=>by have:=h.lt x hx;omega
end Go.Proofs.YtbnjpfjjmhodnaaGreatDoor
namespace Go.Sh
open Rep (rep)
theorem ChgI.one {w w':World} {g:Nat} (h:ChgI g (g+1) w w'):Chg [g] w w':=⟨h.os,h.tape,h.output,h.size,fun b hb hn=>h.block b hb (by simp at hn;omega)⟩
theorem OwnI.chgF {α:Type} [Rep α] {w w':World} {lo hi:Nat} {v:Value} {x:α} {F:List Nat} (h:OwnI lo hi w v x) (hc:Chg F w w') (hd:∀ b∈F,b<lo∨hi≤b):OwnI lo hi w' v x:=by
 obtain ⟨G,hm,hG⟩:=h
 exact ⟨G,hm.keep fun b hb=>hc.block b (hm.lt b hb) fun hF=>by have:=hG b hb;have:=hd b hF;omega,hG⟩
theorem Blk.chgF {w w':World} {g e:Nat} {cs:List Value} {F:List Nat} (h:Blk g e w cs) (hc:Chg F w w') (hd:g∉F):Blk g e w' cs:=h.keep (hc.block g h.lt hd)
theorem Ext.chgF {w0 w w':World} {F:List Nat} (h:Ext w0 w) (hc:Chg F w w') (hd:∀ b∈F,w0.heap.size≤b):Ext w0 w':=
 ⟨hc.os.trans h.os,hc.tape.trans h.tape,hc.output.trans h.output,Nat.le_trans h.size hc.size,fun b hb=>(hc.block b (Nat.lt_of_lt_of_le hb h.size) fun hF=>by have:=hd b hF;omega).trans (h.block b hb)⟩
end Go.Sh
namespace Go.Proofs.YtbnjpfjjmhodnaaGreatDoor
open Go Go.Sh Go.Proofs
open Rep (rep)
def F148 (a0 a1 a2:Value) (w:World) (R:VW):Prop:=
 rL 82 a1 w fun x4=>
 rX 82 x4 a0 w fun x6=>
 rL 4 x6 w fun x7=>
 rD (Op.unary .not x7) w fun x8=>
 BR x8
 (rL 82 a1 w fun x9=>
 rX 82 x9 a0 w fun x11=>
 oS 4 x11 (Value.bool true) w fun w=>
 oS 4 a2 (Value.bool true) w fun w=>
 R (Value.tuple #[]) w)
 (R (Value.tuple #[]) w)
def cfg148:Cfg:=⟨extL,[],[],[],[],[],[]⟩
theorem F148_call {a0 a1 a2:Value} {w:World} {R:VW} (h:F148 a0 a1 a2 w R):cL 148 [a0,a1,a2] w R:=co (g:=cfg148) Tryz.func148 (by kernel_rfl) (by kernel_rfl) (by kernel_rfl) h
def F93 (a0:Value) (w:World) (R:VW):Prop:=
 NIL a0 <|
 rF 97 a0 0 w fun x14=>
 rF 31 x14 4 w fun x15=>
 rL 29 x15 w fun x16=>
 rN 29 3 x16 w fun x17=>
 oP (Instr.makeSlice 82 x17 x17) w fun x18 w=>
 oP (Instr.alloc 82 true (.tuple #[])) w fun x3 w=>
 oS 82 x3 x18 w fun w=>
 NIL a0 <|
 rF 97 a0 5 w fun x21=>
 rL 3 x21 w fun x22=>
 cL 107 [x22] w fun x23 w=>
 rN 23 3 x23 w fun x24=>
 LOOPI [25] [(iV 0)] w fun u3 w next3=>
 rC (u3 25) x24 w fun x26=>
 BR x26
 (rX 23 x23 (u3 25) w fun x27=>
 rL 3 x27 w fun x28=>
 (fun w=>rL 82 x3 w fun x29=>
 NIL a0 <|
 rF 97 a0 0 w fun x32=>
 rF 31 x32 3 w fun x33=>
 rL 23 x33 w fun x34=>
 rX 23 x34 x28 w fun x36=>
 rL 3 x36 w fun x37=>
 rX 82 x29 x37 w fun x38=>
 oS 4 x38 (Value.bool true) w fun w=>
 rA (u3 25) (iV 1) w fun x39=>
 next3 [x39] w) (World.drew1 w))
 (oP (Instr.alloc 4 true (.tuple #[])) w fun x6 w=>
 oS 4 x6 (Value.bool true) w fun w=>
 LOOPI [6] [x6] w fun u8 w next8=>
 rL 4 (u8 6) w fun x40=>
 BR x40
 (oS 4 (u8 6) (Value.bool false) w fun w=>
 rD (Instr.makeFunc (Go.Fn.func 148) [].toArray [x3,(u8 6)].toArray) w fun x41=>
 NIL a0 <|
 rF 97 a0 0 w fun x44=>
 rF 31 x44 4 w fun x45=>
 rL 29 x45 w fun x46=>
 rN 29 3 x46 w fun x47=>
 LOOPI [48] [(iV 0)] w fun u12 w next12=>
 rC (u12 48) x47 w fun x49=>
 BR x49
 (rX 29 x46 (u12 48) w fun x51=>
 rL 94 x51 w fun x52=>
 oP (Instr.alloc 94 true (.tuple #[])) w fun x9 w=>
 oS 94 x9 x52 w fun w=>
 rL 82 x3 w fun x53=>
 rX 82 x53 (u12 48) w fun x55=>
 rL 4 x55 w fun x56=>
 rD (Op.unary .not x56) w fun x57=>
 BR x57
 (rA (u12 48) (iV 1) w fun x96=>
 next12 [x96] w)
 (JOIN [] (fun J18=>
 rF 94 x9 0 w fun x58=>
 rL 3 x58 w fun x59=>
 rB .eql 3 T0 U0 x59 (iV 4) w fun x60=>
 BR x60
 ((fun w=>NIL a0 <|
 rF 97 a0 0 w fun x64=>
 rF 31 x64 3 w fun x65=>
 rL 23 x65 w fun x66=>
 rF 94 x9 1 w fun x67=>
 rL 3 x67 w fun x68=>
 rX 23 x66 x68 w fun x69=>
 rL 3 x69 w fun x70=>
 OPN tp (zi6 x41 [x70]) w fun x71 w=>
 (fun w=>rL 82 x3 w fun x72=>
 NIL a0 <|
 rF 97 a0 0 w fun x75=>
 rL 31 x75 w fun x76=>
 rF 94 x9 1 w fun x77=>
 rL 3 x77 w fun x78=>
 (fun w_=>cL 85 [x76,x78] w_ fun x79 w=>
 Ext w_ w ∧
 rB .sub 3 T0 U0 x79 (iV 1) w fun x80=>
 rX 82 x72 x80 w fun x81=>
 rL 4 x81 w fun x82=>
 rD (Op.unary .not x82) w fun x83=>
 BR x83
 (rA (u12 48) (iV 1) w fun x96=>
 next12 [x96] w)
 (J18 [] w)) w) (World.drew1 w)) (World.drew1 w))
 (J18 [] w)) (fun u18 w=>
 cL 87 [a0,(u12 48)] w fun x86 w=>
 rN 23 3 x86 w fun x87=>
 LOOPI [88] [(iV 0)] w fun u19 w next19=>
 rC (u19 88) x87 w fun x89=>
 BR x89
 (rX 23 x86 (u19 88) w fun x90=>
 rL 3 x90 w fun x91=>
 OPN tp (zi6 x41 [x91]) w fun x94 w=>
 rA (u19 88) (iV 1) w fun x95=>
 next19 [x95] w)
 (rA (u12 48) (iV 1) w fun x96=>
 next12 [x96] w))))
 (rL 4 (u8 6) w fun x97=>
 oP (Instr.alloc 4 true (.tuple #[])) w fun x6 w=>
 oS 4 x6 x97 w fun w=>
 next8 [x6] w))
 (rL 82 x3 w fun x98=>
 R x98 w))
def cfg93:Cfg:=⟨extL,[(18,19342812825603690643587072,[])],[(3,1099478073376,[25]),(8,316912650057057349274664176576,[6]),(12,158456325028528393712111192832,[48]),(19,78918677504442992524819171328,[88])],[(5,[0,1,2,3,4,5,6,7,8,9,10],0),(16,[0,1,2,3,4,5,6,7,8,9,10],0),(17,[0,1,2,3,4,5,6,7,8,9,10,11],128)],[],[],[]⟩
theorem F93_call {a0:Value} {w:World} {R:VW} (h:F93 a0 w R):cL 93 [a0] w R:=co (g:=cfg93) Tryz.func93 (by kernel_rfl) (by kernel_rfl) (by kernel_rfl) h
open Rep (rep)
theorem znZ {P:Program} {f:Nat} {args caps:List Value} {w:World} {K:Value→World→Prop} (hE:zdN P f=true) (h:CALL P f (args++caps) w K):OPN P (zi6 (.func (.func f) #[] caps.toArray) args) w K:=by
 obtain ⟨h⟩:=h
 refine .enter f (args++caps).toArray w ?_ h
 simp [zi6,Deferred.ofValue,invoke,zc1 hE]
theorem ztn:zdN Tryz.prog 148=true:=by kernel_rfl
theorem zto:zdN Tryz.prog 156=true:=by kernel_rfl
theorem zv5:zcm Tryz.prog 82=some [.slice none 0 0]:=by kernel_rfl
theorem zv6:zcm Tryz.prog 23=some [.slice none 0 0]:=by kernel_rfl
theorem zcL {w:World} {lo hi:Nat} {u:Value} (h:u.oneCell'=true):OwnI lo hi w u (⟨u⟩:Raw):=⟨[],⟨⟨[u],⟨rfl,rfl,h⟩,rfl⟩,List.nodup_nil,Wr.nil _⟩,by simp⟩
theorem zg4 {t by_:Nat} {z u:Value} {w:World} {K:Value→World→Prop} (hz:zcm Tryz.prog t=some [z]) (ht:tyI Tryz.prog t=some (1,by_,false)) (hu:u.oneCell'=true) (k:∀ w',Ext w w'→Blk w.heap.size t w' [u]→K (.pointer (some ⟨w.heap.size,0,none⟩)) w') :
   OP Tryz.prog (Instr.alloc t true (.tuple #[])) w fun p w1=>OPU Tryz.prog (Instr.storeAt t p u) w1 fun w2=>K p w2:=by
 refine zj2 hz fun w1 hx1 hB1=>?_
 refine zcG (α:=Raw) (lo:=0) (hi:=0) ht rfl rfl hB1 (by simp) (zcL hu) fun w2 hc2 hB2=>?_
 exact k w2 (hx1.chgI hc2 (Nat.le_refl _)) hB2
structure MW (w1 w:World) (gv g ga n:Nat) (ms:List Bool) (ag:Bool):Prop where
 ext:Ext w1 w
 var:Blk gv 82 w [.slice (some ⟨g,0,none⟩) n n]
 mks:Mine [g] w (.slice (some ⟨g,0,none⟩) n n) ms
 agn:Blk ga 4 w [.bool ag]
 n1:gv≠g
 n2:gv≠ga
 n3:g≠ga
 g0:w1.heap.size≤g
 g1:w1.heap.size≤gv
 g2:w1.heap.size≤ga
section
variable {w1 w w':World} {gv g ga n:Nat} {ms:List Bool} {ag:Bool}
theorem MW.step (h:MW w1 w gv g ga n ms ag) (hx:Ext w w'):MW w1 w' gv g ga n ms ag:=⟨h.ext.trans hx,h.var.ext hx,h.mks.ext hx,h.agn.ext hx,h.n1,h.n2,h.n3,h.g0,h.g1,h.g2⟩
theorem MW.mark {ms':List Bool} (h:MW w1 w gv g ga n ms ag) (hc:Chg [g] w w') (hm:Mine [g] w' (.slice (some ⟨g,0,none⟩) n n) ms'):MW w1 w' gv g ga n ms' ag:=
 ⟨h.ext.chgF hc (by simp [h.g0]),h.var.chgF hc (by simp [h.n1]),hm,h.agn.chgF hc (by simp [Ne.symm h.n3]),h.n1,h.n2,h.n3,h.g0,h.g1,h.g2⟩
theorem MW.agains {ag':Bool} (h:MW w1 w gv g ga n ms ag) (hc:Chg [ga] w w') (hB:Blk ga 4 w' [.bool ag']):MW w1 w' gv g ga n ms ag':=
 ⟨h.ext.chgF hc (by simp [h.g2]),h.var.chgF hc (by simp [h.n2]),h.mks.keep fun b hb=>by
   simp only [List.mem_cons,List.not_mem_nil,or_false] at hb;subst hb
   exact hc.block b (h.mks.lt b (by simp)) (by simp [h.n3]),hB,h.n1,h.n2,h.n3,h.g0,h.g1,h.g2⟩
theorem MW.cell {ga':Nat} {ag':Bool} (h:MW w1 w gv g ga n ms ag) (hx:Ext w w') (hB:Blk ga' 4 w' [.bool ag']) (hg:w.heap.size≤ga'):MW w1 w' gv g ga' n ms ag':=
 ⟨h.ext.trans hx,h.var.ext hx,h.mks.ext hx,hB,h.n1,by have:=h.var.lt;omega,by have:=h.mks.lt g (by simp);omega,h.g0,h.g1,by have:=h.ext.size;omega⟩
theorem zqG {i:Nat} (h:MW w1 w gv g ga n ms ag) (hi:i<n) (hl:ms.length=n) :
   CALL Tryz.prog 148 [.int .i64 (i:Int),.pointer (some ⟨gv,0,none⟩),.pointer (some ⟨ga,0,none⟩)] w fun r w'=>r=.tuple #[]∧MW w1 w' gv g ga n (ms.set i true) (zuC ms i ag)∧Chg [g,ga] w w':=by
 refine F148_call ?_
 unfold F148
 refine zay zep h.var rfl ?_
 refine zad u82 ty4 h.mks.is (by rw [hl];exact hi) fun b1 o1 hA1=>?_
 refine zaw ty4 hA1 (Ext.refl _) ?_
 have hmk:=zaM (ms:=ms) (i:=i) (by rw [hl];exact hi)
 refine zaV ?_
 refine zbw (fun hf=>?_) (fun hf=>?_)
 · have hn:¬mkd ms i:=by rw [hmk];simpa using hf
   rw [znY hn]
   refine zay zep h.var rfl ?_
   refine zbs (α:=Bool) rfl u82 ty4 hi ?_
   refine za2 (α:=Bool) rfl ty4 h.mks hl hi zbh fun w2 hc2 hm2=>?_
   have h2:=h.mark hc2 hm2
   refine zcG (α:=Raw) (lo:=0) (hi:=0) ty4 rfl rfl h2.agn (by simp) (zcL rfl) fun w3 hc3 hB3=>?_
   exact ⟨rfl,h2.agains hc3.one hB3,(hc2.mono (by simp)).trans (hc3.one.mono (by simp))⟩
 have hy:mkd ms i:=by rw [hmk];simpa using hf
 rw [znX hy,zix hy]
 exact ⟨rfl,h,Chg.refl _ _⟩
end
theorem ztp {w W0:World} {b:Nat} {c:DCode} (hW:WAt W0 b c) (e0:Ext W0 w) (hc:CodeR c) :
   CALL Tryz.prog 93 [.pointer (some ⟨b,0,none⟩)] w fun r w'=>Ext w w'∧Own w.heap.size w' r (zeU c):=by
 refine F93_call ?_
 unfold F93
 have h8:=hc.1.procs8
 have hil:=hc.f.ins
 have hcode:=hW.wl.code
 refine NIL.mk rfl ?_
 refine zaa zbd ?_
 refine zaa zaJ ?_
 refine zac zct (zai hcode) e0 fun v16 h16=>?_
 refine zag u29 h16 ?_
 have hz0:=(zdj hc h8.2).2.2
 have hn:c.ins.length=c.ins.length:=rfl
 generalize hnn:c.ins.length=n at hn
 rw [hnn] at hil
 refine zdm (by omega) (by omega) fun w1 hx1 hM1=>?_
 have hs1:=hx1.size
 have hg1:=hM1.lt _ (List.mem_singleton.2 rfl)
 generalize hg:w.heap.size=g at *
 refine zg4 zv5 zep rfl fun w2 hx2 hB2=>?_
 have hs2:=hx2.size
 have hM2:=hM1.ext hx2
 generalize hgv:w1.heap.size=gv at *
 refine NIL.mk rfl ?_
 refine zaa zh0 ?_
 refine zab ty3 hW.roots (e0.trans (hx1.trans hx2)) fun _=>?_
 have hrs:zce c<256:=za3 h8.1
 refine (zcJ (m:=zce c) (by omega)).mono ?_
 rintro v23 w3 ⟨hx3,ho3⟩
 unfold zce at ho3
 rw [zcW (by omega)] at ho3
 have hL:∀ p,p∈zaS c.procs.length (RootP c)↔RootP c p:=fun p=>by rw [zaE];exact ⟨fun h=>h.2,fun h=>⟨h.lt hc,h⟩⟩
 have hLl:(zaS c.procs.length (RootP c)).length≤8:=Nat.le_trans zaT h8.1
 generalize zaS c.procs.length (RootP c)=L at *
 have hs3:=hx3.size
 have hgv2:=hB2.lt
 refine zag u23 ho3.is ?_
 rw [zae]
 refine zaq L.length (fun k us w'=>∃ ms,us=[.int .i64 (k:Int)]∧k≤L.length∧Ext w w'∧Blk gv 82 w' [.slice (some ⟨g,0,none⟩) n n]∧Mine [g] w' (.slice (some ⟨g,0,none⟩) n n) ms∧OwnI w2.heap.size w3.heap.size w' v23 (zaA L)∧ms.length=n∧(∀ i,mkd ms i→MetP c i)∧∀ p∈L.take k,mkd ms (eN c p)) 0 (Nat.zero_le _) ⟨_,rfl,Nat.zero_le _,hx1.trans (hx2.trans hx3),hB2.ext hx3,hM2.ext hx3,ho3.toI,by simp,fun i h=>absurd h zbj,by simp⟩ ?_
 rintro k mk u w4 hkm ⟨ms,hu,hkl,hx4,hB4,hM4,hO4,hl4,hsn4,hrt4⟩
 simp only [List.map_cons,List.map_nil,List.cons.injEq,and_true] at hu
 rw [hu]
 refine zah ?_
 refine br (fun hlt=>?_) (fun hge=>?_)
 · have hk:k<L.length:=by omega
   refine zad u23 ty3 (i:=k) hO4.is (by rw [zae];exact hk) fun b2 o2 hA2=>?_
   rw [zaL] at hA2
   refine zab ty3 hA2 (Ext.refl _) fun _=>?_
   have htk:=fun x=>za9 hk (x:=x)
   have hrp:=(hL L[k]).1 (List.getElem_mem hk)
   generalize L[k]=p at *
   have hpe:p<c.entry.length:=by rw [hc.2.1.1];exact hrp.lt hc
   obtain ⟨he1,he2,_⟩:=zeG hc hpe
   have hxd:=zak w4
   have hx5:=hx4.trans hxd
   have hB5:=hB4.ext hxd
   have hM5:=hM4.ext hxd
   have hO5:=hO4.ext hxd
   generalize World.drew1 w4=w5 at *
   refine zay zep hB5 rfl ?_
   refine NIL.mk rfl ?_
   refine zaa zbd ?_
   refine zaa za1 ?_
   refine zac zbE (zap hcode) (e0.trans hx5) fun v34 h34=>?_
   refine zad u23 ty3 h34 hpe fun b5 o5 hA5=>?_
   rw [zbe hpe,he1] at hA5
   refine zab ty3 hA5 (e0.trans hx5) fun _=>?_
   refine zbs (α:=Bool) rfl u82 ty4 (by omega) ?_
   refine za2 (α:=Bool) rfl ty4 hM5 hl4 (by omega) zbh fun w6 hc6 hm6=>?_
   refine zaf (by omega) ?_
   refine ⟨mk-1,by omega,k+1,by omega,_,rfl,by omega,hx5.chgF hc6 (by simp [hg]),hB5.chgF hc6 (by simp;omega),hm6,hO5.chgF hc6 (by simp;omega),by simp [hl4],fun i hi=>?_,fun q hq=>?_⟩
   · rcases (zb8 (by rw [hl4];omega)).1 hi with h | h
     · exact hsn4 i h
     rw [h];exact .root hrp
   rcases (htk q).1 hq with h | h
   · exact zdX (hrt4 q h)
   rw [h];exact (zb8 (by rw [hl4];omega)).2 (.inr rfl)
 have hrt:∀ p,RootP c p→mkd ms (eN c p):=fun p hp=>hrt4 p (by rw [List.take_of_length_le (by omega)];exact (hL p).2 hp)
 have hT:TP c ms false ms 0:=⟨by rw [hl4,hnn],hsn4,hrt,fun e=>(by cases e),fun _=>⟨rfl,fun i hi=>by omega⟩⟩
 clear hu hkm hO4 ho3
 refine zg4 zuB ty4 rfl fun w5 hx5 hB5=>?_
 have hs4:=hx4.size
 have hMW:MW w w5 gv g w4.heap.size n ms true:=⟨hx4.trans hx5,hB4.ext hx5,hM4.ext hx5,hB5,by omega,by have:=hB4.lt;omega,by have:=hM4.lt g (by simp);omega,by omega,by omega,by omega⟩
 generalize w4.heap.size=ga at *
 refine LOOPI.mk (fun m us w'=>∃ (ga:Nat) (ms:List Bool) (ag:Bool),us=[.pointer (some ⟨ga,0,none⟩)]∧m=(n-zhD ms)+(if ag then 1 else 0)∧MW w w' gv g ga n ms ag∧TP c ms false ms 0∧(ag=false→ms=zeU c)) (n-zhD ms+1) ⟨ga,ms,true,rfl,rfl,hMW,hT,fun e=>by cases e⟩ ?_
 rintro m u w6 ⟨ga,ms,ag,hu,hm,hW6,hT6,hend⟩
 simp only [List.map_cons,List.map_nil,List.cons.injEq,and_true] at hu
 rw [hu]
 have hcn:=ze6 ms
 rw [hT6.len,hnn] at hcn
 refine zay ty4 hW6.agn rfl ?_
 refine zbw (fun hag=>?_) (fun hag=>?_)
 case refine_2=>
   refine zay zep hW6.var rfl ?_
   rw [←hend hag]
   exact ⟨hW6.ext,[g],hW6.mks,fun b hb=>by simp only [List.mem_cons,List.not_mem_nil,or_false] at hb;omega⟩
 rw [hag,if_pos rfl] at hm
 refine zcG (α:=Raw) (lo:=0) (hi:=0) ty4 rfl rfl hW6.agn (by simp) (zcL rfl) fun w7 hc7 hB7=>?_
 have hW7:=hW6.agains hc7.one hB7
 refine za0 (v:=.func (.func 148) #[] #[.pointer (some ⟨gv,0,none⟩),.pointer (some ⟨ga,0,none⟩)]) (fun w' _=>by simp [Instr.makeFunc]) ?_
 refine NIL.mk rfl ?_
 refine zaa zbd ?_
 refine zaa zaJ ?_
 refine zac zct (zai hcode) (e0.trans hW7.ext) fun v46 h46=>?_
 refine zag u29 h46 ?_
 rw [hnn]
 refine zaq n (fun k us w'=>∃ (ms':List Bool) (ag':Bool),us=[.int .i64 (k:Int)]∧k≤n∧MW w w' gv g ga n ms' ag'∧TP c ms ag' ms' k) 0 (Nat.zero_le _) ⟨ms,false,rfl,Nat.zero_le _,hW7,hT6⟩ ?_
 rintro k mk u w8 hkm ⟨ms8,ag8,hu,hkl,hW8,hT8⟩
 simp only [List.map_cons,List.map_nil,List.cons.injEq,and_true] at hu
 rw [hu]
 refine zah ?_
 refine br (fun hlt=>?_) (fun hge=>?_)
 case refine_2=>
   have hke:k=n:=by omega
   rw [hke] at hT8
   refine zay ty4 hW8.agn rfl ?_
   refine zg4 zuB ty4 rfl fun w9 hx9 hB9=>?_
   have hcn8:=ze6 ms8
   rw [hT8.len,hnn] at hcn8
   refine ⟨(n-zhD ms8)+(if ag8 then 1 else 0),?_,_,ms8,ag8,rfl,rfl,hW8.cell hx9 hB9 (Nat.le_refl _),hT8.again,fun e=>?_⟩
   · cases ag8 with
     | true=>have:=hT8.yes rfl;simp;omega
     | false=>rw [(hT8.no rfl).1];simp;omega
   rw [e,←hnn] at hT8
   exact hT8.fin hc
 have hk:k<n:=by omega
 have hkn:k<c.ins.length:=by omega
 have hl8:ms8.length=n:=by rw [hT8.len,hnn]
 refine zad u29 zcb h46 hkn fun b3 o3 hA3=>?_
 rw [zaF] at hA3
 refine zac zcb hA3 (e0.trans hW8.ext) fun v52 h52=>?_
 refine zbX zmj rfl zcb rfl h52 (e0.trans hW8.ext) fun w9 hx9 hAI hV9=>?_
 have hW9:=hW8.step hx9
 have hAB9:=ze1 h52 hV9 rfl
 refine zay zep hW9.var rfl ?_
 refine zad u82 ty4 (i:=k) hW9.mks.is (by rw [hl8];exact hk) fun b4 o4 hA4=>?_
 refine zaw ty4 hA4 (Ext.refl _) ?_
 refine zaV ?_
 have hmk8:=zaM (ms:=ms8) (i:=k) (by rw [hl8];exact hk)
 refine zbw (fun hf=>?_) (fun hf=>?_)
 · have hnm:¬mkd ms8 k:=by rw [hmk8];simpa using hf
   refine zaf (by omega) ?_
   exact ⟨mk-1,by omega,k+1,by omega,ms8,ag8,rfl,by omega,hW9,hT8.next fun h=>absurd h hnm⟩
 have hym:mkd ms8 k:=by rw [hmk8];simpa using hf
 have hMk:=hT8.snd k hym
 refine JOIN.mk (fun us w'=>∃ (ms':List Bool) (ag':Bool),MW w w' gv g ga n ms' ag'∧TP c ms ag' ms' k∧((zal c k).op=4→mkd ms' (eN c (agN c k)))∧∀ j∈zax c k,MetP c j) ?_ ?_
 · refine zaa za6 ?_
   refine zab ty3 (zas hAI) (Ext.refl _) fun _=>?_
   refine zao ?_
   refine br (fun c4=>?_) (fun c4=>?_)
   · obtain ⟨ha1,ha2⟩:=zbN hc hkn (.inl c4)
     have hpe:agN c k<c.entry.length:=by rw [hc.2.1.1];exact ha2
     obtain ⟨he1,he2,_⟩:=zeG hc hpe
     obtain ⟨hz1,hz2,hz3⟩:=zdj hc ha2
     have hxd:=zak w9
     have hW10:=hW9.step hxd
     generalize World.drew1 w9=w10 at *
     refine NIL.mk rfl ?_
     refine zaa zbd ?_
     refine zaa za1 ?_
     refine zac zbE (zap hcode) (e0.trans hW10.ext) fun v66 h66=>?_
     refine zaa za7 ?_
     refine zab ty3 (zav hAI) hxd fun _=>?_
     rw [ha1]
     refine zad u23 ty3 h66 hpe fun b5 o5 hA5=>?_
     rw [zbe hpe,he1] at hA5
     refine zab ty3 hA5 (e0.trans hW10.ext) fun _=>?_
     refine znZ (args:=[_]) (caps:=[_,_]) ztn ((zqG (i:=eN c (agN c k)) hW10 (by omega) hl8).mono ?_)
     rintro _ w11 ⟨rfl,hW11,hc11⟩
     have hT11:=hT8.meet he2 (.call hMk c4)
     have hme:mkd (ms8.set (eN c (agN c k)) true) (eN c (agN c k)):=(zb8 (by rw [hl8];omega)).2 (.inr rfl)
     have hx12:=zak w11
     have hW12:=hW11.step hx12
     have hgI:w8.heap.size<w10.heap.size:=by have:=hV9.lt;have:=hxd.size;omega
     have hne:w8.heap.size∉[g,ga]:=by have h1:=hW8.mks.lt g (by simp);have h2:=hW8.agn.lt;simp;omega
     have hAI11:=(hAB9.ext hxd).keep (hc11.block _ hgI hne)
     have hAI12:=(hAI11.ext hx12).at (e0.trans hW12.ext)
     generalize World.drew1 w11=w12 at *
     refine zay zep hW12.var rfl ?_
     refine NIL.mk rfl ?_
     refine zaa zbd ?_
     refine zac zbt hcode (e0.trans hW12.ext) fun v76 h76=>?_
     refine zaa za7 ?_
     refine zab ty3 (zav hAI12) (Ext.refl _) fun _=>?_
     rw [ha1]
     refine (zcz h76 (e0.trans hW12.ext) (by omega)).mono ?_
     rintro _ w13 ⟨hx13,rfl⟩
     refine ⟨hx13,?_⟩
     have hW13:=hW12.step hx13
     rw [hz1]
     refine zbf (by unfold I64;omega) ?_
     rw [show ((zN c (agN c k)+1:Nat):Int)-1=(zN c (agN c k):Int) by omega]
     have hl13:(ms8.set (eN c (agN c k)) true).length=n:=by rw [List.length_set,hl8]
     generalize ms8.set (eN c (agN c k)) true=ms13 at *
     refine zad u82 ty4 (i:=zN c (agN c k)) hW13.mks.is (by rw [hl13];omega) fun b6 o6 hA6=>?_
     refine zaw ty4 hA6 (Ext.refl _) ?_
     refine zaV ?_
     have hmk13:=zaM (ms:=ms13) (i:=zN c (agN c k)) (by rw [hl13];omega)
     refine zbw (fun hf13=>?_) (fun hf13=>?_)
     · have hnm:¬mkd ms13 (zN c (agN c k)):=by rw [hmk13];simpa using hf13
       refine zaf (by omega) ?_
       exact ⟨mk-1,by omega,k+1,by omega,ms13,_,rfl,by omega,hW13,hT11.next fun _=>⟨fun _=>⟨hme,fun h=>absurd h hnm⟩,fun h=>absurd c4 h⟩⟩
     have hyz:mkd ms13 (zN c (agN c k)):=by rw [hmk13];simpa using hf13
     exact ⟨ms13,_,hW13,hT11,fun _=>hme,fun j hj=>.back hMk c4 (hT11.snd _ hyz) hj⟩
   exact ⟨ms8,ag8,hW9,hT8,fun h=>absurd h c4,fun j hj=>.next hMk c4 hj⟩
 rintro us w14 ⟨ms14,ag14,hW14,hT14,hc14,hnx⟩
 refine (zgv hcode (e0.trans hW14.ext) hc hkn).mono ?_
 rintro v86 w15 ⟨hx15,ho15⟩
 have hW15:=hW14.step hx15
 have hl2:=zdG c k
 have hnl:=fun {j:Nat} (hj:j∈zax c k)=>(zcj hc hkn hj).1
 generalize hNx:zax c k=N at *
 refine zag u23 ho15.is ?_
 rw [zae]
 refine zaq N.length (fun q us w'=>∃ (ms':List Bool) (ag':Bool),us=[.int .i64 (q:Int)]∧q≤N.length∧MW w w' gv g ga n ms' ag'∧TP c ms ag' ms' k∧((zal c k).op=4→mkd ms' (eN c (agN c k)))∧(∀ j∈N.take q,mkd ms' j)∧OwnI w14.heap.size w15.heap.size w' v86 (zaA N)) 0 (Nat.zero_le _) ⟨ms14,ag14,rfl,Nat.zero_le _,hW15,hT14,hc14,by simp,ho15.toI⟩ ?_
 rintro q mq u w16 hqm ⟨ms16,ag16,hu,hql,hW16,hT16,hc16,hq16,hO16⟩
 simp only [List.map_cons,List.map_nil,List.cons.injEq,and_true] at hu
 rw [hu]
 refine zah ?_
 refine br (fun hlt=>?_) (fun hge=>?_)
 case refine_2=>
   refine zaf (by omega) ?_
   rw [List.take_of_length_le (by omega)] at hq16
   exact ⟨mk-1,by omega,k+1,by omega,ms16,ag16,rfl,by omega,hW16,hT16.next fun _=>⟨fun h4=>⟨hc16 h4,fun _=>hNx▸hq16⟩,fun _=>hNx▸hq16⟩⟩
 have hq:q<N.length:=by omega
 refine zad u23 ty3 (i:=q) hO16.is (by rw [zae];exact hq) fun b7 o7 hA7=>?_
 rw [zaL] at hA7
 refine zab ty3 hA7 (Ext.refl _) fun _=>?_
 have htq:=fun x=>za9 hq (x:=x)
 have hj:=List.getElem_mem hq
 have hjl:=hnl hj
 have hjm:=hnx _ hj
 generalize N[q]=j at *
 have hl16:ms16.length=n:=by rw [hT16.len,hnn]
 refine znZ (args:=[_]) (caps:=[_,_]) ztn ((zqG (i:=j) hW16 (by omega) hl16).mono ?_)
 rintro _ w17 ⟨rfl,hW17,hc17⟩
 refine zaf (by omega) ?_
 have hg14:=hW14.mks.lt g (by simp)
 have hga14:=hW14.agn.lt
 refine ⟨mq-1,by omega,q+1,by omega,_,_,rfl,by omega,hW17,hT16.meet hjl hjm,fun h4=>zdX (hc16 h4),fun i hi=>?_,hO16.chgF hc17 (by simp;omega)⟩
 rcases (htq i).1 hi with h | h
 · exact zdX (hq16 i h)
 rw [h];exact (zb8 (by rw [hl16];omega)).2 (.inr rfl)
def F156 (a0 a1 a2 a3 a4:Value) (w:World) (R:VW):Prop:=
 rL 82 a2 w fun x7=>
 rX 82 x7 a0 w fun x9=>
 rL 4 x9 w fun x10=>
 BR x10
 (rL 23 a3 w fun x13=>
 rX 23 x13 a0 w fun x15=>
 rL 3 x15 w fun x16=>
 rB .andNot 3 T0 T0 a1 x16 w fun x17=>
 rB .neq 3 T0 U0 x17 (iV 0) w fun x18=>
 BR x18
 (rL 23 a3 w fun x20=>
 rX 23 x20 a0 w fun x22=>
 rL 3 x22 w fun x23=>
 rB .or 3 T0 T0 x23 a1 w fun x25=>
 rX 23 x20 a0 w fun x26=>
 oS 3 x26 x25 w fun w=>
 oS 4 a4 (Value.bool true) w fun w=>
 R (Value.tuple #[]) w)
 (R (Value.tuple #[]) w))
 (R (Value.tuple #[]) w)
def cfg156:Cfg:=⟨extL,[],[],[],[],[],[]⟩
theorem F156_call {a0 a1 a2 a3 a4:Value} {w:World} {R:VW} (h:F156 a0 a1 a2 a3 a4 w R):cL 156 [a0,a1,a2,a3,a4] w R:=co (g:=cfg156) Tryz.func156 (by kernel_rfl) (by kernel_rfl) (by kernel_rfl) h
def F106 (a0 a1:Value) (w:World) (R:VW):Prop:=
 oP (Instr.box 82 a1) w fun x3 w=>
 NIL a0 <|
 rF 97 a0 0 w fun x15=>
 rF 31 x15 4 w fun x16=>
 rL 29 x16 w fun x17=>
 rN 29 3 x17 w fun x18=>
 oP (Instr.makeSlice 23 x18 x18) w fun x19 w=>
 oP (Instr.alloc 23 true (.tuple #[])) w fun x5 w=>
 oS 23 x5 x19 w fun w=>
 oP (Instr.alloc 4 true (.tuple #[])) w fun x6 w=>
 oS 4 x6 (Value.bool true) w fun w=>
 LOOPI [6] [x6] w fun u3 w next3=>
 rL 4 (u3 6) w fun x20=>
 BR x20
 (oS 4 (u3 6) (Value.bool false) w fun w=>
 rD (Instr.makeFunc (Go.Fn.func 156) [].toArray [x3,x5,(u3 6)].toArray) w fun x21=>
 NIL a0 <|
 rF 97 a0 0 w fun x24=>
 rF 31 x24 4 w fun x25=>
 rL 29 x25 w fun x26=>
 rN 29 3 x26 w fun x27=>
 LOOPI [28] [(iV 0)] w fun u7 w next7=>
 rC (u7 28) x27 w fun x29=>
 BR x29
 (rX 29 x26 (u7 28) w fun x31=>
 rL 94 x31 w fun x32=>
 oP (Instr.alloc 94 true (.tuple #[])) w fun x9 w=>
 oS 94 x9 x32 w fun w=>
 rL 82 x3 w fun x33=>
 rX 82 x33 (u7 28) w fun x35=>
 rL 4 x35 w fun x36=>
 rD (Op.unary .not x36) w fun x37=>
 BR x37
 (rA (u7 28) (iV 1) w fun x98=>
 next7 [x98] w)
 (rL 23 x5 w fun x38=>
 rX 23 x38 (u7 28) w fun x40=>
 rL 3 x40 w fun x41=>
 JOIN [10] (fun J19=>
 rF 94 x9 0 w fun x42=>
 rL 3 x42 w fun x43=>
 rB .eql 3 T0 U0 x43 (iV 6) w fun x45=>
 BR x45
 (rF 94 x9 1 w fun x47=>
 rL 3 x47 w fun x48=>
 rD (convert 3 139 x48) w fun x49=>
 rB .shl 3 U0 T0 (iV 1) x49 w fun x50=>
 rB .or 3 T0 T0 x41 x50 w fun x51=>
 J19 [x51] w)
 (rB .eql 3 T0 U0 x43 (iV 7) w fun x53=>
 BR x53
 (rF 94 x9 1 w fun x55=>
 rL 3 x55 w fun x56=>
 rD (convert 3 139 x56) w fun x57=>
 rB .shl 3 U0 T0 (iV 1) x57 w fun x58=>
 rB .andNot 3 T0 T0 x41 x58 w fun x59=>
 J19 [x59] w)
 (rB .eql 3 T0 U0 x43 (iV 4) w fun x61=>
 BR x61
 ((fun w=>NIL a0 <|
 rF 97 a0 0 w fun x65=>
 rF 31 x65 3 w fun x66=>
 rL 23 x66 w fun x67=>
 rF 94 x9 1 w fun x68=>
 rL 3 x68 w fun x69=>
 rX 23 x67 x69 w fun x70=>
 rL 3 x70 w fun x71=>
 OPN tp (zi6 x21 [x71,x41]) w fun x73 w=>
 (fun w=>rL 23 x5 w fun x74=>
 NIL a0 <|
 rF 97 a0 0 w fun x77=>
 rL 31 x77 w fun x78=>
 rF 94 x9 1 w fun x79=>
 rL 3 x79 w fun x80=>
 (fun w_=>cL 85 [x78,x80] w_ fun x81 w=>
 Ext w_ w ∧
 rB .sub 3 T0 U0 x81 (iV 1) w fun x82=>
 rX 23 x74 x82 w fun x83=>
 rL 3 x83 w fun x84=>
 J19 [x84] w) w) (World.drew1 w)) (World.drew1 w))
 (J19 [x41] w)))) (fun u19 w=>
 cL 87 [a0,(u7 28)] w fun x87 w=>
 rN 23 3 x87 w fun x88=>
 LOOPI [89] [(iV 0)] w fun u20 w next20=>
 rC (u20 89) x88 w fun x90=>
 BR x90
 (rX 23 x87 (u20 89) w fun x91=>
 rL 3 x91 w fun x92=>
 OPN tp (zi6 x21 [x92,(u19 10)]) w fun x96 w=>
 rA (u20 89) (iV 1) w fun x97=>
 next20 [x97] w)
 (rA (u7 28) (iV 1) w fun x98=>
 next7 [x98] w))))
 (rL 4 (u3 6) w fun x99=>
 oP (Instr.alloc 4 true (.tuple #[])) w fun x6 w=>
 oS 4 x6 x99 w fun w=>
 next3 [x6] w))
 (rL 23 x5 w fun x100=>
 R x100 w)
def cfg106:Cfg:=⟨extL,[(19,38685626227663735544087552,[10])],[(3,1267650600228229401496702162880,[6]),(7,633825300114114700748083173120,[28]),(20,316293680037414660236726243328,[89])],[(17,[0,1,2,3,4,5,6,7,8,9,10,11],0),(18,[0,1,2,3,4,5,6,7,8,9,10,11],128)],[],[],[]⟩
theorem F106_call {a0 a1:Value} {w:World} {R:VW} (h:F106 a0 a1 w R):cL 106 [a0,a1] w R:=co (g:=cfg106) Tryz.func106 (by kernel_rfl) (by kernel_rfl) (by kernel_rfl) h
open Rep (rep)
theorem zt3 {P:Program} {w:World} {t:TypeId} {v:Value} {K:Value→World→Prop} (h:v.cells=#[v]) (k:∀ w',Ext w w'→Blk w.heap.size t w' [v]→K (.pointer (some ⟨w.heap.size,0,none⟩)) w'):OP P (Instr.box t v) w K:=
 ⟨_,w.alloc (.cells #[v] t),by simp [Instr.box,newVar,newRow,h],k _ (zaP w _) (by unfold Blk;rw [heap_alloc_new w _])⟩
def AddR (c:DCode) (out:List Nat) (ag:Bool) (i m:Nat) (out':List Nat) (ag':Bool):Prop:=
 (MetP c i∧¬zfv m (zau out i)∧out'=out.set i (zau out i ||| m)∧ag'=true)∨((MetP c i→zfv m (zau out i))∧out'=out∧ag'=ag)
theorem AddR.hp {c:DCode} {out0 out out':List Nat} {ag ag':Bool} {k i m:Nat} (h:AddR c out ag i m out' ag') (hP:HP c out0 ag out k) (hi:i<c.ins.length) (hm:m<64) (hmay:∀ l,l<6→m.testBit l=true→MayP c i l):HP c out0 ag' out' k:=by
 rcases h with ⟨h1,h2,rfl,rfl⟩ | ⟨_,rfl,rfl⟩
 · exact hP.add hi hm h1 hmay h2
 exact hP
theorem AddR.sub {c:DCode} {out out':List Nat} {ag ag':Bool} {i m:Nat} (h:AddR c out ag i m out' ag') (hi:i<out.length) (hm:MetP c i):zfv m (zau out' i):=by
 rcases h with ⟨h1,h2,rfl,rfl⟩ | ⟨h,rfl,rfl⟩
 · rw [zbQ hi,if_pos rfl];exact ztm
 exact h hm
theorem AddR.mono {c:DCode} {out out':List Nat} {ag ag':Bool} {i m x j:Nat} (h:AddR c out ag i m out' ag') (hi:i<out.length) (hx:zfv x (zau out j)):zfv x (zau out' j):=by
 rcases h with ⟨h1,h2,rfl,rfl⟩ | ⟨_,rfl,rfl⟩
 · rw [zbQ hi]
   split
   · rename_i e;subst e;exact ziy hx
   exact hx
 exact hx
theorem AddR.ag {c:DCode} {out out':List Nat} {ag ag':Bool} {i m:Nat} (h:AddR c out ag i m out' ag') (e:ag'=false):ag=false:=by
 rcases h with ⟨_,_,_,rfl⟩ | ⟨_,_,rfl⟩
 · cases e
 exact e
structure HW (w1 w:World) (gm go g ga n:Nat) (vm:Value) (out:List Nat) (ag:Bool):Prop where
 ext:Ext w1 w
 met:Blk gm 82 w [vm]
 var:Blk go 23 w [.slice (some ⟨g,0,none⟩) n n]
 mine:Mine [g] w (.slice (some ⟨g,0,none⟩) n n) (zaA out)
 agn:Blk ga 4 w [.bool ag]
 n0:gm≠g
 n01:gm≠ga
 n1:go≠g
 n2:go≠ga
 n3:g≠ga
 g0:w1.heap.size≤g
 g1:w1.heap.size≤go
 g2:w1.heap.size≤ga
section
variable {w1 w w':World} {gm go g ga n:Nat} {vm:Value} {out:List Nat} {ag:Bool}
theorem HW.step (h:HW w1 w gm go g ga n vm out ag) (hx:Ext w w'):HW w1 w' gm go g ga n vm out ag:=⟨h.ext.trans hx,h.met.ext hx,h.var.ext hx,h.mine.ext hx,h.agn.ext hx,h.n0,h.n01,h.n1,h.n2,h.n3,h.g0,h.g1,h.g2⟩
theorem HW.set {i v:Nat} (h:HW w1 w gm go g ga n vm out ag) (hc:Chg [g] w w') (hm:Mine [g] w' (.slice (some ⟨g,0,none⟩) n n) ((zaA out).set i (v:Int))):HW w1 w' gm go g ga n vm (out.set i v) ag:=
 ⟨h.ext.chgF hc (by simp [h.g0]),h.met.chgF hc (by simp [h.n0]),h.var.chgF hc (by simp [h.n1]),by rw [zeF];exact hm,h.agn.chgF hc (by simp [Ne.symm h.n3]),h.n0,h.n01,h.n1,h.n2,h.n3,h.g0,h.g1,h.g2⟩
theorem HW.agains {ag':Bool} (h:HW w1 w gm go g ga n vm out ag) (hc:Chg [ga] w w') (hB:Blk ga 4 w' [.bool ag']):HW w1 w' gm go g ga n vm out ag':=
 ⟨h.ext.chgF hc (by simp [h.g2]),h.met.chgF hc (by simp [h.n01]),h.var.chgF hc (by simp [h.n2]),h.mine.keep fun b hb=>by
   simp only [List.mem_cons,List.not_mem_nil,or_false] at hb;subst hb
   exact hc.block b (h.mine.lt b (by simp)) (by simp [h.n3]),hB,h.n0,h.n01,h.n1,h.n2,h.n3,h.g0,h.g1,h.g2⟩
theorem HW.cell {ga':Nat} {ag':Bool} (h:HW w1 w gm go g ga n vm out ag) (hx:Ext w w') (hB:Blk ga' 4 w' [.bool ag']) (hg:w.heap.size≤ga'):HW w1 w' gm go g ga' n vm out ag':=
 ⟨h.ext.trans hx,h.met.ext hx,h.var.ext hx,h.mine.ext hx,hB,h.n0,by have:=h.met.lt;omega,h.n1,by have:=h.var.lt;omega,by have:=h.mine.lt g (by simp);omega,h.g0,h.g1,by have:=h.ext.size;omega⟩
theorem zqH {W1:World} {c:DCode} {i m:Nat} (h:HW w1 w gm go g ga n vm out ag) (hv:Is W1 vm (zeU c)) (e1:Ext W1 w) (hn:c.ins.length=n) (hi:i<n) (hl:out.length=n) (h64:∀ x∈out,x<64) (hm:m<64) :
   CALL Tryz.prog 156 [.int .i64 (i:Int),.int .i64 (m:Int),.pointer (some ⟨gm,0,none⟩),.pointer (some ⟨go,0,none⟩),.pointer (some ⟨ga,0,none⟩)] w fun r w'=>r=.tuple #[]∧∃ out' ag',HW w1 w' gm go g ga n vm out' ag'∧Chg [g,ga] w w'∧AddR c out ag i m out' ag':=by
 refine F156_call ?_
 unfold F156
 have hml:(zeU c).length=n:=by unfold zeU;rw [zaj,hn]
 refine zay zep h.met rfl ?_
 refine zad u82 ty4 hv (by rw [hml];exact hi) fun b1 o1 hA1=>?_
 refine zaw ty4 hA1 e1 ?_
 have hmk:=zaM (ms:=zeU c) (i:=i) (by rw [hml];exact hi)
 have hms:=zaB (n:=c.ins.length) (p:=MetP c) (i:=i)
 have hiff:(zeU c)[i]=true↔MetP c i:=by
   rw [←hmk];unfold zeU;rw [hms];exact ⟨fun h=>h.2,fun h=>⟨by omega,h⟩⟩
 have hi64:=zcu h64 i
 refine zbw (fun hf=>?_) (fun hf=>?_)
 · have hmet:=hiff.1 hf
   refine zay zbE h.var rfl ?_
   refine zad u23 ty3 (i:=i) h.mine.is (by rw [zae,hl];exact hi) fun b2 o2 hA2=>?_
   rw [zaG] at hA2
   refine zab ty3 hA2 (Ext.refl _) fun _=>?_
   refine ze8 (m:=m) (n:=zau out i) (by omega) (by omega) ?_
   refine zaI ?_
   refine br (fun hne=>?_) (fun heq=>?_)
   · have hns:¬zfv m (zau out i):=fun hs=>hne (by rw [(zlE hm hi64).2 hs];rfl)
     refine zay zbE h.var rfl ?_
     refine zad u23 ty3 (i:=i) h.mine.is (by rw [zae,hl];exact hi) fun b3 o3 hA3=>?_
     rw [zaG] at hA3
     refine zab ty3 hA3 (Ext.refl _) fun _=>?_
     refine zeZ (m:=zau out i) (n:=m) (by omega) (by omega) ?_
     have ho:=zkt hm hi64
     refine zbs (α:=Int) rfl u23 ty3 hi ?_
     refine za2 (α:=Int) rfl ty3 h.mine (by rw [zae,hl]) hi (zbk (v:=zau out i ||| m) (by omega)) fun w2 hc2 hm2=>?_
     have h2:=h.set (v:=zau out i ||| m) hc2 hm2
     refine zcG (α:=Raw) (lo:=0) (hi:=0) ty4 rfl rfl h2.agn (by simp) (zcL rfl) fun w3 hc3 hB3=>?_
     exact ⟨rfl,_,true,h2.agains hc3.one hB3,(hc2.mono (by simp)).trans (hc3.one.mono (by simp)),.inl ⟨hmet,hns,rfl,rfl⟩⟩
   have hs:zfv m (zau out i):=(zlE hm hi64).1 (Int.ofNat_inj.1 (Decidable.not_not.1 heq))
   exact ⟨rfl,out,ag,h,Chg.refl _ _,.inr ⟨fun _=>hs,rfl,rfl⟩⟩
 exact ⟨rfl,out,ag,h,Chg.refl _ _,.inr ⟨fun hm=>(by rw [hiff.2 hm] at hf;cases hf),rfl,rfl⟩⟩
end
def CR (c:DCode) (out0:List Nat) (k h0 m:Nat) (ag:Bool):Prop:=ag=false→h0=zau out0 k∧((zal c k).op=4→m=zau out0 (zN c (agN c k)))∧(¬(zal c k).op=4→m=aft c [] k (zau out0 k))
theorem HP.close {c:DCode} {out0 out:List Nat} {ag:Bool} {k h0 m:Nat} (hP:HP c out0 ag out k) (hC:CR c out0 k h0 m ag) (h1:(zal c k).op=4→zfv h0 (zau out (eN c (agN c k)))) (h2:∀ j∈zax c k,MetP c j→zfv m (zau out j)):HP c out0 ag out (k+1):=
 hP.next fun e hk=>by
   obtain ⟨c1,c2,c3⟩:=hC e
   have ho:=(hP.no e).1
   rw [←ho] at c1 c2 c3
   refine ⟨fun h4=>⟨c1▸h1 h4,fun hz j hj=>?_⟩,fun h4 j hj=>?_⟩
   · rw [←c2 h4];exact h2 j hj (.back hk h4 hz hj)
   rw [←c3 h4];exact h2 j hj (.next hk h4 hj)
theorem zve {w W0 W1:World} {b:Nat} {v1:Value} {c:DCode} (hW:WAt W0 b c) (e0:Ext W0 w) (hv:Is W1 v1 (zeU c)) (e1:Ext W1 w) (hc:CodeR c) :
   CALL Tryz.prog 106 [.pointer (some ⟨b,0,none⟩),v1] w fun r w'=>Ext w w'∧Own w.heap.size w' r (zaA (zlB c)):=by
 refine F106_call ?_
 unfold F106
 have h8:=hc.1.procs8
 have hil:=hc.f.ins
 have hcode:=hW.wl.code
 have hcell:v1.cells=#[v1]:=by
   obtain ⟨aa,cc,FF,xx,hh,_⟩:=zdb hv
   rw [hh];rfl
 refine zt3 hcell fun wm hxm hBm=>?_
 have hsm:=hxm.size
 have e0m:=e0.trans hxm
 refine NIL.mk rfl ?_
 refine zaa zbd ?_
 refine zaa zaJ ?_
 refine zac zct (zai hcode) e0m fun v17 h17=>?_
 refine zag u29 h17 ?_
 have hz0:=(zdj hc h8.2).2.2
 have hP0:=HP.start (c:=c)
 have hn:c.ins.length=c.ins.length:=rfl
 generalize hnn:c.ins.length=n at hn
 rw [hnn] at hil hP0
 refine zcK (by omega) (by omega) fun w1 hx1 hM1=>?_
 have hs1:=hx1.size
 have hg1:=hM1.lt _ (List.mem_singleton.2 rfl)
 have hmg:w.heap.size<wm.heap.size:=hBm.lt
 generalize hgm:w.heap.size=gm at *
 generalize hg:wm.heap.size=g at *
 refine zg4 zv6 zbE rfl fun w2 hx2 hB2=>?_
 have hs2:=hx2.size
 have hM2:=hM1.ext hx2
 have hBm2:=hBm.ext (hx1.trans hx2)
 generalize hgo:w1.heap.size=go at *
 have hgo2:=hB2.lt
 refine zg4 zuB ty4 rfl fun w5 hx5 hB5=>?_
 have hHW:HW w w5 gm go g w2.heap.size n v1 (List.replicate n 0) true:=⟨hxm.trans (hx1.trans (hx2.trans hx5)),hBm2.ext hx5,hB2.ext hx5,hM2.ext hx5,hB5,by omega,by omega,by omega,by omega,by omega,by omega,by omega,by omega⟩
 generalize w2.heap.size=ga at *
 generalize List.replicate n 0=out at *
 refine LOOPI.mk (fun m us w'=>∃ (ga:Nat) (out:List Nat) (ag:Bool),us=[.pointer (some ⟨ga,0,none⟩)]∧m=(n*63-out.sum)+(if ag then 1 else 0)∧HW w w' gm go g ga n v1 out ag∧HP c out false out 0∧(ag=false→out=zlB c)) (n*63-out.sum+1) ⟨ga,out,true,rfl,rfl,hHW,hP0,fun e=>by cases e⟩ ?_
 rintro m u w6 ⟨ga,out,ag,hu,hm,hW6,hT6,hend⟩
 simp only [List.map_cons,List.map_nil,List.cons.injEq,and_true] at hu
 rw [hu]
 have hcn:=hT6.sum_le
 rw [hnn] at hcn
 refine zay ty4 hW6.agn rfl ?_
 refine zbw (fun hag=>?_) (fun hag=>?_)
 case refine_2=>
   refine zay zbE hW6.var rfl ?_
   rw [←hend hag]
   exact ⟨hW6.ext,[g],hW6.mine,fun b hb=>by simp only [List.mem_cons,List.not_mem_nil,or_false] at hb;omega⟩
 rw [hag,if_pos rfl] at hm
 refine zcG (α:=Raw) (lo:=0) (hi:=0) ty4 rfl rfl hW6.agn (by simp) (zcL rfl) fun w7 hc7 hB7=>?_
 have hW7:=hW6.agains hc7.one hB7
 refine za0 (v:=.func (.func 156) #[] #[.pointer (some ⟨gm,0,none⟩),.pointer (some ⟨go,0,none⟩),.pointer (some ⟨ga,0,none⟩)]) (fun w' _=>by simp [Instr.makeFunc]) ?_
 refine NIL.mk rfl ?_
 refine zaa zbd ?_
 refine zaa zaJ ?_
 refine zac zct (zai hcode) (e0.trans hW7.ext) fun v26 h26=>?_
 refine zag u29 h26 ?_
 rw [hnn]
 refine zaq n (fun k us w'=>∃ (out':List Nat) (ag':Bool),us=[.int .i64 (k:Int)]∧k≤n∧HW w w' gm go g ga n v1 out' ag'∧HP c out ag' out' k) 0 (Nat.zero_le _) ⟨out,false,rfl,Nat.zero_le _,hW7,hT6⟩ ?_
 rintro k mk u w8 hkm ⟨out8,ag8,hu,hkl,hW8,hT8⟩
 simp only [List.map_cons,List.map_nil,List.cons.injEq,and_true] at hu
 rw [hu]
 refine zah ?_
 refine br (fun hlt=>?_) (fun hge=>?_)
 case refine_2=>
   have hke:k=n:=by omega
   rw [hke] at hT8
   refine zay ty4 hW8.agn rfl ?_
   refine zg4 zuB ty4 rfl fun w9 hx9 hB9=>?_
   have hcn8:=hT8.sum_le
   rw [hnn] at hcn8
   refine ⟨(n*63-out8.sum)+(if ag8 then 1 else 0),?_,_,out8,ag8,rfl,rfl,hW8.cell hx9 hB9 (Nat.le_refl _),hT8.again,fun e=>?_⟩
   · cases ag8 with
     | true=>have:=hT8.yes rfl;simp;omega
     | false=>rw [(hT8.no rfl).1];simp;omega
   rw [e,←hnn] at hT8
   exact hT8.fin hc
 have hk:k<n:=by omega
 have hkn:k<c.ins.length:=by omega
 have hl8:out8.length=n:=by rw [hT8.len,hnn]
 refine zad u29 zcb h26 hkn fun b3 o3 hA3=>?_
 rw [zaF] at hA3
 refine zac zcb hA3 (e0.trans hW8.ext) fun v32 h32=>?_
 refine zbX zmj rfl zcb rfl h32 (e0.trans hW8.ext) fun w9 hx9 hAI hV9=>?_
 have hW9:=hW8.step hx9
 have hAB9:=ze1 h32 hV9 rfl
 have hml:(zeU c).length=n:=by unfold zeU;rw [zaj,hnn]
 have hms:=zaB (n:=c.ins.length) (p:=MetP c) (i:=k)
 have hmk:=zaM (ms:=zeU c) (i:=k) (by rw [hml];exact hk)
 have hiff:(zeU c)[k]=true↔MetP c k:=by
   rw [←hmk];unfold zeU;rw [hms];exact ⟨fun h=>h.2,fun h=>⟨by omega,h⟩⟩
 refine zay zep hW9.met rfl ?_
 refine zad u82 ty4 (i:=k) hv (by rw [hml];exact hk) fun b4 o4 hA4=>?_
 refine zaw ty4 hA4 (e1.trans hW9.ext) ?_
 refine zaV ?_
 refine zbw (fun hf=>?_) (fun hf=>?_)
 · have hnm:¬MetP c k:=fun h=>by rw [hiff.2 h] at hf;cases hf
   refine zaf (by omega) ?_
   exact ⟨mk-1,by omega,k+1,by omega,out8,ag8,rfl,by omega,hW9,hT8.next fun _ h=>absurd h hnm⟩
 have hMk:MetP c k:=hiff.1 (by simpa using hf)
 have hk64:=hT8.lt0 k
 refine zay zbE hW9.var rfl ?_
 refine zad u23 ty3 (i:=k) hW9.mine.is (by rw [zae,hl8];exact hk) fun b5 o5 hA5=>?_
 rw [zaG] at hA5
 refine zab ty3 hA5 (Ext.refl _) fun _=>?_
 have hkz:ag8=false→zau out8 k=zau out k:=fun e=>by rw [(hT8.no e).1]
 have hkm8:∀ l,l<6→(zau out8 k).testBit l=true→MayP c k l:=fun l hl hb=>(hT8.snd k l hkn hb).1
 generalize hh0:zau out8 k=h0 at *
 refine JOIN.mk (fun us w'=>∃ (m:Nat) (out':List Nat) (ag':Bool),us=[.int .i64 (m:Int)]∧HW w w' gm go g ga n v1 out' ag'∧HP c out ag' out' k∧m<64∧CR c out k h0 m ag'∧((zal c k).op=4→zfv h0 (zau out' (eN c (agN c k))))∧∀ l,l<6→m.testBit l=true→∀ j∈zax c k,MayP c j l) ?_ ?_
 · have haf:aft c [] k h0=if (zal c k).op=6 then h0 ||| 2^agN c k else if (zal c k).op=7 then zhE h0 (2^agN c k) else if (zal c k).op=4 then (h0 &&& (tbl [] (agN c k)).1) ||| (tbl [] (agN c k)).2 else h0:=rfl
   have hgo:¬(zal c k).op=4→∀ w',HW w w' gm go g ga n v1 out8 ag8→aft c [] k h0<64→∃ (m:Nat) (out':List Nat) (ag':Bool),[Value.int .i64 (aft c [] k h0:Nat)]=[.int .i64 (m:Int)]∧HW w w' gm go g ga n v1 out' ag'∧HP c out ag' out' k∧m<64∧CR c out k h0 m ag'∧((zal c k).op=4→zfv h0 (zau out' (eN c (agN c k))))∧∀ l,l<6→m.testBit l=true→∀ j∈zax c k,MayP c j l:=fun h4 w' hW' hlt'=>
     ⟨_,out8,ag8,rfl,hW',hT8,hlt',fun e=>⟨hkz e,fun h=>absurd h h4,fun _=>by rw [hkz e]⟩,fun h=>absurd h h4,fun l hl hb j hj=>zqE h4 hMk hj (hkm8 l hl) hb⟩
   refine zaa za6 ?_
   refine zab ty3 (zas hAI) (Ext.refl _) fun _=>?_
   refine zao ?_
   refine br (fun c6=>?_) (fun c6=>?_)
   · obtain ⟨ha,_,hq⟩:=zcl hc hkn (.inl c6)
     have hp:=zd3 hq
     rw [if_pos c6] at haf
     refine zaa za7 ?_
     refine zab ty3 (zav hAI) (Ext.refl _) fun _=>?_
     rw [ha]
     refine zbA (by kernel_rfl) zh4 (by omega) ?_
     refine zda (by omega) ?_
     refine zeZ (m:=h0) (n:=2^agN c k) (by omega) (by omega) ?_
     have:=hgo (by omega) w9 hW9 (by rw [haf];exact zqm hk64 hq)
     rw [haf] at this
     exact this
   rw [if_neg c6] at haf
   refine zao ?_
   refine br (fun c7=>?_) (fun c7=>?_)
   · obtain ⟨ha,_,hq⟩:=zcl hc hkn (.inr c7)
     have hp:=zd3 hq
     rw [if_pos c7] at haf
     refine zaa za7 ?_
     refine zab ty3 (zav hAI) (Ext.refl _) fun _=>?_
     rw [ha]
     refine zbA (by kernel_rfl) zh4 (by omega) ?_
     refine zda (by omega) ?_
     refine ze8 (m:=h0) (n:=2^agN c k) (by omega) (by omega) ?_
     have:=hgo (by omega) w9 hW9 (by rw [haf];exact Nat.lt_of_le_of_lt (zf0 _ _) hk64)
     rw [haf] at this
     exact this
   rw [if_neg c7] at haf
   refine zao ?_
   refine br (fun c4=>?_) (fun c4=>?_)
   · obtain ⟨ha1,ha2⟩:=zbN hc hkn (.inl c4)
     have hpe:agN c k<c.entry.length:=by rw [hc.2.1.1];exact ha2
     obtain ⟨he1,he2,_⟩:=zeG hc hpe
     obtain ⟨hz1,hz2,hz3⟩:=zdj hc ha2
     have hxd:=zak w9
     have hW10:=hW9.step hxd
     generalize World.drew1 w9=w10 at *
     refine NIL.mk rfl ?_
     refine zaa zbd ?_
     refine zaa za1 ?_
     refine zac zbE (zap hcode) (e0.trans hW10.ext) fun v66 h66=>?_
     refine zaa za7 ?_
     refine zab ty3 (zav hAI) hxd fun _=>?_
     rw [ha1]
     refine zad u23 ty3 h66 hpe fun b5 o5 hA5=>?_
     rw [zbe hpe,he1] at hA5
     refine zab ty3 hA5 (e0.trans hW10.ext) fun _=>?_
     refine znZ (args:=[_,_]) (caps:=[_,_,_]) zto ((zqH (i:=eN c (agN c k)) (m:=h0) hW10 hv (e1.trans hW10.ext) hnn (by omega) hl8 hT8.lt hk64).mono ?_)
     rintro _ w11 ⟨rfl,out11,ag11,hW11,hc11,hR11⟩
     have hmE:MetP c (eN c (agN c k)):=.call hMk c4
     have hT11:=hR11.hp hT8 he2 hk64 fun l hl hb=>.call hMk c4 (hkm8 l hl hb)
     have hF1:=hR11.sub (by rw [hl8];omega) hmE
     have hx12:=zak w11
     have hW12:=hW11.step hx12
     have hgI:w8.heap.size<w10.heap.size:=by have:=hV9.lt;have:=hxd.size;omega
     have hne:w8.heap.size∉[g,ga]:=by have h1:=hW8.mine.lt g (by simp);have h2:=hW8.agn.lt;simp;omega
     have hAI11:=(hAB9.ext hxd).keep (hc11.block _ hgI hne)
     have hAI12:=(hAI11.ext hx12).at (e0.trans hW12.ext)
     generalize World.drew1 w11=w12 at *
     refine zay zbE hW12.var rfl ?_
     refine NIL.mk rfl ?_
     refine zaa zbd ?_
     refine zac zbt hcode (e0.trans hW12.ext) fun v76 h76=>?_
     refine zaa za7 ?_
     refine zab ty3 (zav hAI12) (Ext.refl _) fun _=>?_
     rw [ha1]
     refine (zcz h76 (e0.trans hW12.ext) (by omega)).mono ?_
     rintro _ w13 ⟨hx13,rfl⟩
     refine ⟨hx13,?_⟩
     have hW13:=hW12.step hx13
     rw [hz1]
     refine zbf (by unfold I64;omega) ?_
     rw [show ((zN c (agN c k)+1:Nat):Int)-1=(zN c (agN c k):Int) by omega]
     have hl11:out11.length=n:=by rw [hT11.len,hnn]
     refine zad u23 ty3 (i:=zN c (agN c k)) hW13.mine.is (by rw [zae,hl11];omega) fun b6 o6 hA6=>?_
     rw [zaG] at hA6
     refine zab ty3 hA6 (Ext.refl _) fun _=>?_
     refine ⟨zau out11 (zN c (agN c k)),out11,ag11,rfl,hW13,hT11,hT11.lt0 _,fun e=>⟨hkz (hR11.ag e),fun _=>by rw [(hT11.no e).1],fun h=>absurd c4 h⟩,fun _=>hF1,fun l hl hb j hj=>?_⟩
     have:=hT11.snd _ l (by omega) hb
     exact .back hMk c4 this.2 this.1 hj
   rw [if_neg c4] at haf
   have:=hgo c4 w9 hW9 (by rw [haf];exact hk64)
   rw [haf] at this
   exact this
 rintro us w14 ⟨m,out14,ag14,hus,hW14,hT14,hm64,hC14,hF14,hmay⟩
 simp only [List.map_cons,List.map_nil,List.cons.injEq,and_true] at hus
 rw [hus]
 refine (zgv hcode (e0.trans hW14.ext) hc hkn).mono ?_
 rintro v86 w15 ⟨hx15,ho15⟩
 have hW15:=hW14.step hx15
 have hl2:=zdG c k
 have hnl:=fun {j:Nat} (hj:j∈zax c k)=>(zcj hc hkn hj).1
 have hclose:=fun {out:List Nat} {o:List Nat} {ag:Bool} (hP:HP c out ag o k)=>HP.close (h0:=h0) (m:=m) hP
 generalize hNx:zax c k=N at *
 refine zag u23 ho15.is ?_
 rw [zae]
 refine zaq N.length (fun q us w'=>∃ (out':List Nat) (ag':Bool),us=[.int .i64 (q:Int)]∧q≤N.length∧HW w w' gm go g ga n v1 out' ag'∧HP c out ag' out' k∧CR c out k h0 m ag'∧((zal c k).op=4→zfv h0 (zau out' (eN c (agN c k))))∧(∀ j∈N.take q,MetP c j→zfv m (zau out' j))∧OwnI w14.heap.size w15.heap.size w' v86 (zaA N)) 0 (Nat.zero_le _) ⟨out14,ag14,rfl,Nat.zero_le _,hW15,hT14,hC14,hF14,by simp,ho15.toI⟩ ?_
 rintro q mq u w16 hqm ⟨out16,ag16,hu,hql,hW16,hT16,hC16,hF16,hq16,hO16⟩
 simp only [List.map_cons,List.map_nil,List.cons.injEq,and_true] at hu
 rw [hu]
 refine zah ?_
 refine br (fun hlt=>?_) (fun hge=>?_)
 case refine_2=>
   refine zaf (by omega) ?_
   rw [List.take_of_length_le (by omega)] at hq16
   exact ⟨mk-1,by omega,k+1,by omega,out16,ag16,rfl,by omega,hW16,hclose hT16 hC16 hF16 (hNx▸hq16)⟩
 have hq:q<N.length:=by omega
 refine zad u23 ty3 (i:=q) hO16.is (by rw [zae];exact hq) fun b7 o7 hA7=>?_
 rw [zaL] at hA7
 refine zab ty3 hA7 (Ext.refl _) fun _=>?_
 have htq:=fun x=>za9 hq (x:=x)
 have hj:=List.getElem_mem hq
 have hjl:=hnl hj
 have hmj:=fun l hl hb=>hmay l hl hb _ hj
 generalize N[q]=j at *
 have hl16:out16.length=n:=by rw [hT16.len,hnn]
 refine znZ (args:=[_,_]) (caps:=[_,_,_]) zto ((zqH (i:=j) (m:=m) hW16 hv (e1.trans hW16.ext) hnn (by omega) hl16 hT16.lt hm64).mono ?_)
 rintro _ w17 ⟨rfl,out17,ag17,hW17,hc17,hR17⟩
 refine zaf (by omega) ?_
 have hg14:=hW14.mine.lt g (by simp)
 have hga14:=hW14.agn.lt
 have hjo:j<out16.length:=by omega
 refine ⟨mq-1,by omega,q+1,by omega,out17,ag17,rfl,by omega,hW17,hR17.hp hT16 hjl hm64 hmj,fun e=>hC16 (hR17.ag e),fun h4=>hR17.mono hjo (hF16 h4),fun i hi hmi=>?_,hO16.chgF hc17 (by simp;omega)⟩
 rcases (htq i).1 hi with h | h
 · exact hR17.mono hjo (hq16 i h hmi)
 subst h;exact hR17.sub hjo hmi
end Go.Proofs.YtbnjpfjjmhodnaaGreatDoor
namespace Go.Sh
open Rep (rep)
theorem zej {α:Type} [Rep α] {w:World} {g e o:Nat} {cs:List Value} {v:Value} {l:List α} (hB:Blk g e w cs) (ho:cs[o]?=some v) (h:Is w v l):At w g o l:=by
 obtain ⟨F,xs,hr,rfl⟩:=h
 have hr':=hr
 obtain ⟨a,cap,Fi,ys,rfl,h⟩:=hr
 refine ⟨F,_,hr',fun i u hi=>?_⟩
 have:i=0:=by
   cases i with
   | zero=>rfl
   | succ i=>simp at hi
 subst this
 simp only [List.getElem?_cons_zero,Option.some.injEq] at hi
 subst hi
 have:=hB.range o _ ho
 rw [Nat.zero_add] at this
 exact this
end Go.Sh
namespace Go.Proofs.YtbnjpfjjmhodnaaGreatDoor
open Go Go.Sh Go.Proofs
open Rep (rep)
def F126 (a0 a1 a2:Value) (w:World) (R:VW):Prop:=
 (fun w=>NIL a0 <|
 rF 121 a0 1 w fun x8=>
 rL 82 x8 w fun x9=>
 rX 82 x9 a1 w fun x11=>
 rL 4 x11 w fun x12=>
 rD (Op.unary .not x12) w fun x13=>
 BR x13
 (NIL a0 <|
 rF 121 a0 1 w fun x35=>
 rL 82 x35 w fun x36=>
 rX 82 x36 a1 w fun x38=>
 oS 4 x38 (Value.bool true) w fun w=>
 (fun w=>NIL a0 <|
 rF 121 a0 2 w fun x41=>
 rL 23 x41 w fun x42=>
 NIL a0 <|
 rF 121 a0 2 w fun x46=>
 rL 23 x46 w fun x47=>
 rX 23 x47 a1 w fun x49=>
 rL 3 x49 w fun x50=>
 rB .or 3 T0 T0 x50 a2 w fun x52=>
 rX 23 x42 a1 w fun x53=>
 oS 3 x53 x52 w fun w=>
 NIL a0 <|
 rF 121 a0 3 w fun x56=>
 oS 4 x56 (Value.bool true) w fun w=>
 R (Value.tuple #[]) w) (World.drew1 w))
 (NIL a0 <|
 rF 121 a0 2 w fun x17=>
 rL 23 x17 w fun x18=>
 rX 23 x18 a1 w fun x20=>
 rL 3 x20 w fun x21=>
 rB .or 3 T0 T0 x21 a2 w fun x23=>
 NIL a0 <|
 rF 121 a0 2 w fun x26=>
 rL 23 x26 w fun x27=>
 rX 23 x27 a1 w fun x29=>
 rL 3 x29 w fun x30=>
 rB .neq 3 T0 T0 x23 x30 w fun x31=>
 BR x31
 (NIL a0 <|
 rF 121 a0 1 w fun x35=>
 rL 82 x35 w fun x36=>
 rX 82 x36 a1 w fun x38=>
 oS 4 x38 (Value.bool true) w fun w=>
 (fun w=>NIL a0 <|
 rF 121 a0 2 w fun x41=>
 rL 23 x41 w fun x42=>
 NIL a0 <|
 rF 121 a0 2 w fun x46=>
 rL 23 x46 w fun x47=>
 rX 23 x47 a1 w fun x49=>
 rL 3 x49 w fun x50=>
 rB .or 3 T0 T0 x50 a2 w fun x52=>
 rX 23 x42 a1 w fun x53=>
 oS 3 x53 x52 w fun w=>
 NIL a0 <|
 rF 121 a0 3 w fun x56=>
 oS 4 x56 (Value.bool true) w fun w=>
 R (Value.tuple #[]) w) (World.drew1 w))
 (R (Value.tuple #[]) w))) (World.drew1 w)
def cfg126:Cfg:=⟨extL,[],[],[(0,[0,1,2,3,4,5,6,7,8,9,10,11,12,13,14,15,16,17,18,19,20,21,22,23,24,25,26],0),(2,[0,1,2,3,4,5,6,7,8,9,10,11,12,13,14,15],0)],[],[],[]⟩
theorem F126_call {a0 a1 a2:Value} {w:World} {R:VW} (h:F126 a0 a1 a2 w R):cL 126 [a0,a1,a2] w R:=co (g:=cfg126) Tryz.func126 (by kernel_rfl) (by kernel_rfl) (by kernel_rfl) h
open Rep (rep)
theorem zjz {w:World} {v:Value} {c:DCode} (h:Is w v c):∃ a0 a1 a2 a3 a4 n0 n1 n2 n3 n4 k0 k1 k2 k3 k4,v=.agg #[.slice a0 n0 k0,.slice a1 n1 k1,.slice a2 n2 k2,.slice a3 n3 k3,.slice a4 n4 k4]:=by
 obtain ⟨F,cs,hr,rfl⟩:=h
 obtain ⟨F0,c0,F1,c1,F2,c2,F3,c3,F4,c4,rfl,rfl,⟨_,_,_,_,rfl,_⟩,⟨_,_,_,_,rfl,_⟩,⟨_,_,_,_,rfl,_⟩,⟨_,_,_,_,rfl,_⟩,⟨_,_,_,_,rfl,_⟩⟩:=zll hr
 exact ⟨_,_,_,_,_,_,_,_,_,_,_,_,_,_,_,rfl⟩
structure LP (c:DCode) (ms0:List Bool) (out0:List Nat) (nw:Bool) (ms:List Bool) (out:List Nat) (k:Nat):Prop where
 len:ms.length=c.ins.length
 leno:out.length=c.ins.length
 lt:∀ x∈out,x<64
 snd:∀ i,mkd ms i→MetP c i
 sndm:∀ i l,i<c.ins.length→(zau out i).testBit l=true→MayP c i l
 root:∀ p,RootP c p→mkd ms (eN c p)
 yes:nw=true→zhD ms0+out0.sum<zhD ms+out.sum
 no:nw=false→ms=ms0∧out=out0∧∀ i,i<k→mkd ms0 i→MC c ms0 i∧((zal c i).op=4→zfv (zau out0 i) (zau out0 (eN c (agN c i)))∧(mkd ms0 (zN c (agN c i))→∀ j∈zax c i,zfv (zau out0 (zN c (agN c i))) (zau out0 j)))∧(¬(zal c i).op=4→∀ j∈zax c i,zfv (aft c [] i (zau out0 i)) (zau out0 j))
theorem LP.lt0 {c:DCode} {ms0 ms:List Bool} {out0 out:List Nat} {nw:Bool} {k:Nat} (h:LP c ms0 out0 nw ms out k) (i:Nat):zau out i<64:=zcu h.lt i
def zrE (ms:List Bool) (out:List Nat) (nw:Bool) (i m:Nat):Bool:=nw || !(ms.getD i false&&decide (zau out i ||| m=zau out i))
theorem zn0 {ms:List Bool} {out:List Nat} {nw:Bool} {i m:Nat} (h:mkd ms i) (h2:zau out i ||| m=zau out i):zrE ms out nw i m=nw:=by
 unfold mkd at h;unfold zrE;rw [h,decide_eq_true h2];simp
theorem zkv {ms:List Bool} {out:List Nat} {nw:Bool} {i m:Nat} (h:¬(mkd ms i∧zau out i ||| m=zau out i)):zrE ms out nw i m=true:=by
 unfold mkd at h;unfold zrE
 cases e:ms.getD i false
 · simp
 have:¬(zau out i ||| m=zau out i):=fun h2=>h ⟨e,h2⟩
 rw [decide_eq_false this];simp
theorem zkw {out:List Nat} {i:Nat} (h:i<out.length):out.set i (zau out i)=out:=by rw [←zaX h];exact List.set_getElem_self h
theorem zqI {ms:List Bool} {i:Nat}:zhD ms≤zhD (ms.set i true):=by
 by_cases h:i<ms.length
 · by_cases hk:mkd ms i
   · rw [zix hk];exact Nat.le_refl _
   rw [zgu h hk];omega
 rw [List.set_eq_of_length_le (by omega)];exact Nat.le_refl _
theorem LP.put {c:DCode} {ms0 ms:List Bool} {out0 out:List Nat} {nw:Bool} {k i m:Nat} (h:LP c ms0 out0 nw ms out k) (hi:i<c.ins.length) (hm:m<64) (hmet:MetP c i) (hmay:∀ l,l<6→m.testBit l=true→MayP c i l) :
   LP c ms0 out0 (zrE ms out nw i m) (ms.set i true) (out.set i (zau out i ||| m)) k:=by
 by_cases hk:mkd ms i∧zau out i ||| m=zau out i
 · rw [zn0 hk.1 hk.2,zix hk.1,hk.2,zkw (by rw [h.leno];exact hi)];exact h
 rw [zkv hk]
 have h64:=h.lt0 i
 have h1:=zgX (l:=out) (i:=i) (v:=zau out i ||| m) (by rw [h.leno];exact hi)
 have h2:zau out i≤zau out i ||| m:=Nat.left_le_or
 have h3:=zqI (ms:=ms) (i:=i)
 refine ⟨by simp [h.len],by simp [h.leno],fun x hx=>?_,fun j hj=>?_,fun j l hj hb=>?_,fun p hp=>zdX (h.root p hp),fun _=>?_,fun e=>by cases e⟩
 · rcases zio hx with rfl | hx
   · exact zkt hm h64
   exact h.lt x hx
 · rcases (zb8 (by rw [h.len];exact hi)).1 hj with h4 | h4
   · exact h.snd j h4
   rw [h4];exact hmet
 · rw [zbQ (by rw [h.leno];exact hi)] at hb
   split at hb
   · rename_i e
     subst e
     rw [Nat.testBit_or,Bool.or_eq_true] at hb
     rcases hb with hb | hb
     · exact h.sndm i l hj hb
     exact hmay l (zeE hm hb) hb
   exact h.sndm j l hj hb
 have key:zhD ms+out.sum<zhD (ms.set i true)+(out.set i (zau out i ||| m)).sum:=by
   by_cases hk1:mkd ms i
   · have:=zsg fun e=>hk ⟨hk1,e⟩
     omega
   have:=zgu (by rw [h.len];exact hi) hk1
   omega
 cases nw with
 | true=>have:=h.yes rfl;omega
 | false=>rw [←(h.no rfl).1,←(h.no rfl).2.1];exact key
theorem zqJ {ms:List Bool} {out:List Nat} {nw:Bool} {i m:Nat} (e:zrE ms out nw i m=false):nw=false:=by
 unfold zrE at e
 cases nw<;>simp_all
theorem zqK {out:List Nat} {i j m x:Nat} (hi:i<out.length) (hx:zfv x (zau out j)):zfv x (zau (out.set i (zau out i ||| m)) j):=by
 rw [zbQ hi]
 split
 · rename_i e;subst e;exact ziy hx
 exact hx
theorem zhn {out:List Nat} {i m:Nat} (hi:i<out.length):zfv m (zau (out.set i (zau out i ||| m)) i):=by
 rw [zbQ hi,if_pos rfl];exact ztm
theorem LP.fin {c:DCode} (hc:CodeR c) {ms0 ms:List Bool} {out0 out:List Nat} (h:LP c ms0 out0 false ms out c.ins.length):ms=zeU c∧out=zlB c:=by
 obtain ⟨h1,h2,h3⟩:=h.no rfl
 rw [←h1,←h2] at h3
 have hT:TP c ms false ms c.ins.length:=⟨h.len,h.snd,h.root,fun e=>(by cases e),fun _=>⟨rfl,fun i hi hm=>(h3 i hi hm).1⟩⟩
 have hms:=hT.fin hc
 have hmk:∀ i,MetP c i→mkd ms i:=fun i hi=>by rw [hms];exact zaB.2 ⟨hi.lt hc,hi⟩
 exact ⟨hms,zqF hc h.leno h.lt h.sndm fun i hm=>by
   have:=(h3 i (hm.lt hc) (hmk i hm)).2
   exact ⟨fun h4=>⟨(this.1 h4).1,fun hz=>(this.1 h4).2 (hmk _ hz)⟩,this.2⟩⟩
theorem LP.again {c:DCode} {ms0 ms:List Bool} {out0 out:List Nat} {nw:Bool} {k:Nat} (h:LP c ms0 out0 nw ms out k):LP c ms out false ms out 0:=
 ⟨h.len,h.leno,h.lt,h.snd,h.sndm,h.root,fun e=>(by cases e),fun _=>⟨rfl,rfl,fun i hi=>by omega⟩⟩
theorem LP.skip {c:DCode} {ms0 ms:List Bool} {out0 out:List Nat} {nw:Bool} {k:Nat} (h:LP c ms0 out0 nw ms out k) (hk:¬mkd ms k):LP c ms0 out0 nw ms out (k+1):=
 ⟨h.len,h.leno,h.lt,h.snd,h.sndm,h.root,h.yes,fun e=>⟨(h.no e).1,(h.no e).2.1,fun i hi hm=>by
   by_cases e2:i=k
   · subst e2;rw [(h.no e).1] at hk;exact absurd hm hk
   exact (h.no e).2.2 i (by omega) hm⟩⟩
theorem LP.close {c:DCode} {ms0 ms:List Bool} {out0 out:List Nat} {nw:Bool} {k h0 m:Nat} (h:LP c ms0 out0 nw ms out k) (hC:CR c out0 k h0 m nw) (h1:(zal c k).op=4→mkd ms (eN c (agN c k))∧zfv h0 (zau out (eN c (agN c k))))
   (h2:((zal c k).op=4→mkd ms (zN c (agN c k)))→∀ j∈zax c k,mkd ms j∧zfv m (zau out j)):LP c ms0 out0 nw ms out (k+1):=
 ⟨h.len,h.leno,h.lt,h.snd,h.sndm,h.root,h.yes,fun e=>by
   obtain ⟨o1,o2,o3⟩:=h.no e
   refine ⟨o1,o2,fun i hi hm=>?_⟩
   by_cases e2:i=k
   · subst e2
     obtain ⟨c1,c2,c3⟩:=hC e
     rw [o1,o2] at h1
     rw [o1,o2] at h2
     refine ⟨⟨fun h4=>⟨(h1 h4).1,fun hz j hj=>(h2 (fun _=>hz) j hj).1⟩,fun h4 j hj=>(h2 (fun h=>absurd h h4) j hj).1⟩,fun h4=>⟨c1▸(h1 h4).2,fun hz j hj=>c2 h4▸(h2 (fun _=>hz) j hj).2⟩,fun h4 j hj=>c3 h4▸(h2 (fun h=>absurd h h4) j hj).2⟩
   exact o3 i (by omega) hm⟩
structure LW (w1 w:World) (gw g h n:Nat) (kc:List Value) (ms:List Bool) (out:List Nat) (nw:Bool):Prop where
 ext:Ext w1 w
 blk:Blk gw 121 w (kc++[.slice (some ⟨g,0,none⟩) n n,.slice (some ⟨h,0,none⟩) n n,.bool nw])
 mks:Mine [g] w (.slice (some ⟨g,0,none⟩) n n) ms
 mine:Mine [h] w (.slice (some ⟨h,0,none⟩) n n) (zaA out)
 k5:kc.length=5
 n1:gw≠g
 n2:gw≠h
 n3:g≠h
 g0:w1.heap.size≤gw
 g1:w1.heap.size≤g
 g2:w1.heap.size≤h
section
variable {w1 w w':World} {gw g h n:Nat} {kc:List Value} {ms:List Bool} {out:List Nat} {nw:Bool}
theorem LW.step (H:LW w1 w gw g h n kc ms out nw) (hx:Ext w w'):LW w1 w' gw g h n kc ms out nw:=⟨H.ext.trans hx,H.blk.ext hx,H.mks.ext hx,H.mine.ext hx,H.k5,H.n1,H.n2,H.n3,H.g0,H.g1,H.g2⟩
theorem LW.c5 (H:LW w1 w gw g h n kc ms out nw):(kc++[Value.slice (some ⟨g,0,none⟩) n n,.slice (some ⟨h,0,none⟩) n n,.bool nw])[5]?=some (.slice (some ⟨g,0,none⟩) n n):=by rw [List.getElem?_append_right (by rw [H.k5];omega),H.k5];rfl
theorem LW.c6 (H:LW w1 w gw g h n kc ms out nw):(kc++[Value.slice (some ⟨g,0,none⟩) n n,.slice (some ⟨h,0,none⟩) n n,.bool nw])[6]?=some (.slice (some ⟨h,0,none⟩) n n):=by rw [List.getElem?_append_right (by rw [H.k5];omega),H.k5];rfl
theorem LW.c7 (H:LW w1 w gw g h n kc ms out nw):(kc++[Value.slice (some ⟨g,0,none⟩) n n,.slice (some ⟨h,0,none⟩) n n,.bool nw])[7]?=some (.bool nw):=by rw [List.getElem?_append_right (by rw [H.k5];omega),H.k5];rfl
theorem LW.mark {ms':List Bool} (H:LW w1 w gw g h n kc ms out nw) (hc:Chg [g] w w') (hm:Mine [g] w' (.slice (some ⟨g,0,none⟩) n n) ms'):LW w1 w' gw g h n kc ms' out nw:=
 ⟨H.ext.chgF hc (by simp [H.g1]),H.blk.chgF hc (by simp [H.n1]),hm,H.mine.keep fun b hb=>by
   simp only [List.mem_cons,List.not_mem_nil,or_false] at hb;subst hb
   exact hc.block b (H.mine.lt b (by simp)) (by simp [Ne.symm H.n3]),H.k5,H.n1,H.n2,H.n3,H.g0,H.g1,H.g2⟩
theorem LW.set {i v:Nat} (H:LW w1 w gw g h n kc ms out nw) (hc:Chg [h] w w') (hm:Mine [h] w' (.slice (some ⟨h,0,none⟩) n n) ((zaA out).set i (v:Int))):LW w1 w' gw g h n kc ms (out.set i v) nw:=
 ⟨H.ext.chgF hc (by simp [H.g2]),H.blk.chgF hc (by simp [H.n2]),H.mks.keep fun b hb=>by
   simp only [List.mem_cons,List.not_mem_nil,or_false] at hb;subst hb
   exact hc.block b (H.mks.lt b (by simp)) (by simp [H.n3]),by rw [zeF];exact hm,H.k5,H.n1,H.n2,H.n3,H.g0,H.g1,H.g2⟩
theorem LW.news {nw':Bool} (H:LW w1 w gw g h n kc ms out nw) (hc:Chg [gw] w w') (hB:Blk gw 121 w' ((kc++[Value.slice (some ⟨g,0,none⟩) n n,.slice (some ⟨h,0,none⟩) n n,.bool nw]).set 7 (.bool nw'))):LW w1 w' gw g h n kc ms out nw':=by
 have e:(kc++[Value.slice (some ⟨g,0,none⟩) n n,.slice (some ⟨h,0,none⟩) n n,.bool nw]).set 7 (.bool nw')=kc++[Value.slice (some ⟨g,0,none⟩) n n,.slice (some ⟨h,0,none⟩) n n,.bool nw']:=by
   rw [List.set_append_right _ _ (by rw [H.k5];omega),H.k5];rfl
 rw [e] at hB
 exact ⟨H.ext.chgF hc (by simp [H.g0]),hB,H.mks.keep fun b hb=>by
   simp only [List.mem_cons,List.not_mem_nil,or_false] at hb;subst hb
   exact hc.block b (H.mks.lt b (by simp)) (by simp [Ne.symm H.n1]),H.mine.keep fun b hb=>by
   simp only [List.mem_cons,List.not_mem_nil,or_false] at hb;subst hb
   exact hc.block b (H.mine.lt b (by simp)) (by simp [Ne.symm H.n2]),H.k5,H.n1,H.n2,H.n3,H.g0,H.g1,H.g2⟩
theorem LW.l8 (H:LW w1 w gw g h n kc ms out nw):7<(kc++[Value.slice (some ⟨g,0,none⟩) n n,.slice (some ⟨h,0,none⟩) n n,.bool nw]).length:=by simp [H.k5]
theorem ziz {i m:Nat} (H:LW w1 w gw g h n kc ms out nw) (hi:i<n) (hl:ms.length=n) (hlo:out.length=n) (h64:∀ x∈out,x<64) (hm:m<64) :
   CALL Tryz.prog 126 [.pointer (some ⟨gw,0,none⟩),.int .i64 (i:Int),.int .i64 (m:Int)] w fun r w'=>r=.tuple #[]∧LW w1 w' gw g h n kc (ms.set i true) (out.set i (zau out i ||| m)) (zrE ms out nw i m)∧Chg [gw,g,h] w w':=by
 refine F126_call ?_
 unfold F126
 have hi64:=zcu h64 i
 have ho:=zkt hm hi64
 have hxd:=zak w
 have H1:=H.step hxd
 have hcd:Chg [gw,g,h] w (World.drew1 w):=⟨hxd.os,hxd.tape,hxd.output,hxd.size,fun b hb _=>hxd.block b hb⟩
 generalize World.drew1 w=wd at *
 have hmk:=zaM (ms:=ms) (i:=i) (by rw [hl];exact hi)
 refine NIL.mk rfl ?_
 refine zaa zfR ?_
 refine zay zep H1.blk H1.c5 ?_
 refine zad u82 ty4 H1.mks.is (by rw [hl];exact hi) fun b1 o1 hA1=>?_
 refine zaw ty4 hA1 (Ext.refl _) ?_
 refine zaV ?_
 have hrd:∀ {w':World} {K:Value→Prop} (H:LW w1 w' gw g h n kc ms out nw) (k:K (.int .i64 (zau out i:Int))),RD Tryz.prog (Instr.indexAt 23 (.slice (some ⟨h,0,none⟩) n n) (.int .i64 (i:Int))) w' fun x37=>RD Tryz.prog (Instr.loadAt 3 x37) w' K:=fun H k=>by
   refine zad u23 ty3 (i:=i) H.mine.is (by rw [zae,hlo];exact hi) fun b1 o1 hA1=>?_
   rw [zaG] at hA1
   exact zab ty3 hA1 (Ext.refl _) fun _=>k
 refine zbw (fun hf=>?_) (fun hf=>?_)
 · have hnew:¬(mkd ms i∧zau out i ||| m=zau out i):=fun hh=>by rw [hmk.1 hh.1] at hf;cases hf
   rw [zkv hnew]
   refine NIL.mk rfl ?_
   refine zaa zfR ?_
   refine zay zep H1.blk H1.c5 ?_
   refine zbs (α:=Bool) rfl u82 ty4 hi ?_
   refine za2 (α:=Bool) rfl ty4 H1.mks hl hi zbh fun w2 hc2 hm2=>?_
   have H2:=H1.mark hc2 hm2
   have hx3:=zak w2
   have H3:=H2.step hx3
   have hc3:Chg [gw,g,h] w2 (World.drew1 w2):=⟨hx3.os,hx3.tape,hx3.output,hx3.size,fun b hb _=>hx3.block b hb⟩
   generalize World.drew1 w2=w3 at *
   refine NIL.mk rfl ?_
   refine zaa zex ?_
   refine zay zbE H3.blk H3.c6 ?_
   refine NIL.mk rfl ?_
   refine zaa zex ?_
   refine zay zbE H3.blk H3.c6 ?_
   refine zad u23 ty3 (i:=i) H3.mine.is (by rw [zae,hlo];exact hi) fun b4 o4 hA4=>?_
   rw [zaG] at hA4
   refine zab ty3 hA4 (Ext.refl _) fun _=>?_
   refine zeZ (m:=zau out i) (n:=m) (by omega) (by omega) ?_
   refine zbs (α:=Int) rfl u23 ty3 hi ?_
   refine za2 (α:=Int) rfl ty3 H3.mine (by rw [zae,hlo]) hi (zbk (v:=zau out i ||| m) (by omega)) fun w4 hc4 hm4=>?_
   have H4:=H3.set (v:=zau out i ||| m) hc4 hm4
   refine NIL.mk rfl ?_
   refine zaa zj5 ?_
   refine zcG (α:=Raw) (lo:=0) (hi:=0) ty4 rfl rfl H4.blk H4.l8 (zcL rfl) fun w5 hc5 hB5=>?_
   exact ⟨rfl,H4.news hc5.one hB5,(((hcd.trans (hc2.mono (by simp))).trans hc3).trans (hc4.mono (by simp))).trans (hc5.one.mono (by simp))⟩
 have hym:mkd ms i:=by rw [hmk];simpa using hf
 refine NIL.mk rfl ?_
 refine zaa zex ?_
 refine zay zbE H1.blk H1.c6 ?_
 refine hrd H1 ?_
 refine zeZ (m:=zau out i) (n:=m) (by omega) (by omega) ?_
 refine NIL.mk rfl ?_
 refine zaa zex ?_
 refine zay zbE H1.blk H1.c6 ?_
 refine hrd H1 ?_
 refine zaI ?_
 refine br (fun hne=>?_) (fun heq=>?_)
 · have hnew:¬(mkd ms i∧zau out i ||| m=zau out i):=fun hh=>hne (by rw [hh.2])
   rw [zkv hnew]
   refine NIL.mk rfl ?_
   refine zaa zfR ?_
   refine zay zep H1.blk H1.c5 ?_
   refine zbs (α:=Bool) rfl u82 ty4 hi ?_
   refine za2 (α:=Bool) rfl ty4 H1.mks hl hi zbh fun w2 hc2 hm2=>?_
   have H2:=H1.mark hc2 hm2
   have hx3:=zak w2
   have H3:=H2.step hx3
   have hc3:Chg [gw,g,h] w2 (World.drew1 w2):=⟨hx3.os,hx3.tape,hx3.output,hx3.size,fun b hb _=>hx3.block b hb⟩
   generalize World.drew1 w2=w3 at *
   refine NIL.mk rfl ?_
   refine zaa zex ?_
   refine zay zbE H3.blk H3.c6 ?_
   refine NIL.mk rfl ?_
   refine zaa zex ?_
   refine zay zbE H3.blk H3.c6 ?_
   refine zad u23 ty3 (i:=i) H3.mine.is (by rw [zae,hlo];exact hi) fun b4 o4 hA4=>?_
   rw [zaG] at hA4
   refine zab ty3 hA4 (Ext.refl _) fun _=>?_
   refine zeZ (m:=zau out i) (n:=m) (by omega) (by omega) ?_
   refine zbs (α:=Int) rfl u23 ty3 hi ?_
   refine za2 (α:=Int) rfl ty3 H3.mine (by rw [zae,hlo]) hi (zbk (v:=zau out i ||| m) (by omega)) fun w4 hc4 hm4=>?_
   have H4:=H3.set (v:=zau out i ||| m) hc4 hm4
   refine NIL.mk rfl ?_
   refine zaa zj5 ?_
   refine zcG (α:=Raw) (lo:=0) (hi:=0) ty4 rfl rfl H4.blk H4.l8 (zcL rfl) fun w5 hc5 hB5=>?_
   exact ⟨rfl,H4.news hc5.one hB5,(((hcd.trans (hc2.mono (by simp))).trans hc3).trans (hc4.mono (by simp))).trans (hc5.one.mono (by simp))⟩
 have he:zau out i ||| m=zau out i:=Int.ofNat_inj.1 (Decidable.not_not.1 heq)
 rw [zn0 hym he,zix hym,he,zkw (by rw [hlo];exact hi)]
 exact ⟨rfl,H1,hcd⟩
end
def F72 (a0:Value) (w:World) (R:VW):Prop:=
 oP (Instr.box 31 a0) w fun x1 w=>
 (fun w0=>PAR w0 [[(0,12)],[(1,13)],[(2,14),(1,13)],[(3,15),(2,14)],[(4,16),(3,15),(3,15)],[(5,17)],[(6,18),(5,17)],[(7,19),(6,18)],[(8,20),(7,19),(7,19)]] (fun Q=>
 (∀ (u1:Env) (T:Nat→Nat×Nat) (w:World),Ext w0 w→zb2 [] w0.heap.size w.heap.size T→(True)→(fun w1=>rL 31 x1 w fun x12=>
 Ext w1 w∧Q 0 (upd u1 12 x12) (zdl T 0 (w1.heap.size,w.heap.size)) w) w) ∧
 (∀ (u1:Env) (T:Nat→Nat×Nat) (w:World),Ext w0 w→zb2 [] w0.heap.size w.heap.size T→(True)→(fun w1=>rF 31 x1 4 w fun x13=>
 Ext w1 w∧Q 1 (upd u1 13 x13) (zdl T 1 (w1.heap.size,w.heap.size)) w) w) ∧
 (∀ (u1:Env) (T:Nat→Nat×Nat) (w:World),Ext w0 w→zb2 [1] w0.heap.size w.heap.size T→(Q 1 u1 T w∧True)→(fun w1=>rL 29 (u1 13) w fun x14=>
 Ext w1 w∧Q 2 (upd u1 14 x14) (zdl T 2 (w1.heap.size,w.heap.size)) w) w) ∧
 (∀ (u1:Env) (T:Nat→Nat×Nat) (w:World),Ext w0 w→zb2 [2] w0.heap.size w.heap.size T→(Q 2 u1 T w∧True)→(fun w1=>rN 29 3 (u1 14) w fun x15=>
 Ext w1 w∧Q 3 (upd u1 15 x15) (zdl T 3 (w1.heap.size,w.heap.size)) w) w) ∧
 (∀ (u1:Env) (T:Nat→Nat×Nat) (w:World),Ext w0 w→zb2 [3,3] w0.heap.size w.heap.size T→(Q 3 u1 T w∧Q 3 u1 T w∧True)→(fun w1=>oP (Instr.makeSlice 82 (u1 15) (u1 15)) w fun x16 w=>
 Ext w1 w∧Q 4 (upd u1 16 x16) (zdl T 4 (w1.heap.size,w.heap.size)) w) w) ∧
 (∀ (u1:Env) (T:Nat→Nat×Nat) (w:World),Ext w0 w→zb2 [] w0.heap.size w.heap.size T→(True)→(fun w1=>rF 31 x1 4 w fun x17=>
 Ext w1 w∧Q 5 (upd u1 17 x17) (zdl T 5 (w1.heap.size,w.heap.size)) w) w) ∧
 (∀ (u1:Env) (T:Nat→Nat×Nat) (w:World),Ext w0 w→zb2 [5] w0.heap.size w.heap.size T→(Q 5 u1 T w∧True)→(fun w1=>rL 29 (u1 17) w fun x18=>
 Ext w1 w∧Q 6 (upd u1 18 x18) (zdl T 6 (w1.heap.size,w.heap.size)) w) w) ∧
 (∀ (u1:Env) (T:Nat→Nat×Nat) (w:World),Ext w0 w→zb2 [6] w0.heap.size w.heap.size T→(Q 6 u1 T w∧True)→(fun w1=>rN 29 3 (u1 18) w fun x19=>
 Ext w1 w∧Q 7 (upd u1 19 x19) (zdl T 7 (w1.heap.size,w.heap.size)) w) w) ∧
 (∀ (u1:Env) (T:Nat→Nat×Nat) (w:World),Ext w0 w→zb2 [7,7] w0.heap.size w.heap.size T→(Q 7 u1 T w∧Q 7 u1 T w∧True)→(fun w1=>oP (Instr.makeSlice 23 (u1 19) (u1 19)) w fun x20 w=>
 Ext w1 w∧Q 8 (upd u1 20 x20) (zdl T 8 (w1.heap.size,w.heap.size)) w) w) ∧
 True)
 (fun Q=>∀ (u1:Env) (T:Nat→Nat×Nat) (w:World),Ext w0 w→zb2 [0,1,2,3,4,5,6,7,8] w0.heap.size w.heap.size T→(Q 0 u1 T w∧Q 1 u1 T w∧Q 2 u1 T w∧Q 3 u1 T w∧Q 4 u1 T w∧Q 5 u1 T w∧Q 6 u1 T w∧Q 7 u1 T w∧Q 8 u1 T w∧True) →
 rD (Instr.build 121 #[(0,(u1 12)),(1,(u1 16)),(2,(u1 20)),(3,(Value.bool true))]) w fun x21=>
 oP (Instr.box 121 x21) w fun x22 w=>
 rL 31 x1 w fun x23=>
 cL 74 [x23] w fun x24 w=>
 cL 125 [x24] w fun x25 w=>
 LOOPI [5] [(iV 0)] w fun u4 w next4=>
 rN 23 3 x25 w fun x28=>
 rC (u4 5) x28 w fun x29=>
 BR x29
 ((fun w=>rF 31 x1 3 w fun x33=>
 rL 23 x33 w fun x34=>
 rX 23 x25 (u4 5) w fun x37=>
 rL 3 x37 w fun x38=>
 rX 23 x34 x38 w fun x39=>
 rL 3 x39 w fun x40=>
 cL 126 [x22,x40,(iV 0)] w fun x41 w=>
 rA (u4 5) (iV 1) w fun x31=>
 next4 [x31] w) (World.drew1 w))
 (LOOPI [] [] w fun u7 w next7=>
 NIL x22 <|
 rF 121 x22 3 w fun x44=>
 rL 4 x44 w fun x45=>
 BR x45
 (NIL x22 <|
 rF 121 x22 3 w fun x48=>
 oS 4 x48 (Value.bool false) w fun w=>
 LOOPI [6] [(iV 0)] w fun u10 w next10=>
 rF 31 x1 4 w fun x50=>
 rL 29 x50 w fun x51=>
 rN 29 3 x51 w fun x52=>
 rC (u10 6) x52 w fun x53=>
 BR x53
 (NIL x22 <|
 rF 121 x22 1 w fun x58=>
 rL 82 x58 w fun x59=>
 rX 82 x59 (u10 6) w fun x61=>
 rL 4 x61 w fun x62=>
 rD (Op.unary .not x62) w fun x63=>
 BR x63
 (rA (u10 6) (iV 1) w fun x55=>
 next10 [x55] w)
 (rF 31 x1 4 w fun x64=>
 rL 29 x64 w fun x65=>
 rX 29 x65 (u10 6) w fun x67=>
 rL 94 x67 w fun x68=>
 oP (Instr.alloc 94 true (.tuple #[])) w fun x7 w=>
 oS 94 x7 x68 w fun w=>
 NIL x22 <|
 rF 121 x22 2 w fun x71=>
 rL 23 x71 w fun x72=>
 rX 23 x72 (u10 6) w fun x74=>
 rL 3 x74 w fun x75=>
 JOIN [8] (fun J25=>
 rF 94 x7 0 w fun x76=>
 rL 3 x76 w fun x77=>
 rB .eql 3 T0 U0 x77 (iV 6) w fun x79=>
 BR x79
 (rF 94 x7 1 w fun x81=>
 rL 3 x81 w fun x82=>
 cL 127 [x82] w fun x83 w=>
 rB .or 3 T0 T0 x75 x83 w fun x84=>
 J25 [x84] w)
 (rB .eql 3 T0 U0 x77 (iV 7) w fun x86=>
 BR x86
 (rF 94 x7 1 w fun x88=>
 rL 3 x88 w fun x89=>
 cL 127 [x89] w fun x90 w=>
 cL 128 [x75,x90] w fun x91 w=>
 J25 [x91] w)
 (rB .eql 3 T0 U0 x77 (iV 4) w fun x93=>
 BR x93
 (rF 31 x1 3 w fun x95=>
 rL 23 x95 w fun x96=>
 rF 94 x7 1 w fun x97=>
 rL 3 x97 w fun x98=>
 rX 23 x96 x98 w fun x99=>
 rL 3 x99 w fun x100=>
 cL 126 [x22,x100,x75] w fun x102 w=>
 rL 31 x1 w fun x103=>
 rF 94 x7 1 w fun x104=>
 rL 3 x104 w fun x105=>
 cL 67 [x103,x105] w fun x106 w=>
 NIL x22 <|
 rF 121 x22 1 w fun x109=>
 rL 82 x109 w fun x110=>
 rX 82 x110 x106 w fun x112=>
 rL 4 x112 w fun x113=>
 rD (Op.unary .not x113) w fun x114=>
 BR x114
 (rA (u10 6) (iV 1) w fun x55=>
 next10 [x55] w)
 (NIL x22 <|
 rF 121 x22 2 w fun x117=>
 rL 23 x117 w fun x118=>
 rX 23 x118 x106 w fun x120=>
 rL 3 x120 w fun x121=>
 J25 [x121] w))
 (J25 [x75] w)))) (fun u25 w=>
 rL 31 x1 w fun x122=>
 cL 129 [x122,(u10 6)] w fun x124 w=>
 LOOPI [11] [(iV 0)] w fun u27 w next27=>
 rN 23 3 x124 w fun x127=>
 rC (u27 11) x127 w fun x128=>
 BR x128
 (rX 23 x124 (u27 11) w fun x134=>
 rL 3 x134 w fun x135=>
 cL 126 [x22,x135,(u25 8)] w fun x137 w=>
 rA (u27 11) (iV 1) w fun x130=>
 next27 [x130] w)
 (rA (u10 6) (iV 1) w fun x55=>
 next10 [x55] w))))
 (next7 [] w))
 (R x22 w)))) (World.drew1 w)
def cfg72:Cfg:=⟨extL,[(25,5316911983139587933751502326797959936,[8])],[(4,4397979402272,[5]),(7,348449143727040986586495598005732602023872,[]),(10,348449143727040986586495597447180695113664,[6]),(27,348406608431175869278562676184201677506560,[11])],[(6,[0,1,2,3,4,5,6,7,8,9],0)],[(1,8384520,9)],[],[]⟩
theorem F72_call {a0:Value} {w:World} {R:VW} (h:F72 a0 w R):cL 72 [a0] w R:=co (g:=cfg72) Tryz.func72 (by kernel_rfl) (by kernel_rfl) (by kernel_rfl) h
open Rep (rep)
def lkQ (c:DCode) (g1 n:Nat) (w0:World):ParQ:=fun i u T w=>match i with
 | 0=>Is w0 (u 12) c
 | 1=>u 13=.pointer (some ⟨g1,0+4,none⟩)
 | 2=>Is w0 (u 14) c.ins
 | 3=>u 15=.int .i64 (n:Int)
 | 4=>∃ g,u 16=.slice (some ⟨g,0,none⟩) n n∧(T 4).1≤g∧g<(T 4).2∧Mine [g] w (.slice (some ⟨g,0,none⟩) n n) (List.replicate n false)
 | 5=>u 17=.pointer (some ⟨g1,0+4,none⟩)
 | 6=>Is w0 (u 18) c.ins
 | 7=>u 19=.int .i64 (n:Int)
 | 8=>∃ g,u 20=.slice (some ⟨g,0,none⟩) n n∧(T 8).1≤g∧g<(T 8).2∧Mine [g] w (.slice (some ⟨g,0,none⟩) n n) (zaA (List.replicate n 0))
 | _=>True
theorem zlF {w W0:World} {v0:Value} {c:DCode} (h0:Is W0 v0 c) (e0:Ext W0 w) (hc:CodeR c) :
   CALL Tryz.prog 72 [v0] w fun r w'=>Ext w w'∧∃ gw,r=.pointer (some ⟨gw,0,none⟩)∧At w' gw (0+5) (zeU c)∧At w' gw (0+6) (zaA (zlB c)):=by
 refine F72_call ?_
 unfold F72
 have h8:=hc.1.procs8
 have hil:=hc.f.ins
 have hz0:=(zdj hc h8.2).2.2
 have hrep:=HP.start (c:=c)
 refine zbr h0 e0 fun w1 hx1 hA=>?_
 have hs1:=hx1.size
 have hn:c.ins.length=c.ins.length:=rfl
 generalize hnn:c.ins.length=n at hn
 rw [hnn] at hil hrep
 have hx1d:=zak w1
 refine PAR.mk (lkQ c w.heap.size n (World.drew1 w1)) ?_ ?_ ?_
 · intro i u u' T T' wa wb hxa hxb hd hq
   match i,hd,hq with
   | 0,hd,hq=>have:=(hd (0,12) (by decide)).1;show Is _ (u' 12) _;simp only [this];exact hq
   | 1,hd,hq=>exact (hd (1,13) (by decide)).1.trans hq
   | 2,hd,hq=>have:=(hd (2,14) (by decide)).1;show Is _ (u' 14) _;simp only [this];exact hq
   | 3,hd,hq=>exact (hd (3,15) (by decide)).1.trans hq
   | 4,hd,⟨g,q1,q2,q3,q4⟩=>
     obtain ⟨e1,e2⟩:=hd (4,16) (by decide)
     simp only at e1 e2
     exact ⟨g,e1.trans q1,by rw [e2];exact q2,by rw [e2];exact q3,q4.ext hxb⟩
   | 5,hd,hq=>exact (hd (5,17) (by decide)).1.trans hq
   | 6,hd,hq=>have:=(hd (6,18) (by decide)).1;show Is _ (u' 18) _;simp only [this];exact hq
   | 7,hd,hq=>exact (hd (7,19) (by decide)).1.trans hq
   | 8,hd,⟨g,q1,q2,q3,q4⟩=>
     obtain ⟨e1,e2⟩:=hd (8,20) (by decide)
     simp only at e1 e2
     exact ⟨g,e1.trans q1,by rw [e2];exact q2,by rw [e2];exact q3,q4.ext hxb⟩
   | n+9,_,_=>trivial
 · refine ⟨fun u T w' hx _ _=>?_,fun u T w' hx _ _=>?_,fun u T w' hx _ hp=>?_,fun u T w' hx _ hp=>?_,fun u T w' hx _ hp=>?_,fun u T w' hx _ _=>?_,fun u T w' hx _ hp=>?_,fun u T w' hx _ hp=>?_,fun u T w' hx _ hp=>?_,trivial⟩
   · exact zac zbt hA (hx1d.trans hx) fun v6 h6=>⟨Ext.refl _,h6.ext hx1d⟩
   · exact zaa zaJ ⟨Ext.refl _,rfl⟩
   · have q0:u 13=_:=hp.1
     rw [q0]
     exact zac zct (zai hA) (hx1d.trans hx) fun v6 h6=>⟨Ext.refl _,h6.ext hx1d⟩
   · have q1:Is _ (u 14) c.ins:=hp.1
     exact zag u29 q1 (by rw [hnn];exact ⟨Ext.refl _,rfl⟩)
   · have q2:u 15=_:=hp.1
     rw [q2]
     exact zdm (by omega) (by omega) fun w4 hx4 r=>⟨hx4,_,rfl,Nat.le_refl _,r.lt _ (List.mem_singleton.2 rfl),r⟩
   · exact zaa zaJ ⟨Ext.refl _,rfl⟩
   · have q0:u 17=_:=hp.1
     rw [q0]
     exact zac zct (zai hA) (hx1d.trans hx) fun v6 h6=>⟨Ext.refl _,h6.ext hx1d⟩
   · have q1:Is _ (u 18) c.ins:=hp.1
     exact zag u29 q1 (by rw [hnn];exact ⟨Ext.refl _,rfl⟩)
   have q2:u 19=_:=hp.1
   rw [q2]
   exact zcK (by omega) (by omega) fun w4 hx4 r=>⟨hx4,_,rfl,Nat.le_refl _,r.lt _ (List.mem_singleton.2 rfl),r⟩
 rintro u T w2 hx2 hap ⟨hq0,-,-,-,⟨g,q16,hga,hgb,hMg⟩,-,-,-,⟨h,q20,hha,hhb,hMh⟩,-⟩
 have hq0:Is (World.drew1 w1) (u 12) c:=hq0
 have t4:=hap.1 4 (by decide)
 have t8:=hap.1 8 (by decide)
 have d48:=hap.2 4 (by decide) 8 (by decide) (by decide)
 have hx12:=hx1d.trans hx2
 have hsd:(World.drew1 w1).heap.size=w1.heap.size:=rfl
 rw [q16,q20]
 obtain ⟨a0,a1,a2,a3,a4,n0,n1,n2,n3,n4,k0,k1,k2,k3,k4,hcv⟩:=zjz hq0
 rw [hcv]
 refine zca (cells:=#[.slice a0 n0 k0,.slice a1 n1 k1,.slice a2 n2 k2,.slice a3 n3 k3,.slice a4 n4 k4,.slice (some ⟨g,0,none⟩) n n,.slice (some ⟨h,0,none⟩) n n,.bool true]) (by kernel_rfl) ?_
 refine zpG fun w3 hx3 hB3=>?_
 have H3:LW w1 w3 w2.heap.size g h n [.slice a0 n0 k0,.slice a1 n1 k1,.slice a2 n2 k2,.slice a3 n3 k3,.slice a4 n4 k4] (List.replicate n false) (List.replicate n 0) true:=⟨hx12.trans hx3,hB3,hMg.ext hx3,hMh.ext hx3,rfl,by omega,by omega,by omega,hx12.size,by omega,by omega⟩
 generalize [Value.slice a0 n0 k0,.slice a1 n1 k1,.slice a2 n2 k2,.slice a3 n3 k3,.slice a4 n4 k4]=kc at *
 generalize w2.heap.size=gw at *
 refine zac zbt hA H3.ext fun v23 h23=>?_
 refine (zeI h23 H3.ext hc).mono ?_
 rintro v24 w4 ⟨hx4,ho4⟩
 refine (zdU ho4.is (Ext.refl _) (by rw [zaj];omega)).mono ?_
 rintro v25 w5 ⟨hx5,ho5⟩
 rw [zaj,ze7] at ho5
 have H4:=H3.step hx4
 have H5:=H4.step hx5
 have hL:∀ p,p∈zaS c.procs.length (RootP c)↔RootP c p:=fun p=>by rw [zaE];exact ⟨fun h=>h.2,fun h=>⟨h.lt hc,h⟩⟩
 have hLl:(zaS c.procs.length (RootP c)).length≤8:=Nat.le_trans zaT h8.1
 generalize zaS c.procs.length (RootP c)=L at *
 have hgw4:=H4.blk.lt
 have hg4:=H4.mks.lt g (by simp)
 have hh4:=H4.mine.lt h (by simp)
 have hrl:(List.replicate n 0).length=n:=by simp
 have hr64:∀ x∈List.replicate n 0,x<64:=fun x hx=>by rw [(List.mem_replicate.1 hx).2];omega
 have hset0:∀ i,i<n→(List.replicate n 0).set i (zau (List.replicate n 0) i ||| 0)=List.replicate n 0:=fun i hi=>by rw [Nat.or_zero,zkw (by rw [hrl];exact hi)]
 have hmz:∀ i l,i<c.ins.length→(zau (List.replicate n 0) i).testBit l=true→MayP c i l:=fun i l hi hb=>(hrep.snd i l hi hb).1
 generalize List.replicate n 0=out at *
 refine zaq L.length (fun k us w'=>∃ ms,us=[.int .i64 (k:Int)]∧k≤L.length∧LW w1 w' gw g h n kc ms out true∧OwnI w4.heap.size w5.heap.size w' v25 (zaA L)∧ms.length=n∧(∀ i,mkd ms i→MetP c i)∧∀ p∈L.take k,mkd ms (eN c p)) 0 (Nat.zero_le _) ⟨_,rfl,Nat.zero_le _,H5,ho5.toI,by simp,fun i h=>absurd h zbj,by simp⟩ ?_
 rintro k mk u6 w6 hkm ⟨ms,hu,hkl,H6,hO6,hl6,hsn6,hrt6⟩
 simp only [List.map_cons,List.map_nil,List.cons.injEq,and_true] at hu
 rw [hu]
 refine zag u23 hO6.is ?_
 rw [zae]
 refine zah ?_
 refine br (fun hlt=>?_) (fun hge=>?_)
 · have hk:k<L.length:=by omega
   have hxd:=zak w6
   have H7:=H6.step hxd
   have hO7:=hO6.ext hxd
   generalize World.drew1 w6=w7 at *
   refine zaa za1 ?_
   refine zac zbE (zap hA) H7.ext fun v34 h34=>?_
   refine zad u23 ty3 (i:=k) hO7.is (by rw [zae];exact hk) fun b2 o2 hA2=>?_
   rw [zaL] at hA2
   refine zab ty3 hA2 (Ext.refl _) fun _=>?_
   have htk:=fun x=>za9 hk (x:=x)
   have hrp:=(hL L[k]).1 (List.getElem_mem hk)
   generalize L[k]=p at *
   have hpe:p<c.entry.length:=by rw [hc.2.1.1];exact hrp.lt hc
   obtain ⟨he1,he2,_⟩:=zeG hc hpe
   refine zad u23 ty3 h34 hpe fun b5 o5 hA5=>?_
   rw [zbe hpe,he1] at hA5
   refine zab ty3 hA5 H7.ext fun _=>?_
   refine (ziz (i:=eN c p) (m:=0) H7 (by omega) hl6 hrl hr64 (by omega)).mono ?_
   rintro _ w8 ⟨rfl,H8,hc8⟩
   rw [hset0 _ (by omega)] at H8
   refine zaf (by omega) ?_
   refine ⟨mk-1,by omega,k+1,by omega,_,rfl,by omega,H8,hO7.chgF hc8 (by simp;omega),by simp [hl6],fun i hi=>?_,fun q hq=>?_⟩
   · rcases (zb8 (by rw [hl6];omega)).1 hi with h | h
     · exact hsn6 i h
     rw [h];exact .root hrp
   rcases (htk q).1 hq with h | h
   · exact zdX (hrt6 q h)
   rw [h];exact (zb8 (by rw [hl6];omega)).2 (.inr rfl)
 have hrt:∀ p,RootP c p→mkd ms (eN c p):=fun p hp=>hrt6 p (by rw [List.take_of_length_le (by omega)];exact (hL p).2 hp)
 have hT:LP c ms out false ms out 0:=⟨by rw [hl6,hnn],by rw [hrl,hnn],hr64,hsn6,hmz,hrt,fun e=>(by cases e),fun _=>⟨rfl,rfl,fun i hi=>by omega⟩⟩
 clear hu hkm hO6 hset0
 refine LOOPI.mk (fun m us w'=>∃ (ms:List Bool) (out:List Nat) (nw:Bool),us=[]∧m=(n*64-(zhD ms+out.sum))+(if nw then 1 else 0)∧LW w1 w' gw g h n kc ms out nw∧LP c ms out false ms out 0∧(nw=false→ms=zeU c∧out=zlB c)) (n*64-(zhD ms+out.sum)+1) ⟨ms,out,true,rfl,rfl,H6,hT,fun e=>by cases e⟩ ?_
 rintro m u9 w9 ⟨ms,out,nw,hu,hm,H9,hT9,hend⟩
 have hbnd:∀ {ms0 ms:List Bool} {out0 out:List Nat} {nw:Bool} {k:Nat},LP c ms0 out0 nw ms out k→zhD ms+out.sum≤n*64:=fun {ms0 ms out0 out nw k} hP=>by
   have h1:=ze6 ms
   rw [hP.len,hnn] at h1
   have h2:=sum_le (l:=out) (b:=63) fun x hx=>by have:=hP.lt x hx;omega
   rw [hP.leno,hnn] at h2
   omega
 refine NIL.mk rfl ?_
 refine zaa zj5 ?_
 refine zay ty4 H9.blk H9.c7 ?_
 refine zbw (fun hag=>?_) (fun hag=>?_)
 case refine_2=>
   obtain ⟨hm1,hm2⟩:=hend hag
   refine ⟨hx1.trans H9.ext,gw,rfl,zej H9.blk H9.c5 ?_,zej H9.blk H9.c6 ?_⟩
   · rw [←hm1];exact H9.mks.is
   rw [←hm2];exact H9.mine.is
 rw [hag,if_pos rfl] at hm
 have hb9:=hbnd hT9
 refine NIL.mk rfl ?_
 refine zaa zj5 ?_
 refine zcG (α:=Raw) (lo:=0) (hi:=0) ty4 rfl rfl H9.blk H9.l8 (zcL rfl) fun w10 hc10 hB10=>?_
 have H10:=H9.news hc10.one hB10
 refine zaq n (fun k us w'=>∃ (ms':List Bool) (out':List Nat) (nw':Bool),us=[.int .i64 (k:Int)]∧k≤n∧LW w1 w' gw g h n kc ms' out' nw'∧LP c ms out nw' ms' out' k) 0 (Nat.zero_le _) ⟨ms,out,false,rfl,Nat.zero_le _,H10,hT9⟩ ?_
 rintro k mk u11 w11 hkm ⟨ms11,out11,nw11,hu,hkl,H11,hT11⟩
 simp only [List.map_cons,List.map_nil,List.cons.injEq,and_true] at hu
 rw [hu]
 refine zaa zaJ ?_
 refine zac zct (zai hA) H11.ext fun v51 h51=>?_
 refine zag u29 h51 ?_
 rw [hnn]
 refine zah ?_
 refine br (fun hlt=>?_) (fun hge=>?_)
 case refine_2=>
   have hke:k=n:=by omega
   rw [hke] at hT11
   have hb11:=hbnd hT11
   refine ⟨(n*64-(zhD ms11+out11.sum))+(if nw11 then 1 else 0),?_,ms11,out11,nw11,rfl,rfl,H11,hT11.again,fun e=>?_⟩
   · cases nw11 with
     | true=>have:=hT11.yes rfl;simp;omega
     | false=>rw [(hT11.no rfl).1,(hT11.no rfl).2.1];simp;omega
   rw [e,←hnn] at hT11
   exact hT11.fin hc
 have hk:k<n:=by omega
 have hkn:k<c.ins.length:=by omega
 have hl11:ms11.length=n:=by rw [hT11.len,hnn]
 have hlo11:out11.length=n:=by rw [hT11.leno,hnn]
 refine NIL.mk rfl ?_
 refine zaa zfR ?_
 refine zay zep H11.blk H11.c5 ?_
 refine zad u82 ty4 (i:=k) H11.mks.is (by rw [hl11];exact hk) fun b4 o4 hA4=>?_
 refine zaw ty4 hA4 (Ext.refl _) ?_
 refine zaV ?_
 have hmk11:=zaM (ms:=ms11) (i:=k) (by rw [hl11];exact hk)
 refine zbw (fun hf=>?_) (fun hf=>?_)
 · have hnm:¬mkd ms11 k:=by rw [hmk11];simpa using hf
   refine zaf (by omega) ?_
   exact ⟨mk-1,by omega,k+1,by omega,ms11,out11,nw11,rfl,by omega,H11,hT11.skip hnm⟩
 have hym:mkd ms11 k:=by rw [hmk11];simpa using hf
 have hMk:=hT11.snd k hym
 refine zaa zaJ ?_
 refine zac zct (zai hA) H11.ext fun v65 h65=>?_
 refine zad u29 zcb h65 hkn fun b3 o3 hA3=>?_
 rw [zaF] at hA3
 refine zac zcb hA3 H11.ext fun v32 h32=>?_
 refine zbX zmj rfl zcb rfl h32 H11.ext fun w12 hx12' hAI hV12=>?_
 have H12:=H11.step hx12'
 have hAB12:=ze1 h32 hV12 rfl
 refine NIL.mk rfl ?_
 refine zaa zex ?_
 refine zay zbE H12.blk H12.c6 ?_
 refine zad u23 ty3 (i:=k) H12.mine.is (by rw [zae,hlo11];exact hk) fun b5 o5 hA5=>?_
 rw [zaG] at hA5
 refine zab ty3 hA5 (Ext.refl _) fun _=>?_
 have hk64:=hT11.lt0 k
 have hkz:nw11=false→zau out11 k=zau out k:=fun e=>by rw [(hT11.no e).2.1]
 have hkm8:∀ l,l<6→(zau out11 k).testBit l=true→MayP c k l:=fun l hl hb=>hT11.sndm k l hkn hb
 generalize hh0:zau out11 k=h0 at *
 refine JOIN.mk (fun us w'=>∃ (m:Nat) (ms':List Bool) (out':List Nat) (nw':Bool),us=[.int .i64 (m:Int)]∧LW w1 w' gw g h n kc ms' out' nw'∧LP c ms out nw' ms' out' k∧m<64∧CR c out k h0 m nw'∧((zal c k).op=4→mkd ms' (eN c (agN c k))∧zfv h0 (zau out' (eN c (agN c k))))∧(∀ l,l<6→m.testBit l=true→∀ j∈zax c k,MayP c j l)∧∀ j∈zax c k,MetP c j) ?_ ?_
 · have haf:aft c [] k h0=if (zal c k).op=6 then h0 ||| 2^agN c k else if (zal c k).op=7 then zhE h0 (2^agN c k) else if (zal c k).op=4 then (h0 &&& (tbl [] (agN c k)).1) ||| (tbl [] (agN c k)).2 else h0:=rfl
   have hgo:¬(zal c k).op=4→∀ w',LW w1 w' gw g h n kc ms11 out11 nw11→aft c [] k h0<64→∃ (m:Nat) (ms':List Bool) (out':List Nat) (nw':Bool),[Value.int .i64 (aft c [] k h0:Nat)]=[.int .i64 (m:Int)]∧LW w1 w' gw g h n kc ms' out' nw'∧LP c ms out nw' ms' out' k∧m<64∧CR c out k h0 m nw'∧((zal c k).op=4→mkd ms' (eN c (agN c k))∧zfv h0 (zau out' (eN c (agN c k))))∧(∀ l,l<6→m.testBit l=true→∀ j∈zax c k,MayP c j l)∧∀ j∈zax c k,MetP c j:=fun h4 w' hW' hlt'=>
     ⟨_,ms11,out11,nw11,rfl,hW',hT11,hlt',fun e=>⟨hkz e,fun h=>absurd h h4,fun _=>by rw [hkz e]⟩,fun h=>absurd h h4,fun l hl hb j hj=>zqE h4 hMk hj (hkm8 l hl) hb,fun j hj=>.next hMk h4 hj⟩
   refine zaa za6 ?_
   refine zab ty3 (zas hAI) (Ext.refl _) fun _=>?_
   refine zao ?_
   refine br (fun c6=>?_) (fun c6=>?_)
   · obtain ⟨ha,_,hq⟩:=zcl hc hkn (.inl c6)
     have hp:=zd3 hq
     rw [if_pos c6] at haf
     refine zaa za7 ?_
     refine zab ty3 (zav hAI) (Ext.refl _) fun _=>?_
     rw [ha]
     refine (zef (by omega)).mono ?_
     rintro _ w13 ⟨hx13,rfl⟩
     refine zeZ (m:=h0) (n:=2^agN c k) (by omega) (by omega) ?_
     have:=hgo (by omega) w13 (H12.step hx13) (by rw [haf];exact zqm hk64 hq)
     rw [haf] at this
     exact this
   rw [if_neg c6] at haf
   refine zao ?_
   refine br (fun c7=>?_) (fun c7=>?_)
   · obtain ⟨ha,_,hq⟩:=zcl hc hkn (.inr c7)
     have hp:=zd3 hq
     rw [if_pos c7] at haf
     refine zaa za7 ?_
     refine zab ty3 (zav hAI) (Ext.refl _) fun _=>?_
     rw [ha]
     refine (zef (by omega)).mono ?_
     rintro _ w13 ⟨hx13,rfl⟩
     refine (zg0 hk64 hp).mono ?_
     rintro _ w14 ⟨hx14,rfl⟩
     rw [zf1 hk64 hp]
     have:=hgo (by omega) w14 ((H12.step hx13).step hx14) (by rw [haf];exact Nat.lt_of_le_of_lt (zf0 _ _) hk64)
     rw [haf] at this
     exact this
   rw [if_neg c7] at haf
   refine zao ?_
   refine br (fun c4=>?_) (fun c4=>?_)
   · obtain ⟨ha1,ha2⟩:=zbN hc hkn (.inl c4)
     have hpe:agN c k<c.entry.length:=by rw [hc.2.1.1];exact ha2
     obtain ⟨he1,he2,_⟩:=zeG hc hpe
     obtain ⟨hz1,hz2,hz3⟩:=zdj hc ha2
     refine zaa za1 ?_
     refine zac zbE (zap hA) H12.ext fun v66 h66=>?_
     refine zaa za7 ?_
     refine zab ty3 (zav hAI) (Ext.refl _) fun _=>?_
     rw [ha1]
     refine zad u23 ty3 h66 hpe fun b5 o5 hA5=>?_
     rw [zbe hpe,he1] at hA5
     refine zab ty3 hA5 H12.ext fun _=>?_
     refine (ziz (i:=eN c (agN c k)) (m:=h0) H12 (by omega) hl11 hlo11 hT11.lt hk64).mono ?_
     rintro _ w13 ⟨rfl,H13,hc13⟩
     have hmE:MetP c (eN c (agN c k)):=.call hMk c4
     have hT13:=hT11.put he2 hk64 hmE fun l hl hb=>.call hMk c4 (hkm8 l hl hb)
     have hF1:=zhn (out:=out11) (m:=h0) (i:=eN c (agN c k)) (by rw [hlo11];omega)
     have hF0:mkd (ms11.set (eN c (agN c k)) true) (eN c (agN c k)):=(zb8 (by rw [hl11];omega)).2 (.inr rfl)
     have hz13:zrE ms11 out11 nw11 (eN c (agN c k)) h0=false→nw11=false:=zqJ
     generalize zrE ms11 out11 nw11 (eN c (agN c k)) h0=nw13 at *
     generalize out11.set (eN c (agN c k)) (zau out11 (eN c (agN c k)) ||| h0)=out13 at *
     generalize ms11.set (eN c (agN c k)) true=ms13 at *
     have hgI:w11.heap.size<w12.heap.size:=hV12.lt
     have hne:w11.heap.size∉[gw,g,h]:=by have h1:=H11.mks.lt g (by simp);have h2:=H11.mine.lt h (by simp);have h3:=H11.blk.lt;simp;omega
     have hAI13:=(hAB12.keep (hc13.block _ hgI hne)).at H13.ext
     refine zac zbt hA H13.ext fun v76 h76=>?_
     refine zaa za7 ?_
     refine zab ty3 (zav hAI13) (Ext.refl _) fun _=>?_
     rw [ha1]
     refine (zdE h76 H13.ext (p:=(agN c k:Int)) (by omega) (by omega) hc.2.1.nonneg).mono ?_
     rintro _ w14 ⟨hx14,rfl⟩
     have H14:=H13.step hx14
     rw [hz2]
     have hl13:ms13.length=n:=by rw [hT13.len,hnn]
     have hlo13:out13.length=n:=by rw [hT13.leno,hnn]
     refine NIL.mk rfl ?_
     refine zaa zfR ?_
     refine zay zep H14.blk H14.c5 ?_
     refine zad u82 ty4 (i:=zN c (agN c k)) H14.mks.is (by rw [hl13];omega) fun b6 o6 hA6=>?_
     refine zaw ty4 hA6 (Ext.refl _) ?_
     refine zaV ?_
     have hmk13:=zaM (ms:=ms13) (i:=zN c (agN c k)) (by rw [hl13];omega)
     refine zbw (fun hf13=>?_) (fun hf13=>?_)
     · have hnm:¬mkd ms13 (zN c (agN c k)):=by rw [hmk13];simpa using hf13
       refine zaf (by omega) ?_
       refine ⟨mk-1,by omega,k+1,by omega,ms13,out13,nw13,rfl,by omega,H14,LP.close (h0:=h0) (m:=zau out (zN c (agN c k))) hT13 (fun e=>⟨hkz (hz13 e),fun _=>rfl,fun h=>absurd c4 h⟩) (fun _=>⟨hF0,hF1⟩) fun h=>absurd (h c4) hnm⟩
     have hyz:mkd ms13 (zN c (agN c k)):=by rw [hmk13];simpa using hf13
     have hMz:=hT13.snd _ hyz
     refine NIL.mk rfl ?_
     refine zaa zex ?_
     refine zay zbE H14.blk H14.c6 ?_
     refine zad u23 ty3 (i:=zN c (agN c k)) H14.mine.is (by rw [zae,hlo13];omega) fun b7 o7 hA7=>?_
     rw [zaG] at hA7
     refine zab ty3 hA7 (Ext.refl _) fun _=>?_
     exact ⟨zau out13 (zN c (agN c k)),ms13,out13,nw13,rfl,H14,hT13,hT13.lt0 _,fun e=>⟨hkz (hz13 e),fun _=>by rw [(hT13.no e).2.1],fun h=>absurd c4 h⟩,fun _=>⟨hF0,hF1⟩,fun l hl hb j hj=>.back hMk c4 hMz (hT13.sndm _ l (by omega) hb) hj,fun j hj=>.back hMk c4 hMz hj⟩
   rw [if_neg c4] at haf
   have:=hgo c4 w12 H12 (by rw [haf];exact hk64)
   rw [haf] at this
   exact this
 rintro us w14 ⟨m,ms14,out14,nw14,hus,H14,hT14,hm64,hC14,hF14,hmay,hnx⟩
 simp only [List.map_cons,List.map_nil,List.cons.injEq,and_true] at hus
 rw [hus]
 refine zac zbt hA H14.ext fun v122 h122=>?_
 refine (zgW h122 H14.ext hc hkn).mono ?_
 rintro v86 w15 ⟨hx15,ho15⟩
 have H15:=H14.step hx15
 have hl2:=zdG c k
 have hnl:=fun {j:Nat} (hj:j∈zax c k)=>(zcj hc hkn hj).1
 have hclose:=fun {ms o:List Bool} {out0 out1:List Nat} {ag:Bool} (hP:LP c ms out0 ag o out1 k)=>LP.close (h0:=h0) (m:=m) hP
 generalize hNx:zax c k=N at *
 refine zaq N.length (fun q us w'=>∃ (ms':List Bool) (out':List Nat) (nw':Bool),us=[.int .i64 (q:Int)]∧q≤N.length∧LW w1 w' gw g h n kc ms' out' nw'∧LP c ms out nw' ms' out' k∧CR c out k h0 m nw'∧((zal c k).op=4→mkd ms' (eN c (agN c k))∧zfv h0 (zau out' (eN c (agN c k))))∧(∀ j∈N.take q,mkd ms' j∧zfv m (zau out' j))∧OwnI w14.heap.size w15.heap.size w' v86 (zaA N)) 0 (Nat.zero_le _) ⟨ms14,out14,nw14,rfl,Nat.zero_le _,H15,hT14,hC14,hF14,by simp,ho15.toI⟩ ?_
 rintro q mq u w16 hqm ⟨ms16,out16,nw16,hu,hql,H16,hT16,hC16,hF16,hq16,hO16⟩
 simp only [List.map_cons,List.map_nil,List.cons.injEq,and_true] at hu
 rw [hu]
 refine zag u23 hO16.is ?_
 rw [zae]
 refine zah ?_
 refine br (fun hlt=>?_) (fun hge=>?_)
 case refine_2=>
   refine zaf (by omega) ?_
   rw [List.take_of_length_le (by omega)] at hq16
   exact ⟨mk-1,by omega,k+1,by omega,ms16,out16,nw16,rfl,by omega,H16,hclose hT16 hC16 hF16 fun _=>hNx▸hq16⟩
 have hq:q<N.length:=by omega
 refine zad u23 ty3 (i:=q) hO16.is (by rw [zae];exact hq) fun b7 o7 hA7=>?_
 rw [zaL] at hA7
 refine zab ty3 hA7 (Ext.refl _) fun _=>?_
 have htq:=fun x=>za9 hq (x:=x)
 have hj:=List.getElem_mem hq
 have hjl:=hnl hj
 have hmj:=fun l hl hb=>hmay l hl hb _ hj
 have hmet:=hnx _ hj
 generalize N[q]=j at *
 have hl16:ms16.length=n:=by rw [hT16.len,hnn]
 have hlo16:out16.length=n:=by rw [hT16.leno,hnn]
 refine (ziz (i:=j) (m:=m) H16 (by omega) hl16 hlo16 hT16.lt hm64).mono ?_
 rintro _ w17 ⟨rfl,H17,hc17⟩
 refine zaf (by omega) ?_
 have hg14:=H14.mks.lt g (by simp)
 have hh14:=H14.mine.lt h (by simp)
 have hgw14:=H14.blk.lt
 have hjo:j<out16.length:=by omega
 refine ⟨mq-1,by omega,q+1,by omega,_,_,_,rfl,by omega,H17,hT16.put hjl hm64 hmet hmj,fun e=>hC16 (zqJ e),fun h4=>⟨zdX (hF16 h4).1,zqK hjo (hF16 h4).2⟩,fun i hi=>?_,hO16.chgF hc17 (by simp;omega)⟩
 rcases (htq i).1 hi with h | h
 · exact ⟨zdX (hq16 i h).1,zqK hjo (hq16 i h).2⟩
 subst h;exact ⟨(zb8 (by rw [hl16];omega)).2 (.inr rfl),zhn hjo⟩
end Go.Proofs.YtbnjpfjjmhodnaaGreatDoor
