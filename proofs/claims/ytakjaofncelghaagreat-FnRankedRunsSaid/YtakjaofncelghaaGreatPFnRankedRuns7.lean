/-
  Parts of the proof, put together by program.
-/
import Derived.Test.YtakjaofncelghaaGreatPFnRankedRuns6
set_option linter.unusedVariables false
set_option linter.unusedSimpArgs false
set_option linter.unusedSectionVars false
namespace Go.Sh
open Rep (rep)
theorem ChgI.one {w w':World} {g:Nat} (h:ChgI g (g+1) w w'):Chg [g] w w':=⟨h.os,h.tape,h.output,h.size,λb hb hn=>h.block b hb (by simp at hn;omega)⟩
theorem OwnI.chgF {α:Type} [Rep α] {w w':World} {lo hi:Nat} {v:Value} {x:α} {F:List Nat} (h:OwnI lo hi w v x) (hc:Chg F w w') (hd:∀ b∈F,b<lo∨hi≤b):OwnI lo hi w' v x:=by
 obtain ⟨G,hm,hG⟩:=h;exact ⟨G,hm.keep λb hb=>hc.block b (hm.lt b hb) λhF=>by have:=hG b hb;have:=hd b hF;omega,hG⟩
theorem Blk.chgF {w w':World} {g e:Nat} {cs:List Value} {F:List Nat} (h:Blk g e w cs) (hc:Chg F w w') (hd:g∉F):Blk g e w' cs:=h.keep (hc.block g h.lt hd)
theorem Ext.chgF {w0 w w':World} {F:List Nat} (h:Ext w0 w) (hc:Chg F w w') (hd:∀ b∈F,w0.heap.size≤b):Ext w0 w':=
 ⟨hc.os.trans h.os,hc.tape.trans h.tape,hc.output.trans h.output,Nat.le_trans h.size hc.size,λb hb=>(hc.block b (Nat.lt_of_lt_of_le hb h.size) λhF=>by have:=hd b hF;omega).trans (h.block b hb)⟩
end Go.Sh
namespace Go.Proofs.YtakjaofncelghaaGreat
open Go Go.Sh Go.Proofs
open Rep (rep)
def F121 (a0 a1 a2:Value) (w:World) (R:VW):Prop:=
 rL 85 a1 w λx4=>
 rX 85 x4 a0 w λx6=>
 rL 4 x6 w λx7=>
 rT x7 w λx8=>
 BR x8
 (rL 85 a1 w λx9=>
 rX 85 x9 a0 w λx11=>
 oS 4 x11 vT w λw=>
 oS 4 a2 vT w λw=>
 R (Value.tuple #[]) w)
 (R (Value.tuple #[]) w)
theorem F121_call {a0 a1 a2 w R} (h:F121 a0 a1 a2 w R):cL 121 [a0,a1,a2] w R:=co (g:=(kf [] [] [])) Tryz.func121 h
def F66 (a0:Value) (w:World) (R:VW):Prop:=
 NIL a0 <|
 rF 101 a0 0 w λx14=>
 rF 28 x14 4 w λx15=>
 rL 26 x15 w λx16=>
 rN 26 3 x16 w λx17=>
 oP (Instr.makeSlice 85 x17 x17) w λx18 w=>
 oP (aL 85) w λx3 w=>
 oS 85 x3 x18 w λw=>
 NIL a0 <|
 rF 101 a0 5 w λx21=>
 rL 3 x21 w λx22=>
 cL 45 [x22] w λx23 w=>
 rN 25 3 x23 w λx24=>
 LOOPI [25] [(iV 0)] w λu3 w n3=>
 rC (u3 25) x24 w λx26=>
 BR x26
 (rX 25 x23 (u3 25) w λx27=>
 rL 3 x27 w λx28=>
 (λw=>rL 85 x3 w λx29=>
 NIL a0 <|
 rF 101 a0 0 w λx32=>
 rF 28 x32 3 w λx33=>
 rL 25 x33 w λx34=>
 rX 25 x34 x28 w λx36=>
 rL 3 x36 w λx37=>
 rX 85 x29 x37 w λx38=>
 oS 4 x38 vT w λw=>
 rI (u3 25) w λx39=>
 n3 [x39] w) (World.drew1 w))
 (oP (aL 4) w λx6 w=>
 oS 4 x6 vT w λw=>
 LOOPI [6] [x6] w λu8 w n8=>
 rL 4 (u8 6) w λx40=>
 BR x40
 (oS 4 (u8 6) vF w λw=>
 rD (Instr.makeFunc (Go.Fn.func 121) [].toArray [x3,(u8 6)].toArray) w λx41=>
 NIL a0 <|
 rF 101 a0 0 w λx44=>
 rF 28 x44 4 w λx45=>
 rL 26 x45 w λx46=>
 rN 26 3 x46 w λx47=>
 LOOPI [48] [(iV 0)] w λu12 w n12=>
 rC (u12 48) x47 w λx49=>
 BR x49
 (rX 26 x46 (u12 48) w λx51=>
 rL 118 x51 w λx52=>
 oP (aL 118) w λx9 w=>
 oS 118 x9 x52 w λw=>
 rL 85 x3 w λx53=>
 rX 85 x53 (u12 48) w λx55=>
 rL 4 x55 w λx56=>
 rT x56 w λx57=>
 BR x57
 (rI (u12 48) w λx96=>
 n12 [x96] w)
 (JOIN [] (λJ18=>
 rF 118 x9 0 w λx58=>
 rL 3 x58 w λx59=>
 rQ x59 (iV 4) w λx60=>
 BR x60
 ((λw=>NIL a0 <|
 rF 101 a0 0 w λx64=>
 rF 28 x64 3 w λx65=>
 rL 25 x65 w λx66=>
 rF 118 x9 1 w λx67=>
 rL 3 x67 w λx68=>
 rX 25 x66 x68 w λx69=>
 rL 3 x69 w λx70=>
 OPN tp (zkr x41 [x70]) w λx71 w=>
 (λw=>rL 85 x3 w λx72=>
 NIL a0 <|
 rF 101 a0 0 w λx75=>
 rL 28 x75 w λx76=>
 rF 118 x9 1 w λx77=>
 rL 3 x77 w λx78=>
 (λw_=>cL 111 [x76,x78] w_ λx79 w=>
 Ext w_ w ∧
 rB .sub 3 T0 U0 x79 (iV 1) w λx80=>
 rX 85 x72 x80 w λx81=>
 rL 4 x81 w λx82=>
 rT x82 w λx83=>
 BR x83
 (rI (u12 48) w λx96=>
 n12 [x96] w)
 (J18 [] w)) w) (World.drew1 w)) (World.drew1 w))
 (J18 [] w)) (λu18 w=>
 cL 120 [a0,(u12 48)] w λx86 w=>
 rN 25 3 x86 w λx87=>
 LOOPI [88] [(iV 0)] w λu19 w n19=>
 rC (u19 88) x87 w λx89=>
 BR x89
 (rX 25 x86 (u19 88) w λx90=>
 rL 3 x90 w λx91=>
 OPN tp (zkr x41 [x91]) w λx94 w=>
 rI (u19 88) w λx95=>
 n19 [x95] w)
 (rI (u12 48) w λx96=>
 n12 [x96] w))))
 (rL 4 (u8 6) w λx97=>
 oP (aL 4) w λx6 w=>
 oS 4 x6 x97 w λw=>
 n8 [x6] w))
 (rL 85 x3 w λx98=>
 R x98 w))
theorem F66_call {a0 w R} (h:F66 a0 w R):cL 66 [a0] w R:=co (g:=(kf [(18,19342812825603690643587072,[])] [(3,1099478073376,[25]),(8,316912650057057349274664176576,[6]),(12,158456325028528393712111192832,[48]),(19,78918677504442992524819171328,[88])] [(5,[0,1,2,3,4,5,6,7,8,9,10],0),(16,[0,1,2,3,4,5,6,7,8,9,10],0),(17,[0,1,2,3,4,5,6,7,8,9,10,11],128)])) Tryz.func66 h
open Rep (rep)
theorem zp7 {P:Program} {f:Nat} {args caps:List Value} {w:World} {K:Value→World→Prop} (hE:zeA P f=true) (h:CALL P f (args++caps) w K):OPN P (zkr (.func (.func f) #[] caps.toArray) args) w K:=by
 obtain ⟨h⟩:=h;refine .enter f (args++caps).toArray w ?_ h;simp [zkr,Deferred.ofValue,invoke,zeB hE]
theorem zvr:zeA tp 121=true:=by kernel_rfl
theorem zvs:zeA tp 119=true:=by kernel_rfl
theorem zya:zcu tp 85=some [.slice none 0 0]:=by kernel_rfl
theorem zyb:zcu tp 25=some [.slice none 0 0]:=by kernel_rfl
theorem zcJ {w:World} {lo hi:Nat} {u:Value} (h:u.oneCell'=true):OwnI lo hi w u (⟨u⟩:Raw):=⟨[],⟨⟨[u],⟨rfl,rfl,h⟩,rfl⟩,List.nodup_nil,Wr.nil _⟩,by simp⟩
theorem zig {t by_:Nat} {z u:Value} {w:World} {K:Value→World→Prop} (hz:zcu tp t=some [z]) (ht:tyI tp t=some (1,by_,false)) (hu:u.oneCell'=true) (k:∀ w',Ext w w'→Blk w.heap.size t w' [u]→K (.pointer (some ⟨w.heap.size,0,none⟩)) w') :
   OP tp (Instr.alloc t true (.tuple #[])) w λp w1=>OPU tp (Instr.storeAt t p u) w1 λw2=>K p w2:=by
 refine zbH hz λw1 hx1 hB1=>?_;refine zbp (α:=Raw) (lo:=0) (hi:=0) ht rfl rfl hB1 (by simp) (zcJ hu) λw2 hc2 hB2=>?_;exact k w2 (hx1.chgI hc2 (lr _)) hB2
structure MW (w1 w:World) (gv g ga n:Nat) (ms:List Bool) (ag:Bool):Prop where
 ext:Ext w1 w
 var:Blk gv 85 w [.slice (some ⟨g,0,none⟩) n n]
 mks:Mine [g] w (.slice (some ⟨g,0,none⟩) n n) ms
 agn:Blk ga 4 w [.bool ag]
 n1:gv≠g
 n2:gv≠ga
 n3:g≠ga
 g0:w1.heap.size≤g
 g1:w1.heap.size≤gv
 g2:w1.heap.size≤ga
section
variable {w1 w w':World} {gv g ga n:Nat} {ms:List Bool} {ag:Bool}
theorem MW.step (h:MW w1 w gv g ga n ms ag) (hx:Ext w w'):MW w1 w' gv g ga n ms ag:=⟨h.ext.trans hx,h.var.ext hx,h.mks.ext hx,h.agn.ext hx,h.n1,h.n2,h.n3,h.g0,h.g1,h.g2⟩
theorem MW.mark {ms':List Bool} (h:MW w1 w gv g ga n ms ag) (hc:Chg [g] w w') (hm:Mine [g] w' (.slice (some ⟨g,0,none⟩) n n) ms'):MW w1 w' gv g ga n ms' ag:=
 ⟨h.ext.chgF hc (by simp [h.g0]),h.var.chgF hc (by simp [h.n1]),hm,h.agn.chgF hc (by simp [Ne.symm h.n3]),h.n1,h.n2,h.n3,h.g0,h.g1,h.g2⟩
theorem MW.agains {ag':Bool} (h:MW w1 w gv g ga n ms ag) (hc:Chg [ga] w w') (hB:Blk ga 4 w' [.bool ag']):MW w1 w' gv g ga n ms ag':=
 ⟨h.ext.chgF hc (by simp [h.g2]),h.var.chgF hc (by simp [h.n2]),h.mks.keep λb hb=>by
   simp only [List.mem_cons,List.not_mem_nil,or_false] at hb;subst hb;exact hc.block b (h.mks.lt b (by simp)) (by simp [h.n3]),hB,h.n1,h.n2,h.n3,h.g0,h.g1,h.g2⟩
theorem MW.cell {ga':Nat} {ag':Bool} (h:MW w1 w gv g ga n ms ag) (hx:Ext w w') (hB:Blk ga' 4 w' [.bool ag']) (hg:w.heap.size≤ga'):MW w1 w' gv g ga' n ms ag':=
 ⟨h.ext.trans hx,h.var.ext hx,h.mks.ext hx,hB,h.n1,by have:=h.var.lt;omega,by have:=h.mks.lt g (by simp);omega,h.g0,h.g1,by have:=h.ext.size;omega⟩
theorem zs4 {i:Nat} (h:MW w1 w gv g ga n ms ag) (hi:i<n) (hl:ms.length=n) :
   CALL tp 121 [.int .i64 (i:Int),.pointer (some ⟨gv,0,none⟩),.pointer (some ⟨ga,0,none⟩)] w λr w'=>r=.tuple #[]∧MW w1 w' gv g ga n (ms.set i true) (zwK ms i ag)∧Chg [g,ga] w w':=by
 refine F121_call ?_;unfold F121;refine zas zhF h.var rfl ?_;refine zad u85 ty4 h.mks.is (by rw [hl];exact hi) λb1 o1 hA1=>?_;refine zby ty4 hA1 (Ext.refl _) ?_;have hmk:=zbK (ms:=ms) (i:=i) (by rw [hl];exact hi);refine za1 ?_;refine zcd (λhf=>?_) (λhf=>?_)
 · have hn:¬mkd ms i:=by rw [hmk];simpa using hf
   rw [zp6 hn];refine zas zhF h.var rfl ?_;refine zdx (α:=Bool) rfl u85 ty4 hi ?_;refine zcs (α:=Bool) rfl ty4 h.mks hl hi zbP λw2 hc2 hm2=>?_;have h2:=h.mark hc2 hm2;refine zbp (α:=Raw) (lo:=0) (hi:=0) ty4 rfl rfl h2.agn (by simp) (zcJ rfl) λw3 hc3 hB3=>?_;exact ⟨rfl,h2.agains hc3.one hB3,(hc2.mono (by simp)).trans (hc3.one.mono (by simp))⟩
 have hy:mkd ms i:=by rw [hmk];simpa using hf
 rw [zp5 hy,zj1 hy];exact ⟨rfl,h,Chg.refl _ _⟩
end
theorem zxh {w W0:World} {b:Nat} {c:DCode} (hW:WAt W0 b c) (e0:Ext W0 w) (hc:CodeR c) :
   CALL tp 66 [.pointer (some ⟨b,0,none⟩)] w λr w'=>Ext w w'∧Own w.heap.size w' r (zhG c):=by
 refine F66_call ?_;unfold F66;have h8:=hc.1.procs8;have hil:=hc.f.ins;have hcode:=hW.wl.code;refine NIL.mk rfl ?_;refine zaa zcK ?_;refine zaa zaR ?_;refine zab zdn (zal hcode) e0 λv16 h16=>?_;refine zae u26 h16 ?_;have hz0:=(ziC hc h8.2).2.2;have hn:c.ins.length=c.ins.length:=rfl;generalize hnn:c.ins.length=n at hn;rw [hnn] at hil;refine zgh (by omega) (by omega) λw1 hx1 hM1=>?_;have hs1:=hx1.size;have hg1:=hM1.lt _ (List.mem_singleton.2 rfl);generalize hg:w.heap.size=g at *;refine zig zya zhF rfl λw2 hx2 hB2=>?_;have hs2:=hx2.size;have hM2:=hM1.ext hx2;generalize hgv:w1.heap.size=gv at *;refine NIL.mk rfl ?_;refine zaa zr5 ?_;refine zac ty3 hW.roots (e0.t (hx1.t hx2)) λ_=>?_;have hrs:zhw c<256:=zeh h8.1;refine (zhs (m:=zhw c) (by omega)).mono ?_;rintro v23 w3 ⟨hx3,ho3⟩;unfold zhw at ho3;rw [zq5 (by omega)] at ho3;have hL:∀ p,p∈zcr c.procs.length (RootP c)↔RootP c p:=λp=>by rw [zbq];exact ⟨λh=>h.2,λh=>⟨h.lt hc,h⟩⟩
 have hLl:(zcr c.procs.length (RootP c)).length≤8:=Nat.le_trans zc6 h8.1;generalize zcr c.procs.length (RootP c)=L at *;have hs3:=hx3.size;have hgv2:=hB2.lt;refine zae u25 ho3.is ?_;rw [zaj];refine zat L.length (λk us w'=>∃ ms,us=[.int .i64 (k:Int)]∧k≤L.length∧Ext w w'∧Blk gv 85 w' [.slice (some ⟨g,0,none⟩) n n]∧Mine [g] w' (.slice (some ⟨g,0,none⟩) n n) ms∧OwnI w2.heap.size w3.heap.size w' v23 (za9 L)∧ms.length=n∧(∀ i,mkd ms i→MetP c i)∧∀ p∈L.take k,mkd ms (eN c p)) 0 (z0 _) ⟨_,rfl,z0 _,hx1.t (hx2.t hx3),hB2.ext hx3,hM2.ext hx3,ho3.toI,by simp,λi h=>absurd h zb5,by simp⟩ ?_;rintro k mk u w4 hkm ⟨ms,hu,hkl,hx4,hB4,hM4,hO4,hl4,hsn4,hrt4⟩;try replace hu:=zbG hu
 rw [hu];refine zaf ?_;refine br (λhlt=>?_) (λhge=>?_)
 · have hk:k<L.length:=by omega
   refine zad u25 ty3 (i:=k) hO4.is (by rw [zaj];exact hk) λb2 o2 hA2=>?_;rw [zbz] at hA2;refine zac ty3 hA2 (Ext.refl _) λ_=>?_;have htk:=λx=>zdi hk (x:=x);have hrp:=(hL L[k]).1 (List.getElem_mem hk);generalize L[k]=p at *;have hpe:p<c.entry.length:=by rw [hc.2.1.1];exact hrp.lt hc
   obtain ⟨he1,he2,_⟩:=ziI hc hpe;have hxd:=zai w4;have hx5:=hx4.t hxd;have hB5:=hB4.ext hxd;have hM5:=hM4.ext hxd;have hO5:=hO4.ext hxd;generalize World.drew1 w4=w5 at *;refine zas zhF hB5 rfl ?_;refine NIL.mk rfl ?_;refine zaa zcK ?_;refine zaa za7 ?_;refine zab zaK (zap hcode) (e0.t hx5) λv34 h34=>?_;refine zad u25 ty3 h34 hpe λb5 o5 hA5=>?_;rw [zbr hpe,he1] at hA5;refine zac ty3 hA5 (e0.t hx5) λ_=>?_;refine zdx (α:=Bool) rfl u85 ty4 (by omega) ?_;refine zcs (α:=Bool) rfl ty4 hM5 hl4 (by omega) zbP λw6 hc6 hm6=>?_;refine zaB ?_;refine ⟨mk-1,by omega,k+1,by omega,_,rfl,by omega,hx5.chgF hc6 (by simp [hg]),hB5.chgF hc6 (by simp;omega),hm6,hO5.chgF hc6 (by simp;omega),by simp [hl4],λi hi=>?_,λq hq=>?_⟩
   · rcases (zcE (by rw [hl4];omega)).1 hi with h | h
     · exact hsn4 i h
     rw [h];exact .root hrp
   rcases (htk q).1 hq with h | h
   · exact zeM (hrt4 q h)
   rw [h];exact (zcE (by rw [hl4];omega)).2 (.inr rfl)
 have hrt:∀ p,RootP c p→mkd ms (eN c p):=λp hp=>hrt4 p (by rw [List.take_of_length_le (by omega)];exact (hL p).2 hp);have hT:TP c ms false ms 0:=⟨by rw [hl4,hnn],hsn4,hrt,λe=>(by cases e),λ_=>⟨rfl,λi hi=>by omega⟩⟩;clear hu hkm hO4 ho3;refine zig zwJ ty4 rfl λw5 hx5 hB5=>?_;have hs4:=hx4.size;have hMW:MW w w5 gv g w4.heap.size n ms true:=⟨hx4.t hx5,hB4.ext hx5,hM4.ext hx5,hB5,by omega,by have:=hB4.lt;omega,by have:=hM4.lt g (by simp);omega,by omega,by omega,by omega⟩;generalize w4.heap.size=ga at *;refine LOOPI.mk (λm us w'=>∃ (ga:Nat) (ms:List Bool) (ag:Bool),us=[.pointer (some ⟨ga,0,none⟩)]∧m=(n-ziZ ms)+(if ag then 1 else 0)∧MW w w' gv g ga n ms ag∧TP c ms false ms 0∧(ag=false→ms=zhG c)) (n-ziZ ms+1) ⟨ga,ms,true,rfl,rfl,hMW,hT,λe=>by cases e⟩ ?_;rintro m u w6 ⟨ga,ms,ag,hu,hm,hW6,hT6,hend⟩;try replace hu:=zbG hu
 rw [hu];have hcn:=zfR ms;rw [hT6.len,hnn] at hcn;refine zas ty4 hW6.agn rfl ?_;refine zcd (λhag=>?_) (λhag=>?_)
 case refine_2=>refine zas zhF hW6.var rfl ?_;rw [←hend hag];exact ⟨hW6.ext,[g],hW6.mks,λb hb=>by simp only [List.mem_cons,List.not_mem_nil,or_false] at hb;omega⟩
 rw [hag,if_pos rfl] at hm;refine zbp (α:=Raw) (lo:=0) (hi:=0) ty4 rfl rfl hW6.agn (by simp) (zcJ rfl) λw7 hc7 hB7=>?_;have hW7:=hW6.agains hc7.one hB7;refine za3 (v:=.func (.func 121) #[] #[.pointer (some ⟨gv,0,none⟩),.pointer (some ⟨ga,0,none⟩)]) (λw' _=>by simp [Instr.makeFunc]) ?_;refine NIL.mk rfl ?_;refine zaa zcK ?_;refine zaa zaR ?_;refine zab zdn (zal hcode) (e0.t hW7.ext) λv46 h46=>?_;refine zae u26 h46 ?_;rw [hnn];refine zat n (λk us w'=>∃ (ms':List Bool) (ag':Bool),us=[.int .i64 (k:Int)]∧k≤n∧MW w w' gv g ga n ms' ag'∧TP c ms ag' ms' k) 0 (z0 _) ⟨ms,false,rfl,z0 _,hW7,hT6⟩ ?_;rintro k mk u w8 hkm ⟨ms8,ag8,hu,hkl,hW8,hT8⟩;try replace hu:=zbG hu
 rw [hu];refine zaf ?_;refine br (λhlt=>?_) (λhge=>?_)
 case refine_2=>
   have hke:k=n:=by omega
   rw [hke] at hT8;refine zas ty4 hW8.agn rfl ?_;refine zig zwJ ty4 rfl λw9 hx9 hB9=>?_;have hcn8:=zfR ms8;rw [hT8.len,hnn] at hcn8;refine ⟨(n-ziZ ms8)+(if ag8 then 1 else 0),?_,_,ms8,ag8,rfl,rfl,hW8.cell hx9 hB9 (lr _),hT8.again,λe=>?_⟩
   · cases ag8 with
     | true=>have:=hT8.yes rfl;simp;omega
     | false=>rw [(hT8.no rfl).1];simp;omega
   rw [e,←hnn] at hT8;exact hT8.fin hc
 have hk:k<n:=by omega
 have hkn:k<c.ins.length:=by omega
 have hl8:ms8.length=n:=by rw [hT8.len,hnn]
 refine zad u26 zbm h46 hkn λb3 o3 hA3=>?_;rw [zaE] at hA3;refine zab zbm hA3 (e0.t hW8.ext) λv52 h52=>?_;refine zcX zhM rfl zbm rfl h52 (e0.t hW8.ext) λw9 hx9 hAI hV9=>?_;have hW9:=hW8.step hx9;have hAB9:=zfI h52 hV9 rfl;refine zas zhF hW9.var rfl ?_;refine zad u85 ty4 (i:=k) hW9.mks.is (by rw [hl8];exact hk) λb4 o4 hA4=>?_;refine zby ty4 hA4 (Ext.refl _) ?_;refine za1 ?_;have hmk8:=zbK (ms:=ms8) (i:=k) (by rw [hl8];exact hk);refine zcd (λhf=>?_) (λhf=>?_)
 · have hnm:¬mkd ms8 k:=by rw [hmk8];simpa using hf
   refine zaB ?_;exact ⟨mk-1,by omega,k+1,by omega,ms8,ag8,rfl,by omega,hW9,hT8.next λh=>absurd h hnm⟩
 have hym:mkd ms8 k:=by rw [hmk8];simpa using hf
 have hMk:=hT8.snd k hym;refine JOIN.mk (λus w'=>∃ (ms':List Bool) (ag':Bool),MW w w' gv g ga n ms' ag'∧TP c ms ag' ms' k∧((zan c k).op=4→mkd ms' (eN c (agN c k)))∧∀ j∈zaO c k,MetP c j) ?_ ?_
 · refine zaa za6 ?_
   refine zac ty3 (zaA hAI) (Ext.refl _) λ_=>?_;refine zag ?_;refine br (λc4=>?_) (λc4=>?_)
   · obtain ⟨ha1,ha2⟩:=zey hc hkn (.inl c4)
     have hpe:agN c k<c.entry.length:=by rw [hc.2.1.1];exact ha2
     obtain ⟨he1,he2,_⟩:=ziI hc hpe;obtain ⟨hz1,hz2,hz3⟩:=ziC hc ha2;have hxd:=zai w9;have hW10:=hW9.step hxd;generalize World.drew1 w9=w10 at *;refine NIL.mk rfl ?_;refine zaa zcK ?_;refine zaa za7 ?_;refine zab zaK (zap hcode) (e0.t hW10.ext) λv66 h66=>?_;refine zaa zaZ ?_;refine zac ty3 (zaw hAI) hxd λ_=>?_;rw [ha1];refine zad u25 ty3 h66 hpe λb5 o5 hA5=>?_;rw [zbr hpe,he1] at hA5;refine zac ty3 hA5 (e0.t hW10.ext) λ_=>?_;refine zp7 (args:=[_]) (caps:=[_,_]) zvr ((zs4 (i:=eN c (agN c k)) hW10 (by omega) hl8).mono ?_);rintro _ w11 ⟨rfl,hW11,hc11⟩;have hT11:=hT8.meet he2 (.call hMk c4);have hme:mkd (ms8.set (eN c (agN c k)) true) (eN c (agN c k)):=(zcE (by rw [hl8];omega)).2 (.inr rfl);have hx12:=zai w11;have hW12:=hW11.step hx12;have hgI:w8.heap.size<w10.heap.size:=by have:=hV9.lt;have:=hxd.size;omega
     have hne:w8.heap.size∉[g,ga]:=by have h1:=hW8.mks.lt g (by simp);have h2:=hW8.agn.lt;simp;omega
     have hAI11:=(hAB9.ext hxd).keep (hc11.block _ hgI hne);have hAI12:=(hAI11.ext hx12).at (e0.t hW12.ext);generalize World.drew1 w11=w12 at *;refine zas zhF hW12.var rfl ?_;refine NIL.mk rfl ?_;refine zaa zcK ?_;refine zab zcv hcode (e0.t hW12.ext) λv76 h76=>?_;refine zaa zaZ ?_;refine zac ty3 (zaw hAI12) (Ext.refl _) λ_=>?_;rw [ha1];refine (zeF h76 (e0.t hW12.ext) (by omega)).mono ?_;rintro _ w13 ⟨hx13,rfl⟩;refine ⟨hx13,?_⟩;have hW13:=hW12.step hx13;rw [hz1];refine za0 (by unfold I64;omega) ?_;rw [show ((zN c (agN c k)+1:Nat):Int)-1=(zN c (agN c k):Int) by omega];have hl13:(ms8.set (eN c (agN c k)) true).length=n:=by rw [List.length_set,hl8]
     generalize ms8.set (eN c (agN c k)) true=ms13 at *;refine zad u85 ty4 (i:=zN c (agN c k)) hW13.mks.is (by rw [hl13];omega) λb6 o6 hA6=>?_;refine zby ty4 hA6 (Ext.refl _) ?_;refine za1 ?_;have hmk13:=zbK (ms:=ms13) (i:=zN c (agN c k)) (by rw [hl13];omega);refine zcd (λhf13=>?_) (λhf13=>?_)
     · have hnm:¬mkd ms13 (zN c (agN c k)):=by rw [hmk13];simpa using hf13
       refine zaB ?_;exact ⟨mk-1,by omega,k+1,by omega,ms13,_,rfl,by omega,hW13,hT11.next λ_=>⟨λ_=>⟨hme,λh=>absurd h hnm⟩,λh=>absurd c4 h⟩⟩
     have hyz:mkd ms13 (zN c (agN c k)):=by rw [hmk13];simpa using hf13
     exact ⟨ms13,_,hW13,hT11,λ_=>hme,λj hj=>.back hMk c4 (hT11.snd _ hyz) hj⟩
   exact ⟨ms8,ag8,hW9,hT8,λh=>absurd h c4,λj hj=>.next hMk c4 hj⟩
 rintro us w14 ⟨ms14,ag14,hW14,hT14,hc14,hnx⟩;refine (zjS hcode (e0.t hW14.ext) hc hkn).mono ?_;rintro v86 w15 ⟨hx15,ho15⟩;have hW15:=hW14.step hx15;have hl2:=zfS c k;have hnl:=λ{j:Nat} (hj:j∈zaO c k)=>(zeb hc hkn hj).1;generalize hNx:zaO c k=N at *;refine zae u25 ho15.is ?_;rw [zaj];refine zat N.length (λq us w'=>∃ (ms':List Bool) (ag':Bool),us=[.int .i64 (q:Int)]∧q≤N.length∧MW w w' gv g ga n ms' ag'∧TP c ms ag' ms' k∧((zan c k).op=4→mkd ms' (eN c (agN c k)))∧(∀ j∈N.take q,mkd ms' j)∧OwnI w14.heap.size w15.heap.size w' v86 (za9 N)) 0 (z0 _) ⟨ms14,ag14,rfl,z0 _,hW15,hT14,hc14,by simp,ho15.toI⟩ ?_;rintro q mq u w16 hqm ⟨ms16,ag16,hu,hql,hW16,hT16,hc16,hq16,hO16⟩;try replace hu:=zbG hu
 rw [hu];refine zaf ?_;refine br (λhlt=>?_) (λhge=>?_)
 case refine_2=>refine zaB ?_;rw [List.take_of_length_le (by omega)] at hq16;exact ⟨mk-1,by omega,k+1,by omega,ms16,ag16,rfl,by omega,hW16,hT16.next λ_=>⟨λh4=>⟨hc16 h4,λ_=>hNx▸hq16⟩,λ_=>hNx▸hq16⟩⟩
 have hq:q<N.length:=by omega
 refine zad u25 ty3 (i:=q) hO16.is (by rw [zaj];exact hq) λb7 o7 hA7=>?_;rw [zbz] at hA7;refine zac ty3 hA7 (Ext.refl _) λ_=>?_;have htq:=λx=>zdi hq (x:=x);have hj:=List.getElem_mem hq;have hjl:=hnl hj;have hjm:=hnx _ hj;generalize N[q]=j at *;have hl16:ms16.length=n:=by rw [hT16.len,hnn]
 refine zp7 (args:=[_]) (caps:=[_,_]) zvr ((zs4 (i:=j) hW16 (by omega) hl16).mono ?_);rintro _ w17 ⟨rfl,hW17,hc17⟩;refine zaB ?_;have hg14:=hW14.mks.lt g (by simp);have hga14:=hW14.agn.lt;refine ⟨mq-1,by omega,q+1,by omega,_,_,rfl,by omega,hW17,hT16.meet hjl hjm,λh4=>zeM (hc16 h4),λi hi=>?_,hO16.chgF hc17 (by simp;omega)⟩;rcases (htq i).1 hi with h | h
 · exact zeM (hq16 i h)
 rw [h];exact (zcE (by rw [hl16];omega)).2 (.inr rfl)
abbrev Raw5:=Raw×Raw×Raw×Raw×Raw
theorem znr {w:World} {lo hi:Nat} {a b c d e:Value} (ha:a.oneCell'=true) (hb:b.oneCell'=true) (hc:c.oneCell'=true) (hd:d.oneCell'=true) (he:e.oneCell'=true):OwnI lo hi w (.agg #[a,b,c,d,e]) ((⟨a⟩,⟨b⟩,⟨c⟩,⟨d⟩,⟨e⟩):Raw5):=by
 refine ⟨[],⟨⟨[a,b,c,d,e],?_,rfl⟩,List.nodup_nil,Wr.nil _⟩,by simp⟩;have r:∀ {v:Value},v.oneCell'=true→rep [] w [v] (⟨v⟩:Raw):=λh=>⟨rfl,rfl,h⟩;exact zaI (F:=[]) (r ha) (zaI (F:=[]) (r hb) (zaI (F:=[]) (r hc) (zaI (F:=[]) (r hd) (r he))))
theorem zs5 {w:World} {v:Value} {p:DProg} (h:Is w v p):∃ c0 c1 c2,v=.agg #[c0,c1,c2]∧c0.oneCell'=true∧c1.oneCell'=true∧c2.oneCell'=true:=by
 obtain ⟨F,cs,hr,rfl⟩:=h;have hone:=Rep.one hr;obtain ⟨F1,F2,x1,x2,rfl,rfl,h1,F3,F4,x3,x4,rfl,rfl,h2,h3⟩:=hr;have e1:∃ a,x1=[a]:=by obtain ⟨a,cap,Fi,xs,rfl,_⟩:=h1;exact ⟨_,rfl⟩
 have e2:∃ a,x3=[a]:=by obtain ⟨a,cap,Fi,xs,rfl,_⟩:=h2;exact ⟨_,rfl⟩
 have e3:∃ a,x4=[a]:=by obtain ⟨a,cap,Fi,xs,rfl,_⟩:=h3;exact ⟨_,rfl⟩
 obtain ⟨a1,rfl⟩:=e1;obtain ⟨a2,rfl⟩:=e2;obtain ⟨a3,rfl⟩:=e3;exact ⟨a1,a2,a3,rfl,hone a1 (by simp),hone a2 (by simp),hone a3 (by simp)⟩
theorem zs6 {α:Type} [Rep α] (ha:Rep.agg α=false) {lo hi:Nat} {w:World} {v:Value} {x:α} (h:OwnI lo hi w v x):v.oneCell'=true:=by
 obtain ⟨F,⟨hm,_,_⟩,_⟩:=h;exact Rep.one (zbA ha hm) v (by simp)
def cdQ (p:DProg) (g1:Nat) (w0:World):ParQ:=λi u T w=>match i with
 | 0=>∃ a,u 11=.slice (some a) 0 0
 | 1=>u 12=.pointer (some ⟨g1,0+0,none⟩)
 | 2=>Is w0 (u 13) p.globals
 | 3=>OwnI (T 3).1 (T 3).2 w (u 14) p.globals
 | 4=>∃ a,u 15=.slice (some a) 0 0
 | 5=>u 16=.pointer (some ⟨g1,0+1,none⟩)
 | 6=>Is w0 (u 17) p.locks
 | 7=>OwnI (T 7).1 (T 7).2 w (u 18) p.locks
 | 8=>u 19=.agg #[u 14,u 18,.slice none 0 0,.slice none 0 0,.slice none 0 0]
 | 9=>∃ g,u 4=.pointer (some ⟨g,0,none⟩)∧(T 9).1≤g∧g<(T 9).2∧Blk g 28 w [.slice none 0 0,.slice none 0 0,.slice none 0 0,.slice none 0 0,.slice none 0 0]
 | _=>True
structure CdS (W:World) (p:DProg) (gk ge bs x2 l3 h3 l7 h7:Nat) (v14 v18 vp ve:Value) (N:List ByteArray) (E:List Int) (L:List DIns) (Fp Fe Fi:List Nat) (w:World):Prop where
 bk:Blk gk 28 w [v14,v18,vp,ve,.slice none 0 0]
 g:OwnI l3 h3 w v14 p.globals
 l:OwnI l7 h7 w v18 p.locks
 n:RowG Fp 9 w vp N
 e:RowG Fe 3 w ve E
 nn:Fp.Nodup
 en:Fe.Nodup
 em:EmF W ge p L Fi w
 x:Blk x2 28 w [.slice none 0 0,.slice none 0 0,.slice none 0 0,.slice none 0 0,.slice none 0 0]
 dpe:∀ c∈Fp,c∉Fe
 dpi:∀ c∈Fp,c∉Fi
 dei:∀ c∈Fe,c∉Fi
 bp:∀ c∈Fp,bs≤c
 be:∀ c∈Fe,bs≤c
 bi:∀ c∈Fi,bs≤c
section
variable {W:World} {p:DProg} {gk ge bs x2 l3 h3 l7 h7:Nat} {v14 v18 vp ve:Value} {N:List ByteArray} {E:List Int} {L:List DIns} {Fp Fe Fi:List Nat} {w w':World}
theorem zei {α:Type} [Rep α] {lo hi:Nat} {v:Value} {x:α} {S:List Nat} (h:OwnI lo hi w v x) (hc:Chg S w w') (hd:∀ c∈S,c<lo∨hi≤c):OwnI lo hi w' v x:=by
 obtain ⟨F,hm,hF⟩:=h;exact ⟨F,hm.keep λc hcm=>hc.block c (hm.lt c hcm) λhs=>by have:=hF c hcm;have:=hd c hs;omega,hF⟩
theorem CdS.ext (h:CdS W p gk ge bs x2 l3 h3 l7 h7 v14 v18 vp ve N E L Fp Fe Fi w) (hx:Ext w w'):CdS W p gk ge bs x2 l3 h3 l7 h7 v14 v18 vp ve N E L Fp Fe Fi w':=
 ⟨h.bk.ext hx,h.g.ext hx,h.l.ext hx,h.n.keep λc hc=>hx.heap (h.n.lt c hc),h.e.keep λc hc=>hx.heap (h.e.lt c hc),h.nn,h.en,h.em.ext hx,h.x.ext hx,h.dpe,h.dpi,h.dei,h.bp,h.be,h.bi⟩
variable (ho:gk<bs∧ge<bs∧gk≠ge∧x2<bs∧x2≠gk∧x2≠ge∧h3≤bs∧h7≤bs∧(gk<l3∨h3≤gk)∧(gk<l7∨h7≤gk)∧(ge<l3∨h3≤ge)∧(ge<l7∨h7≤ge)∧W.heap.size≤gk∧W.heap.size≤ge)
include ho
theorem CdS.names (h:CdS W p gk ge bs x2 l3 h3 l7 h7 v14 v18 vp ve N E L Fp Fe Fi w) {vp':Value} {N':List ByteArray} {Fp':List Nat} (hc:Chg (gk :: Fp) w w') (hB:Blk gk 28 w' [v14,v18,vp',ve,.slice none 0 0])
   (hR:RowG Fp' 9 w' vp' N') (hn:Fp'.Nodup) (hs:∀ c∈Fp',c∈Fp∨w.heap.size≤c) (hb:bs≤w.heap.size):CdS W p gk ge bs x2 l3 h3 l7 h7 v14 v18 vp' ve N' E L Fp' Fe Fi w':=by
 have hlt:=h.em.lt
 have hS:∀ c∈gk :: Fp,c=gk∨bs≤c:=λc hc=>by
   rcases List.mem_cons.1 hc with e | hc
   · exact .inl e
   exact .inr (h.bp c hc)
 refine ⟨hB,zei h.g hc λc hcm=>by have:=hS c hcm;omega,zei h.l hc λc hcm=>by have:=hS c hcm;omega,hR,h.e.keep λc hcm=>hc.block c (h.e.lt c hcm) λhm=>?_,hn,h.en,h.em.keep (λc hcm=>hc.block c ?_ λhm=>?_) (h.em.old.chgL hc λc hcm=>?_),h.x.chg hc λhm=>?_,λc hcm hce=>?_,λc hcm hci=>?_,h.dei,λc hcm=>?_,h.be,h.bi⟩
 · rcases List.mem_cons.1 hm with e | hm
   · have:=h.be c hcm;omega
   exact h.dpe c hm hcm
 · rcases List.mem_cons.1 hcm with rfl | hcm
   · exact hlt.1
   exact hlt.2.1 c hcm
 · rcases List.mem_cons.1 hcm with e1 | hcm
   · rcases List.mem_cons.1 hm with e | hm
     · omega
     have:=h.bp c hm;omega
   rcases List.mem_cons.1 hm with e | hm
   · have:=h.bi c hcm;omega
   exact h.dpi c hm hcm
 · rcases List.mem_cons.1 hcm with e | hcm
   · omega
   have:=h.bp c hcm;omega
 · have:=hS _ hm;omega
 · rcases hs c hcm with k | k
   · exact h.dpe c k hce
   have:=h.e.lt c hce;omega
 · rcases hs c hcm with k | k
   · exact h.dpi c k hci
   have:=hlt.2.1 c hci;omega
 rcases hs c hcm with k | k
 · exact h.bp c k
 omega
theorem CdS.ents (h:CdS W p gk ge bs x2 l3 h3 l7 h7 v14 v18 vp ve N E L Fp Fe Fi w) {ve':Value} {E':List Int} {Fe':List Nat} (hc:Chg (gk :: Fe) w w') (hB:Blk gk 28 w' [v14,v18,vp,ve',.slice none 0 0])
   (hR:RowG Fe' 3 w' ve' E') (hn:Fe'.Nodup) (hs:∀ c∈Fe',c∈Fe∨w.heap.size≤c) (hb:bs≤w.heap.size):CdS W p gk ge bs x2 l3 h3 l7 h7 v14 v18 vp ve' N E' L Fp Fe' Fi w':=by
 have hlt:=h.em.lt
 have hS:∀ c∈gk :: Fe,c=gk∨bs≤c:=λc hc=>by
   rcases List.mem_cons.1 hc with e | hc
   · exact .inl e
   exact .inr (h.be c hc)
 refine ⟨hB,zei h.g hc λc hcm=>by have:=hS c hcm;omega,zei h.l hc λc hcm=>by have:=hS c hcm;omega,h.n.keep λc hcm=>hc.block c (h.n.lt c hcm) λhm=>?_,hR,h.nn,hn,h.em.keep (λc hcm=>hc.block c ?_ λhm=>?_) (h.em.old.chgL hc λc hcm=>?_),h.x.chg hc λhm=>?_,λc hcm hce=>?_,h.dpi,λc hcm hci=>?_,h.bp,λc hcm=>?_,h.bi⟩
 · rcases List.mem_cons.1 hm with e | hm
   · have:=h.bp c hcm;omega
   exact h.dpe c hcm hm
 · rcases List.mem_cons.1 hcm with rfl | hcm
   · exact hlt.1
   exact hlt.2.1 c hcm
 · rcases List.mem_cons.1 hcm with e1 | hcm
   · rcases List.mem_cons.1 hm with e | hm
     · omega
     have:=h.be c hm;omega
   rcases List.mem_cons.1 hm with e | hm
   · have:=h.bi c hcm;omega
   exact h.dei c hm hcm
 · rcases List.mem_cons.1 hcm with e | hcm
   · omega
   have:=h.be c hcm;omega
 · have:=hS _ hm;omega
 · rcases hs c hce with k | k
   · exact h.dpe c hcm k
   have:=h.n.lt c hcm;omega
 · rcases hs c hcm with k | k
   · exact h.dei c k hci
   have:=hlt.2.1 c hci;omega
 rcases hs c hcm with k | k
 · exact h.be c k
 omega
theorem CdS.ems (h:CdS W p gk ge bs x2 l3 h3 l7 h7 v14 v18 vp ve N E L Fp Fe Fi w) {L':List DIns} {Fi':List Nat} (hc:Chg (ge :: Fi) w w') (hE:EmF W ge p L' Fi' w') (hs:∀ c∈Fi',c∈Fi∨w.heap.size≤c) (hb:bs≤w.heap.size) :
   CdS W p gk ge bs x2 l3 h3 l7 h7 v14 v18 vp ve N E L' Fp Fe Fi' w':=by
 have hS:∀ c∈ge :: Fi,c=ge∨bs≤c:=λc hc=>by
   rcases List.mem_cons.1 hc with e | hc
   · exact .inl e
   exact .inr (h.bi c hc)
 refine ⟨h.bk.chg hc λhm=>?_,zei h.g hc λc hcm=>by have:=hS c hcm;omega,zei h.l hc λc hcm=>by have:=hS c hcm;omega,h.n.keep λc hcm=>hc.block c (h.n.lt c hcm) λhm=>?_,h.e.keep λc hcm=>hc.block c (h.e.lt c hcm) λhm=>?_,h.nn,h.en,hE,h.x.chg hc λhm=>?_,h.dpe,λc hcm hci=>?_,λc hcm hci=>?_,h.bp,h.be,λc hcm=>?_⟩
 · have:=hS _ hm;omega
 · rcases List.mem_cons.1 hm with e | hm
   · have:=h.bp c hcm;omega
   exact h.dpi c hcm hm
 · rcases List.mem_cons.1 hm with e | hm
   · have:=h.be c hcm;omega
   exact h.dei c hcm hm
 · have:=hS _ hm;omega
 · rcases hs c hci with k | k
   · exact h.dpi c hcm k
   have:=h.n.lt c hcm;omega
 · rcases hs c hci with k | k
   · exact h.dei c hcm k
   have:=h.e.lt c hcm;omega
 rcases hs c hcm with k | k
 · exact h.bi c k
 omega
end
theorem zuC {G L P:List ByteArray} {l:List DProc} {k:Nat} (hk:k<l.length) (a:Nat):emP G L P (l.drop k) a=emL G L P l[k].body a++(zv0 :: emP G L P (l.drop (k+1)) (a+(emL G L P l[k].body a).length+1)):=by
 rw [List.drop_eq_getElem_cons hk,emP]
theorem zs7 {G L P:List ByteArray} {l:List DProc} {k:Nat} (hk:k<l.length) (a:Nat):zm1 G L P (l.drop k) a=(a:Int) :: zm1 G L P (l.drop (k+1)) (a+(emL G L P l[k].body a).length+1):=by
 rw [List.drop_eq_getElem_cons hk,zm1]
theorem zj3 {α:Type} [Rep α] {e:TypeId} {F:List Nat} {w:World} {v:Value} {l:List α} (h:RowG F e w v l) (hn:F.Nodup):Mine F w v l:=⟨h.own,hn,h.wr⟩
def F70 (a0:Value) (w:World) (R:VW):Prop:=
 oX 92 a0 w λx1 w=>
 oP (aL 28) w λx2 w=>
 rL 92 x1 w λx7=>
 cL 124 [x7] w λx8 w=>
 rB .neq 3 T0 U0 x8 (iV 0) w λx9=>
 BR x9
 (rD (Instr.build 28 #[]) w λx10=>
 oS 28 x2 x10 w λw=>
 rD (zaJ 28 x2) w λr2=>R (Value.tuple #[r2,vF]) w)
 ((λw0=>PAR w0 [[(0,11)],[(1,12)],[(2,13),(1,12)],[(3,14),(0,11),(2,13)],[(4,15)],[(5,16)],[(6,17),(5,16)],[(7,18),(4,15),(6,17),(3,14)],[(8,19),(3,14),(7,18)],[(9,4)]] (λQ=>
 (∀ (u3:Env) (T:Nat→Nat×Nat) (w:World),Ext w0 w→zaL [] w0.heap.size w.heap.size T→(True)→(λw1=>oP (Instr.buildSlice 24 0 #[]) w λx11 w=>
 Ext w1 w∧Q 0 (upd u3 11 x11) (zbS T 0 (w1.heap.size,w.heap.size)) w) w) ∧
 (∀ (u3:Env) (T:Nat→Nat×Nat) (w:World),Ext w0 w→zaL [] w0.heap.size w.heap.size T→(True)→(λw1=>rF 92 x1 0 w λx12=>
 Ext w1 w∧Q 1 (upd u3 12 x12) (zbS T 1 (w1.heap.size,w.heap.size)) w) w) ∧
 (∀ (u3:Env) (T:Nat→Nat×Nat) (w:World),Ext w0 w→zaL [1] w0.heap.size w.heap.size T→(Q 1 u3 T w∧True)→(λw1=>rL 24 (u3 12) w λx13=>
 Ext w1 w∧Q 2 (upd u3 13 x13) (zbS T 2 (w1.heap.size,w.heap.size)) w) w) ∧
 (∀ (u3:Env) (T:Nat→Nat×Nat) (w:World),Ext w0 w→zaL [0,2] w0.heap.size w.heap.size T→(Q 0 u3 T w∧Q 2 u3 T w∧True)→(λw1=>oP (aP 24 (u3 11) (u3 13)) w λx14 w=>
 Ext w1 w∧Q 3 (upd u3 14 x14) (zbS T 3 (w1.heap.size,w.heap.size)) w) w) ∧
 (∀ (u3:Env) (T:Nat→Nat×Nat) (w:World),Ext w0 w→zaL [] w0.heap.size w.heap.size T→(True)→(λw1=>oP (Instr.buildSlice 24 0 #[]) w λx15 w=>
 Ext w1 w∧Q 4 (upd u3 15 x15) (zbS T 4 (w1.heap.size,w.heap.size)) w) w) ∧
 (∀ (u3:Env) (T:Nat→Nat×Nat) (w:World),Ext w0 w→zaL [] w0.heap.size w.heap.size T→(True)→(λw1=>rF 92 x1 1 w λx16=>
 Ext w1 w∧Q 5 (upd u3 16 x16) (zbS T 5 (w1.heap.size,w.heap.size)) w) w) ∧
 (∀ (u3:Env) (T:Nat→Nat×Nat) (w:World),Ext w0 w→zaL [5] w0.heap.size w.heap.size T→(Q 5 u3 T w∧True)→(λw1=>rL 24 (u3 16) w λx17=>
 Ext w1 w∧Q 6 (upd u3 17 x17) (zbS T 6 (w1.heap.size,w.heap.size)) w) w) ∧
 (∀ (u3:Env) (T:Nat→Nat×Nat) (w:World),Ext w0 w→zaL [4,6,3] w0.heap.size w.heap.size T→(Q 4 u3 T w∧Q 6 u3 T w∧Q 3 u3 T w∧True)→(λw1=>oP (aP 24 (u3 15) (u3 17)) w λx18 w=>
 Ext w1 w∧Q 7 (upd u3 18 x18) (zbS T 7 (w1.heap.size,w.heap.size)) w) w) ∧
 (∀ (u3:Env) (T:Nat→Nat×Nat) (w:World),Ext w0 w→zaL [3,7] w0.heap.size w.heap.size T→(Q 3 u3 T w∧Q 7 u3 T w∧True)→(λw1=>rD (Instr.build 28 #[(0,(u3 14)),(1,(u3 18))]) w λx19=>
 Ext w1 w∧Q 8 (upd u3 19 x19) (zbS T 8 (w1.heap.size,w.heap.size)) w) w) ∧
 (∀ (u3:Env) (T:Nat→Nat×Nat) (w:World),Ext w0 w→zaL [] w0.heap.size w.heap.size T→(True)→(λw1=>oP (aL 28) w λx4 w=>
 Ext w1 w∧Q 9 (upd u3 4 x4) (zbS T 9 (w1.heap.size,w.heap.size)) w) w) ∧
 True)
 (λQ=>∀ (u3:Env) (T:Nat→Nat×Nat) (w:World),Ext w0 w→zaL [0,1,2,3,4,5,6,7,8,9] w0.heap.size w.heap.size T→(Q 0 u3 T w∧Q 1 u3 T w∧Q 2 u3 T w∧Q 3 u3 T w∧Q 4 u3 T w∧Q 5 u3 T w∧Q 6 u3 T w∧Q 7 u3 T w∧Q 8 u3 T w∧Q 9 u3 T w∧True) →
 oS 28 (u3 4) (u3 19) w λw=>
 rL 92 x1 w λx20=>
 rD (Instr.build 157 #[(0,x20)]) w λx21=>
 oX 157 x21 w λx22 w=>
 LOOPI [6] [(iV 0)] w λu6 w n6=>
 rF 92 x1 2 w λx24=>
 rL 90 x24 w λx25=>
 rN 90 3 x25 w λx26=>
 rC (u6 6) x26 w λx27=>
 BR x27
 ((λw=>rF 28 (u3 4) 2 w λx30=>
 rL 24 x30 w λx31=>
 rF 92 x1 2 w λx32=>
 rL 90 x32 w λx33=>
 rX 90 x33 (u6 6) w λx35=>
 rF 160 x35 0 w λx36=>
 rL 9 x36 w λx37=>
 (λw_=>oP (bS 24 x37) w_ λx38 w=>
 Ext w_ w ∧
 (oP (aP 24 x31 x38) w λx39 w=>
 rF 28 (u3 4) 2 w λx40=>
 oS 24 x40 x39 w λw=>
 (λw=>rF 28 (u3 4) 3 w λx41=>
 rL 25 x41 w λx42=>
 NIL x22 <|
 rF 157 x22 1 w λx45=>
 rL 26 x45 w λx46=>
 rN 26 3 x46 w λx47=>
 (λw_=>oP (bS 25 x47) w_ λx48 w=>
 Ext w_ w ∧
 (oP (aP 25 x42 x48) w λx49 w=>
 rF 28 (u3 4) 3 w λx50=>
 oS 25 x50 x49 w λw=>
 rF 92 x1 2 w λx52=>
 rL 90 x52 w λx53=>
 rX 90 x53 (u6 6) w λx55=>
 rF 160 x55 1 w λx56=>
 rL 158 x56 w λx57=>
 cL 125 [x22,x57] w λx58 w=>
 rD (Instr.build 118 #[(0,(iV 9))]) w λx60=>
 cL 126 [x22,x60] w λx61 w=>
 rI (u6 6) w λx29=>
 n6 [x29] w)) w) (World.drew1 w))) w) (World.drew1 w))
 (NIL x22 <|
 rF 157 x22 1 w λx64=>
 rL 26 x64 w λx65=>
 rF 28 (u3 4) 4 w λx66=>
 oS 26 x66 x65 w λw=>
 rL 28 (u3 4) w λx67=>
 oS 28 x2 x67 w λw=>
 rD (zaJ 28 x2) w λr2=>R (Value.tuple #[r2,vT]) w))) (World.drew1 w))
def cfg70:Cfg:=⟨extL,[],[(6,4611686018418999360,[6])],[(8,[0,1,2,3,4,5,6,7,8,9,10,11],256),(9,[0,1,2,3,4,5,6,7,8,9,10],128)],[(3,1046544,10)],[],[]⟩
theorem F70_call {a0 w R} (h:F70 a0 w R):cL 70 [a0] w R:=co (g:=cfg70) Tryz.func70 h
open Rep (rep)
theorem zl5 {w W:World} {v:Value} {p:DProg} (h:Is W v p) (e:Ext W w) (hp:ProgR p) :
   CALL tp 70 [v] w λr w'=>Ext w w'∧∃ a,r=.tuple #[a,.bool true]∧OwnI w.heap.size w'.heap.size w' a (zcO p):=by
 have hcl:=(zkT hp).2;obtain ⟨f1,f2,f3,f4⟩:=hp.facts;refine F70_call ?_;unfold F70;refine zcb h e λw1 hx1 hA=>?_;have hs1:=hx1.size;refine zbH zvO λw2 hx2 hB2=>?_;have hs2:=hx2.size;have hg2:=hB2.lt;refine zab zmH hA hx2 λv7 h7=>?_;refine (zm6 h7 hx2 hp).mono ?_;rintro _ w3 ⟨hx3,rfl⟩;have hs3:=hx3.size;refine zaV ?_;refine br (λhc=>absurd rfl hc) (λ_=>?_);have hx13:=hx2.t hx3;have hx4:=zai w3;have hs4:=hx4.size;generalize World.drew1 w3=w4 at *;have hx14:=hx13.t hx4
 have hg1:w.heap.size<w1.heap.size:=by
   obtain ⟨F,cs,hr,hr2⟩:=hA;exact zhI hr2 (by rw [Rep.len hr];decide)
 refine PAR.mk (cdQ p w.heap.size w4) ?_ ?_ ?_
 · intro i u u' T T' wa wb hxa hxb hd hq
   match i,hd,hq with
   | 0,hd,⟨a,hq⟩=>exact ⟨a,(hd (0,11) (by decide)).1.trans hq⟩
   | 1,hd,hq=>exact (hd (1,12) (by decide)).1.trans hq
   | 2,hd,hq=>have:=(hd (2,13) (by decide)).1;show Is _ (u' 13) _;simp only [this];exact hq
   | 3,hd,hq=>
     obtain ⟨e1,e2⟩:=hd (3,14) (by decide);simp only at e1 e2;show OwnI (T' 3).1 (T' 3).2 wb (u' 14) p.globals;rw [e1,e2];exact OwnI.ext hq hxb
   | 4,hd,⟨a,hq⟩=>exact ⟨a,(hd (4,15) (by decide)).1.trans hq⟩
   | 5,hd,hq=>exact (hd (5,16) (by decide)).1.trans hq
   | 6,hd,hq=>have:=(hd (6,17) (by decide)).1;show Is _ (u' 17) _;simp only [this];exact hq
   | 7,hd,hq=>
     obtain ⟨e1,e2⟩:=hd (7,18) (by decide);simp only at e1 e2;show OwnI (T' 7).1 (T' 7).2 wb (u' 18) p.locks;rw [e1,e2];exact OwnI.ext hq hxb
   | 8,hd,hq=>
     have e1:=(hd (8,19) (by decide)).1;have e2:=(hd (3,14) (by decide)).1;have e3:=(hd (7,18) (by decide)).1;simp only at e1 e2 e3;show u' 19=.agg #[u' 14,u' 18,.slice none 0 0,.slice none 0 0,.slice none 0 0];rw [e1,e2,e3];exact hq
   | 9,hd,⟨g,q1,q2,q3,q4⟩=>
     obtain ⟨e1,e2⟩:=hd (9,4) (by decide);simp only at e1 e2;exact ⟨g,e1.trans q1,by rw [e2];exact q2,by rw [e2];exact q3,q4.ext hxb⟩
   | n+10,_,_=>trivial
 · refine ⟨λu T w' hx _ _=>?_,λu T w' hx _ _=>?_,λu T w' hx _ hp'=>?_,λu T w' hx _ hp'=>?_,λu T w' hx _ _=>?_,λu T w' hx _ _=>?_,λu T w' hx _ hp'=>?_,λu T w' hx _ hp'=>?_,λu T w' hx _ hp'=>?_,λu T w' hx _ _=>?_,trivial⟩
   · exact zaQ (α:=ByteArray) u24 ty9 λa w5 hx5 _=>⟨hx5,a,rfl⟩
   · exact zaa zkK ⟨Ext.refl _,rfl⟩
   · have q0:u 12=_:=hp'.1
     rw [q0];exact zab zc0 (ze3 hA) (hx14.t hx) λv6 h6=>⟨Ext.refl _,h6.ext hx14⟩
   · obtain ⟨a,q0⟩:∃ a,u 11=.slice (some a) 0 0:=hp'.1
     have q1:Is _ (u 13) p.globals:=hp'.2.1;rw [q0];exact zeg (α:=ByteArray) u24 ty9 zc9 q1 hx (by rw [hp.g,zak];decide) (by rw [hp.g];decide) λv5 w5 hx5 r5=>⟨hx5,r5.own⟩
   · exact zaQ (α:=ByteArray) u24 ty9 λa w5 hx5 _=>⟨hx5,a,rfl⟩
   · exact zaa zmI ⟨Ext.refl _,rfl⟩
   · have q0:u 16=_:=hp'.1
     rw [q0];exact zab zc0 (zf5 hA) (hx14.t hx) λv6 h6=>⟨Ext.refl _,h6.ext hx14⟩
   · obtain ⟨a,q0⟩:∃ a,u 15=.slice (some a) 0 0:=hp'.1
     have q1:Is _ (u 17) p.locks:=hp'.2.1;rw [q0];exact zeg (α:=ByteArray) u24 ty9 zc9 q1 hx (by rw [hp.l,zak];decide) (by rw [hp.l];decide) λv5 w5 hx5 r5=>⟨hx5,r5.own⟩
   · have o1:OwnI _ _ _ (u 14) p.globals:=hp'.1
     have o2:OwnI _ _ _ (u 18) p.locks:=hp'.2.1;obtain ⟨a,n,cap,q1⟩:=zfe o1;obtain ⟨a',n',cap',q1'⟩:=zfe o2;rw [q1,q1'];refine zaX (cells:=#[.slice a n cap,.slice a' n' cap',.slice none 0 0,.slice none 0 0,.slice none 0 0]) (by kernel_rfl) ⟨Ext.refl _,?_⟩;show _=Value.agg #[u 14,u 18,.slice none 0 0,.slice none 0 0,.slice none 0 0];rw [q1,q1'];rfl
   exact zbH zvO λw5 hx5 hB=>⟨hx5,w'.heap.size,rfl,lr _,hB.lt,hB⟩
 rintro u T w5 hx5 hap ⟨-,-,-,o14,-,-,-,o18,q19,⟨gk,q4,hgk0,hgk1,hB5⟩,-⟩;have o14:OwnI (T 3).1 (T 3).2 w5 (u 14) p.globals:=o14;have o18:OwnI (T 7).1 (T 7).2 w5 (u 18) p.locks:=o18;have q19:u 19=.agg #[u 14,u 18,.slice none 0 0,.slice none 0 0,.slice none 0 0]:=q19;have t3:=hap.1 3 (by decide);have t7:=hap.1 7 (by decide);have t9:=hap.1 9 (by decide);have d37:=hap.2 3 (by decide) 7 (by decide) (by decide);have d39:=hap.2 3 (by decide) 9 (by decide) (by decide);have d79:=hap.2 7 (by decide) 9 (by decide) (by decide);have hs5:=hx5.size;obtain ⟨l3,hl3⟩:∃ x,(T 3).1=x:=⟨_,rfl⟩;obtain ⟨h3,hh3⟩:∃ x,(T 3).2=x:=⟨_,rfl⟩;obtain ⟨l7,hl7⟩:∃ x,(T 7).1=x:=⟨_,rfl⟩;obtain ⟨h7,hh7⟩:∃ x,(T 7).2=x:=⟨_,rfl⟩;rw [hl3,hh3] at o14 t3 d37 d39;rw [hl7,hh7] at o18 t7 d37 d79;generalize u 14=v14 at *;generalize u 18=v18 at *;rw [q19,q4];have one14:=zs6 rfl o14;have one18:=zs6 rfl o18;refine zbU (α:=Raw5) (x:=(⟨v14⟩,⟨v18⟩,⟨.slice none 0 0⟩,⟨.slice none 0 0⟩,⟨.slice none 0 0⟩)) (lo:=0) (hi:=0) zcv rfl hB5 rfl (znr one14 one18 rfl rfl rfl) λw6 hc6 hB6=>?_;have hs6:=hc6.size;have hx16:Ext w1 w6:=Ext.chgI (hx14.t hx5) hc6 (by omega);refine zab zmH hA hx16 λv20 h20=>?_;obtain ⟨c0,c1,c2,rfl,one0,one1,one2⟩:=zs5 h20;refine zaX (cells:=#[c0,c1,c2,.slice none 0 0]) (by kernel_rfl) ?_;refine zlK λw7 hx7 hB7=>?_;have hs7:=hx7.size;have hg7:=hB7.lt
 have hE7:EmF w1 w6.heap.size p [] [] w7:=by
   refine ⟨c0,c1,c2,.slice none 0 0,h20,⟨[c0,c1,c2,.slice none 0 0],?_,hB7.range,List.nodup_nil,Wr.nil _,by simp,_,_,hB7⟩,hx16.t hx7,by omega,by simp⟩;have r:∀ {v:Value},v.oneCell'=true→rep [] w7 [v] (⟨v⟩:Raw):=λh=>⟨rfl,rfl,h⟩;exact zaI (F:=[]) (r one0) (zaI (F:=[]) (r one1) (zaI (F:=[]) (r one2) (show rep [] w7 [Value.slice none 0 0] (⟨.slice none 0 0,[]⟩:RIns) from ⟨rfl,.inl ⟨none,rfl,rfl,rfl⟩⟩)))
 have hord:gk<w7.heap.size∧w6.heap.size<w7.heap.size∧gk≠w6.heap.size∧w1.heap.size<w7.heap.size∧w1.heap.size≠gk∧w1.heap.size≠w6.heap.size∧h3≤w7.heap.size∧h7≤w7.heap.size∧(gk<l3∨h3≤gk)∧(gk<l7∨h7≤gk) ∧
     (w6.heap.size<l3∨h3≤w6.heap.size)∧(w6.heap.size<l7∨h7≤w6.heap.size)∧w1.heap.size≤gk∧w1.heap.size≤w6.heap.size:=by omega
 have hS7:CdS w1 p gk w6.heap.size w7.heap.size w1.heap.size l3 h3 l7 h7 v14 v18 (.slice none 0 0) (.slice none 0 0) [] [] [] [] [] [] w7:=
   ⟨hB6.ext hx7,(o14.chg hc6 (by omega)).ext hx7,(o18.chg hc6 (by omega)).ext hx7,.inl ⟨none,rfl,rfl,rfl⟩,.inl ⟨none,rfl,rfl,rfl⟩,List.nodup_nil,List.nodup_nil,hE7,((((hB2.ext hx3).ext hx4).ext hx5).chgI hc6 (by omega)).ext hx7,by simp,by simp,by simp,by simp,by simp,by simp⟩
 generalize hge:w6.heap.size=ge at *;generalize hbs:w7.heap.size=bs at *;obtain ⟨G,hG⟩:∃ G,G=p.globals:=⟨_,rfl⟩;obtain ⟨Lk,hLk⟩:∃ G,G=p.locks:=⟨_,rfl⟩;obtain ⟨Pn,hPn⟩:∃ G,G=p.procs.map DProc.name:=⟨_,rfl⟩;have hcd:zcO p=⟨G,Lk,Pn,zm1 G Lk Pn p.procs 0,emP G Lk Pn p.procs 0⟩:=by rw [hG,hLk,hPn];rfl
 refine zat p.procs.length (λk us w'=>us=[.int .i64 (k:Int)]∧∃ vp ve E L Fp Fe Fi,k≤p.procs.length∧E.length=k∧CdS w1 p gk ge bs w1.heap.size l3 h3 l7 h7 v14 v18 vp ve ((p.procs.take k).map DProc.name) E L Fp Fe Fi w'∧bs≤w'.heap.size ∧
     zm1 G Lk Pn p.procs 0=E++zm1 G Lk Pn (p.procs.drop k) L.length∧emP G Lk Pn p.procs 0=L++emP G Lk Pn (p.procs.drop k) L.length) 0 (z0 _)
     ⟨rfl,_,_,[],[],[],[],[],z0 _,rfl,by simpa using hS7,by omega,by simp,by simp⟩ ?_
 rintro k m uu w8 hkm ⟨hu,vp,ve,E,L,Fp,Fe,Fi,hkl,hEl,hS8,hb8,hent,hem⟩;try replace hu:=zbG hu
 rw [hu];have hx18:=hS8.em.old;refine zaa zem ?_;refine zab zol (zbN hA) hx18 λv25 h25=>?_;refine zae u90 h25 ?_;refine zaf ?_
 have hLl:L.length≤436:=by
   have h1:=congrArg List.length hem;have h2:(zcO p).ins.length=(emP G Lk Pn p.procs 0).length:=by rw [hcd]
   rw [List.length_append] at h1;omega
 refine br (λhlt=>?_) (λhge'=>?_)
 · have hk:k<p.procs.length:=by omega
   have hbody:=hp.b _ (List.getElem_mem hk);rw [zs7 hk] at hent;rw [zuC hk] at hem;have hx9:=zai w8;have hS9:=hS8.ext hx9;have hs9:=hx9.size;generalize World.drew1 w8=w9 at *;have hx19:=hx18.t hx9;refine zaa zdd ?_;refine zas zc0 hS9.bk rfl ?_;refine zaa zem ?_;refine zab zol (zbN hA) hx19 λv33 h33=>?_;refine zad u90 zmK h33 hk λb35 o35 hA35=>?_;refine zaa zlt ?_;refine zaq ty9 (zf4 hA35) hx19 λhS37=>?_;have hnl:((p.procs.take k).map DProc.name).length=k:=by rw [List.length_map,List.length_take];omega
   refine zd9 (β:=ByteArray) (G:=Fp) u24 ty9 z9 zc9 (by decide) hS9.n hS9.nn (zpJ hS37) (by simp) (by rw [zak,hnl];omega) (by rw [hnl];omega) (λw10 v39 w11 Fp' hx10 hc11 hR11 hN11 hs11=>?_) λs' w' hx' h'=>⟨hx',h'⟩;have hs10:=hx10.size;have hs11':=hc11.size;have hgkF:gk∉Fp:=λhm=>by have:=hS9.bp _ hm;omega
   have hB11:=(hS9.bk.ext hx10).chg hc11 hgkF;refine zaa zdd ?_;refine zbp (α:=Raw) (lo:=0) (hi:=0) zc0 rfl rfl hB11 (by simp) (zcJ hR11.one) λw12 hc12 hB12=>?_;have hs12:=hc12.size
   have hgkF':gk∉Fp':=λhm=>by
     rcases hs11 _ hm with h | h | h
     · exact hgkF h
     · simp at h
     omega
   have hS12:=hS9.names hord (vp':=v39) (N':=(p.procs.take (k+1)).map DProc.name) (Fp':=Fp') (w':=w12) ((((hx10.chg Fp).trans hc11).mono (by simp +contextual)).trans (hc12.toC.mono (by simp))) hB12
     (by rw [tk hk,List.map_append];exact hR11.keep λc hc=>hc12.block c (hR11.lt c hc) (by have:c≠gk:=λe=>hgkF' (e▸hc);omega)) hN11 (λc hc=>by
       rcases hs11 c hc with h | h | h
       · exact .inl h
       · simp at h
       exact .inr h) (by omega)
   have hx13:=zai w12;have hS13:=hS12.ext hx13;have hs13:=hx13.size;generalize World.drew1 w12=w13 at *;have hx113:=hS13.em.old;refine zaa za7 ?_;refine zas zaK hS13.bk rfl ?_;refine NIL.mk rfl ?_;obtain ⟨d0,d1,d2,rv,hd1,hd2,hd3,hd4,hd5⟩:=hS13.em;refine zaa zgE ?_;refine zab (α:=RIns) zdn (zlO hd2.at) (Ext.refl _) λv46 k46=>?_;obtain ⟨q46,h46⟩:=zku k46;have q46:v46=rv:=q46;have h46:Is w13 rv L:=h46;rw [q46];refine zae u26 h46 ?_;refine zd9 (β:=Int) (G:=Fe) (x:=(L.length:Int)) u25 ty3 z3 zc3 (by decide) hS13.e hS13.en (zbh (by unfold I64;omega)) (by simp) (by rw [zak,hEl];omega) (by rw [hEl];omega) (λw14 v49 w15 Fe' hx14' hc15 hR15 hN15 hs15=>?_) λs' w' hx' h'=>⟨hx',h'⟩;have hs14:=hx14'.size;have hs15':=hc15.size;have hgkE:gk∉Fe:=λhm=>by have:=hS13.be _ hm;omega
   have hB15:=(hS13.bk.ext hx14').chg hc15 hgkE;refine zaa za7 ?_;refine zbp (α:=Raw) (lo:=0) (hi:=0) zaK rfl rfl hB15 (by simp) (zcJ hR15.one) λw16 hc16 hB16=>?_;have hs16:=hc16.size
   have hgkE':gk∉Fe':=λhm=>by
     rcases hs15 _ hm with h | h | h
     · exact hgkE h
     · simp at h
     omega
   have hS16:=hS13.ents hord (ve':=v49) (E':=E++[(L.length:Int)]) (Fe':=Fe') (w':=w16) ((((hx14'.chg Fe).trans hc15).mono (by simp +contextual)).trans (hc16.toC.mono (by simp))) hB16
     (hR15.keep λc hc=>hc16.block c (hR15.lt c hc) (by have:c≠gk:=λe=>hgkE' (e▸hc);omega)) hN15 (λc hc=>by
       rcases hs15 c hc with h | h | h
       · exact .inl h
       · simp at h
       exact .inr h) (by omega)
   have hx116:=hS16.em.old;refine zaa zem ?_;refine zab zol (zbN hA) hx116 λv53 h53=>?_;refine zad u90 zmK h53 hk λb55 o55 hA55=>?_;refine zaa zos ?_;refine zab zdp (zhL hA55) hx116 λv57 h57=>?_;have hbl:=zh9 G Lk Pn (p.procs[k]).body L.length;refine (zjN _ 2 _ hS16.em h57 hbody.1 (by have:=hbody.2;omega)).mono ?_;rintro r58 w17 ⟨hc17,Fi',hE17,hF17⟩;have hs17:=hc17.size;rw [←hG,←hLk,←hPn] at hE17;have hS17:=hS16.ems hord hc17 hE17 hF17 (by omega);obtain ⟨z1,z2,z3,z4,z5⟩:=hE17.lt;refine zjM (lo:=w17.heap.size) (hi:=w17.heap.size) (by unfold I64;omega) λv60 o60=>?_;refine (zhj hE17 o60 z1 z2 (lr _) (by have:=hbody.2;rw [List.length_append];omega)).mono ?_;rintro r61 w18 ⟨-,hc18,Fi'',hE18,hF18⟩;have hs18:=hc18.size;have hS18:=hS17.ems hord hc18 hE18 hF18 (by omega);refine zaB ?_;refine ⟨m-1,by omega,k+1,by omega,rfl,_,_,_,_,_,_,_,by omega,by simp [hEl],hS18,by omega,?_,?_⟩
   · rw [hent];simp [Nat.add_assoc]
   rw [hem];simp [Nat.add_assoc,zv0]
 have hk:k=p.procs.length:=by omega
 subst hk;rw [List.drop_length,zm1,List.append_nil] at hent;rw [List.drop_length,emP,List.append_nil] at hem;rw [List.take_length] at hS8;refine NIL.mk rfl ?_;obtain ⟨d0,d1,d2,rv,hd1,hd2,hd3,hd4,hd5⟩:=hS8.em;refine zaa zgE ?_;refine zab (α:=RIns) zdn (zlO hd2.at) (Ext.refl _) λv65 k65=>?_;obtain ⟨q65,-⟩:=zku k65;have q65:v65=rv:=q65;rw [q65];obtain ⟨Gi,hLi⟩:=zh8 (Lens.var hd2);obtain ⟨cs1,⟨rfl,hrow⟩,hr1,hnG,_,hg1,_⟩:=hLi.here;have hrow:RowG Gi 118 w8 rv L:=hrow
 have hGi:∀ c∈Gi,c∈Fi:=λc hc=>by
   rcases List.mem_cons.1 (hLi.sub c (by simp [hc])) with e | h
   · exact absurd (e▸hc) hg1
   exact h
 refine zaa zaR ?_;refine zbp (α:=Raw) (lo:=0) (hi:=0) zdn rfl rfl hS8.bk (by simp) (zcJ hrow.one) λw9 hc9 hB9=>?_;have hs9:=hc9.size;refine zgL hB9 zcv ?_;have hx9:=hS8.x.chgI hc9 (by omega);refine zbU (α:=Raw5) (x:=(⟨v14⟩,⟨v18⟩,⟨vp⟩,⟨ve⟩,⟨rv⟩)) (lo:=0) (hi:=0) zcv rfl hx9 rfl (znr one14 one18 hS8.n.one hS8.e.one hrow.one) λw10 hc10 hB10=>?_;have hs10:=hc10.size;refine zer hB10 zcv ?_;have hxf:Ext w w10:=Ext.chgI (Ext.chgI (hx1.t hx18) hc9 (by omega)) hc10 (by omega);refine ⟨hxf,_,rfl,?_⟩;obtain ⟨F3,M3,B3⟩:=(hS8.g.chg hc9 (by omega)).chg hc10 (by omega);obtain ⟨F7,M7,B7⟩:=(hS8.l.chg hc9 (by omega)).chg hc10 (by omega);have keep:∀ c,bs≤c→c<w8.heap.size→w10.heap[c]?=w8.heap[c]?:=λc h1 h2=>(hc10.block c (by omega) (by omega)).trans (hc9.block c h2 (by omega));have Mp:=zj3 (hS8.n.keep λc hc=>keep c (hS8.bp c hc) (hS8.n.lt c hc)) hS8.nn;have Me:=zj3 (hS8.e.keep λc hc=>keep c (hS8.be c hc) (hS8.e.lt c hc)) hS8.en;have Mi:=zj3 (hrow.keep λc hc=>keep c (hS8.bi c (hGi c hc)) (hrow.lt c hc)) hnG;rw [hcd,hent,hem,hG,hLk,hPn];refine ⟨F3++(F7++(Fp++(Fe++Gi))),⟨⟨[v14,v18,vp,ve,rv],zaI (zbA rfl M3.own) (zaI (zbA rfl M7.own) (zaI (zbA rfl Mp.own) (zaI (zbA rfl Me.own) (zbA rfl Mi.own)))),rfl⟩,?_,M3.wr.append (M7.wr.append (Mp.wr.append (Me.wr.append Mi.wr)))⟩,λc hc=>?_⟩
 · simp only [List.nodup_append,List.mem_append]
   refine ⟨M3.nodup,⟨M7.nodup,⟨hS8.nn,⟨hS8.en,hnG,λa ha b hb e=>?_⟩,λa ha b hb e=>?_⟩,λa ha b hb e=>?_⟩,λa ha b hb e=>?_⟩
   · exact hS8.dei a ha (hGi a (e▸hb))
   · subst e
     rcases hb with h | h
     · exact hS8.dpe a ha h
     exact hS8.dpi a ha (hGi a h)
   · subst e
     have:=B7 a ha;rcases hb with h | h | h
     · have:=hS8.bp a h;omega
     · have:=hS8.be a h;omega
     have:=hS8.bi a (hGi a h);omega
   subst e;have:=B3 a ha;rcases hb with h | h | h | h
   · have:=B7 a h;omega
   · have:=hS8.bp a h;omega
   · have:=hS8.be a h;omega
   have:=hS8.bi a (hGi a h);omega
 simp only [List.mem_append] at hc;rcases hc with h | h | h | h | h
 · have:=B3 c h;omega
 · have:=B7 c h;omega
 · have:=hS8.bp c h;have:=hS8.n.lt c h;omega
 · have:=hS8.be c h;have:=hS8.e.lt c h;omega
 have:=hS8.bi c (hGi c h);have:=hrow.lt c h;omega
def F33 (a0:Value) (w:World) (R:VW):Prop:=
 rN 22 3 a0 w λx6=>
 rB .add 3 U0 T0 (iV 94701) x6 w λx7=>
 LOOPI [3,4] [x7,(iV 0)] w λu3 w n3=>
 rN 22 3 a0 w λx10=>
 rC (u3 4) x10 w λx11=>
 BR x11
 (rB .lss 3 T0 U0 (u3 4) (iV 4000) w λx14=>
 BR x14
 (rB .mul 3 T0 U0 (u3 3) (iV 131) w λx19=>
 rX 22 a0 (u3 4) w λx22=>
 rL 5 x22 w λx23=>
 rD (convert 5 3 x23) w λx24=>
 rB .add 3 T0 T0 x19 x24 w λx25=>
 rA x25 (iV 7) w λx26=>
 rB .and 3 T0 U0 x26 (iV 1073741823) w λx27=>
 rI (u3 4) w λx17=>
 n3 [x27,x17] w)
 (rD (Instr.build 99 #[(0,a0),(2,(u3 3))]) w λx30=>
 oX 99 x30 w λx31 w=>
 R x31 w))
 (rD (Instr.build 99 #[(0,a0),(2,(u3 3))]) w λx30=>
 oX 99 x30 w λx31 w=>
 R x31 w)
theorem F33_call {a0 w R} (h:F33 a0 w R):cL 33 [a0] w R:=co (g:=(kf [] [(3,268435224,[3,4])] [])) Tryz.func33 h
def F32 (a0:Value) (w:World) (R:VW):Prop:=
 oP (aL 28) w λx2 w=>
 cL 71 [a0] w λx9 w=>
 cL 70 [x9] w λx10 w=>
 rE x10 0 w λx11=>
 rE x10 1 w λx12=>
 oP (aL 28) w λx3 w=>
 oS 28 x3 x11 w λw=>
 rT x12 w λx14=>
 BR x14
 (cL 72 [(Value.string (ByteArray.mk #[103,108,111,98,97,108,115,32,120,59,32,108,111,99,107,115,32,97,59,32,112,114,111,99,32,109,97,105,110,32,123,32,108,111,99,107,32,97,59,32,120,32,61,32,49,59,32,117,110,108,111,99,107,32,97,59,32,115,112,97,119,110,32,112,59,32,125,32,112,114,111,99,32,112,32,123,32,120,32,61,32,50,59,32,125]))] w λx16 w=>
 rE x16 0 w λx17=>
 rE x16 1 w λx18=>
 oP (aL 92) w λx5 w=>
 oP (aL 95) w λx6 w=>
 oS 92 x5 x17 w λw=>
 oS 95 x6 x18 w λw=>
 rL 92 x5 w λx20=>
 cL 70 [x20] w λx21 w=>
 rE x21 0 w λx22=>
 rE x21 1 w λx23=>
 oS 28 x3 x22 w λw=>
 rL 28 x3 w λx24=>
 oS 28 x2 x24 w λw=>
 rD (zaJ 28 x2) w λr2=>R r2 w)
 (rL 28 x3 w λx24=>
 oS 28 x2 x24 w λw=>
 rD (zaJ 28 x2) w λr2=>R r2 w)
theorem F32_call {a0 w R} (h:F32 a0 w R):cL 32 [a0] w R:=co (g:=(kf [] [] [])) Tryz.func32 h
def F6 (a0:Value) (w:World) (R:VW):Prop:=
 oP (aL 28) w λx2 w=>
 cL 33 [a0] w λx4 w=>
 cL 32 [x4] w λx5 w=>
 oS 28 x2 x5 w λw=>
 rD (zaJ 28 x2) w λr2=>R r2 w
theorem F6_call {a0 w R} (h:F6 a0 w R):cL 6 [a0] w R:=co (g:=(kf [] [] [])) Tryz.func6 h
def F7 (a0:Value) (w:World) (R:VW):Prop:=
 cL 33 [a0] w λx7 w=>
 cL 34 [x7] w λx9 w=>
 oP (Instr.buildSlice 25 0 #[]) w λx10 w=>
 LOOPI [4,5] [x10,(iV 0)] w λu5 w n5=>
 rB .lss 3 T0 U0 (u5 5) (iV 70) w λx12=>
 BR x12
 (cL 35 [x7,(iV 12)] w λx17 w=>
 oP (bS 25 x17) w λx18 w=>
 oP (aP 25 (u5 4) x18) w λx19 w=>
 rI (u5 5) w λx14=>
 n5 [x19,x14] w)
 (R (u5 4) w)
theorem F7_call {a0 w R} (h:F7 a0 w R):cL 7 [a0] w R:=co (g:=(kf [] [(5,1046576,[4,5])] [])) Tryz.func7 h
open Rep (rep)
theorem zs8 {bs:List UInt8} {k:Nat} (hk:k<(bs.take 4000).length) (h:Int):((bs.take 4000).take (k+1)).foldl (λh (b:UInt8)=>zqA (h*131+(b.toNat:Int)+7) 1073741823) h =
   zqA (((bs.take 4000).take k).foldl (λh (b:UInt8)=>zqA (h*131+(b.toNat:Int)+7) 1073741823) h*131+(((bs.take 4000)[k]).toNat:Int)+7) 1073741823:=by
 rw [tk hk,List.foldl_append];rfl
set_option maxRecDepth 100000 in
theorem zns {w W:World} {v:Value} {bs:List UInt8} (h:Is W v bs) (e:Ext W w) (hl:bs.length≤1048576) :
    CALL tp 33 [v] w λr w'=>Ext w w'∧∃ g,r=.pointer (some ⟨g,0,none⟩)∧w.heap.size≤g∧CurAt w g bs (zhc bs) w':=by
  have fin:∀ {w1:World} {hh:Int},Ext w w1→hh=zxH bs→I64 hh→RD tp (Instr.build 99 #[(0,v),(2,.int .i64 hh)]) w1 λx30=>OP tp (Instr.box 99 x30) w1 λx31 w2=>
      Ext w w2∧∃ g,x31=.pointer (some ⟨g,0,none⟩)∧w.heap.size≤g∧CurAt w g bs (zhc bs) w2:=by
    intro w1 hh hx1 hh1 hI;obtain ⟨a,cap,Fi,xs,rfl,_⟩:=zcY h;refine zaX (cells:=#[.slice a bs.length cap,.int .i64 0,.int .i64 hh]) (by kernel_rfl) ?_;refine zlK λw2 hx2 hB2=>?_;refine ⟨hx1.t hx2,_,rfl,hx1.size,.slice a bs.length cap,h.ext e,hx1.t hx2,hx1.size,?_,z0 _,hl⟩;rw [hh1] at hB2;exact hB2
  refine F33_call ?_;unfold F33;refine zae u22 h ?_;refine zcG (by unfold I64;omega) ?_
  refine zat (bs.take 4000).length (λk us w'=>∃ hh:Int,us=[.int .i64 hh,.int .i64 (k:Int)]∧Ext w w'∧k≤(bs.take 4000).length∧0≤hh∧hh≤1073741823∧hh=((bs.take 4000).take k).foldl (λh (b:UInt8)=>zqA (h*131+(b.toNat:Int)+7) 1073741823) (94701+(bs.length:Int))) 0 (z0 _)
    ⟨_,rfl,Ext.refl w,z0 _,by omega,by omega,by simp⟩ ?_
  rintro k m u w1 hkm ⟨hh,hu,hx1,hkl,h0,h1,hf⟩;obtain ⟨hu0,hu1⟩:=zd4 hu;rw [hu0,hu1];have htl:(bs.take 4000).length=min 4000 bs.length:=List.length_take
  have hdone:(bs.take 4000).length≤k→hh=zxH bs:=λhk=>by
    rw [hf,List.take_of_length_le hk];rfl
  have hIh:I64 hh:=by unfold I64;omega
  refine zae u22 h ?_;refine zaf ?_;refine br (λhlt=>?_) (λhge=>fin hx1 (hdone (by omega)) hIh);refine zaf ?_;refine br (λhlt2=>?_) (λhge=>fin hx1 (hdone (by omega)) hIh);have hk:k<(bs.take 4000).length:=by omega
  have hkb:k<bs.length:=by omega
  refine zkH (by unfold I64;omega) ?_;refine zad u22 ty5 (i:=k) h hkb λb o hA=>?_;refine zpK ty5 hA (e.trans hx1) ?_;have h256:=UInt8.toNat_lt (bs[k]);refine zr3 (by kernel_rfl) u3 (by omega) ?_;refine zcG (by unfold I64;omega) ?_;refine zcG (by unfold I64;omega) ?_;refine zok ?_;refine zaB ?_;have hb:=zlq (hh*131+((bs[k]).toNat:Int)+7) (n:=1073741823) (by omega);refine ⟨m-1,by omega,k+1,by omega,_,rfl,hx1,by omega,hb.1,hb.2,?_⟩;rw [zs8 hk,←hf,List.getElem_take]
def zc7 (bs:List UInt8):DCode:=zcO (zcV bs (zhc bs)).1
theorem zk3 (bs:List UInt8):CodeR (zc7 bs)∧(zc7 bs).ins.length≤436:=zkT (zh0 bs _)
set_option maxRecDepth 20000 in
theorem zq7 {W w:World} {g:Nat} {bs:List UInt8} {s:Cur} (hC:CurAt W g bs s w) :
    CALL tp 32 [.pointer (some ⟨g,0,none⟩)] w λr w'=>ChgI g (g+1) w w'∧OwnI w.heap.size w'.heap.size w' r (zcO (zcV bs s).1)∧CurAt W g bs (zcV bs s).2 w':=by
  have hgl:=hC.lt;refine F32_call ?_;unfold F32;refine zbH zvO λw1 hx1 hB1=>?_;have hs1:=hx1.size;have hg1:=hB1.lt;refine (zqV (hC.ext hx1)).mono ?_;rintro v9 w2 ⟨hc2,hC2,o9⟩;have hs2:=hc2.size;refine (zl5 o9.is (Ext.refl _) (zh0 bs s)).mono ?_;rintro _ w3 ⟨hx3,a,rfl,o10⟩;have hs3:=hx3.size;refine zb0 rfl ?_;refine zb0 rfl ?_;refine zbH zvO λw4 hx4 hB4=>?_;have hs4:=hx4.size;have hg4:=hB4.lt;have o10:=o10.ext hx4
  have hform:∃ us:Array Value,a=.agg us:=by
    obtain ⟨F,⟨⟨cs,hr,hv⟩,_⟩,_⟩:=o10;exact ⟨cs.toArray,by simpa [mkv,Rep.agg] using hv⟩
  obtain ⟨us,rfl⟩:=hform;have hB1':Blk w.heap.size 28 w4 _:=((hB1.chgI hc2 (by omega)).ext hx3).ext hx4
  have hul:us.toList.length=5:=by
    obtain ⟨F,⟨⟨cs,hr,hv⟩,_⟩,_⟩:=o10;have:us=cs.toArray:=by simpa [mkv,Rep.agg] using hv
    rw [this];exact Rep.len hr
  refine zbU zcv rfl hB4 rfl o10 λw5 hc5 hB5=>?_;have hs5:=hc5.size;have o10:=o10.chg hc5 (by omega);refine za1 ?_;refine zcd (λhc=>by simp at hc) (λ_=>?_);refine zgL hB5 (by rw [hul];exact zcv) ?_;have hB15:=hB1'.chgI hc5 (by omega);refine zbU zcv rfl hB15 rfl o10 λw6 hc6 hB6=>?_;have hs6:=hc6.size;refine zer hB6 (by rw [hul];exact zcv) ?_;refine ⟨?_,(o10.chg hc6 (by omega)).mono (by omega) (by omega),?_⟩
  · exact ChgI.out (ChgI.out (((hx1.toI.trans hc2).trans hx3.toI).trans hx4.toI) hc5 (by omega)) hc6 (by omega)
  exact (((hC2.ext hx3).ext hx4).chg hc5 (by omega) (by omega)).chg hc6 (by omega) (by omega)
theorem zo1 {w W:World} {v:Value} {bs:List UInt8} (h:Is W v bs) (e:Ext W w) (hl:bs.length≤1048576) :
   CALL tp 6 [v] w λr w'=>Ext w w'∧Own w.heap.size w' r (zc7 bs):=by
 refine F6_call ?_;unfold F6;refine zbH zvO λw1 hx1 hB1=>?_;have hs1:=hx1.size;have hg1:=hB1.lt;refine (zns h (e.trans hx1) hl).mono ?_;rintro _ w2 ⟨hx2,g,rfl,hg,hC2⟩;have hs2:=hx2.size;have hg2:=hC2.lt;refine (zq7 hC2).mono ?_;rintro v5 w3 ⟨hc3,o5,-⟩;have hs3:=hc3.size
 have hform:∃ us:Array Value,v5=.agg us:=by
   obtain ⟨F,⟨⟨cs,hr,hv⟩,_⟩,_⟩:=o5;exact ⟨cs.toArray,by simpa [mkv,Rep.agg] using hv⟩
 obtain ⟨us,rfl⟩:=hform
 have hul:us.toList.length=5:=by
   obtain ⟨F,⟨⟨cs,hr,hv⟩,_⟩,_⟩:=o5;have:us=cs.toArray:=by simpa [mkv,Rep.agg] using hv
   rw [this];exact Rep.len hr
 have hB3:=(hB1.ext hx2).chgI hc3 (by omega);refine zbU zcv rfl hB3 rfl o5 λw4 hc4 hB4=>?_;refine zer hB4 (by rw [hul];exact zcv) ?_;exact ⟨Ext.chgI (Ext.chgI (hx1.t hx2) hc3 (by omega)) hc4 (by omega),(o5.chg hc4 (by omega)).own.mono (by omega)⟩
def zdO (bs:List UInt8) (m:Int):Nat→Cur→List Int
 | 0,_=>[]
 | n+1,s=>zbC bs m s :: zdO bs m n (zam bs m s)
theorem ziD (bs:List UInt8) (m:Int):∀ (n:Nat) (s:Cur),(zdO bs m n s).length=n
 | 0,_=>rfl
 | n+1,s=>by rw [zdO,List.length_cons,ziD bs m n]
theorem zj4 (bs:List UInt8) {m:Int} (hm:0<m):∀ (n:Nat) (s:Cur),∀ x∈zdO bs m n s,0≤x∧x<m
 | 0,_,x,h=>by rw [zdO] at h;cases h
 | n+1,s,x,h=>by
   rw [zdO] at h;rcases List.mem_cons.1 h with rfl | h
   · exact zcf bs hm s
   exact zj4 bs hm n _ x h
def znt (bs:List UInt8):List Int:=zdO bs 12 70 (zdt bs (zhc bs))
theorem znu {w W:World} {v:Value} {bs:List UInt8} (h:Is W v bs) (e:Ext W w) (hl:bs.length≤1048576) :
   CALL tp 7 [v] w λr w'=>Ext w w'∧Own w.heap.size w' r (znt bs):=by
 refine F7_call ?_;unfold F7;refine (zns h e hl).mono ?_;rintro _ w1 ⟨hx1,g,rfl,hg,hC1⟩;have hs1:=hx1.size;have hgl:=hC1.lt;refine (zee hC1).mono ?_;rintro _ w2 ⟨hc2,hC2,rfl⟩;have hs2:=hc2.size;refine zaQ (α:=Int) u25 ty3 λv10 w3 hx3 r10=>?_;have hs3:=hx3.size
 refine zat 70 (λk us w'=>∃ v hi l s1,us=[v,.int .i64 (k:Int)]∧k≤70∧ChgI g (g+1) w2 w'∧CurAt w g bs s1 w'∧RowI w3.heap.size hi 3 w' v l∧w3.heap.size≤hi∧hi≤w'.heap.size∧l.length=k∧znt bs=l++zdO bs 12 (70-k) s1) 0 (z0 _)
   ⟨_,w3.heap.size,[],_,rfl,by omega,hx3.toI,hC2.ext hx3,r10,lr _,Nat.le_refl _,rfl,rfl⟩ ?_
 rintro k m u w4 hkm ⟨v4,hi,l,s1,hu,hkl,hc4,hC4,r4,hlo,hhi,hll,heq⟩;obtain ⟨hu0,hu1⟩:=zd4 hu;rw [hu0,hu1];refine zaf ?_;refine br (λhlt=>?_) (λhge=>?_)
 · have hk:k<70:=by omega
   refine (zcq hC4 (by omega)).mono ?_;rintro _ w5 ⟨hc5,hC5,rfl⟩;have hs5:=hc5.size;have hb:=zcf bs (n:=12) (by omega) s1;refine zcn (α:=Int) (lo2:=w5.heap.size) (hi2:=w5.heap.size) u25 ty3 z3 zc3 (by decide) (r4.chg hc5 (by omega)) (by omega) (Go.Sh.ownI_int (by unfold I64;omega)) (by omega) (by omega) (by rw [zak];omega) (by omega) λv19 w6 hc6 r6=>?_;have hs6:=hc6.size;refine zaB ?_;refine ⟨m-1,by omega,k+1,by omega,v19,w6.heap.size,_,_,rfl,by omega,ChgI.out (hc4.trans hc5) hc6 (by omega),hC5.chg hc6 (by omega) (by omega),r6,by omega,lr _,by simp [hll],?_⟩;rw [heq,show 70-k=(70-(k+1))+1 by omega,zdO];simp
 have hk:k=70:=by omega
 subst hk;rw [Nat.sub_self,zdO,List.append_nil] at heq;rw [heq];exact ⟨Ext.chgI (Ext.chgI hx1 hc2 hg) hc4 hg,r4.own.own.mono (by omega)⟩
theorem zxY {G L P:List ByteArray} {pr:List ByteArray} (hG:G=glb) (hL:L=lks) (hP:∀ x∈pr,x∈P):∀ (l:List DProc) (a:Nat),(∀ x∈l,zqL pr x.body)→∀ y∈emP G L P l a,wT y.term≤24
 | [],_,_,y,h=>by rw [emP] at h;cases h
 | x :: l,a,hb,y,h=>by
   have w0:wT term0≤24:=by decide
   rw [emP] at h;rcases List.mem_append.1 h with h | h
   · have:=((zxK hG hL hP 2).2 x.body a (hb x (by simp)).1).1 y h
     obtain ⟨_,_,_,q4,_⟩:=this;split at q4
     · exact q4.2.2
     rw [q4];exact w0
   rcases List.mem_cons.1 h with rfl | h
   · exact w0
   exact zxY hG hL hP l _ (λz hz=>hb z (by simp [hz])) y h
theorem zvt {α:Type} {f:α→Nat} {b:Nat}:∀ {l:List α},(∀ x∈l,f x≤b)→sm f l≤l.length*b
 | [],_=>by simp [sm]
 | x :: l,h=>by
   have h1:=zvt (l:=l) λy hy=>h y (List.mem_cons_of_mem _ hy);have h2:=h x List.mem_cons_self;simp only [sm,List.map_cons,List.sum_cons,List.length_cons,Nat.add_mul] at h1 ⊢;omega
theorem zq8 (bs:List UInt8):zt9 (zc7 bs)≤1048576:=by
 have hp:=zh0 bs (zhc bs);have hl:=(zk3 bs).2;obtain ⟨f1,f2,f3,f4⟩:=hp.facts;obtain ⟨k,hk,hn⟩:=hp.n
 have h1:ztK (zc7 bs).globals≤100:=by
   show ztK (zcV bs (zhc bs)).1.globals≤100;rw [hp.g];decide
 have h2:ztK (zc7 bs).locks≤100:=by
   show ztK (zcV bs (zhc bs)).1.locks≤100;rw [hp.l];decide
 have h3:ztK (zc7 bs).procs≤100:=by
   show ztK ((zcV bs (zhc bs)).1.procs.map DProc.name)≤100;rw [hn]
   match k,hk with
   | 0,_=>decide
   | 1,_=>decide
   | 2,_=>decide
 have h4:(zc7 bs).entry.length≤4:=by
   have:(zc7 bs).entry.length=(zcV bs (zhc bs)).1.procs.length:=ziV _ _ _ _ _;omega
 have h5:zxF (zc7 bs).ins≤20000:=by
   have:=zvt (f:=λi:DIns=>wT i.term) (b:=24) (l:=(zc7 bs).ins) (zxY hp.g hp.l (λx hx=>List.mem_of_mem_drop hx) _ _ hp.b);unfold zxF;omega
 unfold zt9;omega
end Go.Proofs.YtakjaofncelghaaGreat
namespace Go.Proofs.YtakjaofncelghaaGreat
open Go.Shelf
def Tryz.sortOrder_ren:Go.Shelf.Ren:=⟨fun | 6=>81 | 15=>144 | 14=>146 | 28=>208 | 29=>209 | 20=>210 | 21=>211 | 22=>212 | 23=>213 | 24=>214 | 25=>215 | 26=>216 | 27=>217 | 46=>261 | 47=>257 | 48=>258 | 49=>262 | 50=>263 | 57=>289 | n=>n,fun | 22=>70 | 24=>110 | 25=>120 | 3=>3 | 39=>77 | 0=>0 | 53=>232 | 55=>108 | 4=>4 | 46=>225 | 45=>224 | 50=>229 | 5=>5 | 9=>9 | 66=>258 | 70=>262 | 76=>278 | 77=>279 | n=>n,fun | n=>n⟩
theorem Tryz.sortOrder:SlLaysF0.n6 tp Tryz.sortOrder_ren:={
 mixed:=by kernel_rfl,
 f6:=⟨Tryz.f81.name,by kernel_rfl,Tryz.func81.trans (congrArg some (by kernel_rfl))⟩,
 f14:=⟨Tryz.f146.name,by kernel_rfl,Tryz.func146.trans (congrArg some (by kernel_rfl))⟩,
 f15:=Tryz.func144.trans (congrArg some (by kernel_rfl)),
 f20:=⟨Tryz.f210.name,by kernel_rfl,Tryz.func210.trans (congrArg some (by kernel_rfl))⟩,
 f21:=⟨Tryz.f211.name,by kernel_rfl,Tryz.func211.trans (congrArg some (by kernel_rfl))⟩,
 f22:=⟨Tryz.f212.name,by kernel_rfl,Tryz.func212.trans (congrArg some (by kernel_rfl))⟩,
 f23:=⟨Tryz.f213.name,by kernel_rfl,Tryz.func213.trans (congrArg some (by kernel_rfl))⟩,
 f24:=⟨Tryz.f214.name,by kernel_rfl,Tryz.func214.trans (congrArg some (by kernel_rfl))⟩,
 f25:=⟨Tryz.f215.name,by kernel_rfl,Tryz.func215.trans (congrArg some (by kernel_rfl))⟩,
 f26:=⟨Tryz.f216.name,by kernel_rfl,Tryz.func216.trans (congrArg some (by kernel_rfl))⟩,
 f27:=⟨Tryz.f217.name,by kernel_rfl,Tryz.func217.trans (congrArg some (by kernel_rfl))⟩,
 f28:=Tryz.func208.trans (congrArg some (by kernel_rfl)),
 f29:=Tryz.func209.trans (congrArg some (by kernel_rfl)),
 f46:=⟨Tryz.f261.name,by kernel_rfl,Tryz.func261.trans (congrArg some (by kernel_rfl))⟩,
 f47:=Tryz.func257.trans (congrArg some (by kernel_rfl)),
 f48:=Tryz.func258.trans (congrArg some (by kernel_rfl)),
 f49:=⟨Tryz.f262.name,by kernel_rfl,Tryz.func262.trans (congrArg some (by kernel_rfl))⟩,
 f50:=⟨Tryz.f263.name,by kernel_rfl,Tryz.func263.trans (congrArg some (by kernel_rfl))⟩,
 f57:=⟨Tryz.f289.name,by kernel_rfl,Tryz.func289.trans (congrArg some (by kernel_rfl))⟩,
 t0:=Tryz.underlying0,
 a0:=Tryz.isAgg0,
 z0:=Tryz.sizeOf0,
 v0:=Tryz.zeroValue0,
 t3:=Tryz.underlying3,
 a3:=Tryz.isAgg3,
 z3:=Tryz.sizeOf3,
 v3:=Tryz.zeroValue3,
 t4:=Tryz.underlying4,
 a4:=Tryz.isAgg4,
 z4:=Tryz.sizeOf4,
 v4:=Tryz.zeroValue4,
 t5:=Tryz.underlying5,
 a5:=Tryz.isAgg5,
 z5:=Tryz.sizeOf5,
 v5:=Tryz.zeroValue5,
 t9:=Tryz.underlying9,
 a9:=Tryz.isAgg9,
 z9:=Tryz.sizeOf9,
 v9:=Tryz.zeroValue9,
 t22:=Tryz.underlying70,
 a22:=Tryz.isAgg70,
 z22:=Tryz.sizeOf70,
 v22:=Tryz.zeroValue70,
 t25:=Tryz.underlying120,
 a25:=Tryz.isAgg120,
 z25:=Tryz.sizeOf120,
 v25:=Tryz.zeroValue120,
 t39:=Tryz.underlying77,
 a39:=Tryz.isAgg77,
 z39:=Tryz.sizeOf77,
 v39:=Tryz.zeroValue77,
 t45:=Tryz.underlying224,
 a45:=Tryz.isAgg224,
 z45:=Tryz.sizeOf224,
 v45:=Tryz.zeroValue224,
 t46:=Tryz.underlying225,
 a46:=Tryz.isAgg225,
 z46:=Tryz.sizeOf225,
 v46:=Tryz.zeroValue225,
 t50:=Tryz.underlying229,
 a50:=Tryz.isAgg229,
 z50:=Tryz.sizeOf229,
 v50:=Tryz.zeroValue229,
 t53:=Tryz.underlying232,
 a53:=Tryz.isAgg232,
 z53:=Tryz.sizeOf232,
 v53:=Tryz.zeroValue232,
 t55:=Tryz.underlying108,
 a55:=Tryz.isAgg108,
 z55:=Tryz.sizeOf108,
 v55:=Tryz.zeroValue108,
 t66:=Tryz.underlying258,
 a66:=Tryz.isAgg258,
 z66:=Tryz.sizeOf258,
 v66:=Tryz.zeroValue258,
 t70:=Tryz.underlying262,
 a70:=Tryz.isAgg262,
 z70:=Tryz.sizeOf262,
 v70:=Tryz.zeroValue262,
 t76:=Tryz.underlying278,
 a76:=Tryz.isAgg278,
 z76:=Tryz.sizeOf278,
 v76:=Tryz.zeroValue278,
 t77:=Tryz.underlying279,
 a77:=Tryz.isAgg279,
 z77:=Tryz.sizeOf279,
 v77:=Tryz.zeroValue279 }
def Tryz.sortInts_ren:Go.Shelf.Ren:=⟨fun | 6=>77 | 15=>144 | 14=>143 | 28=>208 | 29=>209 | 20=>200 | 21=>201 | 22=>202 | 23=>203 | 24=>204 | 25=>205 | 26=>206 | 27=>207 | 46=>256 | 47=>257 | 48=>258 | 49=>259 | 50=>260 | 57=>288 | n=>n,fun | 22=>33 | 24=>25 | 25=>105 | 3=>3 | 39=>77 | 0=>0 | 53=>232 | 55=>108 | 4=>4 | 46=>225 | 45=>224 | 50=>229 | 5=>5 | 9=>9 | 66=>258 | 70=>262 | 76=>278 | 77=>279 | n=>n,fun | n=>n⟩
theorem Tryz.sortInts:SlLaysF.n6 tp Tryz.sortInts_ren:={
 mixed:=by kernel_rfl,
 f6:=⟨Tryz.f77.name,by kernel_rfl,Tryz.func77.trans (congrArg some (by kernel_rfl))⟩,
 f14:=⟨Tryz.f143.name,by kernel_rfl,Tryz.func143.trans (congrArg some (by kernel_rfl))⟩,
 f15:=Tryz.func144.trans (congrArg some (by kernel_rfl)),
 f20:=⟨Tryz.f200.name,by kernel_rfl,Tryz.func200.trans (congrArg some (by kernel_rfl))⟩,
 f21:=⟨Tryz.f201.name,by kernel_rfl,Tryz.func201.trans (congrArg some (by kernel_rfl))⟩,
 f22:=⟨Tryz.f202.name,by kernel_rfl,Tryz.func202.trans (congrArg some (by kernel_rfl))⟩,
 f23:=⟨Tryz.f203.name,by kernel_rfl,Tryz.func203.trans (congrArg some (by kernel_rfl))⟩,
 f24:=⟨Tryz.f204.name,by kernel_rfl,Tryz.func204.trans (congrArg some (by kernel_rfl))⟩,
 f25:=⟨Tryz.f205.name,by kernel_rfl,Tryz.func205.trans (congrArg some (by kernel_rfl))⟩,
 f26:=⟨Tryz.f206.name,by kernel_rfl,Tryz.func206.trans (congrArg some (by kernel_rfl))⟩,
 f27:=⟨Tryz.f207.name,by kernel_rfl,Tryz.func207.trans (congrArg some (by kernel_rfl))⟩,
 f28:=Tryz.func208.trans (congrArg some (by kernel_rfl)),
 f29:=Tryz.func209.trans (congrArg some (by kernel_rfl)),
 f46:=⟨Tryz.f256.name,by kernel_rfl,Tryz.func256.trans (congrArg some (by kernel_rfl))⟩,
 f47:=Tryz.func257.trans (congrArg some (by kernel_rfl)),
 f48:=Tryz.func258.trans (congrArg some (by kernel_rfl)),
 f49:=⟨Tryz.f259.name,by kernel_rfl,Tryz.func259.trans (congrArg some (by kernel_rfl))⟩,
 f50:=⟨Tryz.f260.name,by kernel_rfl,Tryz.func260.trans (congrArg some (by kernel_rfl))⟩,
 f57:=⟨Tryz.f288.name,by kernel_rfl,Tryz.func288.trans (congrArg some (by kernel_rfl))⟩,
 t0:=Tryz.underlying0,
 a0:=Tryz.isAgg0,
 z0:=Tryz.sizeOf0,
 v0:=Tryz.zeroValue0,
 t3:=Tryz.underlying3,
 a3:=Tryz.isAgg3,
 z3:=Tryz.sizeOf3,
 v3:=Tryz.zeroValue3,
 t4:=Tryz.underlying4,
 a4:=Tryz.isAgg4,
 z4:=Tryz.sizeOf4,
 v4:=Tryz.zeroValue4,
 t5:=Tryz.underlying5,
 a5:=Tryz.isAgg5,
 z5:=Tryz.sizeOf5,
 v5:=Tryz.zeroValue5,
 t9:=Tryz.underlying9,
 a9:=Tryz.isAgg9,
 z9:=Tryz.sizeOf9,
 v9:=Tryz.zeroValue9,
 t22:=Tryz.underlying33,
 a22:=Tryz.isAgg33,
 z22:=Tryz.sizeOf33,
 v22:=Tryz.zeroValue33,
 a24:=Tryz.isAgg25,
 z24:=Tryz.sizeOf25,
 t25:=Tryz.underlying105,
 a25:=Tryz.isAgg105,
 z25:=Tryz.sizeOf105,
 v25:=Tryz.zeroValue105,
 t39:=Tryz.underlying77,
 a39:=Tryz.isAgg77,
 z39:=Tryz.sizeOf77,
 v39:=Tryz.zeroValue77,
 t45:=Tryz.underlying224,
 a45:=Tryz.isAgg224,
 z45:=Tryz.sizeOf224,
 v45:=Tryz.zeroValue224,
 t46:=Tryz.underlying225,
 a46:=Tryz.isAgg225,
 z46:=Tryz.sizeOf225,
 v46:=Tryz.zeroValue225,
 t50:=Tryz.underlying229,
 a50:=Tryz.isAgg229,
 z50:=Tryz.sizeOf229,
 v50:=Tryz.zeroValue229,
 t53:=Tryz.underlying232,
 a53:=Tryz.isAgg232,
 z53:=Tryz.sizeOf232,
 v53:=Tryz.zeroValue232,
 t55:=Tryz.underlying108,
 a55:=Tryz.isAgg108,
 z55:=Tryz.sizeOf108,
 v55:=Tryz.zeroValue108,
 t66:=Tryz.underlying258,
 a66:=Tryz.isAgg258,
 z66:=Tryz.sizeOf258,
 v66:=Tryz.zeroValue258,
 t70:=Tryz.underlying262,
 a70:=Tryz.isAgg262,
 z70:=Tryz.sizeOf262,
 v70:=Tryz.zeroValue262,
 t76:=Tryz.underlying278,
 a76:=Tryz.isAgg278,
 z76:=Tryz.sizeOf278,
 v76:=Tryz.zeroValue278,
 t77:=Tryz.underlying279,
 a77:=Tryz.isAgg279,
 z77:=Tryz.sizeOf279,
 v77:=Tryz.zeroValue279 }
end Go.Proofs.YtakjaofncelghaaGreat
namespace Go.Proofs.YtakjaofncelghaaGreat
open Go Go.Sh Go.Proofs
open Rep (rep)
def F218 (a0:Value) (w:World) (R:VW):Prop:=
 rB .neq 3 T0 T0 a0 a0 w λx5=>
 R x5 w
theorem F218_call {a0 w R} (h:F218 a0 w R):cL 218 [a0] w R:=co (g:=(kf [] [] [])) Tryz.func218 h
def F147 (a0 a1:Value) (w:World) (R:VW):Prop:=
 cL 218 [a0] w λx8 w=>
 cL 218 [a1] w λx10 w=>
 BR x8
 (BR x10
 (R (iV 0) w)
 (R (iV (-1)) w))
 (BR x10
 (R (iV 1) w)
 (rC a0 a1 w λx16=>
 BR x16
 (R (iV (-1)) w)
 (rB .gtr 3 T0 T0 a0 a1 w λx19=>
 BR x19
 (R (iV 1) w)
 (R (iV 0) w))))
theorem F147_call {a0 a1 w R} (h:F147 a0 a1 w R):cL 147 [a0,a1] w R:=co (g:=(kf [] [] [])) Tryz.func147 h
def F83 (a0 a1:Value) (w:World) (R:VW):Prop:=
 rN 25 3 a0 w λx10=>
 LOOPI [11] [(iV 0)] w λu2 w n2=>
 rC (u2 11) x10 w λx12=>
 BR x12
 (rX 25 a0 (u2 11) w λx14=>
 rL 3 x14 w λx15=>
 rN 25 3 a1 w λx18=>
 rB .geq 3 T0 T0 (u2 11) x18 w λx19=>
 BR x19
 (R (iV 1) w)
 (rX 25 a1 (u2 11) w λx22=>
 rL 3 x22 w λx23=>
 cL 147 [x15,x23] w λx26 w=>
 rB .neq 3 T0 U0 x26 (iV 0) w λx28=>
 BR x28
 (R x26 w)
 (rI (u2 11) w λx30=>
 n2 [x30] w)))
 (rN 25 3 a0 w λx32=>
 rN 25 3 a1 w λx34=>
 rC x32 x34 w λx35=>
 BR x35
 (R (iV (-1)) w)
 (R (iV 0) w))
theorem F83_call {a0 a1 w R} (h:F83 a0 a1 w R):cL 83 [a0,a1] w R:=co (g:=(kf [] [(2,2147482096,[11])] [])) Tryz.func83 h
theorem zxZ:zcu tp 3=some [.int .i64 0]:=by kernel_rfl
def zp8 (x y:Int):Int:=if x<y then -1 else if y<x then 1 else 0
def zuD:List Int→List Int→Int
 | [],[]=>0
 | [],_ :: _=>-1
 | _ :: _,[]=>1
 | x :: l,y :: m=>if zp8 x y≠0 then zp8 x y else zuD l m
theorem isNaN_ok {w:World} {x:Int}:CALL tp 218 [.int .i64 x] w λr w'=>w'=w∧r=.bool false:=by
 refine F218_call ?_;unfold F218;exact zaV ⟨rfl,by simp⟩
theorem compareI_ok {w:World} {x y:Int}:CALL tp 147 [.int .i64 x,.int .i64 y] w λr w'=>w'=w∧r=.int .i64 (zp8 x y):=by
 refine F147_call ?_;unfold F147;refine isNaN_ok.mono ?_;rintro _ _ ⟨rfl,rfl⟩;refine isNaN_ok.mono ?_;rintro _ _ ⟨rfl,rfl⟩;refine zcd (λh=>by cases h) (λ_=>?_);refine zcd (λh=>by cases h) (λ_=>?_);refine zaf ?_;refine br (λh=>⟨rfl,by rw [zp8,if_pos h]⟩) (λh=>?_);refine zb1 ?_;refine br (λh2=>⟨rfl,by rw [zp8,if_neg h,if_pos h2]⟩) (λh2=>⟨rfl,by rw [zp8,if_neg h,if_neg h2]⟩)
theorem zl6 {P:Program} {w:World} {K:Value→Prop} {t ty e:TypeId} {a:Option Addr} {n c:Nat} (ht:P.underlying t=some (.slice e)) (k:K (.int .i64 (n:Int))) :
   RD P (Builtin.len_ #[t] ty [Value.slice a n c].toArray) w K:=za3 (λw' _=>by simp [Builtin.len_,run_underlying ht];rfl) k
def vI (l:List Int):List Value:=l.map λx=>.int .i64 x
theorem zvu {l:List Int} {k:Nat} (h:k<l.length):(vI l)[k]?=some (.int .i64 l[k]):=by simp [vI,h]
theorem zs9 {l m:List Int} {k:Nat} (h1:k<l.length) (h2:k<m.length):zuD (l.drop k) (m.drop k)=if zp8 l[k] m[k]≠0 then zp8 l[k] m[k] else zuD (l.drop (k+1)) (m.drop (k+1)):=by
 rw [List.drop_eq_getElem_cons h1,List.drop_eq_getElem_cons h2,zuD]
theorem zo2 {w:World} {g1 g2 e1 e2 c1 c2:Nat} {l m:List Int} (h1:Blk g1 e1 w (vI l)) (h2:Blk g2 e2 w (vI m)) (hl:l.length≤1000) (hm:m.length≤1000) :
   CALL tp 83 [.slice (some ⟨g1,0,none⟩) l.length c1,.slice (some ⟨g2,0,none⟩) m.length c2] w λr w'=>w'=w∧r=.int .i64 (zuD l m):=by
 refine F83_call ?_;unfold F83;refine zl6 u25 ?_;refine zat l.length (λk us w'=>us=[.int .i64 (k:Int)]∧w'=w∧k≤m.length∧zuD l m=zuD (l.drop k) (m.drop k)) 0 (z0 _) ⟨rfl,rfl,z0 _,rfl⟩ ?_;rintro k mk u w2 hkm ⟨hu,rfl,hkl,hc⟩;try replace hu:=zbG hu
 rw [hu];refine zaf ?_;refine br (λhlt=>?_) (λhge=>?_)
 · have hk1:k<l.length:=by omega
   refine zjf u25 ty3 hk1 ?_;rw [Nat.mul_one];refine zas ty3 h1 (zvu hk1) ?_;refine zl6 u25 ?_;refine zbW ?_;refine br (λhge=>?_) (λhlt2=>?_)
   · refine ⟨rfl,?_⟩
     have e0:m.drop k=[]:=List.drop_eq_nil_of_le (by omega);rw [hc,List.drop_eq_getElem_cons hk1,e0];rfl
   have hk2:k<m.length:=by omega
   refine zjf u25 ty3 hk2 ?_;rw [Nat.mul_one];refine zas ty3 h2 (zvu hk2) ?_;refine compareI_ok.mono ?_;rintro _ _ ⟨rfl,rfl⟩;have hst:=zs9 hk1 hk2;refine zaV ?_;refine br (λhne=>?_) (λheq=>?_)
   · exact ⟨rfl,by rw [hc,hst,if_pos hne]⟩
   refine zaB ?_;exact ⟨mk-1,by omega,k+1,by omega,rfl,rfl,by omega,by rw [hc,hst,if_neg heq]⟩
 have hk:k=l.length:=by omega
 subst hk;refine zl6 u25 ?_;refine zl6 u25 ?_;refine zaf ?_;rw [List.drop_length] at hc;refine br (λhlt2=>⟨rfl,?_⟩) (λhge2=>⟨rfl,?_⟩)
 · rw [hc,List.drop_eq_getElem_cons (by omega)];rfl
 rw [hc,List.drop_eq_nil_of_le (by omega)];rfl
section
variable {P:Program} {w:World} {K:Value→World→Prop}
theorem zta {t:TypeId} {cs:Array Value} (k:K (.pointer (some ⟨w.heap.size,0,none⟩)) (w.alloc (.cells cs t))):OP P (Instr.box t (.agg cs)) w K:=
 ⟨_,w.alloc (.cells cs t),by simp [Instr.box,newVar,newRow,Value.cells],k⟩
theorem zk4 {t e:TypeId} {by_:Nat} {x y z:Int} (ht:P.underlying t=some (.slice e)) (he:tyI P e=some (1,by_,false)) (hz:zcu P e=some [.int .i64 0])
   (k:K (.slice (some ⟨w.heap.size,0,none⟩) 3 3) (w.alloc (.cells (vI [x,y,z]).toArray e))):OP P (Instr.buildSlice t 3 #[(0,.int .i64 x),(1,.int .i64 y),(2,.int .i64 z)]) w K:=by
 unfold zcu at hz;cases hi:P.info? e with
 | none=>simp [hi] at hz
 | some i=>
   simp only [hi] at hz;obtain ⟨v,hv,hvc⟩:=Option.map_eq_some_iff.1 hz;refine ⟨_,w.alloc (.cells (vI [x,y,z]).toArray e),?_,k⟩;have hvc':v.cells=#[.int .i64 0]:=Array.ext' (by simpa using hvc);have e1:∀ n:Int,(Value.int .i64 n).cells=#[.int .i64 n]:=λ_=>rfl;simp only [Instr.buildSlice,Sem.run_bind,run_underlying ht,Result.andThen_ok,zaM he];have e2:Array.range 3=#[0,1,2]:=by decide
   simp [zeroValue,typeInfo,hi,hv,newRow,Instr.fill,hvc',vI,e1,e2]
end
def i3 (a b c:Int):Array Value:=#[.int .i64 a,.int .i64 b,.int .i64 c]
def zj5 (w w':World):Prop:=∃ q os,w'=Go.Sort.grow (w.drewN q) os
theorem znv {w:World} (o1 o2 o3 o4:Obj):zj5 w ((((w.alloc o1).alloc o2).alloc o3).alloc o4):=
 ⟨0,#[o1]++#[o2]++#[o3]++#[o4],by
   rw [Go.Sort.alloc_eq_grow,Go.Sort.alloc_eq_grow,Go.Sort.alloc_eq_grow,Go.Sort.alloc_eq_grow,Go.Sort.grow_grow,Go.Sort.grow_grow,Go.Sort.grow_grow];rfl⟩
def ltR (x y:DRace):Prop:=x.g<y.g∨(x.g=y.g∧(x.a<y.a∨(x.a=y.a∧x.b<y.b)))
theorem zo3 {x y:Int} (h:x<y):zp8 x y=-1:=by rw [zp8,if_pos h]
theorem zo4 {x y:Int} (h:y<x):zp8 x y=1:=by rw [zp8,if_neg (by omega),if_pos h]
theorem zo5 {x y:Int} (h:x=y):zp8 x y=0:=by rw [zp8,if_neg (by omega),if_neg (by omega)]
end Go.Proofs.YtakjaofncelghaaGreat
namespace Go.Proofs.YtakjaofncelghaaGreat
open Go Go.Sh Go.Proofs Go.Sort
open Rep (rep)
def F82 (a0 a1:Value) (w:World) (R:VW):Prop:=
 oX 110 a0 w λx2 w=>
 oX 110 a1 w λx3 w=>
 rF 110 x2 0 w λx5=>
 rL 3 x5 w λx6=>
 rF 110 x2 1 w λx7=>
 rL 3 x7 w λx8=>
 rF 110 x2 2 w λx9=>
 rL 3 x9 w λx10=>
 oP (Instr.buildSlice 25 3 #[(0,x6),(1,x8),(2,x10)]) w λx11 w=>
 rF 110 x3 0 w λx12=>
 rL 3 x12 w λx13=>
 rF 110 x3 1 w λx14=>
 rL 3 x14 w λx15=>
 rF 110 x3 2 w λx16=>
 rL 3 x16 w λx17=>
 oP (Instr.buildSlice 25 3 #[(0,x13),(1,x15),(2,x17)]) w λx18 w=>
 cL 83 [x11,x18] w λx19 w=>
 R x19 w
theorem F82_call {a0 a1 w R} (h:F82 a0 a1 w R):cL 82 [a0,a1] w R:=co (g:=(kf [] [] [])) Tryz.func82 h
open Rep (rep)
structure DOrder where
 fr:Int
 to:Int
 at_:Int
theorem DOrder.ext_iff {x y:DOrder}:x=y↔(x.fr=y.fr∧x.to=y.to∧x.at_=y.at_):=⟨λh=>by rw [h];exact ⟨rfl,rfl,rfl⟩,λh=>by obtain ⟨h0,h1,h2⟩:=h;cases x;cases y;simp only at h0 h1 h2;simp only [h0,h1,h2]⟩
instance:DecidableEq DOrder:=λx y=>decidable_of_iff (x.fr=y.fr∧x.to=y.to∧x.at_=y.at_) DOrder.ext_iff.symm
instance:Rep DOrder:=Rep.via λx=>(x.fr,x.to,x.at_)
theorem zj6 {w:World} {b o:Nat} {x:DOrder} (h:At w b o x):At w b (o+0) x.fr:=zcW (α:=Int) (β:=Int×Int) (p:=(x.fr,x.to,x.at_)) h
theorem zj7 {w:World} {b o:Nat} {x:DOrder} (h:At w b o x):At w b (o+1) x.to:=zcW (α:=Int) (β:=Int) (p:=(x.to,x.at_)) (zbj (α:=Int) (β:=Int×Int) (p:=(x.fr,x.to,x.at_)) h)
instance:RepZ DOrder:=⟨⟨(RepZ.zv:Int),(RepZ.zv:Int),(RepZ.zv:Int)⟩,RepZ.zc (Int×Int×Int),λw=>RepZ.zr (α:=Int×Int×Int) w⟩
instance:Flat DOrder:=⟨λh=>Flat.flat (α:=Int×Int×Int) h⟩
def ztb (x:DOrder):List Int:=[x.fr,x.to,x.at_]
def zuE (x y:DOrder):Int:=zuD (ztb x) (ztb y)
theorem ztc {w:World} {x y:DOrder}:CALL tp 82 [.agg (i3 x.fr x.to x.at_),.agg (i3 y.fr y.to y.at_)] w λr w'=>r=.int .i64 (zuE x y)∧zj5 w w':=by
 refine F82_call ?_;unfold F82;refine zta ?_;have hB1:Blk w.heap.size 110 (w.alloc (.cells (i3 x.fr x.to x.at_) 110)) (vI (ztb x)):=heap_alloc_new w _;refine zta ?_;generalize hw1:w.alloc (.cells (i3 x.fr x.to x.at_) 110)=w1 at *;have hB2:Blk w1.heap.size 110 (w1.alloc (.cells (i3 y.fr y.to y.at_) 110)) (vI (ztb y)):=heap_alloc_new w1 _;have hx2:=zaP w1 (.cells (i3 y.fr y.to y.at_) 110);generalize hw2:w1.alloc (.cells (i3 y.fr y.to y.at_) 110)=w2 at *;have hB12:=hB1.ext hx2;refine zaa zlr ?_;refine zas ty3 hB12 rfl ?_;refine zaa zls ?_;refine zas ty3 hB12 rfl ?_;refine zaa zr7 ?_;refine zas ty3 hB12 rfl ?_;refine zk4 u25 ty3 zxZ ?_;have hx3:=zaP w2 (.cells (vI [x.fr,x.to,x.at_]).toArray 3);have hB3:Blk w2.heap.size 3 (w2.alloc (.cells (vI [x.fr,x.to,x.at_]).toArray 3)) (vI (ztb x)):=heap_alloc_new w2 _;generalize hw3:w2.alloc (.cells (vI [x.fr,x.to,x.at_]).toArray 3)=w3 at *;have hB23:=hB2.ext hx3;refine zaa zlr ?_;refine zas ty3 hB23 rfl ?_;refine zaa zls ?_;refine zas ty3 hB23 rfl ?_;refine zaa zr7 ?_;refine zas ty3 hB23 rfl ?_;refine zk4 u25 ty3 zxZ ?_;have hx4:=zaP w3 (.cells (vI [y.fr,y.to,y.at_]).toArray 3);have hB4:Blk w3.heap.size 3 (w3.alloc (.cells (vI [y.fr,y.to,y.at_]).toArray 3)) (vI (ztb y)):=heap_alloc_new w3 _;have hg:zj5 w (w3.alloc (.cells (vI [y.fr,y.to,y.at_]).toArray 3)):=by rw [←hw3,←hw2,←hw1];exact znv _ _ _ _
 refine (zo2 (l:=ztb x) (m:=ztb y) (hB3.ext hx4) hB4 (by simp [ztb]) (by simp [ztb])).mono ?_;rintro _ _ ⟨rfl,rfl⟩;exact ⟨rfl,hg⟩
def ltO (x y:DOrder):Prop:=x.fr<y.fr∨(x.fr=y.fr∧(x.to<y.to∨(x.to=y.to∧x.at_<y.at_)))
theorem zwe {x y:DOrder}:zuE x y<0↔ltO x y:=by
 unfold zuE ztb ltO;simp only [zuD];rcases Int.lt_trichotomy x.fr y.fr with h | h | h
 · rw [zo3 h];simp;omega
 · rw [zo5 h]
   rcases Int.lt_trichotomy x.to y.to with h2 | h2 | h2
   · rw [zo3 h2];simp;omega
   · rw [zo5 h2]
     rcases Int.lt_trichotomy x.at_ y.at_ with h3 | h3 | h3
     · rw [zo3 h3];simp;omega
     · rw [zo5 h3];simp;omega
     rw [zo4 h3];simp;omega
   rw [zo4 h2];simp;omega
 rw [zo4 h];simp;omega
instance (x y:DOrder):Decidable (ltO x y):=by unfold ltO;infer_instance
theorem zgk (x:DOrder):¬ltO x x:=by unfold ltO;omega
theorem znw {x y z:DOrder} (h:ltO x y) (k:ltO y z):ltO x z:=by unfold ltO at *;omega
theorem znx {x y:DOrder} (h:¬ltO x y) (k:¬ltO y x):x=y:=by
 unfold ltO at *;exact DOrder.ext_iff.2 ⟨by omega,by omega,by omega⟩
theorem zj8:∀ {l m:List DOrder},l.Pairwise ltO→m.Pairwise ltO→(∀ x,x∈l↔x∈m)→l=m
 | [],[],_,_,_=>rfl
 | [],y :: m,_,_,h=>by have:=(h y).2 (by simp);cases this
 | x :: l,[],_,_,h=>by have:=(h x).1 (by simp);cases this
 | x :: l,y :: m,h1,h2,h=>by
   rw [List.pairwise_cons] at h1 h2
   have hxy:x=y:=by
     rcases List.mem_cons.1 ((h x).1 (by simp)) with e | hm
     · exact e
     rcases List.mem_cons.1 ((h y).2 (by simp)) with e | hl
     · exact e.symm
     exact absurd (znw (h1.1 y hl) (h2.1 x hm)) (zgk x)
   subst hxy;congr 1;refine zj8 h1.2 h2.2 λz=>⟨λhz=>?_,λhz=>?_⟩
   · rcases List.mem_cons.1 ((h z).1 (by simp [hz])) with rfl | h'
     · exact absurd (h1.1 z hz) (zgk z)
     exact h'
   rcases List.mem_cons.1 ((h z).2 (by simp [hz])) with rfl | h'
   · exact absurd (h2.1 z hz) (zgk z)
   exact h'
instance:Inhabited DOrder:=⟨⟨0,0,0⟩⟩
def zwL (x:DOrder):List Value:=[.int .i64 x.fr,.int .i64 x.to,.int .i64 x.at_]
theorem zuF:∀ {F:List Nat} {w:World} {cs:List Value} {x:DOrder},Rep.rep F w cs x→cs=zwL x:=by
 intro F w cs x h;obtain ⟨F1,F2,c1,c2,rfl,rfl,⟨rfl,rfl,_⟩,⟨F3,F4,c3,c4,rfl,rfl,⟨rfl,rfl,_⟩,⟨rfl,rfl,_⟩⟩⟩:=h;rfl
theorem zez {x y:DOrder}:ltOf zuE x y=decide (ltO x y):=by
 unfold ltOf;rw [decide_eq_decide];exact zwe
theorem zwf:SWO (ltOf zuE):=by
 refine ⟨λx=>?_,λx y z h k=>?_,λx y z h k=>?_⟩
 · rw [zez,decide_eq_false_iff_not];exact zgk x
 · rw [zez,decide_eq_true_eq] at *;exact znw h k
 rw [zez,decide_eq_false_iff_not] at *;intro hc;unfold ltO at *;omega
def zwg (l:List DOrder):List DOrder:=l.mergeSort λx y=>!(ltOf zuE) y x
theorem zj9 (l:List DOrder):(zwg l).Perm l:=List.mergeSort_perm l _
theorem zuG (l:List DOrder):(zwg l).length=l.length:=(zj9 l).length_eq
theorem zwh (l:List DOrder):(zwg l).Pairwise λx y=>¬ltO y x:=by
 have:=List.pairwise_mergeSort (le:=λx y=>!(ltOf zuE) y x) (λa b c h1 h2=>by
   simp only [zez,Bool.not_eq_true',decide_eq_false_iff_not] at *;unfold ltO at *;omega) (λa b=>by
   simp only [zez,Bool.or_eq_true,Bool.not_eq_true',decide_eq_false_iff_not];unfold ltO;omega) l
 exact this.imp λh=>by simpa [zez] using h
theorem zuH {w:World} {lo hi:Nat} {v:Value} {l:List DOrder} (h:OwnI lo hi w v l) (hn:l.length≤1073741824) :
   CALL tp 81 [v,.func (.func 82) #[] #[]] w λr w'=>ChgI lo hi w w'∧OwnI lo hi w' v (zwg l):=by
 obtain ⟨F,hM,hF⟩:=h;by_cases hne:l=[]
 · subst hne
   obtain ⟨a,cap,hv⟩:∃ a cap,v=.slice a 0 cap:=by
     obtain ⟨cs,⟨a,cap,G,xs,h,_⟩,hv⟩:=hM.own;exact ⟨a,cap,by rw [hv,h];rfl⟩
   subst hv;refine ⟨(AnyF.slices_SortFunc_none Tryz.sortOrder a cap _ w).mono ?_⟩;rintro e w' ⟨he,rfl⟩;refine ⟨_,he,ChgI.refl _,F,?_,hF⟩;have:zwg []=[]:=List.eq_nil_of_length_eq_zero (by rw [zuG];rfl);rw [this];exact hM
 obtain ⟨b,o,cap,xs,rfl,rfl,h1,h2,hcc,hrr,hww⟩:=zqQ hM hne;have henc:=@zuF;have hk:∀ x,(zwL x).length=Rep.size DOrder:=λ_=>rfl;obtain ⟨c,e,hbe⟩:=hww;have hb:b<w.heap.size:=(Array.getElem?_eq_some_iff.1 hbe).1
 have hcmp:CmpLays tp 82 #[] zwL 3 zuE b o l.toArray.size w:=λm os dk _ x y=>by
   have:=ztc (w:=sortWorldK zwL 3 w b o m dk os) (x:=x) (y:=y);obtain ⟨h⟩:=this;refine h.mono ?_;rintro e w' ⟨v,he,hv,q,os',hw'⟩;exact ⟨by rw [he,hv],q,os',hw'⟩
 refine ⟨(AnyQ.slices_SortFunc_total Tryz.sortOrder 3 Tryz.isAgg110 Tryz.sizeOf110 zwL (λ_=>rfl) (λx v hv=>by
     simp only [zwL,List.mem_cons,List.not_mem_nil,or_false] at hv;rcases hv with rfl | rfl | rfl<;>rfl) zuE zwf 82 #[] b o cap l.toArray w (zeB (ent 82 (by decide) (by kernel_rfl))) hcmp (znb henc hk ⟨c,e,hbe⟩ hcc hrr) hb (by simp;omega) (λx y h k=>by
     rw [zez,decide_eq_false_iff_not] at *;exact znx h k)).mono ?_⟩
 rintro ex w' ⟨he,n,os,hw'⟩;have hs:=zoG henc hk (cap:=cap) hw' ⟨c,e,hbe⟩ hcc hrr h1 h2 (by simp) (λx hx=>by simpa [List.mem_mergeSort] using hx);refine ⟨_,he,?_,[b],?_,hF⟩
 · exact hs.1.toI (λi hi=>hF i hi)
 exact hs.2
def F47 (a0:Value) (w:World) (R:VW):Prop:=
 rB .geq 3 T0 U0 a0 (iV 0) w λx4=>
 BR x4
 (rB .leq 3 T0 U0 a0 (iV 63) w λx7=>
 R x7 w)
 (R vF w)
theorem F47_call {a0 w R} (h:F47 a0 w R):cL 47 [a0] w R:=co (g:=(kf [] [] [])) Tryz.func47 h
theorem zp9 {w:World} {n:Int}    :
   CALL tp 47 [.int .i64 n] w λr w'=>Ext w w'∧(r=.bool (decide (0≤n∧n≤63))):=by
 refine F47_call ?_;unfold F47;refine zbW ?_;refine br (λc1=>?_) (λc1=>?_)
 · refine zdZ ?_
   refine ⟨Ext.refl w,?_⟩;simp [c1]
 refine ⟨Ext.refl w,?_⟩;simp [c1]
def ztd (a b:DTouch):Prop:=a.global=b.global∧(a.write=true∨b.write=true)∧(0≤a.held∧a.held≤63)∧(0≤b.held∧b.held≤63)∧a.held.toNat &&& b.held.toNat=0
instance (a b:DTouch):Decidable (ztd a b):=by unfold ztd;infer_instance
def zxi (a b:DTouch):DRace:=⟨a.global,min a.at_ b.at_,max a.at_ b.at_⟩
instance (x y:DRace):Decidable (ltR x y):=by unfold ltR;infer_instance
end Go.Proofs.YtakjaofncelghaaGreat
namespace Go.Proofs.YtakjaofncelghaaGreat
open Go Go.Sh Go.Proofs Go.Sort
open Rep (rep)
instance:Inhabited DRace:=⟨⟨0,0,0⟩⟩
theorem zi4 {α:Type} [Rep α] [Flat α] {w:World} {lo hi:Nat} {v:Value} {x:α} (h:Is w v x):OwnI lo hi w v x:=by
 obtain ⟨F,cs,hr,hv⟩:=h;have hF:=Flat.flat hr;subst hF;exact ⟨[],⟨⟨cs,hr,hv⟩,List.nodup_nil,Wr.nil w⟩,by simp⟩
def clR (a b:DTouch):List DRace:=if ztd a b then [zxi a b] else []
def gB (a:DTouch) (bs:List DTouch):List DRace:=bs.flatMap (clR a)
def hA (bs xs:List DTouch):List DRace:=xs.flatMap λa=>gB a bs
def hU (T:Nat→List DTouch) (xs:List DTouch) (t:Nat):List DRace:=(List.range t).flatMap λu=>hA (T u) xs
def hT (T:Nat→List DTouch) (n:Nat):List DRace:=(List.range n).flatMap λt=>hU T (T t) t
theorem zgl {β:Type} {f:Nat→List β} (n:Nat):(List.range (n+1)).flatMap f=(List.range n).flatMap f++f n:=by
 rw [List.range_succ,List.flatMap_append];simp
def OrdP (c:DCode) (fr to i:Nat):Prop:=MetP c i∧(zan c i).op=6∧agN c i=to∧MayP c i fr
def mkO (fr to i:Nat):DOrder:=⟨fr,to,i⟩
theorem MayP.locks {c:DCode} (hc:CodeR c) {i l:Nat} (h:MayP c i l):l<c.locks.length:=by
 induction h with
 | lock hm ho ha hj=>subst ha;exact (zdz hc (hm.lt hc) (.inl ho)).2.1
 | pass _ _ _ _ _ ih=>exact ih
 | call _ _ _ ih=>exact ih
 | back _ _ _ _ _ ih=>exact ih
open Classical in
noncomputable def zfD (c:DCode) (fr to i:Nat):List DOrder:=if OrdP c fr to i then [mkO fr to i] else []
noncomputable def zka (c:DCode) (fr to:Nat):List DOrder:=(List.range c.ins.length).flatMap (zfD c fr to)
noncomputable def zhx (c:DCode) (fr:Nat):List DOrder:=(List.range c.locks.length).flatMap (zka c fr)
noncomputable def zec (c:DCode):List DOrder:=(List.range c.locks.length).flatMap (zhx c)
theorem zfV {c:DCode} {fr to i:Nat} {x:DOrder}:x∈zfD c fr to i↔OrdP c fr to i∧x=mkO fr to i:=by
 unfold zfD;split
 · rename_i h;simp [h]
 rename_i h;simp [h]
theorem zi5 {c:DCode} (hc:CodeR c) {x:DOrder}:x∈zec c↔∃ fr to i,OrdP c fr to i∧x=mkO fr to i:=by
 unfold zec zhx zka;simp only [List.mem_flatMap,List.mem_range,zfV];constructor
 · rintro ⟨fr,_,to,_,i,_,h⟩;exact ⟨fr,to,i,h⟩
 rintro ⟨fr,to,i,h,e⟩;have hi:=h.1.lt hc;exact ⟨fr,h.2.2.2.locks hc,to,h.2.2.1▸(zdz hc hi (.inl h.2.1)).2.1,i,hi,h,e⟩
theorem zih {α β:Type} {f:α→List β} {B:Nat}:∀ {l:List α},(∀ a∈l,(f a).length≤B)→(l.flatMap f).length≤l.length*B
 | [],_=>by simp
 | a :: l,h=>by
   have h1:=h a (by simp);have h2:=zih (l:=l) λb hb=>h b (by simp [hb]);simp only [List.flatMap_cons,List.length_append,List.length_cons,Nat.add_mul];omega
theorem zte (c:DCode) (fr to i:Nat):(zfD c fr to i).length≤1:=by unfold zfD;split<;>simp
theorem zny (c:DCode) (fr to k:Nat):((List.range k).flatMap (zfD c fr to)).length≤k:=by
 have:=zih (l:=List.range k) λa _=>zte c fr to a;simpa using this
theorem znz {c:DCode} (hn:c.ins.length≤1500) (fr k:Nat):((List.range k).flatMap (zka c fr)).length≤k*1500:=by
 have:=zih (l:=List.range k) (f:=zka c fr) (B:=1500) λa _=>Nat.le_trans (zny c fr a _) hn;rw [List.length_range] at this;exact this
theorem znA {c:DCode} (hn:c.ins.length≤1500) (hl:c.locks.length≤6) (k:Nat):((List.range k).flatMap (zhx c)).length≤k*9000:=by
 have:=zih (l:=List.range k) (f:=zhx c) (B:=9000) λa _=>by
   have:=znz hn a c.locks.length;unfold zhx;omega
 rw [List.length_range] at this;exact this
theorem zqa {c:DCode} (hc:CodeR c):(zec c).length≤54000:=by
 have h6:=hc.1.locks6;exact Nat.le_trans (znA hc.f.ins h6 _) (by omega)
theorem zo6 (c:DCode):(zec c).Pairwise ltO:=by
 unfold zec zhx zka;have hr:∀ n,(List.range n).Pairwise (λa b=>a<b):=λn=>List.pairwise_lt_range;refine List.pairwise_flatMap.2 ⟨λfr _=>List.pairwise_flatMap.2 ⟨λto _=>List.pairwise_flatMap.2 ⟨λi _=>?_,(hr _).imp ?_⟩,(hr _).imp ?_⟩,(hr _).imp ?_⟩
 · unfold zfD;split<;>simp
 · intro a b hab x hx y hy
   obtain ⟨_,rfl⟩:=zfV.1 hx;obtain ⟨_,rfl⟩:=zfV.1 hy;exact .inr ⟨rfl,.inr ⟨rfl,Int.ofNat_lt.2 hab⟩⟩
 · intro a b hab x hx y hy
   simp only [List.mem_flatMap,zfV] at hx hy;obtain ⟨_,_,_,rfl⟩:=hx;obtain ⟨_,_,_,rfl⟩:=hy;exact .inr ⟨rfl,.inl (Int.ofNat_lt.2 hab)⟩
 intro a b hab x hx y hy;simp only [List.mem_flatMap,zfV] at hx hy;obtain ⟨_,_,_,_,_,rfl⟩:=hx;obtain ⟨_,_,_,_,_,rfl⟩:=hy;exact .inl (Int.ofNat_lt.2 hab)
def zvv (c:DCode) (i:Nat) (l:Int):DOrder:=⟨l,agN c i,i⟩
open Classical in
noncomputable def zrF (c:DCode) (i:Nat):List DOrder:=if MetP c i∧(zan c i).op=6 then (zbL (za5 (zno c) i)).map (zvv c i) else []
noncomputable def zn4 (c:DCode) (k:Nat):List DOrder:=(List.range k).flatMap (zrF c)
theorem znB {m:Nat} (hm:m<64) {x:Int}:x∈zbL m↔∃ i:Nat,x=(i:Int)∧m.testBit i=true:=by
 unfold zbL;rw [zdh];constructor
 · rintro ⟨i,_,h⟩;exact ⟨i,h⟩
 rintro ⟨i,h,hb⟩;exact ⟨i,by have:=zfU hm hb;omega,h,hb⟩
theorem zkb (m:Nat):∀ k,(zdg m k).Pairwise (λa b=>a<b)
 | 0=>by simp [zdg]
 | k+1=>by
   rw [zdg];split
   · refine List.pairwise_append.2 ⟨zkb m k,by simp,λa ha b hb=>?_⟩
     obtain ⟨i,hi,rfl,_⟩:=zdh.1 ha;simp only [List.mem_singleton] at hb;omega
   exact zkb m k
theorem zqb {c:DCode} {i:Nat} {x:DOrder} (hi:i<c.ins.length):x∈zrF c i↔∃ fr to,OrdP c fr to i∧fr<6∧x=mkO fr to i:=by
 unfold zrF;split
 · rename_i h
   rw [zoY hi];simp only [List.mem_map,znB zxg,zvn];constructor
   · rintro ⟨_,⟨l,rfl,h6,hm⟩,rfl⟩;exact ⟨l,agN c i,⟨h.1,h.2,rfl,hm⟩,h6,rfl⟩
   rintro ⟨fr,to,hp,h6,rfl⟩;refine ⟨fr,⟨fr,rfl,h6,hp.2.2.2⟩,?_⟩;unfold zvv mkO;rw [hp.2.2.1]
 rename_i h
 constructor
 · intro h;cases h
 rintro ⟨fr,to,hp,_⟩;exact absurd ⟨hp.1,hp.2.1⟩ h
theorem zuI {c:DCode} {i:Nat}:(zrF c i).length≤64:=by
 unfold zrF;split
 · rw [List.length_map];exact zfh _ 64
 simp
theorem zuJ (c:DCode) (k:Nat):(zn4 c k).length≤k*64:=by
 have:=zih (l:=List.range k) λa _=>zuI (c:=c) (i:=a);rw [List.length_range] at this;exact this
theorem zq9 (x y:DOrder):ltO x y∨x=y∨ltO y x:=by
 by_cases h1:ltO x y
 · exact .inl h1
 by_cases h2:ltO y x
 · exact .inr (.inr h2)
 exact .inr (.inl (znx h1 h2))
theorem ztf {c:DCode} (hc:CodeR c):zwg (zn4 c c.ins.length)=zec c:=by
 have hmem:∀ x,x∈zn4 c c.ins.length↔x∈zec c:=λx=>by
   rw [zi5 hc];unfold zn4;simp only [List.mem_flatMap,List.mem_range];constructor
   · rintro ⟨i,hi,hx⟩
     obtain ⟨fr,to,h,_,e⟩:=(zqb hi).1 hx;exact ⟨fr,to,i,h,e⟩
   rintro ⟨fr,to,i,h,e⟩;have hi:=h.1.lt hc;have:=h.2.2.2.locks hc;have h6:=hc.1.locks6;exact ⟨i,hi,(zqb hi).2 ⟨fr,to,h,by omega,e⟩⟩
 have hnd:(zn4 c c.ins.length).Pairwise (λx y=>x≠y):=by
   unfold zn4;refine List.pairwise_flatMap.2 ⟨λi _=>?_,List.pairwise_lt_range.imp ?_⟩
   · unfold zrF;split
     · refine List.pairwise_map.2 ((zkb _ _).imp λ{a b} h e=>?_)
       have:=congrArg DOrder.fr e;unfold zvv at this;simp only at this;omega
     simp
   intro a b hab x hx y hy e
   have h1:∀ {i:Nat} {x:DOrder},x∈zrF c i→x.at_=i:=λ{i x} hx=>by
     unfold zrF at hx;split at hx
     · obtain ⟨l,_,rfl⟩:=List.mem_map.1 hx;rfl
     cases hx
   have:=h1 hx;have h2:=h1 hy;rw [e,h2] at this;omega
 refine zj8 ?_ (zo6 c) λx=>(zj9 _).mem_iff.trans (hmem x);have h1:=zwh (zn4 c c.ins.length);have h2:(zwg (zn4 c c.ins.length)).Pairwise (λx y=>x≠y):=(zj9 _).symm.pairwise hnd (λh e=>h e.symm);refine (List.pairwise_and_iff.2 ⟨h1,h2⟩).imp λ{x y} h=>?_;rcases zq9 x y with h3 | h3 | h3
 · exact h3
 · exact absurd h3 h.2
 exact absurd h3 h.1
end Go.Proofs.YtakjaofncelghaaGreat
namespace Go.Sh
def FWy (nx:Nat→List Nat):Nat→Nat→Nat→Prop
 | 0,i,j=>j∈nx i
 | m+1,i,j=>FWy nx m i j∨(FWy nx m i m∧FWy nx m m j)
section
variable {nx:Nat→List Nat} {n m i j k:Nat}
theorem FWy.rp:∀ {m i j:Nat},FWy nx m i j→RP nx i j
 | 0,_,_,h=>.one h
 | m+1,_,_,h=>by
   rcases h with h | ⟨h1,h2⟩
   · exact FWy.rp h
   exact (FWy.rp h1).trans (FWy.rp h2)
theorem FWy.up (h:j∈nx i):∀ m,FWy nx m i j
 | 0=>h
 | m+1=>.inl (FWy.up h m)
theorem FWy.old {m i:Nat} (h:FWy nx (m+1) i m):FWy nx m i m:=by
 rcases h with h | ⟨h,_⟩<;>exact h
theorem FWy.old' {m j:Nat} (h:FWy nx (m+1) m j):FWy nx m m j:=by
 rcases h with h | ⟨_,h⟩<;>exact h
theorem FWy.cat:∀ {m i j k:Nat},j<m→FWy nx m i j→FWy nx m j k→FWy nx m i k
 | m+1,i,j,k,hj,h1,h2=>by
   rcases Nat.lt_or_eq_of_le (Nat.lt_succ_iff.1 hj) with hl | rfl
   · rcases h1 with a | ⟨a,b⟩
     · rcases h2 with c | ⟨c,d⟩
       · exact .inl (FWy.cat hl a c)
       exact .inr ⟨FWy.cat hl a c,d⟩
     rcases h2 with c | ⟨c,d⟩
     · exact .inr ⟨a,FWy.cat hl b c⟩
     exact .inr ⟨a,d⟩
   exact .inr ⟨h1.old,h2.old'⟩
theorem FWy.iff (hn:∀ i j,j∈nx i→i<n∧j<n):FWy nx n i j↔RP nx i j:=by
 refine ⟨FWy.rp,λh=>?_⟩
 induction h with
 | one h=>exact FWy.up h n
 | more _ h2 ih=>exact FWy.cat (hn _ _ h2).1 ih (FWy.up h2 n)
end
theorem zkc {p q:Nat→Prop}:∀ n,(zcr n p).length=(zcr n λi=>p i∧q i).length+(zcr n λi=>p i∧¬q i).length
 | 0=>rfl
 | n+1=>by
   have ih:=zkc (p:=p) (q:=q) n;by_cases hp:p n
   · by_cases hq:q n
     · rw [zea hp,zea (p:=λi=>p i∧q i) ⟨hp,hq⟩,zeW (p:=λi=>p i∧¬q i) λh=>h.2 hq]
       simp only [List.length_append,List.length_singleton];omega
     rw [zea hp,zeW (p:=λi=>p i∧q i) λh=>hq h.2,zea (p:=λi=>p i∧¬q i) ⟨hp,hq⟩];simp only [List.length_append,List.length_singleton];omega
   rw [zeW hp,zeW (p:=λi=>p i∧q i) λh=>hp h.1,zeW (p:=λi=>p i∧¬q i) λh=>hp h.1];exact ih
theorem zhy {n i:Nat} {p:Nat→Prop} (hi:i<n) (hp:p i):0<(zcr n p).length:=List.length_pos_of_mem (zbq.2 ⟨hi,hp⟩)
theorem znC {n x:Nat} {p q:Nat→Prop} (h:∀ i,i<n→p i→q i) (hx:x<n) (hq:q x) (hp:¬p x):(zcr n p).length<(zcr n q).length:=by
 have h1:=zkc (p:=q) (q:=p) n;have h2:(zcr n λi=>q i∧p i)=zcr n p:=zgg λi hi=>⟨λh=>h.2,λk=>⟨h i hi k,k⟩⟩;have h3:=zhy (p:=λi=>q i∧¬p i) hx ⟨hq,hp⟩;rw [h2] at h1;omega
section
variable (n:Nat) (way:Nat→Nat→Prop)
def zbV (i j:Nat):Prop:=j=i∨(way i j∧way j i)
def OkC (told:Nat→Prop) (i:Nat):Prop:=i<n∧¬told i∧∀ j,j<n→way i j→way j i∨told j
open Classical in
noncomputable def zfA (told:Nat→Prop):Option Nat:=(List.range n).find? λi=>decide (OkC n way told i)
def zgQ (told:Nat→Prop) (i j:Nat):Prop:=told j∨zbV way i j
noncomputable def zdE:Nat→(Nat→Prop)→List (List Nat)
 | 0,_=>[]
 | f+1,told=>match zfA n way told with
   | none=>[]
   | some i=>zcr n (zbV way i) :: zdE f (zgQ way told i)
noncomputable def zdB (told:Nat→Prop):Nat:=(zcr n λi=>¬told i).length
noncomputable def znD:List (List Nat):=zdE n way n λ_=>False
def Whole (told:Nat→Prop):Prop:=∀ i j,told j→way i j→way j i→told i
end
section
variable {n:Nat} {way:Nat→Nat→Prop} {told:Nat→Prop} {i f:Nat}
theorem zgm:zfA n way told=none↔∀ i,¬OkC n way told i:=by
 unfold zfA;rw [List.find?_eq_none];simp only [List.mem_range,decide_eq_true_eq];exact ⟨λh i hi=>h i hi.1 hi,λh i _=>h i⟩
theorem zgn (h:zfA n way told=some i):OkC n way told i:=by
 unfold zfA at h;simpa using List.find?_some h
theorem zii (h:OkC n way told i) (hm:∀ j,j<i→¬OkC n way told j):zfA n way told=some i:=by
 cases e:zfA n way told with
 | none=>exact absurd h (zgm.1 e i)
 | some k=>
   have hk:=zgn e;unfold zfA at e;rw [List.find?_eq_some_iff_append] at e;obtain ⟨_,l1,l2,hr,ha⟩:=e;rcases Nat.lt_trichotomy i k with hl | rfl | hl
   · exfalso
     have h1:(List.range n)[l1.length]?=some k:=by rw [hr];simp
     have h2:l1.length=k:=by
       obtain ⟨h3,h4⟩:=List.getElem?_eq_some_iff.1 h1;simpa using h4
     have h3:i∈l1:=by
       have h4:(List.range n)[i]?=some i:=by simp [h.1]
       rw [hr,List.getElem?_append_left (by omega)] at h4;exact List.mem_of_getElem? h4
     simpa [h] using ha i h3
   · rfl
   exact absurd hk (hm k hl)
theorem zra (hi:i<n) (h:¬told i):zdB n (zgQ way told i)<zdB n told:=
 znC (λj _ hj=>λhj'=>hj (.inl hj')) hi h λhj=>hj (.inr (.inl rfl))
theorem zgR (h:zfA n way told=none):zdE n way f told=[]:=by
 cases f with
 | zero=>rfl
 | succ f=>simp only [zdE,h]
theorem zgS (hf:zdB n told≤f) (h:zfA n way told=some i):∃ f',zdE n way f told=zcr n (zbV way i) :: zdE n way f' (zgQ way told i)∧zdB n (zgQ way told i)≤f'∧f=f'+1:=by
 have ho:=zgn h;have h1:=zra (way:=way) ho.1 ho.2.1;cases f with
 | zero=>omega
 | succ f=>exact ⟨f,by simp only [zdE,h],by omega,rfl⟩
theorem zi6:zdB n told≤n:=zc6
theorem zrb (h:zdB n told=0):zfA n way told=none:=zgm.2 λi hi=>by
 have:=zhy (p:=λi=>¬told i) hi.1 hi.2.1;unfold zdB at h;omega
theorem Whole.start:Whole way λ_=>False:=λ_ _ h _ _=>h
theorem Whole.more (ht:∀ i j k,way i j→way j k→way i k) (h:Whole way told):Whole way (zgQ way told i):=λa b hb h1 h2=>by
 rcases hb with hb | rfl | ⟨h3,h4⟩
 · exact .inl (h a b hb h1 h2)
 · exact .inr (.inr ⟨h2,h1⟩)
 exact .inr (.inr ⟨ht _ _ _ h3 h2,ht _ _ _ h1 h4⟩)
theorem zqc (h:Whole way told) (hi:¬told i):zdB n told=zdB n (zgQ way told i)+(zcr n (zbV way i)).length:=by
 have h1:=zkc (p:=λj=>¬told j) (q:=zbV way i) n
 have h2:(zcr n λj=>¬told j∧zbV way i j)=zcr n (zbV way i):=zgg λj _=>⟨λh=>h.2,λhp=>⟨λhj=>by
   rcases hp with rfl | ⟨h3,h4⟩
   · exact hi hj
   exact hi (h i j hj h3 h4),hp⟩⟩
 have h3:(zcr n λj=>¬told j∧¬zbV way i j)=zcr n λj=>¬zgQ way told i j:=zgg λj _=>by
   unfold zgQ;exact not_or.symm
 rw [h2,h3] at h1;unfold zdB;omega
theorem znE (ht:∀ i j k,way i j→way j k→way i k):∀ (m i:Nat),(zcr n λj=>j=i∨way i j).length≤m→i<n→¬told i→∃ j,OkC n way told j
 | 0,i,hm,hi,hti=>by have:=zhy (p:=λj=>j=i∨way i j) hi (.inl rfl);omega
 | m+1,i,hm,hi,hti=>by
   by_cases ho:OkC n way told i
   · exact ⟨i,ho⟩
   have:∃ j,j<n∧way i j∧¬way j i∧¬told j:=by
     refine Classical.byContradiction λhne=>ho ⟨hi,hti,λj hj hw=>?_⟩;refine Classical.byContradiction λhx=>hne ⟨j,hj,hw,λh=>hx (.inl h),λh=>hx (.inr h)⟩
   obtain ⟨j,hj,hw,hb,htj⟩:=this
   have hlt:(zcr n λk=>k=j∨way j k).length<(zcr n λk=>k=i∨way i k).length:=by
     refine znC (x:=i) (λk _ hk=>?_) hi (.inl rfl) ?_
     · rcases hk with rfl | hk
       · exact .inr hw
       exact .inr (ht _ _ _ hw hk)
     rintro (rfl | h)
     · exact hb hw
     exact hb h
   exact znE ht m j (by omega) hj htj
theorem zk5 (ht:∀ i j k,way i j→way j k→way i k) (h:0<zdB n told):∃ i,zfA n way told=some i:=by
 unfold zdB at h;obtain ⟨i,hi⟩:=List.exists_mem_of_length_pos h;obtain ⟨h1,h2⟩:=zbq.1 hi;obtain ⟨j,hj⟩:=znE ht _ i (lr _) h1 h2;cases e:zfA n way told with
 | none=>exact absurd hj (zgm.1 e j)
 | some k=>exact ⟨k,rfl⟩
theorem zij:∀ {f:Nat} {told:Nat→Prop},Whole way told→(ht:∀ i j k,way i j→way j k→way i k)→∀ p∈zdE n way f told,∃ i,i<n∧¬told i∧p=zcr n (zbV way i)
 | 0,_,_,_,p,hp=>by cases hp
 | f+1,told,hw,ht,p,hp=>by
   simp only [zdE] at hp;cases e:zfA n way told with
   | none=>rw [e] at hp;cases hp
   | some i=>
     rw [e] at hp;have ho:=zgn e;rcases List.mem_cons.1 hp with rfl | hp
     · exact ⟨i,ho.1,ho.2.1,rfl⟩
     obtain ⟨j,h1,h2,h3⟩:=zij (hw.more ht) ht p hp;exact ⟨j,h1,λh=>h2 (.inl h),h3⟩
theorem znF:∀ {f:Nat} {told:Nat→Prop},Whole way told→(ht:∀ i j k,way i j→way j k→way i k)→(zdE n way f told).Pairwise λa b=>∀ x∈a,x∉b
 | 0,_,_,_=>.nil
 | f+1,told,hw,ht=>by
   simp only [zdE];cases e:zfA n way told with
   | none=>exact .nil
   | some i=>
     refine List.pairwise_cons.2 ⟨λp hp x hx hxp=>?_,znF (hw.more ht) ht⟩;obtain ⟨j,h1,h2,rfl⟩:=zij (hw.more ht) ht p hp;have h3:=(zbq.1 hx).2;have h4:=(zbq.1 hxp).2;rcases h4 with rfl | ⟨h5,h6⟩
     · exact h2 (.inr h3)
     exact h2 ((hw.more (i:=i) ht) j x (.inr h3) h5 h6)
theorem zk6:∀ {f:Nat} {told:Nat→Prop},(zdE n way f told).length≤f
 | 0,_=>Nat.le_refl _
 | f+1,told=>by
   simp only [zdE];cases zfA n way told with
   | none=>simp
   | some i=>simp only [List.length_cons];have:=zk6 (f:=f) (told:=zgQ way told i);omega
theorem zwi (h:i<n):zcr n (zbV way i)≠[]:=List.ne_nil_of_mem (zbq.2 ⟨h,.inl rfl⟩)
end
end Go.Sh
namespace Go.Proofs.YtakjaofncelghaaGreat
open Go Go.Sh Go.Proofs
open Rep (rep)
structure DArc where
 fr:Int
 to:Int
theorem DArc.ext_iff {x y:DArc}:x=y↔(x.fr=y.fr∧x.to=y.to):=⟨λh=>by rw [h];exact ⟨rfl,rfl⟩,λh=>by obtain ⟨h0,h1⟩:=h;cases x;cases y;simp only at h0 h1;simp only [h0,h1]⟩
instance:DecidableEq DArc:=λx y=>decidable_of_iff (x.fr=y.fr∧x.to=y.to) DArc.ext_iff.symm
instance:Rep DArc:=Rep.via λx=>(x.fr,x.to)
theorem zfW {w:World} {b o:Nat} {x:DArc} (h:At w b o x):At w b (o+0) x.fr:=zcW (α:=Int) (β:=Int) (p:=(x.fr,x.to)) h
theorem zfX {w:World} {b o:Nat} {x:DArc} (h:At w b o x):At w b (o+1) x.to:=zbj (α:=Int) (β:=Int) (p:=(x.fr,x.to)) h
instance:RepZ DArc:=⟨⟨(RepZ.zv:Int),(RepZ.zv:Int)⟩,RepZ.zc (Int×Int),λw=>RepZ.zr (α:=Int×Int) w⟩
instance:Flat DArc:=⟨λh=>Flat.flat (α:=Int×Int) h⟩
noncomputable def nxA (n:Nat) (A:List DArc) (i:Nat):List Nat:=zcr n λj=>i<n∧(⟨i,j⟩:DArc)∈A
theorem zvw {n:Nat} {A:List DArc}:∀ i j,j∈nxA n A i→i<n∧j<n:=λi j h=>by
 obtain ⟨h1,h2⟩:=zbq.1 h;exact ⟨h2.1,h1⟩
def zqd (nx:Nat→List Nat) (p:List Nat):Prop:=∃ x∈p,RP nx x x
end Go.Proofs.YtakjaofncelghaaGreat
namespace Go.Proofs.YtakjaofncelghaaGreat
open Go Go.Sh Go.Proofs Go.Sort
open Rep (rep)
def F78 (a0 a1:Value) (w:World) (R:VW):Prop:=
 (λw=>rX 25 a0 (iV 0) w λx6=>
 rL 3 x6 w λx7=>
 rX 25 a1 (iV 0) w λx9=>
 rL 3 x9 w λx10=>
 rB .sub 3 T0 T0 x7 x10 w λx11=>
 R x11 w) (World.drew1 w)
theorem F78_call {a0 a1 w R} (h:F78 a0 a1 w R):cL 78 [a0,a1] w R:=co (g:=(kf [] [] [(1,[0,1,2,3,4,5,6,7],0)])) Tryz.func78 h
open Rep (rep)
def hd0 (l:List Int):Int:=l.headD 0
theorem zgT {w:World}:∀ {l:List (List Int)} {F:List Nat} {xs:List Value},Cells F w xs l→∃ Z:List (List Nat×Value×List Int),F=Z.flatMap (·.1)∧xs=Z.map (·.2.1)∧l=Z.map (·.2.2)∧∀ z∈Z,rep z.1 w [z.2.1] z.2.2
 | [],_,_,⟨h1,h2⟩=>⟨[],h1,h2,rfl,by simp⟩
 | y :: ys,_,_,⟨F1,F2,c1,c2,hF,hx,h1,h2⟩=>by
   obtain ⟨Z,e1,e2,e3,e4⟩:=zgT h2;obtain ⟨v,rfl⟩:∃ v,c1=[v]:=List.length_eq_one_iff.1 (Rep.len h1);refine ⟨(F1,v,y) :: Z,by simp [hF,e1],by simp [hx,e2],by simp [e3],λz hz=>?_⟩;rcases List.mem_cons.1 hz with rfl | hz
   · exact h1
   exact e4 z hz
theorem zkd {w:World}:∀ {Z:List (List Nat×Value×List Int)},(∀ z∈Z,rep z.1 w [z.2.1] z.2.2)→Cells (Z.flatMap (·.1)) w (Z.map (·.2.1)) (Z.map (·.2.2))
 | [],_=>⟨rfl,rfl⟩
 | z :: Z,h=>⟨z.1,Z.flatMap (·.1),[z.2.1],Z.map (·.2.1),by simp,by simp,h z (by simp),zkd λy hy=>h y (by simp [hy])⟩
theorem zo7 {l:List Int} (h:l≠[]):hd0 l=l[0]'(List.length_pos_iff.2 h):=by
 cases l with
 | nil=>exact absurd rfl h
 | cons x l=>rfl
theorem znG {w:World} {x y:Value} {a b:List Int} (hx:Is w x a) (hy:Is w y b) (ha:a≠[]) (hb:b≠[]) (h1:0≤hd0 a∧hd0 a<1000) (h2:0≤hd0 b∧hd0 b<1000) :
   CALL tp 78 [x,y] w λr w'=>r=.int .i64 (hd0 a-hd0 b)∧zj5 w w':=by
 refine F78_call ?_;unfold F78;have hg:zj5 w (World.drew1 w):=⟨1,#[],by simp only [Go.Sort.grow,World.drewN,World.drew1,Array.append_empty]⟩;have hxd:=zai w;generalize World.drew1 w=w1 at *;have e1:=zo7 ha;have e2:=zo7 hb;refine zad (i:=0) u25 ty3 hx (List.length_pos_iff.2 ha) λb1 o1 hA1=>?_;refine zac ty3 hA1 hxd λ_=>?_;refine zad (i:=0) u25 ty3 hy (List.length_pos_iff.2 hb) λb2 o2 hA2=>?_;refine zac ty3 hA2 hxd λ_=>?_;rw [←e1,←e2];refine za0 (by unfold I64;omega) ?_;exact ⟨rfl,hg⟩
set_option maxHeartbeats 4000000 in
theorem zuK {w:World} {lo hi:Nat} {v:Value} {cs:List (List Int)} (h:OwnI lo hi w v cs) (hn:cs.length≤1000) (hne:∀ c∈cs,c≠[]) (hb:∀ c∈cs,0≤hd0 c∧hd0 c<1000) (hd:cs.Pairwise λa b=>hd0 a≠hd0 b) :
    CALL tp 77 [v,.func (.func 78) #[] #[]] w λr w'=>ChgI lo hi w w'∧∃ cs':List (List Int),OwnI lo hi w' v cs'∧cs'.Perm cs∧cs'.Pairwise λa b=>hd0 a<hd0 b:=by
  obtain ⟨F,hM,hF⟩:=h;by_cases hne0:cs=[]
  · subst hne0
    obtain ⟨a,cap,hv⟩:∃ a cap,v=.slice a 0 cap:=by
      obtain ⟨cs,⟨a,cap,G,xs,h,_⟩,hv⟩:=hM.own;exact ⟨a,cap,by rw [hv,h];rfl⟩
    subst hv;refine ⟨(AnyF.slices_SortFunc_none { Tryz.sortInts with } a cap _ w).mono ?_⟩;rintro e w' ⟨he,rfl⟩;exact ⟨_,he,ChgI.refl _,[],⟨F,hM,hF⟩,.refl _,.nil⟩
  obtain ⟨⟨c0,⟨a,cap,Fi,xs,rfl,h1,h2,hc,h4⟩,rfl⟩,hnd,hw⟩:=hM;rcases h4 with ⟨h4,_⟩ | ⟨b,o,rfl,rfl,hr,hbl⟩
  · exact absurd h4 hne0
  obtain ⟨Z,rfl,rfl,rfl,hZ⟩:=zgT hc;obtain ⟨c,e,hbe⟩:=hw b (by simp);have hbF:∀ z∈Z,b∉z.1:=λz hz hm=>(List.nodup_cons.1 hnd).1 (List.mem_flatMap.2 ⟨z,hz,hm⟩);have hnZ:Z.length≤1000:=by simpa using hn
  have hn0:0<Z.length:=by
    rcases Nat.eq_zero_or_pos Z.length with h | h
    · exact absurd (by rw [List.eq_nil_of_length_eq_zero h];rfl) hne0
    exact h
  haveI:Inhabited (Fin Z.length):=⟨⟨0,hn0⟩⟩
  obtain ⟨enc,henc⟩:∃ enc:Fin Z.length→Value,enc=λi=>Z[i].2.1:=⟨_,rfl⟩;obtain ⟨cf,hcf⟩:∃ cf:Fin Z.length→Fin Z.length→Int,cf=λi j=>hd0 Z[i].2.2-hd0 Z[j].2.2:=⟨_,rfl⟩;obtain ⟨d,hdd⟩:∃ d:Array (Fin Z.length),d=(List.finRange Z.length).toArray:=⟨_,rfl⟩;have hds:d.size=Z.length:=by rw [hdd];simp
  have hfin:(List.finRange Z.length).map (λi=>Z[i])=Z:=List.ext_getElem (by simp) λi h1 h2=>by simp
  have hdg:∀ j (hj:j<Z.length),d[j]! = ⟨j,hj⟩:=λj hj=>by
    rw [getElem!_pos d j (by rw [hds];exact hj)];simp [hdd]
  have hone:OneCell enc:=λi=>by
    have h:=Rep.one (hZ _ (List.getElem_mem i.2)) Z[i.1].2.1 (by simp);rw [henc];exact h
  have hHo:Holds enc w b o d:=λj hj=>by
    rw [hds] at hj;rw [hdg j hj];refine ⟨hr j _ ?_,?_⟩
    · rw [henc,List.getElem?_map,List.getElem?_eq_getElem hj];rfl
    simp [World.frozen?,hbe]
  have hmem:∀ i:Fin Z.length,Z[i].2.2∈Z.map (·.2.2):=λi=>List.mem_map.2 ⟨_,List.getElem_mem _,rfl⟩
  have hdis:∀ i j:Fin Z.length,hd0 Z[i].2.2=hd0 Z[j].2.2→i=j:=λi j hij=>by
    rw [List.pairwise_map,List.pairwise_iff_getElem] at hd;rcases Nat.lt_trichotomy i.1 j.1 with h | h | h
    · exact absurd hij (hd i.1 j.1 i.2 j.2 h)
    · exact Fin.ext h
    exact absurd hij.symm (hd j.1 i.1 j.2 i.2 h)
  have hlt:∀ i j,ltOf cf i j=decide (hd0 Z[i].2.2<hd0 Z[j].2.2):=λi j=>by
    unfold ltOf;rw [hcf,decide_eq_decide];show hd0 Z[i].2.2-hd0 Z[j].2.2<0↔_;omega
  have hswo:SWO (ltOf cf):=by
    refine ⟨λx=>?_,λx y z h k=>?_,λx y z h k=>?_⟩
    · rw [hlt,decide_eq_false_iff_not];omega
    · rw [hlt,decide_eq_true_eq] at *;omega
    rw [hlt,decide_eq_false_iff_not] at *;omega
  have hbw:b<w.heap.size:=(Array.getElem?_eq_some_iff.1 hbe).1
  have hblk:∀ (m:Nat) (dk:Array (Fin Z.length)) (os:Array Obj) i,i<w.heap.size→i≠b→(sortWorld enc w b o m dk os).heap[i]?=w.heap[i]?:=λm dk os i hi hne=>by
    unfold sortWorld;rw [heap_grow_old _ _ (by simpa [putRow,mapBlock,Sort.ahead] using hi)];simp [putRow,mapBlock,Sort.ahead,Array.getElem?_modify,hne.symm]
  have hrep:∀ (m:Nat) (dk:Array (Fin Z.length)) (os:Array Obj),∀ z∈Z,rep z.1 (sortWorld enc w b o m dk os) [z.2.1] z.2.2:=λm dk os z hz=>
    Rep.keep (hZ z hz) λi hi=>hblk m dk os i (Rep.lt (hZ z hz) i hi) λe=>hbF z hz (e▸hi)
  have hcmp:CmpLays1 tp 78 #[] enc cf b o d.size w:=λm os dk _ i j=>by
    have hI:∀ k:Fin Z.length,Is (sortWorld enc w b o m dk os) (enc k) Z[k].2.2:=λk=>⟨_,_,hrep m dk os _ (List.getElem_mem k.2),by rw [henc];rfl⟩;obtain ⟨h⟩:=znG (hI i) (hI j) (hne _ (hmem i)) (hne _ (hmem j)) (hb _ (hmem i)) (hb _ (hmem j));refine h.mono ?_;rintro e w' ⟨v,he,hv,q,os',hw'⟩;exact ⟨by rw [he,hv,hcf],q,os',hw'⟩
  have hlen:(Z.map (·.2.2)).length=d.size:=by rw [hds,List.length_map]
  show CALL tp 77 [.slice (some ⟨b,o,none⟩) (Z.map (·.2.2)).length cap,_] w _;rw [hlen]
  refine ⟨(Any.slices_SortFunc_total Tryz.sortInts enc hone cf hswo 78 #[] b o cap d w (zeB (ent 78 (by decide) (by kernel_rfl))) hcmp hHo hbw (by omega) (λx y h k=>by
      rw [hlt,decide_eq_false_iff_not] at *;exact hdis x y (by omega))).mono ?_⟩
  rintro ex w' ⟨he,n,os,hw'⟩;generalize hd':(d.toList.mergeSort λx y=>!(ltOf cf) y x)=d' at hw'
  have hperm:d'.Perm (List.finRange Z.length):=by
    rw [←hd',hdd];exact List.mergeSort_perm _ _
  have hsrt:d'.Pairwise λi j=>¬hd0 Z[j].2.2<hd0 Z[i].2.2:=by
    rw [←hd']
    have:=List.pairwise_mergeSort (le:=λx y=>!(ltOf cf) y x) (λa b c h1 h2=>by
      simp only [hlt,Bool.not_eq_true',decide_eq_false_iff_not] at *;omega) (λa b=>by
      simp only [hlt,Bool.or_eq_true,Bool.not_eq_true',decide_eq_false_iff_not];omega) d.toList
    exact this.imp λh=>by simpa [hlt] using h
  have hZp:(d'.map λi=>Z[i]).Perm Z:=by
    have:=hperm.map λi=>Z[i]
    rwa [hfin] at this
  have hl':d'.length=Z.length:=by rw [hperm.length_eq];simp
  subst hw'
  have hsz2:w.heap.size≤(sortWorld enc w b o n d'.toArray os).heap.size:=by
    unfold sortWorld Go.Sort.grow;rw [Array.size_append];simp [putRow,mapBlock,Sort.ahead]
  have hbb:∃ c',(sortWorld enc w b o n d'.toArray os).heap[b]?=some (.cells c' e (0,0)):=by
    unfold sortWorld;rw [heap_grow_old _ _ (by simpa [putRow,mapBlock,Sort.ahead] using hbw)];exact ⟨_,by simp [putRow,mapBlock,Sort.ahead,Array.getElem?_modify,hbe,onCells];rfl⟩
  have hchg:Chg [b] w (sortWorld enc w b o n d'.toArray os):=⟨rfl,rfl,rfl,hsz2,λi hi hm=>hblk _ _ _ i hi λe=>hm (by simp [e])⟩;generalize hZ':(d'.map λi=>Z[i])=Z' at *;have hmZ:∀ z∈Z',z∈Z:=λz hz=>hZp.mem_iff.1 hz;have hFp:(Z'.flatMap (·.1)).Perm (Z.flatMap (·.1)):=hZp.flatMap_right _;have hxs:Z'.map (·.2.1)=d'.map enc:=by rw [←hZ',henc,List.map_map];rfl
  refine ⟨_,he,?_,Z'.map (·.2.2),⟨b :: Z'.flatMap (·.1),⟨⟨_,⟨some ⟨b,o,none⟩,cap,Z'.flatMap (·.1),Z'.map (·.2.1),rfl,?_,h2,zkd λz hz=>hrep _ _ _ z (hmZ z hz),.inr ⟨b,o,rfl,rfl,?_,by omega⟩⟩,?_⟩,?_,?_⟩,?_⟩,hZp.map _,?_⟩
  · exact hchg.toI λi hi=>hF i (by simp only [List.mem_cons,List.not_mem_nil,or_false] at hi;simp [hi])
  · have:=hZp.length_eq;simp only [List.length_map] at h1 ⊢;omega
  · rw [hxs]
    intro j v hv
    have hj:j<d'.length:=by
      have:=(List.getElem?_eq_some_iff.1 hv).1;simpa using this
    have:=cell?_putRow enc (Sort.ahead w n) b o d d'.toArray hHo (by simp [hds,hl']) j (by simpa using hj);unfold sortWorld;rw [cell?_grow _ _ _ (by simpa [putRow,mapBlock,Sort.ahead] using hbw),this];rw [List.getElem?_map,List.getElem?_eq_getElem hj] at hv;rw [getElem!_pos d'.toArray j (by simpa using hj)];simpa using hv
  · have:=hZp.length_eq
    simp only [mkv,Rep.agg,cond_false,List.headD_cons,List.length_map,hds,this]
  · rw [List.nodup_cons] at hnd ⊢
    exact ⟨λh=>hnd.1 (hFp.mem_iff.1 h),(hFp.nodup_iff).2 hnd.2⟩
  · intro i hi
    rcases List.mem_cons.1 hi with rfl | hi
    · obtain ⟨c',hc'⟩:=hbb;exact ⟨c',e,hc'⟩
    have hi':=hFp.mem_iff.1 hi;obtain ⟨z,hz,hzi⟩:=List.mem_flatMap.1 hi';have hne:i≠b:=λe=>hbF z hz (e▸hzi);obtain ⟨c',e',h'⟩:=hw i (by simp [hi']);exact ⟨c',e',by rw [hblk _ _ _ i (Array.getElem?_eq_some_iff.1 h').1 hne];exact h'⟩
  · intro i hi
    rcases List.mem_cons.1 hi with rfl | hi
    · exact hF _ (by simp)
    exact hF i (by simp [hFp.mem_iff.1 hi])
  have hs1:Z'.Pairwise λx y=>¬hd0 y.2.2<hd0 x.2.2:=by
    rw [←hZ',List.pairwise_map];exact hsrt
  have hs2:Z'.Pairwise λx y=>hd0 x.2.2≠hd0 y.2.2:=by
    rw [List.pairwise_map] at hd;exact hZp.symm.pairwise hd λh e=>h e.symm
  rw [List.pairwise_map];exact (List.pairwise_and_iff.2 ⟨hs1,hs2⟩).imp λh=>by have:=h.1;have:=h.2;omega
def zgs (x:DOrder):DArc:=⟨x.fr,x.to⟩
def ltA (a b:DArc):Prop:=a.fr<b.fr∨(a.fr=b.fr∧a.to<b.to)
structure AInv (L:List DOrder) (A:List DArc):Prop where
 mem:∀ a,a∈A↔∃ x∈L,a=zgs x
 pw:A.Pairwise ltA
section
variable {L:List DOrder} {A:List DArc} {x:DOrder}
theorem AInv.start:AInv [] []:=⟨by simp,.nil⟩
theorem AInv.le (h:AInv L A) (hs:(L++[x]).Pairwise ltO):∀ a∈A,a=zgs x∨ltA a (zgs x):=λa ha=>by
 obtain ⟨y,hy,rfl⟩:=(h.mem a).1 ha;have:=(List.pairwise_append.1 hs).2.2 y hy x (by simp);unfold ltO at this;unfold ltA zgs;rcases this with h1 | ⟨h1,h2 | ⟨h2,_⟩⟩
 · exact .inr (.inl h1)
 · exact .inr (.inr ⟨h1,h2⟩)
 exact .inl (DArc.ext_iff.2 ⟨h1,h2⟩)
theorem AInv.old (h:AInv L A) (hm:zgs x∈A):AInv (L++[x]) A:=⟨λa=>by
 rw [h.mem];constructor
 · rintro ⟨y,hy,e⟩;exact ⟨y,by simp [hy],e⟩
 rintro ⟨y,hy,rfl⟩;rcases List.mem_append.1 hy with hy | hy
 · exact ⟨y,hy,rfl⟩
 simp only [List.mem_singleton] at hy;subst hy;exact (h.mem _).1 hm,h.pw⟩
theorem AInv.new (h:AInv L A) (hs:(L++[x]).Pairwise ltO) (hm:zgs x∉A):AInv (L++[x]) (A++[zgs x]):=⟨λa=>by
 simp only [List.mem_append,List.mem_singleton,h.mem];constructor
 · rintro (⟨y,hy,e⟩ | rfl)
   · exact ⟨y,.inl hy,e⟩
   exact ⟨x,.inr rfl,rfl⟩
 · rintro ⟨y,hy | rfl,rfl⟩
   · exact .inl ⟨y,hy,rfl⟩
   exact .inr rfl,List.pairwise_append.2 ⟨h.pw,by simp,λa ha b hb=>by
 simp only [List.mem_singleton] at hb;subst hb;rcases h.le hs a ha with rfl | h1
 · exact absurd ha hm
 exact h1⟩⟩
theorem zrc (a:DArc):¬ltA a a:=by unfold ltA;omega
theorem ztg {a b:DArc} (h:ltA a b) (k:ltA b a):False:=by unfold ltA at *;omega
theorem AInv.last (h:AInv L A) (hs:(L++[x]).Pairwise ltO) (hA:0<A.length):A[A.length-1]'(by omega)=zgs x↔zgs x∈A:=by
 constructor
 · intro e;rw [←e];exact List.getElem_mem _
 intro hm;obtain ⟨i,hi,e⟩:=List.getElem_of_mem hm;rcases h.le hs _ (List.getElem_mem (by omega:A.length-1<A.length)) with h1 | h1
 · exact h1
 exfalso;rcases Nat.lt_or_ge i (A.length-1) with hl | hl
 · have:=List.pairwise_iff_getElem.1 h.pw i (A.length-1) hi (by omega) hl
   rw [e] at this;exact ztg this h1
 have:i=A.length-1:=by omega
 subst this;rw [e] at h1;exact zrc _ h1
end
theorem zwj {N:Nat}:∀ {l:List Nat},l.Pairwise (λa b=>a<b)→(∀ x∈l,x<N)→l.length≤N
 | l,h,hb=>by
   have h1:=List.pairwise_iff_getElem.1 h
   have:∀ i (hi:i<l.length),i≤l[i]:=λi=>by
     induction i with
     | zero=>intro _;exact Nat.zero_le _
     | succ i ih=>
       intro hi;have h2:=ih (by omega);have h3:=h1 i (i+1) (by omega) hi (by omega);omega
   rcases Nat.eq_zero_or_pos l.length with h0 | h0
   · omega
   have h2:=this (l.length-1) (by omega);have h3:=hb _ (List.getElem_mem (by omega:l.length-1<l.length));omega
theorem zl7 {n:Nat} {A:List DArc} (hn:n≤6) (hp:A.Pairwise ltA) (hb:∀ a∈A,(0≤a.fr∧a.fr<n)∧0≤a.to∧a.to<n):A.length≤36:=by
 have h1:(A.map λa=>(a.fr*6+a.to).toNat).Pairwise (λa b=>a<b):=by
   rw [List.pairwise_map];refine hp.imp_of_mem λ{a b} ha hb' h=>?_;have h2:=hb a ha;have h3:=hb b hb';unfold ltA at h;omega
 have:=zwj (N:=36) h1 λx hx=>by
   obtain ⟨a,ha,rfl⟩:=List.mem_map.1 hx;have:=hb a ha;omega
 simpa using this
noncomputable def nxL (c:DCode) (i:Nat):List Nat:=zcr c.locks.length λj=>∃ k,OrdP c i j k
theorem OrdP.in {c:DCode} (hc:CodeR c) {i j k:Nat} (h:OrdP c i j k):i<c.locks.length∧j<c.locks.length:=
 ⟨h.2.2.2.locks hc,h.2.2.1▸(zdz hc (h.1.lt hc) (.inl h.2.1)).2.1⟩
theorem zhz {c:DCode} (hc:CodeR c) {A:List DArc} (h:AInv (zec c) A):nxA c.locks.length A=nxL c:=by
 funext i;refine zgg λj hj=>?_;rw [h.mem];constructor
 · rintro ⟨_,x,hx,e⟩
   obtain ⟨fr,to,k,ho,rfl⟩:=(zi5 hc).1 hx;have e1:(i:Int)=fr:=congrArg DArc.fr e;have e2:(j:Int)=to:=congrArg DArc.to e;have e1:=Int.ofNat_inj.1 e1;have e2:=Int.ofNat_inj.1 e2;subst e1;subst e2;exact ⟨k,ho⟩
 rintro ⟨k,ho⟩;exact ⟨(ho.in hc).1,mkO i j k,(zi5 hc).2 ⟨i,j,k,ho,rfl⟩,rfl⟩
theorem AInv.rng {c:DCode} (hc:CodeR c) {k:Nat} {A:List DArc} (h:AInv ((zec c).take k) A):∀ a∈A,(0≤a.fr∧a.fr<c.locks.length)∧0≤a.to∧a.to<c.locks.length:=λa ha=>by
 obtain ⟨x,hx,rfl⟩:=(h.mem a).1 ha;obtain ⟨fr,to,i,ho,rfl⟩:=(zi5 hc).1 (List.mem_of_mem_take hx);have:=ho.in hc;show (0≤(fr:Int)∧(fr:Int)<_)∧0≤(to:Int)∧(to:Int)<_;omega
noncomputable def zbd (c:DCode):List (List Nat):=znD c.locks.length (RP (nxL c))
open Classical in
noncomputable def zeN (c:DCode):List (List Nat):=(List.range c.locks.length).flatMap λn=>(zbd c).filter λp=>decide (p.head?=some n∧zqd (nxL c) p)
theorem zeO {p:List Nat} {n:Nat}:p.head?=some n→hd0 (za9 p)=n:=by
 cases p with
 | nil=>intro h;cases h
 | cons x l=>intro h;cases h;rfl
theorem zke:∀ {l m:List (List Int)},l.Pairwise (λa b=>hd0 a<hd0 b)→m.Pairwise (λa b=>hd0 a<hd0 b)→(∀ x,x∈l↔x∈m)→l=m
 | [],[],_,_,_=>rfl
 | [],y :: m,_,_,h=>by have:=(h y).2 (by simp);cases this
 | x :: l,[],_,_,h=>by have:=(h x).1 (by simp);cases this
 | x :: l,y :: m,h1,h2,h=>by
   rw [List.pairwise_cons] at h1 h2
   have hxy:x=y:=by
     rcases List.mem_cons.1 ((h x).1 (by simp)) with e | hm
     · exact e
     rcases List.mem_cons.1 ((h y).2 (by simp)) with e | hl
     · exact e.symm
     have:=h1.1 y hl;have:=h2.1 x hm;omega
   subst hxy;congr 1;refine zke h1.2 h2.2 λz=>⟨λhz=>?_,λhz=>?_⟩
   · rcases List.mem_cons.1 ((h z).1 (by simp [hz])) with rfl | h'
     · have:=h1.1 z hz;omega
     exact h'
   rcases List.mem_cons.1 ((h z).2 (by simp [hz])) with rfl | h'
   · have:=h2.1 z hz;omega
   exact h'
theorem znH {c:DCode}:∀ p∈zbd c,∃ i,i<c.locks.length∧p=zcr c.locks.length (zbV (RP (nxL c)) i):=λp hp=>by
 obtain ⟨i,h1,_,h2⟩:=zij (way:=RP (nxL c)) Whole.start (λ_ _ _=>RP.trans) p hp;exact ⟨i,h1,h2⟩
theorem zuL (c:DCode):(zbd c).Pairwise λa b=>∀ x∈a,x∉b:=znF Whole.start λ_ _ _=>RP.trans
theorem zfY (c:DCode):(zbd c).length≤c.locks.length:=zk6
theorem zgo {c:DCode} {p:List Nat} (hp:p∈zbd c):∃ n,p.head?=some n∧n∈p∧n<c.locks.length:=by
 obtain ⟨i,hi,rfl⟩:=znH p hp;have hne:=zwi (way:=RP (nxL c)) hi;cases e:zcr c.locks.length (zbV (RP (nxL c)) i) with
 | nil=>exact absurd e hne
 | cons x l=>
   have hx:x∈zcr c.locks.length (zbV (RP (nxL c)) i):=by rw [e];simp
   exact ⟨x,rfl,by simp,(zbq.1 hx).1⟩
theorem zfi {c:DCode} {p:List Nat} (hp:p∈zbd c):p.length≤c.locks.length∧∀ x∈p,x<c.locks.length:=by
 obtain ⟨i,hi,rfl⟩:=znH p hp;exact ⟨zc6,λx hx=>(zbq.1 hx).1⟩
theorem znI (c:DCode):(zbd c).Pairwise λa b=>hd0 (za9 a)≠hd0 (za9 b):=by
 refine (zuL c).imp_of_mem λ{a b} ha hb h e=>?_;obtain ⟨n,h1,h2,_⟩:=zgo ha;obtain ⟨m,k1,k2,_⟩:=zgo hb;rw [zeO h1,zeO k1] at e;have e:=Int.ofNat_inj.1 e;subst e;exact h n h2 k2
theorem zk7 {c:DCode} {p:List Nat}:p∈zeN c↔p∈zbd c∧zqd (nxL c) p:=by
 unfold zeN;simp only [List.mem_flatMap,List.mem_range,List.mem_filter,decide_eq_true_eq];constructor
 · rintro ⟨n,_,h1,_,h2⟩;exact ⟨h1,h2⟩
 rintro ⟨h1,h2⟩;obtain ⟨n,h3,_,h4⟩:=zgo h1;exact ⟨n,h4,h1,h3,h2⟩
theorem zth (c:DCode):(zeN c).Pairwise λa b=>hd0 (za9 a)<hd0 (za9 b):=by
 unfold zeN;refine List.pairwise_flatMap.2 ⟨λn _=>?_,List.pairwise_lt_range.imp ?_⟩
 · refine ((znI c).filter _).imp_of_mem λ{a b} ha hb h=>?_
   have h2:=(List.mem_filter.1 ha).2;have h3:=(List.mem_filter.1 hb).2;simp only [decide_eq_true_eq] at h2 h3;exact absurd (by rw [zeO h2.1,zeO h3.1]) h
 intro n m hnm a ha b hb;have h2:=(List.mem_filter.1 ha).2;have h3:=(List.mem_filter.1 hb).2;simp only [decide_eq_true_eq] at h2 h3;rw [zeO h2.1,zeO h3.1];exact Int.ofNat_lt.2 hnm
noncomputable def zwk (c:DCode):List Nat:=(zbd c).flatten
theorem znJ {m:Nat}:∀ {l:List (List Nat)},(∀ p∈l,p.length≤m)→l.flatten.length≤l.length*m
 | [],_=>by simp
 | a :: l,h=>by
   have h1:=h a (by simp);have h2:=znJ (l:=l) λb hb=>h b (by simp [hb]);simp only [List.flatten_cons,List.length_append,List.length_cons,Nat.add_mul];omega
def F119 (a0 a1 a2 a3 a4:Value) (w:World) (R:VW):Prop:=
 rL 85 a2 w λx7=>
 rX 85 x7 a0 w λx9=>
 rL 4 x9 w λx10=>
 BR x10
 (rL 25 a3 w λx13=>
 rX 25 x13 a0 w λx15=>
 rL 3 x15 w λx16=>
 rB .andNot 3 T0 T0 a1 x16 w λx17=>
 rB .neq 3 T0 U0 x17 (iV 0) w λx18=>
 BR x18
 (rL 25 a3 w λx20=>
 rX 25 x20 a0 w λx22=>
 rL 3 x22 w λx23=>
 rB .or 3 T0 T0 x23 a1 w λx25=>
 rX 25 x20 a0 w λx26=>
 oS 3 x26 x25 w λw=>
 oS 4 a4 vT w λw=>
 R (Value.tuple #[]) w)
 (R (Value.tuple #[]) w))
 (R (Value.tuple #[]) w)
theorem F119_call {a0 a1 a2 a3 a4 w R} (h:F119 a0 a1 a2 a3 a4 w R):cL 119 [a0,a1,a2,a3,a4] w R:=co (g:=(kf [] [] [])) Tryz.func119 h
def F65 (a0 a1:Value) (w:World) (R:VW):Prop:=
 oX 85 a1 w λx3 w=>
 NIL a0 <|
 rF 101 a0 0 w λx15=>
 rF 28 x15 4 w λx16=>
 rL 26 x16 w λx17=>
 rN 26 3 x17 w λx18=>
 oP (Instr.makeSlice 25 x18 x18) w λx19 w=>
 oP (aL 25) w λx5 w=>
 oS 25 x5 x19 w λw=>
 oP (aL 4) w λx6 w=>
 oS 4 x6 vT w λw=>
 LOOPI [6] [x6] w λu3 w n3=>
 rL 4 (u3 6) w λx20=>
 BR x20
 (oS 4 (u3 6) vF w λw=>
 rD (Instr.makeFunc (Go.Fn.func 119) [].toArray [x3,x5,(u3 6)].toArray) w λx21=>
 NIL a0 <|
 rF 101 a0 0 w λx24=>
 rF 28 x24 4 w λx25=>
 rL 26 x25 w λx26=>
 rN 26 3 x26 w λx27=>
 LOOPI [28] [(iV 0)] w λu7 w n7=>
 rC (u7 28) x27 w λx29=>
 BR x29
 (rX 26 x26 (u7 28) w λx31=>
 rL 118 x31 w λx32=>
 oP (aL 118) w λx9 w=>
 oS 118 x9 x32 w λw=>
 rL 85 x3 w λx33=>
 rX 85 x33 (u7 28) w λx35=>
 rL 4 x35 w λx36=>
 rT x36 w λx37=>
 BR x37
 (rI (u7 28) w λx98=>
 n7 [x98] w)
 (rL 25 x5 w λx38=>
 rX 25 x38 (u7 28) w λx40=>
 rL 3 x40 w λx41=>
 JOIN [10] (λJ19=>
 rF 118 x9 0 w λx42=>
 rL 3 x42 w λx43=>
 rQ x43 (iV 6) w λx45=>
 BR x45
 (rF 118 x9 1 w λx47=>
 rL 3 x47 w λx48=>
 rD (convert 3 77 x48) w λx49=>
 rB .shl 3 U0 T0 (iV 1) x49 w λx50=>
 rB .or 3 T0 T0 x41 x50 w λx51=>
 J19 [x51] w)
 (rQ x43 (iV 7) w λx53=>
 BR x53
 (rF 118 x9 1 w λx55=>
 rL 3 x55 w λx56=>
 rD (convert 3 77 x56) w λx57=>
 rB .shl 3 U0 T0 (iV 1) x57 w λx58=>
 rB .andNot 3 T0 T0 x41 x58 w λx59=>
 J19 [x59] w)
 (rQ x43 (iV 4) w λx61=>
 BR x61
 ((λw=>NIL a0 <|
 rF 101 a0 0 w λx65=>
 rF 28 x65 3 w λx66=>
 rL 25 x66 w λx67=>
 rF 118 x9 1 w λx68=>
 rL 3 x68 w λx69=>
 rX 25 x67 x69 w λx70=>
 rL 3 x70 w λx71=>
 OPN tp (zkr x21 [x71,x41]) w λx73 w=>
 (λw=>rL 25 x5 w λx74=>
 NIL a0 <|
 rF 101 a0 0 w λx77=>
 rL 28 x77 w λx78=>
 rF 118 x9 1 w λx79=>
 rL 3 x79 w λx80=>
 (λw_=>cL 111 [x78,x80] w_ λx81 w=>
 Ext w_ w ∧
 rB .sub 3 T0 U0 x81 (iV 1) w λx82=>
 rX 25 x74 x82 w λx83=>
 rL 3 x83 w λx84=>
 J19 [x84] w) w) (World.drew1 w)) (World.drew1 w))
 (J19 [x41] w)))) (λu19 w=>
 cL 120 [a0,(u7 28)] w λx87 w=>
 rN 25 3 x87 w λx88=>
 LOOPI [89] [(iV 0)] w λu20 w n20=>
 rC (u20 89) x88 w λx90=>
 BR x90
 (rX 25 x87 (u20 89) w λx91=>
 rL 3 x91 w λx92=>
 OPN tp (zkr x21 [x92,(u19 10)]) w λx96 w=>
 rI (u20 89) w λx97=>
 n20 [x97] w)
 (rI (u7 28) w λx98=>
 n7 [x98] w))))
 (rL 4 (u3 6) w λx99=>
 oP (aL 4) w λx6 w=>
 oS 4 x6 x99 w λw=>
 n3 [x6] w))
 (rL 25 x5 w λx100=>
 R x100 w)
theorem F65_call {a0 a1 w R} (h:F65 a0 a1 w R):cL 65 [a0,a1] w R:=co (g:=(kf [(19,38685626227663735544087552,[10])] [(3,1267650600228229401496702162880,[6]),(7,633825300114114700748083173120,[28]),(20,316293680037414660236726243328,[89])] [(17,[0,1,2,3,4,5,6,7,8,9,10,11],0),(18,[0,1,2,3,4,5,6,7,8,9,10,11],128)])) Tryz.func65 h
open Rep (rep)
theorem zwl {P:Program} {w:World} {t:TypeId} {v:Value} {K:Value→World→Prop} (h:v.cells=#[v]) (k:∀ w',Ext w w'→Blk w.heap.size t w' [v]→K (.pointer (some ⟨w.heap.size,0,none⟩)) w'):OP P (Instr.box t v) w K:=
 ⟨_,w.alloc (.cells #[v] t),by simp [Instr.box,newVar,newRow,h],k _ (zaP w _) (by unfold Blk;rw [heap_alloc_new w _])⟩
def AddR (c:DCode) (out:List Nat) (ag:Bool) (i m:Nat) (out':List Nat) (ag':Bool):Prop:=
 (MetP c i∧¬zgj m (za5 out i)∧out'=out.set i (za5 out i ||| m)∧ag'=true)∨((MetP c i→zgj m (za5 out i))∧out'=out∧ag'=ag)
theorem AddR.hp {c:DCode} {out0 out out':List Nat} {ag ag':Bool} {k i m:Nat} (h:AddR c out ag i m out' ag') (hP:HP c out0 ag out k) (hi:i<c.ins.length) (hm:m<64) (hmay:∀ l,l<6→m.testBit l=true→MayP c i l):HP c out0 ag' out' k:=by
 rcases h with ⟨h1,h2,rfl,rfl⟩ | ⟨_,rfl,rfl⟩
 · exact hP.add hi hm h1 hmay h2
 exact hP
theorem AddR.sub {c:DCode} {out out':List Nat} {ag ag':Bool} {i m:Nat} (h:AddR c out ag i m out' ag') (hi:i<out.length) (hm:MetP c i):zgj m (za5 out' i):=by
 rcases h with ⟨h1,h2,rfl,rfl⟩ | ⟨h,rfl,rfl⟩
 · rw [zeL hi,if_pos rfl];exact zvq
 exact h hm
theorem AddR.mono {c:DCode} {out out':List Nat} {ag ag':Bool} {i m x j:Nat} (h:AddR c out ag i m out' ag') (hi:i<out.length) (hx:zgj x (za5 out j)):zgj x (za5 out' j):=by
 rcases h with ⟨h1,h2,rfl,rfl⟩ | ⟨_,rfl,rfl⟩
 · rw [zeL hi]
   split
   · rename_i e;subst e;exact zj2 hx
   exact hx
 exact hx
theorem AddR.ag {c:DCode} {out out':List Nat} {ag ag':Bool} {i m:Nat} (h:AddR c out ag i m out' ag') (e:ag'=false):ag=false:=by
 rcases h with ⟨_,_,_,rfl⟩ | ⟨_,_,rfl⟩
 · cases e
 exact e
structure HW (w1 w:World) (gm go g ga n:Nat) (vm:Value) (out:List Nat) (ag:Bool):Prop where
 ext:Ext w1 w
 met:Blk gm 85 w [vm]
 var:Blk go 25 w [.slice (some ⟨g,0,none⟩) n n]
 mine:Mine [g] w (.slice (some ⟨g,0,none⟩) n n) (za9 out)
 agn:Blk ga 4 w [.bool ag]
 n0:gm≠g
 n01:gm≠ga
 n1:go≠g
 n2:go≠ga
 n3:g≠ga
 g0:w1.heap.size≤g
 g1:w1.heap.size≤go
 g2:w1.heap.size≤ga
section
variable {w1 w w':World} {gm go g ga n:Nat} {vm:Value} {out:List Nat} {ag:Bool}
theorem HW.step (h:HW w1 w gm go g ga n vm out ag) (hx:Ext w w'):HW w1 w' gm go g ga n vm out ag:=⟨h.ext.trans hx,h.met.ext hx,h.var.ext hx,h.mine.ext hx,h.agn.ext hx,h.n0,h.n01,h.n1,h.n2,h.n3,h.g0,h.g1,h.g2⟩
theorem HW.set {i v:Nat} (h:HW w1 w gm go g ga n vm out ag) (hc:Chg [g] w w') (hm:Mine [g] w' (.slice (some ⟨g,0,none⟩) n n) ((za9 out).set i (v:Int))):HW w1 w' gm go g ga n vm (out.set i v) ag:=
 ⟨h.ext.chgF hc (by simp [h.g0]),h.met.chgF hc (by simp [h.n0]),h.var.chgF hc (by simp [h.n1]),by rw [zht];exact hm,h.agn.chgF hc (by simp [Ne.symm h.n3]),h.n0,h.n01,h.n1,h.n2,h.n3,h.g0,h.g1,h.g2⟩
theorem HW.agains {ag':Bool} (h:HW w1 w gm go g ga n vm out ag) (hc:Chg [ga] w w') (hB:Blk ga 4 w' [.bool ag']):HW w1 w' gm go g ga n vm out ag':=
 ⟨h.ext.chgF hc (by simp [h.g2]),h.met.chgF hc (by simp [h.n01]),h.var.chgF hc (by simp [h.n2]),h.mine.keep λb hb=>by
   simp only [List.mem_cons,List.not_mem_nil,or_false] at hb;subst hb;exact hc.block b (h.mine.lt b (by simp)) (by simp [h.n3]),hB,h.n0,h.n01,h.n1,h.n2,h.n3,h.g0,h.g1,h.g2⟩
theorem HW.cell {ga':Nat} {ag':Bool} (h:HW w1 w gm go g ga n vm out ag) (hx:Ext w w') (hB:Blk ga' 4 w' [.bool ag']) (hg:w.heap.size≤ga'):HW w1 w' gm go g ga' n vm out ag':=
 ⟨h.ext.trans hx,h.met.ext hx,h.var.ext hx,h.mine.ext hx,hB,h.n0,by have:=h.met.lt;omega,h.n1,by have:=h.var.lt;omega,by have:=h.mine.lt g (by simp);omega,h.g0,h.g1,by have:=h.ext.size;omega⟩
theorem zti {W1:World} {c:DCode} {i m:Nat} (h:HW w1 w gm go g ga n vm out ag) (hv:Is W1 vm (zhG c)) (e1:Ext W1 w) (hn:c.ins.length=n) (hi:i<n) (hl:out.length=n) (h64:∀ x∈out,x<64) (hm:m<64) :
   CALL tp 119 [.int .i64 (i:Int),.int .i64 (m:Int),.pointer (some ⟨gm,0,none⟩),.pointer (some ⟨go,0,none⟩),.pointer (some ⟨ga,0,none⟩)] w λr w'=>r=.tuple #[]∧∃ out' ag',HW w1 w' gm go g ga n vm out' ag'∧Chg [g,ga] w w'∧AddR c out ag i m out' ag':=by
 refine F119_call ?_;unfold F119;have hml:(zhG c).length=n:=by unfold zhG;rw [zaD,hn]
 refine zas zhF h.met rfl ?_;refine zad u85 ty4 hv (by rw [hml];exact hi) λb1 o1 hA1=>?_;refine zby ty4 hA1 e1 ?_;have hmk:=zbK (ms:=zhG c) (i:=i) (by rw [hml];exact hi);have hms:=zb6 (n:=c.ins.length) (p:=MetP c) (i:=i)
 have hiff:(zhG c)[i]=true↔MetP c i:=by
   rw [←hmk];unfold zhG;rw [hms];exact ⟨λh=>h.2,λh=>⟨by omega,h⟩⟩
 have hi64:=zgP h64 i;refine zcd (λhf=>?_) (λhf=>?_)
 · have hmet:=hiff.1 hf
   refine zas zaK h.var rfl ?_;refine zad u25 ty3 (i:=i) h.mine.is (by rw [zaj,hl];exact hi) λb2 o2 hA2=>?_;rw [zcj] at hA2;refine zac ty3 hA2 (Ext.refl _) λ_=>?_;refine znl (m:=m) (n:=za5 out i) (by omega) (by omega) ?_;refine zaV ?_;refine br (λhne=>?_) (λheq=>?_)
   · have hns:¬zgj m (za5 out i):=λhs=>hne (by rw [(znq hm hi64).2 hs];rfl)
     refine zas zaK h.var rfl ?_;refine zad u25 ty3 (i:=i) h.mine.is (by rw [zaj,hl];exact hi) λb3 o3 hA3=>?_;rw [zcj] at hA3;refine zac ty3 hA3 (Ext.refl _) λ_=>?_;refine zhJ (m:=za5 out i) (n:=m) (by omega) (by omega) ?_;have ho:=zl3 hm hi64;refine zdx (α:=Int) rfl u25 ty3 hi ?_;refine zcs (α:=Int) rfl ty3 h.mine (by rw [zaj,hl]) hi (zgi (v:=za5 out i ||| m) (by omega)) λw2 hc2 hm2=>?_;have h2:=h.set (v:=za5 out i ||| m) hc2 hm2;refine zbp (α:=Raw) (lo:=0) (hi:=0) ty4 rfl rfl h2.agn (by simp) (zcJ rfl) λw3 hc3 hB3=>?_;exact ⟨rfl,_,true,h2.agains hc3.one hB3,(hc2.mono (by simp)).trans (hc3.one.mono (by simp)),.inl ⟨hmet,hns,rfl,rfl⟩⟩
   have hs:zgj m (za5 out i):=(znq hm hi64).1 (Int.ofNat_inj.1 (Decidable.not_not.1 heq));exact ⟨rfl,out,ag,h,Chg.refl _ _,.inr ⟨λ_=>hs,rfl,rfl⟩⟩
 exact ⟨rfl,out,ag,h,Chg.refl _ _,.inr ⟨λhm=>(by rw [hiff.2 hm] at hf;cases hf),rfl,rfl⟩⟩
end
def CR (c:DCode) (out0:List Nat) (k h0 m:Nat) (ag:Bool):Prop:=ag=false→h0=za5 out0 k∧((zan c k).op=4→m=za5 out0 (zN c (agN c k)))∧(¬(zan c k).op=4→m=aft c [] k (za5 out0 k))
theorem HP.close {c:DCode} {out0 out:List Nat} {ag:Bool} {k h0 m:Nat} (hP:HP c out0 ag out k) (hC:CR c out0 k h0 m ag) (h1:(zan c k).op=4→zgj h0 (za5 out (eN c (agN c k)))) (h2:∀ j∈zaO c k,MetP c j→zgj m (za5 out j)):HP c out0 ag out (k+1):=
 hP.next λe hk=>by
   obtain ⟨c1,c2,c3⟩:=hC e;have ho:=(hP.no e).1;rw [←ho] at c1 c2 c3;refine ⟨λh4=>⟨c1▸h1 h4,λhz j hj=>?_⟩,λh4 j hj=>?_⟩
   · rw [←c2 h4];exact h2 j hj (.back hk h4 hz hj)
   rw [←c3 h4];exact h2 j hj (.next hk h4 hj)
theorem zxj {w W0 W1:World} {b:Nat} {v1:Value} {c:DCode} (hW:WAt W0 b c) (e0:Ext W0 w) (hv:Is W1 v1 (zhG c)) (e1:Ext W1 w) (hc:CodeR c) :
   CALL tp 65 [.pointer (some ⟨b,0,none⟩),v1] w λr w'=>Ext w w'∧Own w.heap.size w' r (za9 (zno c)):=by
 refine F65_call ?_;unfold F65;have h8:=hc.1.procs8;have hil:=hc.f.ins;have hcode:=hW.wl.code
 have hcell:v1.cells=#[v1]:=by
   obtain ⟨aa,cc,FF,xx,hh,_⟩:=zcY hv;rw [hh];rfl
 refine zwl hcell λwm hxm hBm=>?_;have hsm:=hxm.size;have e0m:=e0.t hxm;refine NIL.mk rfl ?_;refine zaa zcK ?_;refine zaa zaR ?_;refine zab zdn (zal hcode) e0m λv17 h17=>?_;refine zae u26 h17 ?_;have hz0:=(ziC hc h8.2).2.2;have hP0:=HP.start (c:=c);have hn:c.ins.length=c.ins.length:=rfl;generalize hnn:c.ins.length=n at hn;rw [hnn] at hil hP0;refine zhv (by omega) (by omega) λw1 hx1 hM1=>?_;have hs1:=hx1.size;have hg1:=hM1.lt _ (List.mem_singleton.2 rfl);have hmg:w.heap.size<wm.heap.size:=hBm.lt;generalize hgm:w.heap.size=gm at *;generalize hg:wm.heap.size=g at *;refine zig zyb zaK rfl λw2 hx2 hB2=>?_;have hs2:=hx2.size;have hM2:=hM1.ext hx2;have hBm2:=hBm.ext (hx1.t hx2);generalize hgo:w1.heap.size=go at *;have hgo2:=hB2.lt;refine zig zwJ ty4 rfl λw5 hx5 hB5=>?_;have hHW:HW w w5 gm go g w2.heap.size n v1 (List.replicate n 0) true:=⟨hxm.t (hx1.t (hx2.t hx5)),hBm2.ext hx5,hB2.ext hx5,hM2.ext hx5,hB5,by omega,by omega,by omega,by omega,by omega,by omega,by omega,by omega⟩;generalize w2.heap.size=ga at *;generalize List.replicate n 0=out at *;refine LOOPI.mk (λm us w'=>∃ (ga:Nat) (out:List Nat) (ag:Bool),us=[.pointer (some ⟨ga,0,none⟩)]∧m=(n*63-out.sum)+(if ag then 1 else 0)∧HW w w' gm go g ga n v1 out ag∧HP c out false out 0∧(ag=false→out=zno c)) (n*63-out.sum+1) ⟨ga,out,true,rfl,rfl,hHW,hP0,λe=>by cases e⟩ ?_;rintro m u w6 ⟨ga,out,ag,hu,hm,hW6,hT6,hend⟩;try replace hu:=zbG hu
 rw [hu];have hcn:=hT6.sum_le;rw [hnn] at hcn;refine zas ty4 hW6.agn rfl ?_;refine zcd (λhag=>?_) (λhag=>?_)
 case refine_2=>refine zas zaK hW6.var rfl ?_;rw [←hend hag];exact ⟨hW6.ext,[g],hW6.mine,λb hb=>by simp only [List.mem_cons,List.not_mem_nil,or_false] at hb;omega⟩
 rw [hag,if_pos rfl] at hm;refine zbp (α:=Raw) (lo:=0) (hi:=0) ty4 rfl rfl hW6.agn (by simp) (zcJ rfl) λw7 hc7 hB7=>?_;have hW7:=hW6.agains hc7.one hB7;refine za3 (v:=.func (.func 119) #[] #[.pointer (some ⟨gm,0,none⟩),.pointer (some ⟨go,0,none⟩),.pointer (some ⟨ga,0,none⟩)]) (λw' _=>by simp [Instr.makeFunc]) ?_;refine NIL.mk rfl ?_;refine zaa zcK ?_;refine zaa zaR ?_;refine zab zdn (zal hcode) (e0.t hW7.ext) λv26 h26=>?_;refine zae u26 h26 ?_;rw [hnn];refine zat n (λk us w'=>∃ (out':List Nat) (ag':Bool),us=[.int .i64 (k:Int)]∧k≤n∧HW w w' gm go g ga n v1 out' ag'∧HP c out ag' out' k) 0 (z0 _) ⟨out,false,rfl,z0 _,hW7,hT6⟩ ?_;rintro k mk u w8 hkm ⟨out8,ag8,hu,hkl,hW8,hT8⟩;try replace hu:=zbG hu
 rw [hu];refine zaf ?_;refine br (λhlt=>?_) (λhge=>?_)
 case refine_2=>
   have hke:k=n:=by omega
   rw [hke] at hT8;refine zas ty4 hW8.agn rfl ?_;refine zig zwJ ty4 rfl λw9 hx9 hB9=>?_;have hcn8:=hT8.sum_le;rw [hnn] at hcn8;refine ⟨(n*63-out8.sum)+(if ag8 then 1 else 0),?_,_,out8,ag8,rfl,rfl,hW8.cell hx9 hB9 (lr _),hT8.again,λe=>?_⟩
   · cases ag8 with
     | true=>have:=hT8.yes rfl;simp;omega
     | false=>rw [(hT8.no rfl).1];simp;omega
   rw [e,←hnn] at hT8;exact hT8.fin hc
 have hk:k<n:=by omega
 have hkn:k<c.ins.length:=by omega
 have hl8:out8.length=n:=by rw [hT8.len,hnn]
 refine zad u26 zbm h26 hkn λb3 o3 hA3=>?_;rw [zaE] at hA3;refine zab zbm hA3 (e0.t hW8.ext) λv32 h32=>?_;refine zcX zhM rfl zbm rfl h32 (e0.t hW8.ext) λw9 hx9 hAI hV9=>?_;have hW9:=hW8.step hx9;have hAB9:=zfI h32 hV9 rfl;have hml:(zhG c).length=n:=by unfold zhG;rw [zaD,hnn]
 have hms:=zb6 (n:=c.ins.length) (p:=MetP c) (i:=k);have hmk:=zbK (ms:=zhG c) (i:=k) (by rw [hml];exact hk)
 have hiff:(zhG c)[k]=true↔MetP c k:=by
   rw [←hmk];unfold zhG;rw [hms];exact ⟨λh=>h.2,λh=>⟨by omega,h⟩⟩
 refine zas zhF hW9.met rfl ?_;refine zad u85 ty4 (i:=k) hv (by rw [hml];exact hk) λb4 o4 hA4=>?_;refine zby ty4 hA4 (e1.trans hW9.ext) ?_;refine za1 ?_;refine zcd (λhf=>?_) (λhf=>?_)
 · have hnm:¬MetP c k:=λh=>by rw [hiff.2 h] at hf;cases hf
   refine zaB ?_;exact ⟨mk-1,by omega,k+1,by omega,out8,ag8,rfl,by omega,hW9,hT8.next λ_ h=>absurd h hnm⟩
 have hMk:MetP c k:=hiff.1 (by simpa using hf);have hk64:=hT8.lt0 k;refine zas zaK hW9.var rfl ?_;refine zad u25 ty3 (i:=k) hW9.mine.is (by rw [zaj,hl8];exact hk) λb5 o5 hA5=>?_;rw [zcj] at hA5;refine zac ty3 hA5 (Ext.refl _) λ_=>?_;have hkz:ag8=false→za5 out8 k=za5 out k:=λe=>by rw [(hT8.no e).1]
 have hkm8:∀ l,l<6→(za5 out8 k).testBit l=true→MayP c k l:=λl hl hb=>(hT8.snd k l hkn hb).1;generalize hh0:za5 out8 k=h0 at *;refine JOIN.mk (λus w'=>∃ (m:Nat) (out':List Nat) (ag':Bool),us=[.int .i64 (m:Int)]∧HW w w' gm go g ga n v1 out' ag'∧HP c out ag' out' k∧m<64∧CR c out k h0 m ag'∧((zan c k).op=4→zgj h0 (za5 out' (eN c (agN c k))))∧∀ l,l<6→m.testBit l=true→∀ j∈zaO c k,MayP c j l) ?_ ?_
 · have haf:aft c [] k h0=if (zan c k).op=6 then h0 ||| 2^agN c k else if (zan c k).op=7 then zlZ h0 (2^agN c k) else if (zan c k).op=4 then (h0 &&& (tbl [] (agN c k)).1) ||| (tbl [] (agN c k)).2 else h0:=rfl
   have hgo:¬(zan c k).op=4→∀ w',HW w w' gm go g ga n v1 out8 ag8→aft c [] k h0<64→∃ (m:Nat) (out':List Nat) (ag':Bool),[Value.int .i64 (aft c [] k h0:Nat)]=[.int .i64 (m:Int)]∧HW w w' gm go g ga n v1 out' ag'∧HP c out ag' out' k∧m<64∧CR c out k h0 m ag'∧((zan c k).op=4→zgj h0 (za5 out' (eN c (agN c k))))∧∀ l,l<6→m.testBit l=true→∀ j∈zaO c k,MayP c j l:=λh4 w' hW' hlt'=>
     ⟨_,out8,ag8,rfl,hW',hT8,hlt',λe=>⟨hkz e,λh=>absurd h h4,λ_=>by rw [hkz e]⟩,λh=>absurd h h4,λl hl hb j hj=>zs2 h4 hMk hj (hkm8 l hl) hb⟩
   refine zaa za6 ?_;refine zac ty3 (zaA hAI) (Ext.refl _) λ_=>?_;refine zag ?_;refine br (λc6=>?_) (λc6=>?_)
   · obtain ⟨ha,_,hq⟩:=zdz hc hkn (.inl c6)
     have hp:=zl1 hq;rw [if_pos c6] at haf;refine zaa zaZ ?_;refine zac ty3 (zaw hAI) (Ext.refl _) λ_=>?_;rw [ha];refine zce (by kernel_rfl) u77 (by omega) ?_;refine zfo (by omega) ?_;refine zhJ (m:=h0) (n:=2^agN c k) (by omega) (by omega) ?_;have:=hgo (by omega) w9 hW9 (by rw [haf];exact zp3 hk64 hq);rw [haf] at this;exact this
   rw [if_neg c6] at haf;refine zag ?_;refine br (λc7=>?_) (λc7=>?_)
   · obtain ⟨ha,_,hq⟩:=zdz hc hkn (.inr c7)
     have hp:=zl1 hq;rw [if_pos c7] at haf;refine zaa zaZ ?_;refine zac ty3 (zaw hAI) (Ext.refl _) λ_=>?_;rw [ha];refine zce (by kernel_rfl) u77 (by omega) ?_;refine zfo (by omega) ?_;refine znl (m:=h0) (n:=2^agN c k) (by omega) (by omega) ?_;have:=hgo (by omega) w9 hW9 (by rw [haf];exact Nat.lt_of_le_of_lt (zjU _ _) hk64);rw [haf] at this;exact this
   rw [if_neg c7] at haf;refine zag ?_;refine br (λc4=>?_) (λc4=>?_)
   · obtain ⟨ha1,ha2⟩:=zey hc hkn (.inl c4)
     have hpe:agN c k<c.entry.length:=by rw [hc.2.1.1];exact ha2
     obtain ⟨he1,he2,_⟩:=ziI hc hpe;obtain ⟨hz1,hz2,hz3⟩:=ziC hc ha2;have hxd:=zai w9;have hW10:=hW9.step hxd;generalize World.drew1 w9=w10 at *;refine NIL.mk rfl ?_;refine zaa zcK ?_;refine zaa za7 ?_;refine zab zaK (zap hcode) (e0.t hW10.ext) λv66 h66=>?_;refine zaa zaZ ?_;refine zac ty3 (zaw hAI) hxd λ_=>?_;rw [ha1];refine zad u25 ty3 h66 hpe λb5 o5 hA5=>?_;rw [zbr hpe,he1] at hA5;refine zac ty3 hA5 (e0.t hW10.ext) λ_=>?_;refine zp7 (args:=[_,_]) (caps:=[_,_,_]) zvs ((zti (i:=eN c (agN c k)) (m:=h0) hW10 hv (e1.trans hW10.ext) hnn (by omega) hl8 hT8.lt hk64).mono ?_);rintro _ w11 ⟨rfl,out11,ag11,hW11,hc11,hR11⟩;have hmE:MetP c (eN c (agN c k)):=.call hMk c4;have hT11:=hR11.hp hT8 he2 hk64 λl hl hb=>.call hMk c4 (hkm8 l hl hb);have hF1:=hR11.sub (by rw [hl8];omega) hmE;have hx12:=zai w11;have hW12:=hW11.step hx12;have hgI:w8.heap.size<w10.heap.size:=by have:=hV9.lt;have:=hxd.size;omega
     have hne:w8.heap.size∉[g,ga]:=by have h1:=hW8.mine.lt g (by simp);have h2:=hW8.agn.lt;simp;omega
     have hAI11:=(hAB9.ext hxd).keep (hc11.block _ hgI hne);have hAI12:=(hAI11.ext hx12).at (e0.t hW12.ext);generalize World.drew1 w11=w12 at *;refine zas zaK hW12.var rfl ?_;refine NIL.mk rfl ?_;refine zaa zcK ?_;refine zab zcv hcode (e0.t hW12.ext) λv76 h76=>?_;refine zaa zaZ ?_;refine zac ty3 (zaw hAI12) (Ext.refl _) λ_=>?_;rw [ha1];refine (zeF h76 (e0.t hW12.ext) (by omega)).mono ?_;rintro _ w13 ⟨hx13,rfl⟩;refine ⟨hx13,?_⟩;have hW13:=hW12.step hx13;rw [hz1];refine za0 (by unfold I64;omega) ?_;rw [show ((zN c (agN c k)+1:Nat):Int)-1=(zN c (agN c k):Int) by omega];have hl11:out11.length=n:=by rw [hT11.len,hnn]
     refine zad u25 ty3 (i:=zN c (agN c k)) hW13.mine.is (by rw [zaj,hl11];omega) λb6 o6 hA6=>?_;rw [zcj] at hA6;refine zac ty3 hA6 (Ext.refl _) λ_=>?_;refine ⟨za5 out11 (zN c (agN c k)),out11,ag11,rfl,hW13,hT11,hT11.lt0 _,λe=>⟨hkz (hR11.ag e),λ_=>by rw [(hT11.no e).1],λh=>absurd c4 h⟩,λ_=>hF1,λl hl hb j hj=>?_⟩;have:=hT11.snd _ l (by omega) hb;exact .back hMk c4 this.2 this.1 hj
   rw [if_neg c4] at haf;have:=hgo c4 w9 hW9 (by rw [haf];exact hk64);rw [haf] at this;exact this
 rintro us w14 ⟨m,out14,ag14,hus,hW14,hT14,hm64,hC14,hF14,hmay⟩;try replace hus:=zbG hus
 rw [hus];refine (zjS hcode (e0.t hW14.ext) hc hkn).mono ?_;rintro v86 w15 ⟨hx15,ho15⟩;have hW15:=hW14.step hx15;have hl2:=zfS c k;have hnl:=λ{j:Nat} (hj:j∈zaO c k)=>(zeb hc hkn hj).1;have hclose:=λ{out:List Nat} {o:List Nat} {ag:Bool} (hP:HP c out ag o k)=>HP.close (h0:=h0) (m:=m) hP;generalize hNx:zaO c k=N at *;refine zae u25 ho15.is ?_;rw [zaj];refine zat N.length (λq us w'=>∃ (out':List Nat) (ag':Bool),us=[.int .i64 (q:Int)]∧q≤N.length∧HW w w' gm go g ga n v1 out' ag'∧HP c out ag' out' k∧CR c out k h0 m ag'∧((zan c k).op=4→zgj h0 (za5 out' (eN c (agN c k))))∧(∀ j∈N.take q,MetP c j→zgj m (za5 out' j))∧OwnI w14.heap.size w15.heap.size w' v86 (za9 N)) 0 (z0 _) ⟨out14,ag14,rfl,z0 _,hW15,hT14,hC14,hF14,by simp,ho15.toI⟩ ?_;rintro q mq u w16 hqm ⟨out16,ag16,hu,hql,hW16,hT16,hC16,hF16,hq16,hO16⟩;try replace hu:=zbG hu
 rw [hu];refine zaf ?_;refine br (λhlt=>?_) (λhge=>?_)
 case refine_2=>refine zaB ?_;rw [List.take_of_length_le (by omega)] at hq16;exact ⟨mk-1,by omega,k+1,by omega,out16,ag16,rfl,by omega,hW16,hclose hT16 hC16 hF16 (hNx▸hq16)⟩
 have hq:q<N.length:=by omega
 refine zad u25 ty3 (i:=q) hO16.is (by rw [zaj];exact hq) λb7 o7 hA7=>?_;rw [zbz] at hA7;refine zac ty3 hA7 (Ext.refl _) λ_=>?_;have htq:=λx=>zdi hq (x:=x);have hj:=List.getElem_mem hq;have hjl:=hnl hj;have hmj:=λl hl hb=>hmay l hl hb _ hj;generalize N[q]=j at *;have hl16:out16.length=n:=by rw [hT16.len,hnn]
 refine zp7 (args:=[_,_]) (caps:=[_,_,_]) zvs ((zti (i:=j) (m:=m) hW16 hv (e1.trans hW16.ext) hnn (by omega) hl16 hT16.lt hm64).mono ?_);rintro _ w17 ⟨rfl,out17,ag17,hW17,hc17,hR17⟩;refine zaB ?_;have hg14:=hW14.mine.lt g (by simp);have hga14:=hW14.agn.lt;have hjo:j<out16.length:=by omega
 refine ⟨mq-1,by omega,q+1,by omega,out17,ag17,rfl,by omega,hW17,hR17.hp hT16 hjl hm64 hmj,λe=>hC16 (hR17.ag e),λh4=>hR17.mono hjo (hF16 h4),λi hi hmi=>?_,hO16.chgF hc17 (by simp;omega)⟩;rcases (htq i).1 hi with h | h
 · exact hR17.mono hjo (hq16 i h hmi)
 subst h;exact hR17.sub hjo hmi
end Go.Proofs.YtakjaofncelghaaGreat
namespace Go.Sh
open Rep (rep)
theorem zfj {α:Type} [Rep α] {w:World} {g e o:Nat} {cs:List Value} {v:Value} {l:List α} (hB:Blk g e w cs) (ho:cs[o]?=some v) (h:Is w v l):At w g o l:=by
 obtain ⟨F,xs,hr,rfl⟩:=h;have hr':=hr;obtain ⟨a,cap,Fi,ys,rfl,h⟩:=hr;refine ⟨F,_,hr',λi u hi=>?_⟩
 have:i=0:=by
   cases i with
   | zero=>rfl
   | succ i=>simp at hi
 subst this;simp only [List.getElem?_cons_zero,Option.some.injEq] at hi;subst hi;have:=hB.range o _ ho;rw [Nat.zero_add] at this;exact this
end Go.Sh
namespace Go.Proofs.YtakjaofncelghaaGreat
open Go Go.Sh Go.Proofs
open Rep (rep)
def F233 (a0 a1 a2:Value) (w:World) (R:VW):Prop:=
 (λw=>NIL a0 <|
 rF 200 a0 1 w λx8=>
 rL 85 x8 w λx9=>
 rX 85 x9 a1 w λx11=>
 rL 4 x11 w λx12=>
 rT x12 w λx13=>
 BR x13
 (NIL a0 <|
 rF 200 a0 1 w λx35=>
 rL 85 x35 w λx36=>
 rX 85 x36 a1 w λx38=>
 oS 4 x38 vT w λw=>
 (λw=>NIL a0 <|
 rF 200 a0 2 w λx41=>
 rL 25 x41 w λx42=>
 NIL a0 <|
 rF 200 a0 2 w λx46=>
 rL 25 x46 w λx47=>
 rX 25 x47 a1 w λx49=>
 rL 3 x49 w λx50=>
 rB .or 3 T0 T0 x50 a2 w λx52=>
 rX 25 x42 a1 w λx53=>
 oS 3 x53 x52 w λw=>
 NIL a0 <|
 rF 200 a0 3 w λx56=>
 oS 4 x56 vT w λw=>
 R (Value.tuple #[]) w) (World.drew1 w))
 (NIL a0 <|
 rF 200 a0 2 w λx17=>
 rL 25 x17 w λx18=>
 rX 25 x18 a1 w λx20=>
 rL 3 x20 w λx21=>
 rB .or 3 T0 T0 x21 a2 w λx23=>
 NIL a0 <|
 rF 200 a0 2 w λx26=>
 rL 25 x26 w λx27=>
 rX 25 x27 a1 w λx29=>
 rL 3 x29 w λx30=>
 rB .neq 3 T0 T0 x23 x30 w λx31=>
 BR x31
 (NIL a0 <|
 rF 200 a0 1 w λx35=>
 rL 85 x35 w λx36=>
 rX 85 x36 a1 w λx38=>
 oS 4 x38 vT w λw=>
 (λw=>NIL a0 <|
 rF 200 a0 2 w λx41=>
 rL 25 x41 w λx42=>
 NIL a0 <|
 rF 200 a0 2 w λx46=>
 rL 25 x46 w λx47=>
 rX 25 x47 a1 w λx49=>
 rL 3 x49 w λx50=>
 rB .or 3 T0 T0 x50 a2 w λx52=>
 rX 25 x42 a1 w λx53=>
 oS 3 x53 x52 w λw=>
 NIL a0 <|
 rF 200 a0 3 w λx56=>
 oS 4 x56 vT w λw=>
 R (Value.tuple #[]) w) (World.drew1 w))
 (R (Value.tuple #[]) w))) (World.drew1 w)
theorem F233_call {a0 a1 a2 w R} (h:F233 a0 a1 a2 w R):cL 233 [a0,a1,a2] w R:=co (g:=(kf [] [] [(0,[0,1,2,3,4,5,6,7,8,9,10,11,12,13,14,15,16,17,18,19,20,21,22,23,24,25,26],0),(2,[0,1,2,3,4,5,6,7,8,9,10,11,12,13,14,15],0)])) Tryz.func233 h
open Rep (rep)
theorem zk8 {w:World} {v:Value} {c:DCode} (h:Is w v c):∃ a0 a1 a2 a3 a4 n0 n1 n2 n3 n4 k0 k1 k2 k3 k4,v=.agg #[.slice a0 n0 k0,.slice a1 n1 k1,.slice a2 n2 k2,.slice a3 n3 k3,.slice a4 n4 k4]:=by
 obtain ⟨F,cs,hr,rfl⟩:=h;obtain ⟨F0,c0,F1,c1,F2,c2,F3,c3,F4,c4,rfl,rfl,⟨_,_,_,_,rfl,_⟩,⟨_,_,_,_,rfl,_⟩,⟨_,_,_,_,rfl,_⟩,⟨_,_,_,_,rfl,_⟩,⟨_,_,_,_,rfl,_⟩⟩:=zmD hr;exact ⟨_,_,_,_,_,_,_,_,_,_,_,_,_,_,_,rfl⟩
structure LP (c:DCode) (ms0:List Bool) (out0:List Nat) (nw:Bool) (ms:List Bool) (out:List Nat) (k:Nat):Prop where
 len:ms.length=c.ins.length
 leno:out.length=c.ins.length
 lt:∀ x∈out,x<64
 snd:∀ i,mkd ms i→MetP c i
 sndm:∀ i l,i<c.ins.length→(za5 out i).testBit l=true→MayP c i l
 root:∀ p,RootP c p→mkd ms (eN c p)
 yes:nw=true→ziZ ms0+out0.sum<ziZ ms+out.sum
 no:nw=false→ms=ms0∧out=out0∧∀ i,i<k→mkd ms0 i→MC c ms0 i∧((zan c i).op=4→zgj (za5 out0 i) (za5 out0 (eN c (agN c i)))∧(mkd ms0 (zN c (agN c i))→∀ j∈zaO c i,zgj (za5 out0 (zN c (agN c i))) (za5 out0 j)))∧(¬(zan c i).op=4→∀ j∈zaO c i,zgj (aft c [] i (za5 out0 i)) (za5 out0 j))
theorem LP.lt0 {c:DCode} {ms0 ms:List Bool} {out0 out:List Nat} {nw:Bool} {k:Nat} (h:LP c ms0 out0 nw ms out k) (i:Nat):za5 out i<64:=zgP h.lt i
def ztM (ms:List Bool) (out:List Nat) (nw:Bool) (i m:Nat):Bool:=nw || !(ms.getD i false&&decide (za5 out i ||| m=za5 out i))
theorem zqe {ms:List Bool} {out:List Nat} {nw:Bool} {i m:Nat} (h:mkd ms i) (h2:za5 out i ||| m=za5 out i):ztM ms out nw i m=nw:=by
 unfold mkd at h;unfold ztM;rw [h,decide_eq_true h2];simp
theorem zl8 {ms:List Bool} {out:List Nat} {nw:Bool} {i m:Nat} (h:¬(mkd ms i∧za5 out i ||| m=za5 out i)):ztM ms out nw i m=true:=by
 unfold mkd at h;unfold ztM;cases e:ms.getD i false
 · simp
 have:¬(za5 out i ||| m=za5 out i):=λh2=>h ⟨e,h2⟩;rw [decide_eq_false this];simp
theorem zl9 {out:List Nat} {i:Nat} (h:i<out.length):out.set i (za5 out i)=out:=by rw [←zcI h];exact List.set_getElem_self h
theorem ztj {ms:List Bool} {i:Nat}:ziZ ms≤ziZ (ms.set i true):=by
 by_cases h:i<ms.length
 · by_cases hk:mkd ms i
   · rw [zj1 hk];exact Nat.le_refl _
   rw [zhr h hk];omega
 rw [List.set_eq_of_length_le (by omega)];exact Nat.le_refl _
theorem LP.put {c:DCode} {ms0 ms:List Bool} {out0 out:List Nat} {nw:Bool} {k i m:Nat} (h:LP c ms0 out0 nw ms out k) (hi:i<c.ins.length) (hm:m<64) (hmet:MetP c i) (hmay:∀ l,l<6→m.testBit l=true→MayP c i l) :
   LP c ms0 out0 (ztM ms out nw i m) (ms.set i true) (out.set i (za5 out i ||| m)) k:=by
 by_cases hk:mkd ms i∧za5 out i ||| m=za5 out i
 · rw [zqe hk.1 hk.2,zj1 hk.1,hk.2,zl9 (by rw [h.leno];exact hi)];exact h
 rw [zl8 hk];have h64:=h.lt0 i;have h1:=zoX (l:=out) (i:=i) (v:=za5 out i ||| m) (by rw [h.leno];exact hi);have h2:za5 out i≤za5 out i ||| m:=Nat.left_le_or;have h3:=ztj (ms:=ms) (i:=i);refine ⟨by simp [h.len],by simp [h.leno],λx hx=>?_,λj hj=>?_,λj l hj hb=>?_,λp hp=>zeM (h.root p hp),λ_=>?_,λe=>by cases e⟩
 · rcases zdW hx with rfl | hx
   · exact zl3 hm h64
   exact h.lt x hx
 · rcases (zcE (by rw [h.len];exact hi)).1 hj with h4 | h4
   · exact h.snd j h4
   rw [h4];exact hmet
 · rw [zeL (by rw [h.leno];exact hi)] at hb
   split at hb
   · rename_i e
     subst e;rw [Nat.testBit_or,Bool.or_eq_true] at hb;rcases hb with hb | hb
     · exact h.sndm i l hj hb
     exact hmay l (zfU hm hb) hb
   exact h.sndm j l hj hb
 have key:ziZ ms+out.sum<ziZ (ms.set i true)+(out.set i (za5 out i ||| m)).sum:=by
   by_cases hk1:mkd ms i
   · have:=zuB λe=>hk ⟨hk1,e⟩
     omega
   have:=zhr (by rw [h.len];exact hi) hk1;omega
 cases nw with
 | true=>have:=h.yes rfl;omega
 | false=>rw [←(h.no rfl).1,←(h.no rfl).2.1];exact key
theorem ztk {ms:List Bool} {out:List Nat} {nw:Bool} {i m:Nat} (e:ztM ms out nw i m=false):nw=false:=by
 unfold ztM at e;cases nw<;>simp_all
theorem ztl {out:List Nat} {i j m x:Nat} (hi:i<out.length) (hx:zgj x (za5 out j)):zgj x (za5 (out.set i (za5 out i ||| m)) j):=by
 rw [zeL hi];split
 · rename_i e;subst e;exact zj2 hx
 exact hx
theorem ziE {out:List Nat} {i m:Nat} (hi:i<out.length):zgj m (za5 (out.set i (za5 out i ||| m)) i):=by
 rw [zeL hi,if_pos rfl];exact zvq
theorem LP.fin {c:DCode} (hc:CodeR c) {ms0 ms:List Bool} {out0 out:List Nat} (h:LP c ms0 out0 false ms out c.ins.length):ms=zhG c∧out=zno c:=by
 obtain ⟨h1,h2,h3⟩:=h.no rfl;rw [←h1,←h2] at h3;have hT:TP c ms false ms c.ins.length:=⟨h.len,h.snd,h.root,λe=>(by cases e),λ_=>⟨rfl,λi hi hm=>(h3 i hi hm).1⟩⟩;have hms:=hT.fin hc;have hmk:∀ i,MetP c i→mkd ms i:=λi hi=>by rw [hms];exact zb6.2 ⟨hi.lt hc,hi⟩
 exact ⟨hms,zs3 hc h.leno h.lt h.sndm λi hm=>by
   have:=(h3 i (hm.lt hc) (hmk i hm)).2;exact ⟨λh4=>⟨(this.1 h4).1,λhz=>(this.1 h4).2 (hmk _ hz)⟩,this.2⟩⟩
theorem LP.again {c:DCode} {ms0 ms:List Bool} {out0 out:List Nat} {nw:Bool} {k:Nat} (h:LP c ms0 out0 nw ms out k):LP c ms out false ms out 0:=
 ⟨h.len,h.leno,h.lt,h.snd,h.sndm,h.root,λe=>(by cases e),λ_=>⟨rfl,rfl,λi hi=>by omega⟩⟩
theorem LP.skip {c:DCode} {ms0 ms:List Bool} {out0 out:List Nat} {nw:Bool} {k:Nat} (h:LP c ms0 out0 nw ms out k) (hk:¬mkd ms k):LP c ms0 out0 nw ms out (k+1):=
 ⟨h.len,h.leno,h.lt,h.snd,h.sndm,h.root,h.yes,λe=>⟨(h.no e).1,(h.no e).2.1,λi hi hm=>by
   by_cases e2:i=k
   · subst e2;rw [(h.no e).1] at hk;exact absurd hm hk
   exact (h.no e).2.2 i (by omega) hm⟩⟩
theorem LP.close {c:DCode} {ms0 ms:List Bool} {out0 out:List Nat} {nw:Bool} {k h0 m:Nat} (h:LP c ms0 out0 nw ms out k) (hC:CR c out0 k h0 m nw) (h1:(zan c k).op=4→mkd ms (eN c (agN c k))∧zgj h0 (za5 out (eN c (agN c k))))
   (h2:((zan c k).op=4→mkd ms (zN c (agN c k)))→∀ j∈zaO c k,mkd ms j∧zgj m (za5 out j)):LP c ms0 out0 nw ms out (k+1):=
 ⟨h.len,h.leno,h.lt,h.snd,h.sndm,h.root,h.yes,λe=>by
   obtain ⟨o1,o2,o3⟩:=h.no e;refine ⟨o1,o2,λi hi hm=>?_⟩;by_cases e2:i=k
   · subst e2
     obtain ⟨c1,c2,c3⟩:=hC e;rw [o1,o2] at h1;rw [o1,o2] at h2;refine ⟨⟨λh4=>⟨(h1 h4).1,λhz j hj=>(h2 (λ_=>hz) j hj).1⟩,λh4 j hj=>(h2 (λh=>absurd h h4) j hj).1⟩,λh4=>⟨c1▸(h1 h4).2,λhz j hj=>c2 h4▸(h2 (λ_=>hz) j hj).2⟩,λh4 j hj=>c3 h4▸(h2 (λh=>absurd h h4) j hj).2⟩
   exact o3 i (by omega) hm⟩
structure LW (w1 w:World) (gw g h n:Nat) (kc:List Value) (ms:List Bool) (out:List Nat) (nw:Bool):Prop where
 ext:Ext w1 w
 blk:Blk gw 200 w (kc++[.slice (some ⟨g,0,none⟩) n n,.slice (some ⟨h,0,none⟩) n n,.bool nw])
 mks:Mine [g] w (.slice (some ⟨g,0,none⟩) n n) ms
 mine:Mine [h] w (.slice (some ⟨h,0,none⟩) n n) (za9 out)
 k5:kc.length=5
 n1:gw≠g
 n2:gw≠h
 n3:g≠h
 g0:w1.heap.size≤gw
 g1:w1.heap.size≤g
 g2:w1.heap.size≤h
section
variable {w1 w w':World} {gw g h n:Nat} {kc:List Value} {ms:List Bool} {out:List Nat} {nw:Bool}
theorem LW.step (H:LW w1 w gw g h n kc ms out nw) (hx:Ext w w'):LW w1 w' gw g h n kc ms out nw:=⟨H.ext.trans hx,H.blk.ext hx,H.mks.ext hx,H.mine.ext hx,H.k5,H.n1,H.n2,H.n3,H.g0,H.g1,H.g2⟩
theorem LW.c5 (H:LW w1 w gw g h n kc ms out nw):(kc++[Value.slice (some ⟨g,0,none⟩) n n,.slice (some ⟨h,0,none⟩) n n,.bool nw])[5]?=some (.slice (some ⟨g,0,none⟩) n n):=by rw [List.getElem?_append_right (by rw [H.k5];omega),H.k5];rfl
theorem LW.c6 (H:LW w1 w gw g h n kc ms out nw):(kc++[Value.slice (some ⟨g,0,none⟩) n n,.slice (some ⟨h,0,none⟩) n n,.bool nw])[6]?=some (.slice (some ⟨h,0,none⟩) n n):=by rw [List.getElem?_append_right (by rw [H.k5];omega),H.k5];rfl
theorem LW.c7 (H:LW w1 w gw g h n kc ms out nw):(kc++[Value.slice (some ⟨g,0,none⟩) n n,.slice (some ⟨h,0,none⟩) n n,.bool nw])[7]?=some (.bool nw):=by rw [List.getElem?_append_right (by rw [H.k5];omega),H.k5];rfl
theorem LW.mark {ms':List Bool} (H:LW w1 w gw g h n kc ms out nw) (hc:Chg [g] w w') (hm:Mine [g] w' (.slice (some ⟨g,0,none⟩) n n) ms'):LW w1 w' gw g h n kc ms' out nw:=
 ⟨H.ext.chgF hc (by simp [H.g1]),H.blk.chgF hc (by simp [H.n1]),hm,H.mine.keep λb hb=>by
   simp only [List.mem_cons,List.not_mem_nil,or_false] at hb;subst hb;exact hc.block b (H.mine.lt b (by simp)) (by simp [Ne.symm H.n3]),H.k5,H.n1,H.n2,H.n3,H.g0,H.g1,H.g2⟩
theorem LW.set {i v:Nat} (H:LW w1 w gw g h n kc ms out nw) (hc:Chg [h] w w') (hm:Mine [h] w' (.slice (some ⟨h,0,none⟩) n n) ((za9 out).set i (v:Int))):LW w1 w' gw g h n kc ms (out.set i v) nw:=
 ⟨H.ext.chgF hc (by simp [H.g2]),H.blk.chgF hc (by simp [H.n2]),H.mks.keep λb hb=>by
   simp only [List.mem_cons,List.not_mem_nil,or_false] at hb;subst hb;exact hc.block b (H.mks.lt b (by simp)) (by simp [H.n3]),by rw [zht];exact hm,H.k5,H.n1,H.n2,H.n3,H.g0,H.g1,H.g2⟩
theorem LW.news {nw':Bool} (H:LW w1 w gw g h n kc ms out nw) (hc:Chg [gw] w w') (hB:Blk gw 200 w' ((kc++[Value.slice (some ⟨g,0,none⟩) n n,.slice (some ⟨h,0,none⟩) n n,.bool nw]).set 7 (.bool nw'))):LW w1 w' gw g h n kc ms out nw':=by
 have e:(kc++[Value.slice (some ⟨g,0,none⟩) n n,.slice (some ⟨h,0,none⟩) n n,.bool nw]).set 7 (.bool nw')=kc++[Value.slice (some ⟨g,0,none⟩) n n,.slice (some ⟨h,0,none⟩) n n,.bool nw']:=by
   rw [List.set_append_right _ _ (by rw [H.k5];omega),H.k5];rfl
 rw [e] at hB
 exact ⟨H.ext.chgF hc (by simp [H.g0]),hB,H.mks.keep λb hb=>by
   simp only [List.mem_cons,List.not_mem_nil,or_false] at hb;subst hb;exact hc.block b (H.mks.lt b (by simp)) (by simp [Ne.symm H.n1]),H.mine.keep λb hb=>by
   simp only [List.mem_cons,List.not_mem_nil,or_false] at hb;subst hb;exact hc.block b (H.mine.lt b (by simp)) (by simp [Ne.symm H.n2]),H.k5,H.n1,H.n2,H.n3,H.g0,H.g1,H.g2⟩
theorem LW.l8 (H:LW w1 w gw g h n kc ms out nw):7<(kc++[Value.slice (some ⟨g,0,none⟩) n n,.slice (some ⟨h,0,none⟩) n n,.bool nw]).length:=by simp [H.k5]
theorem zkf {i m:Nat} (H:LW w1 w gw g h n kc ms out nw) (hi:i<n) (hl:ms.length=n) (hlo:out.length=n) (h64:∀ x∈out,x<64) (hm:m<64) :
   CALL tp 233 [.pointer (some ⟨gw,0,none⟩),.int .i64 (i:Int),.int .i64 (m:Int)] w λr w'=>r=.tuple #[]∧LW w1 w' gw g h n kc (ms.set i true) (out.set i (za5 out i ||| m)) (ztM ms out nw i m)∧Chg [gw,g,h] w w':=by
 refine F233_call ?_;unfold F233;have hi64:=zgP h64 i;have ho:=zl3 hm hi64;have hxd:=zai w;have H1:=H.step hxd;have hcd:Chg [gw,g,h] w (World.drew1 w):=⟨hxd.os,hxd.tape,hxd.output,hxd.size,λb hb _=>hxd.block b hb⟩;generalize World.drew1 w=wd at *;have hmk:=zbK (ms:=ms) (i:=i) (by rw [hl];exact hi);refine NIL.mk rfl ?_;refine zaa zhN ?_;refine zas zhF H1.blk H1.c5 ?_;refine zad u85 ty4 H1.mks.is (by rw [hl];exact hi) λb1 o1 hA1=>?_;refine zby ty4 hA1 (Ext.refl _) ?_;refine za1 ?_
 have hrd:∀ {w':World} {K:Value→Prop} (H:LW w1 w' gw g h n kc ms out nw) (k:K (.int .i64 (za5 out i:Int))),RD tp (Instr.indexAt 25 (.slice (some ⟨h,0,none⟩) n n) (.int .i64 (i:Int))) w' λx37=>RD tp (Instr.loadAt 3 x37) w' K:=λH k=>by
   refine zad u25 ty3 (i:=i) H.mine.is (by rw [zaj,hlo];exact hi) λb1 o1 hA1=>?_;rw [zcj] at hA1;exact zac ty3 hA1 (Ext.refl _) λ_=>k
 refine zcd (λhf=>?_) (λhf=>?_)
 · have hnew:¬(mkd ms i∧za5 out i ||| m=za5 out i):=λhh=>by rw [hmk.1 hh.1] at hf;cases hf
   rw [zl8 hnew];refine NIL.mk rfl ?_;refine zaa zhN ?_;refine zas zhF H1.blk H1.c5 ?_;refine zdx (α:=Bool) rfl u85 ty4 hi ?_;refine zcs (α:=Bool) rfl ty4 H1.mks hl hi zbP λw2 hc2 hm2=>?_;have H2:=H1.mark hc2 hm2;have hx3:=zai w2;have H3:=H2.step hx3;have hc3:Chg [gw,g,h] w2 (World.drew1 w2):=⟨hx3.os,hx3.tape,hx3.output,hx3.size,λb hb _=>hx3.block b hb⟩;generalize World.drew1 w2=w3 at *;refine NIL.mk rfl ?_;refine zaa zfq ?_;refine zas zaK H3.blk H3.c6 ?_;refine NIL.mk rfl ?_;refine zaa zfq ?_;refine zas zaK H3.blk H3.c6 ?_;refine zad u25 ty3 (i:=i) H3.mine.is (by rw [zaj,hlo];exact hi) λb4 o4 hA4=>?_;rw [zcj] at hA4;refine zac ty3 hA4 (Ext.refl _) λ_=>?_;refine zhJ (m:=za5 out i) (n:=m) (by omega) (by omega) ?_;refine zdx (α:=Int) rfl u25 ty3 hi ?_;refine zcs (α:=Int) rfl ty3 H3.mine (by rw [zaj,hlo]) hi (zgi (v:=za5 out i ||| m) (by omega)) λw4 hc4 hm4=>?_;have H4:=H3.set (v:=za5 out i ||| m) hc4 hm4;refine NIL.mk rfl ?_;refine zaa zlu ?_;refine zbp (α:=Raw) (lo:=0) (hi:=0) ty4 rfl rfl H4.blk H4.l8 (zcJ rfl) λw5 hc5 hB5=>?_;exact ⟨rfl,H4.news hc5.one hB5,(((hcd.trans (hc2.mono (by simp))).trans hc3).trans (hc4.mono (by simp))).trans (hc5.one.mono (by simp))⟩
 have hym:mkd ms i:=by rw [hmk];simpa using hf
 refine NIL.mk rfl ?_;refine zaa zfq ?_;refine zas zaK H1.blk H1.c6 ?_;refine hrd H1 ?_;refine zhJ (m:=za5 out i) (n:=m) (by omega) (by omega) ?_;refine NIL.mk rfl ?_;refine zaa zfq ?_;refine zas zaK H1.blk H1.c6 ?_;refine hrd H1 ?_;refine zaV ?_;refine br (λhne=>?_) (λheq=>?_)
 · have hnew:¬(mkd ms i∧za5 out i ||| m=za5 out i):=λhh=>hne (by rw [hh.2])
   rw [zl8 hnew];refine NIL.mk rfl ?_;refine zaa zhN ?_;refine zas zhF H1.blk H1.c5 ?_;refine zdx (α:=Bool) rfl u85 ty4 hi ?_;refine zcs (α:=Bool) rfl ty4 H1.mks hl hi zbP λw2 hc2 hm2=>?_;have H2:=H1.mark hc2 hm2;have hx3:=zai w2;have H3:=H2.step hx3;have hc3:Chg [gw,g,h] w2 (World.drew1 w2):=⟨hx3.os,hx3.tape,hx3.output,hx3.size,λb hb _=>hx3.block b hb⟩;generalize World.drew1 w2=w3 at *;refine NIL.mk rfl ?_;refine zaa zfq ?_;refine zas zaK H3.blk H3.c6 ?_;refine NIL.mk rfl ?_;refine zaa zfq ?_;refine zas zaK H3.blk H3.c6 ?_;refine zad u25 ty3 (i:=i) H3.mine.is (by rw [zaj,hlo];exact hi) λb4 o4 hA4=>?_;rw [zcj] at hA4;refine zac ty3 hA4 (Ext.refl _) λ_=>?_;refine zhJ (m:=za5 out i) (n:=m) (by omega) (by omega) ?_;refine zdx (α:=Int) rfl u25 ty3 hi ?_;refine zcs (α:=Int) rfl ty3 H3.mine (by rw [zaj,hlo]) hi (zgi (v:=za5 out i ||| m) (by omega)) λw4 hc4 hm4=>?_;have H4:=H3.set (v:=za5 out i ||| m) hc4 hm4;refine NIL.mk rfl ?_;refine zaa zlu ?_;refine zbp (α:=Raw) (lo:=0) (hi:=0) ty4 rfl rfl H4.blk H4.l8 (zcJ rfl) λw5 hc5 hB5=>?_;exact ⟨rfl,H4.news hc5.one hB5,(((hcd.trans (hc2.mono (by simp))).trans hc3).trans (hc4.mono (by simp))).trans (hc5.one.mono (by simp))⟩
 have he:za5 out i ||| m=za5 out i:=Int.ofNat_inj.1 (Decidable.not_not.1 heq);rw [zqe hym he,zj1 hym,he,zl9 (by rw [hlo];exact hi)];exact ⟨rfl,H1,hcd⟩
end
def F172 (a0:Value) (w:World) (R:VW):Prop:=
 oX 28 a0 w λx1 w=>
 (λw0=>PAR w0 [[(0,12)],[(1,13)],[(2,14),(1,13)],[(3,15),(2,14)],[(4,16),(3,15),(3,15)],[(5,17)],[(6,18),(5,17)],[(7,19),(6,18)],[(8,20),(7,19),(7,19)]] (λQ=>
 (∀ (u1:Env) (T:Nat→Nat×Nat) (w:World),Ext w0 w→zaL [] w0.heap.size w.heap.size T→(True)→(λw1=>rL 28 x1 w λx12=>
 Ext w1 w∧Q 0 (upd u1 12 x12) (zbS T 0 (w1.heap.size,w.heap.size)) w) w) ∧
 (∀ (u1:Env) (T:Nat→Nat×Nat) (w:World),Ext w0 w→zaL [] w0.heap.size w.heap.size T→(True)→(λw1=>rF 28 x1 4 w λx13=>
 Ext w1 w∧Q 1 (upd u1 13 x13) (zbS T 1 (w1.heap.size,w.heap.size)) w) w) ∧
 (∀ (u1:Env) (T:Nat→Nat×Nat) (w:World),Ext w0 w→zaL [1] w0.heap.size w.heap.size T→(Q 1 u1 T w∧True)→(λw1=>rL 26 (u1 13) w λx14=>
 Ext w1 w∧Q 2 (upd u1 14 x14) (zbS T 2 (w1.heap.size,w.heap.size)) w) w) ∧
 (∀ (u1:Env) (T:Nat→Nat×Nat) (w:World),Ext w0 w→zaL [2] w0.heap.size w.heap.size T→(Q 2 u1 T w∧True)→(λw1=>rN 26 3 (u1 14) w λx15=>
 Ext w1 w∧Q 3 (upd u1 15 x15) (zbS T 3 (w1.heap.size,w.heap.size)) w) w) ∧
 (∀ (u1:Env) (T:Nat→Nat×Nat) (w:World),Ext w0 w→zaL [3,3] w0.heap.size w.heap.size T→(Q 3 u1 T w∧Q 3 u1 T w∧True)→(λw1=>oP (Instr.makeSlice 85 (u1 15) (u1 15)) w λx16 w=>
 Ext w1 w∧Q 4 (upd u1 16 x16) (zbS T 4 (w1.heap.size,w.heap.size)) w) w) ∧
 (∀ (u1:Env) (T:Nat→Nat×Nat) (w:World),Ext w0 w→zaL [] w0.heap.size w.heap.size T→(True)→(λw1=>rF 28 x1 4 w λx17=>
 Ext w1 w∧Q 5 (upd u1 17 x17) (zbS T 5 (w1.heap.size,w.heap.size)) w) w) ∧
 (∀ (u1:Env) (T:Nat→Nat×Nat) (w:World),Ext w0 w→zaL [5] w0.heap.size w.heap.size T→(Q 5 u1 T w∧True)→(λw1=>rL 26 (u1 17) w λx18=>
 Ext w1 w∧Q 6 (upd u1 18 x18) (zbS T 6 (w1.heap.size,w.heap.size)) w) w) ∧
 (∀ (u1:Env) (T:Nat→Nat×Nat) (w:World),Ext w0 w→zaL [6] w0.heap.size w.heap.size T→(Q 6 u1 T w∧True)→(λw1=>rN 26 3 (u1 18) w λx19=>
 Ext w1 w∧Q 7 (upd u1 19 x19) (zbS T 7 (w1.heap.size,w.heap.size)) w) w) ∧
 (∀ (u1:Env) (T:Nat→Nat×Nat) (w:World),Ext w0 w→zaL [7,7] w0.heap.size w.heap.size T→(Q 7 u1 T w∧Q 7 u1 T w∧True)→(λw1=>oP (Instr.makeSlice 25 (u1 19) (u1 19)) w λx20 w=>
 Ext w1 w∧Q 8 (upd u1 20 x20) (zbS T 8 (w1.heap.size,w.heap.size)) w) w) ∧
 True)
 (λQ=>∀ (u1:Env) (T:Nat→Nat×Nat) (w:World),Ext w0 w→zaL [0,1,2,3,4,5,6,7,8] w0.heap.size w.heap.size T→(Q 0 u1 T w∧Q 1 u1 T w∧Q 2 u1 T w∧Q 3 u1 T w∧Q 4 u1 T w∧Q 5 u1 T w∧Q 6 u1 T w∧Q 7 u1 T w∧Q 8 u1 T w∧True) →
 rD (Instr.build 200 #[(0,(u1 12)),(1,(u1 16)),(2,(u1 20)),(3,vT)]) w λx21=>
 oX 200 x21 w λx22 w=>
 rL 28 x1 w λx23=>
 cL 174 [x23] w λx24 w=>
 cL 232 [x24] w λx25 w=>
 LOOPI [5] [(iV 0)] w λu4 w n4=>
 rN 25 3 x25 w λx28=>
 rC (u4 5) x28 w λx29=>
 BR x29
 ((λw=>rF 28 x1 3 w λx33=>
 rL 25 x33 w λx34=>
 rX 25 x25 (u4 5) w λx37=>
 rL 3 x37 w λx38=>
 rX 25 x34 x38 w λx39=>
 rL 3 x39 w λx40=>
 cL 233 [x22,x40,(iV 0)] w λx41 w=>
 rI (u4 5) w λx31=>
 n4 [x31] w) (World.drew1 w))
 (LOOPI [] [] w λu7 w n7=>
 NIL x22 <|
 rF 200 x22 3 w λx44=>
 rL 4 x44 w λx45=>
 BR x45
 (NIL x22 <|
 rF 200 x22 3 w λx48=>
 oS 4 x48 vF w λw=>
 LOOPI [6] [(iV 0)] w λu10 w n10=>
 rF 28 x1 4 w λx50=>
 rL 26 x50 w λx51=>
 rN 26 3 x51 w λx52=>
 rC (u10 6) x52 w λx53=>
 BR x53
 (NIL x22 <|
 rF 200 x22 1 w λx58=>
 rL 85 x58 w λx59=>
 rX 85 x59 (u10 6) w λx61=>
 rL 4 x61 w λx62=>
 rT x62 w λx63=>
 BR x63
 (rI (u10 6) w λx55=>
 n10 [x55] w)
 (rF 28 x1 4 w λx64=>
 rL 26 x64 w λx65=>
 rX 26 x65 (u10 6) w λx67=>
 rL 118 x67 w λx68=>
 oP (aL 118) w λx7 w=>
 oS 118 x7 x68 w λw=>
 NIL x22 <|
 rF 200 x22 2 w λx71=>
 rL 25 x71 w λx72=>
 rX 25 x72 (u10 6) w λx74=>
 rL 3 x74 w λx75=>
 JOIN [8] (λJ25=>
 rF 118 x7 0 w λx76=>
 rL 3 x76 w λx77=>
 rQ x77 (iV 6) w λx79=>
 BR x79
 (rF 118 x7 1 w λx81=>
 rL 3 x81 w λx82=>
 cL 234 [x82] w λx83 w=>
 rB .or 3 T0 T0 x75 x83 w λx84=>
 J25 [x84] w)
 (rQ x77 (iV 7) w λx86=>
 BR x86
 (rF 118 x7 1 w λx88=>
 rL 3 x88 w λx89=>
 cL 234 [x89] w λx90 w=>
 cL 235 [x75,x90] w λx91 w=>
 J25 [x91] w)
 (rQ x77 (iV 4) w λx93=>
 BR x93
 (rF 28 x1 3 w λx95=>
 rL 25 x95 w λx96=>
 rF 118 x7 1 w λx97=>
 rL 3 x97 w λx98=>
 rX 25 x96 x98 w λx99=>
 rL 3 x99 w λx100=>
 cL 233 [x22,x100,x75] w λx102 w=>
 rL 28 x1 w λx103=>
 rF 118 x7 1 w λx104=>
 rL 3 x104 w λx105=>
 cL 150 [x103,x105] w λx106 w=>
 NIL x22 <|
 rF 200 x22 1 w λx109=>
 rL 85 x109 w λx110=>
 rX 85 x110 x106 w λx112=>
 rL 4 x112 w λx113=>
 rT x113 w λx114=>
 BR x114
 (rI (u10 6) w λx55=>
 n10 [x55] w)
 (NIL x22 <|
 rF 200 x22 2 w λx117=>
 rL 25 x117 w λx118=>
 rX 25 x118 x106 w λx120=>
 rL 3 x120 w λx121=>
 J25 [x121] w))
 (J25 [x75] w)))) (λu25 w=>
 rL 28 x1 w λx122=>
 cL 236 [x122,(u10 6)] w λx124 w=>
 LOOPI [11] [(iV 0)] w λu27 w n27=>
 rN 25 3 x124 w λx127=>
 rC (u27 11) x127 w λx128=>
 BR x128
 (rX 25 x124 (u27 11) w λx134=>
 rL 3 x134 w λx135=>
 cL 233 [x22,x135,(u25 8)] w λx137 w=>
 rI (u27 11) w λx130=>
 n27 [x130] w)
 (rI (u10 6) w λx55=>
 n10 [x55] w))))
 (n7 [] w))
 (R x22 w)))) (World.drew1 w)
def cfg172:Cfg:=⟨extL,[(25,5316911983139587933751502326797959936,[8])],[(4,4397979402272,[5]),(7,348449143727040986586495598005732602023872,[]),(10,348449143727040986586495597447180695113664,[6]),(27,348406608431175869278562676184201677506560,[11])],[(6,[0,1,2,3,4,5,6,7,8,9],0)],[(1,8384520,9)],[],[]⟩
theorem F172_call {a0 w R} (h:F172 a0 w R):cL 172 [a0] w R:=co (g:=cfg172) Tryz.func172 h
open Rep (rep)
def lkQ (c:DCode) (g1 n:Nat) (w0:World):ParQ:=λi u T w=>match i with
 | 0=>Is w0 (u 12) c
 | 1=>u 13=.pointer (some ⟨g1,0+4,none⟩)
 | 2=>Is w0 (u 14) c.ins
 | 3=>u 15=.int .i64 (n:Int)
 | 4=>∃ g,u 16=.slice (some ⟨g,0,none⟩) n n∧(T 4).1≤g∧g<(T 4).2∧Mine [g] w (.slice (some ⟨g,0,none⟩) n n) (List.replicate n false)
 | 5=>u 17=.pointer (some ⟨g1,0+4,none⟩)
 | 6=>Is w0 (u 18) c.ins
 | 7=>u 19=.int .i64 (n:Int)
 | 8=>∃ g,u 20=.slice (some ⟨g,0,none⟩) n n∧(T 8).1≤g∧g<(T 8).2∧Mine [g] w (.slice (some ⟨g,0,none⟩) n n) (za9 (List.replicate n 0))
 | _=>True
theorem ztm {w W0:World} {v0:Value} {c:DCode} (h0:Is W0 v0 c) (e0:Ext W0 w) (hc:CodeR c) :
   CALL tp 172 [v0] w λr w'=>Ext w w'∧∃ gw,r=.pointer (some ⟨gw,0,none⟩)∧At w' gw (0+5) (zhG c)∧At w' gw (0+6) (za9 (zno c)):=by
 refine F172_call ?_;unfold F172;have h8:=hc.1.procs8;have hil:=hc.f.ins;have hz0:=(ziC hc h8.2).2.2;have hrep:=HP.start (c:=c);refine zcb h0 e0 λw1 hx1 hA=>?_;have hs1:=hx1.size;have hn:c.ins.length=c.ins.length:=rfl;generalize hnn:c.ins.length=n at hn;rw [hnn] at hil hrep;have hx1d:=zai w1;refine PAR.mk (lkQ c w.heap.size n (World.drew1 w1)) ?_ ?_ ?_
 · intro i u u' T T' wa wb hxa hxb hd hq
   match i,hd,hq with
   | 0,hd,hq=>have:=(hd (0,12) (by decide)).1;show Is _ (u' 12) _;simp only [this];exact hq
   | 1,hd,hq=>exact (hd (1,13) (by decide)).1.trans hq
   | 2,hd,hq=>have:=(hd (2,14) (by decide)).1;show Is _ (u' 14) _;simp only [this];exact hq
   | 3,hd,hq=>exact (hd (3,15) (by decide)).1.trans hq
   | 4,hd,⟨g,q1,q2,q3,q4⟩=>
     obtain ⟨e1,e2⟩:=hd (4,16) (by decide);simp only at e1 e2;exact ⟨g,e1.trans q1,by rw [e2];exact q2,by rw [e2];exact q3,q4.ext hxb⟩
   | 5,hd,hq=>exact (hd (5,17) (by decide)).1.trans hq
   | 6,hd,hq=>have:=(hd (6,18) (by decide)).1;show Is _ (u' 18) _;simp only [this];exact hq
   | 7,hd,hq=>exact (hd (7,19) (by decide)).1.trans hq
   | 8,hd,⟨g,q1,q2,q3,q4⟩=>
     obtain ⟨e1,e2⟩:=hd (8,20) (by decide);simp only at e1 e2;exact ⟨g,e1.trans q1,by rw [e2];exact q2,by rw [e2];exact q3,q4.ext hxb⟩
   | n+9,_,_=>trivial
 · refine ⟨λu T w' hx _ _=>?_,λu T w' hx _ _=>?_,λu T w' hx _ hp=>?_,λu T w' hx _ hp=>?_,λu T w' hx _ hp=>?_,λu T w' hx _ _=>?_,λu T w' hx _ hp=>?_,λu T w' hx _ hp=>?_,λu T w' hx _ hp=>?_,trivial⟩
   · exact zab zcv hA (hx1d.t hx) λv6 h6=>⟨Ext.refl _,h6.ext hx1d⟩
   · exact zaa zaR ⟨Ext.refl _,rfl⟩
   · have q0:u 13=_:=hp.1
     rw [q0];exact zab zdn (zal hA) (hx1d.t hx) λv6 h6=>⟨Ext.refl _,h6.ext hx1d⟩
   · have q1:Is _ (u 14) c.ins:=hp.1
     exact zae u26 q1 (by rw [hnn];exact ⟨Ext.refl _,rfl⟩)
   · have q2:u 15=_:=hp.1
     rw [q2];exact zgh (by omega) (by omega) λw4 hx4 r=>⟨hx4,_,rfl,lr _,r.lt _ (List.mem_singleton.2 rfl),r⟩
   · exact zaa zaR ⟨Ext.refl _,rfl⟩
   · have q0:u 17=_:=hp.1
     rw [q0];exact zab zdn (zal hA) (hx1d.t hx) λv6 h6=>⟨Ext.refl _,h6.ext hx1d⟩
   · have q1:Is _ (u 18) c.ins:=hp.1
     exact zae u26 q1 (by rw [hnn];exact ⟨Ext.refl _,rfl⟩)
   have q2:u 19=_:=hp.1;rw [q2];exact zhv (by omega) (by omega) λw4 hx4 r=>⟨hx4,_,rfl,lr _,r.lt _ (List.mem_singleton.2 rfl),r⟩
 rintro u T w2 hx2 hap ⟨hq0,-,-,-,⟨g,q16,hga,hgb,hMg⟩,-,-,-,⟨h,q20,hha,hhb,hMh⟩,-⟩;have hq0:Is (World.drew1 w1) (u 12) c:=hq0;have t4:=hap.1 4 (by decide);have t8:=hap.1 8 (by decide);have d48:=hap.2 4 (by decide) 8 (by decide) (by decide);have hx12:=hx1d.t hx2;have hsd:(World.drew1 w1).heap.size=w1.heap.size:=rfl;rw [q16,q20];obtain ⟨a0,a1,a2,a3,a4,n0,n1,n2,n3,n4,k0,k1,k2,k3,k4,hcv⟩:=zk8 hq0;rw [hcv];refine zaX (cells:=#[.slice a0 n0 k0,.slice a1 n1 k1,.slice a2 n2 k2,.slice a3 n3 k3,.slice a4 n4 k4,.slice (some ⟨g,0,none⟩) n n,.slice (some ⟨h,0,none⟩) n n,.bool true]) (by kernel_rfl) ?_;refine zlK λw3 hx3 hB3=>?_;have H3:LW w1 w3 w2.heap.size g h n [.slice a0 n0 k0,.slice a1 n1 k1,.slice a2 n2 k2,.slice a3 n3 k3,.slice a4 n4 k4] (List.replicate n false) (List.replicate n 0) true:=⟨hx12.t hx3,hB3,hMg.ext hx3,hMh.ext hx3,rfl,by omega,by omega,by omega,hx12.size,by omega,by omega⟩;generalize [Value.slice a0 n0 k0,.slice a1 n1 k1,.slice a2 n2 k2,.slice a3 n3 k3,.slice a4 n4 k4]=kc at *;generalize w2.heap.size=gw at *;refine zab zcv hA H3.ext λv23 h23=>?_;refine (zo0 h23 H3.ext hc).mono ?_;rintro v24 w4 ⟨hx4,ho4⟩;refine (zfT ho4.is (Ext.refl _) (by rw [zaD];omega)).mono ?_;rintro v25 w5 ⟨hx5,ho5⟩;rw [zaD,zjT] at ho5;have H4:=H3.step hx4;have H5:=H4.step hx5;have hL:∀ p,p∈zcr c.procs.length (RootP c)↔RootP c p:=λp=>by rw [zbq];exact ⟨λh=>h.2,λh=>⟨h.lt hc,h⟩⟩
 have hLl:(zcr c.procs.length (RootP c)).length≤8:=Nat.le_trans zc6 h8.1;generalize zcr c.procs.length (RootP c)=L at *;have hgw4:=H4.blk.lt;have hg4:=H4.mks.lt g (by simp);have hh4:=H4.mine.lt h (by simp);have hrl:(List.replicate n 0).length=n:=by simp
 have hr64:∀ x∈List.replicate n 0,x<64:=λx hx=>by rw [(List.mem_replicate.1 hx).2];omega
 have hset0:∀ i,i<n→(List.replicate n 0).set i (za5 (List.replicate n 0) i ||| 0)=List.replicate n 0:=λi hi=>by rw [Nat.or_zero,zl9 (by rw [hrl];exact hi)]
 have hmz:∀ i l,i<c.ins.length→(za5 (List.replicate n 0) i).testBit l=true→MayP c i l:=λi l hi hb=>(hrep.snd i l hi hb).1;generalize List.replicate n 0=out at *;refine zat L.length (λk us w'=>∃ ms,us=[.int .i64 (k:Int)]∧k≤L.length∧LW w1 w' gw g h n kc ms out true∧OwnI w4.heap.size w5.heap.size w' v25 (za9 L)∧ms.length=n∧(∀ i,mkd ms i→MetP c i)∧∀ p∈L.take k,mkd ms (eN c p)) 0 (z0 _) ⟨_,rfl,z0 _,H5,ho5.toI,by simp,λi h=>absurd h zb5,by simp⟩ ?_;rintro k mk u6 w6 hkm ⟨ms,hu,hkl,H6,hO6,hl6,hsn6,hrt6⟩;try replace hu:=zbG hu
 rw [hu];refine zae u25 hO6.is ?_;rw [zaj];refine zaf ?_;refine br (λhlt=>?_) (λhge=>?_)
 · have hk:k<L.length:=by omega
   have hxd:=zai w6;have H7:=H6.step hxd;have hO7:=hO6.ext hxd;generalize World.drew1 w6=w7 at *;refine zaa za7 ?_;refine zab zaK (zap hA) H7.ext λv34 h34=>?_;refine zad u25 ty3 (i:=k) hO7.is (by rw [zaj];exact hk) λb2 o2 hA2=>?_;rw [zbz] at hA2;refine zac ty3 hA2 (Ext.refl _) λ_=>?_;have htk:=λx=>zdi hk (x:=x);have hrp:=(hL L[k]).1 (List.getElem_mem hk);generalize L[k]=p at *;have hpe:p<c.entry.length:=by rw [hc.2.1.1];exact hrp.lt hc
   obtain ⟨he1,he2,_⟩:=ziI hc hpe;refine zad u25 ty3 h34 hpe λb5 o5 hA5=>?_;rw [zbr hpe,he1] at hA5;refine zac ty3 hA5 H7.ext λ_=>?_;refine (zkf (i:=eN c p) (m:=0) H7 (by omega) hl6 hrl hr64 (by omega)).mono ?_;rintro _ w8 ⟨rfl,H8,hc8⟩;rw [hset0 _ (by omega)] at H8;refine zaB ?_;refine ⟨mk-1,by omega,k+1,by omega,_,rfl,by omega,H8,hO7.chgF hc8 (by simp;omega),by simp [hl6],λi hi=>?_,λq hq=>?_⟩
   · rcases (zcE (by rw [hl6];omega)).1 hi with h | h
     · exact hsn6 i h
     rw [h];exact .root hrp
   rcases (htk q).1 hq with h | h
   · exact zeM (hrt6 q h)
   rw [h];exact (zcE (by rw [hl6];omega)).2 (.inr rfl)
 have hrt:∀ p,RootP c p→mkd ms (eN c p):=λp hp=>hrt6 p (by rw [List.take_of_length_le (by omega)];exact (hL p).2 hp);have hT:LP c ms out false ms out 0:=⟨by rw [hl6,hnn],by rw [hrl,hnn],hr64,hsn6,hmz,hrt,λe=>(by cases e),λ_=>⟨rfl,rfl,λi hi=>by omega⟩⟩;clear hu hkm hO6 hset0;refine LOOPI.mk (λm us w'=>∃ (ms:List Bool) (out:List Nat) (nw:Bool),us=[]∧m=(n*64-(ziZ ms+out.sum))+(if nw then 1 else 0)∧LW w1 w' gw g h n kc ms out nw∧LP c ms out false ms out 0∧(nw=false→ms=zhG c∧out=zno c)) (n*64-(ziZ ms+out.sum)+1) ⟨ms,out,true,rfl,rfl,H6,hT,λe=>by cases e⟩ ?_;rintro m u9 w9 ⟨ms,out,nw,hu,hm,H9,hT9,hend⟩
 have hbnd:∀ {ms0 ms:List Bool} {out0 out:List Nat} {nw:Bool} {k:Nat},LP c ms0 out0 nw ms out k→ziZ ms+out.sum≤n*64:=λ{ms0 ms out0 out nw k} hP=>by
   have h1:=zfR ms;rw [hP.len,hnn] at h1;have h2:=sum_le (l:=out) (b:=63) λx hx=>by have:=hP.lt x hx;omega
   rw [hP.leno,hnn] at h2;omega
 refine NIL.mk rfl ?_;refine zaa zlu ?_;refine zas ty4 H9.blk H9.c7 ?_;refine zcd (λhag=>?_) (λhag=>?_)
 case refine_2=>
   obtain ⟨hm1,hm2⟩:=hend hag;refine ⟨hx1.t H9.ext,gw,rfl,zfj H9.blk H9.c5 ?_,zfj H9.blk H9.c6 ?_⟩
   · rw [←hm1];exact H9.mks.is
   rw [←hm2];exact H9.mine.is
 rw [hag,if_pos rfl] at hm;have hb9:=hbnd hT9;refine NIL.mk rfl ?_;refine zaa zlu ?_;refine zbp (α:=Raw) (lo:=0) (hi:=0) ty4 rfl rfl H9.blk H9.l8 (zcJ rfl) λw10 hc10 hB10=>?_;have H10:=H9.news hc10.one hB10;refine zat n (λk us w'=>∃ (ms':List Bool) (out':List Nat) (nw':Bool),us=[.int .i64 (k:Int)]∧k≤n∧LW w1 w' gw g h n kc ms' out' nw'∧LP c ms out nw' ms' out' k) 0 (z0 _) ⟨ms,out,false,rfl,z0 _,H10,hT9⟩ ?_;rintro k mk u11 w11 hkm ⟨ms11,out11,nw11,hu,hkl,H11,hT11⟩;try replace hu:=zbG hu
 rw [hu];refine zaa zaR ?_;refine zab zdn (zal hA) H11.ext λv51 h51=>?_;refine zae u26 h51 ?_;rw [hnn];refine zaf ?_;refine br (λhlt=>?_) (λhge=>?_)
 case refine_2=>
   have hke:k=n:=by omega
   rw [hke] at hT11;have hb11:=hbnd hT11;refine ⟨(n*64-(ziZ ms11+out11.sum))+(if nw11 then 1 else 0),?_,ms11,out11,nw11,rfl,rfl,H11,hT11.again,λe=>?_⟩
   · cases nw11 with
     | true=>have:=hT11.yes rfl;simp;omega
     | false=>rw [(hT11.no rfl).1,(hT11.no rfl).2.1];simp;omega
   rw [e,←hnn] at hT11;exact hT11.fin hc
 have hk:k<n:=by omega
 have hkn:k<c.ins.length:=by omega
 have hl11:ms11.length=n:=by rw [hT11.len,hnn]
 have hlo11:out11.length=n:=by rw [hT11.leno,hnn]
 refine NIL.mk rfl ?_;refine zaa zhN ?_;refine zas zhF H11.blk H11.c5 ?_;refine zad u85 ty4 (i:=k) H11.mks.is (by rw [hl11];exact hk) λb4 o4 hA4=>?_;refine zby ty4 hA4 (Ext.refl _) ?_;refine za1 ?_;have hmk11:=zbK (ms:=ms11) (i:=k) (by rw [hl11];exact hk);refine zcd (λhf=>?_) (λhf=>?_)
 · have hnm:¬mkd ms11 k:=by rw [hmk11];simpa using hf
   refine zaB ?_;exact ⟨mk-1,by omega,k+1,by omega,ms11,out11,nw11,rfl,by omega,H11,hT11.skip hnm⟩
 have hym:mkd ms11 k:=by rw [hmk11];simpa using hf
 have hMk:=hT11.snd k hym;refine zaa zaR ?_;refine zab zdn (zal hA) H11.ext λv65 h65=>?_;refine zad u26 zbm h65 hkn λb3 o3 hA3=>?_;rw [zaE] at hA3;refine zab zbm hA3 H11.ext λv32 h32=>?_;refine zcX zhM rfl zbm rfl h32 H11.ext λw12 hx12' hAI hV12=>?_;have H12:=H11.step hx12';have hAB12:=zfI h32 hV12 rfl;refine NIL.mk rfl ?_;refine zaa zfq ?_;refine zas zaK H12.blk H12.c6 ?_;refine zad u25 ty3 (i:=k) H12.mine.is (by rw [zaj,hlo11];exact hk) λb5 o5 hA5=>?_;rw [zcj] at hA5;refine zac ty3 hA5 (Ext.refl _) λ_=>?_;have hk64:=hT11.lt0 k;have hkz:nw11=false→za5 out11 k=za5 out k:=λe=>by rw [(hT11.no e).2.1]
 have hkm8:∀ l,l<6→(za5 out11 k).testBit l=true→MayP c k l:=λl hl hb=>hT11.sndm k l hkn hb;generalize hh0:za5 out11 k=h0 at *;refine JOIN.mk (λus w'=>∃ (m:Nat) (ms':List Bool) (out':List Nat) (nw':Bool),us=[.int .i64 (m:Int)]∧LW w1 w' gw g h n kc ms' out' nw'∧LP c ms out nw' ms' out' k∧m<64∧CR c out k h0 m nw'∧((zan c k).op=4→mkd ms' (eN c (agN c k))∧zgj h0 (za5 out' (eN c (agN c k))))∧(∀ l,l<6→m.testBit l=true→∀ j∈zaO c k,MayP c j l)∧∀ j∈zaO c k,MetP c j) ?_ ?_
 · have haf:aft c [] k h0=if (zan c k).op=6 then h0 ||| 2^agN c k else if (zan c k).op=7 then zlZ h0 (2^agN c k) else if (zan c k).op=4 then (h0 &&& (tbl [] (agN c k)).1) ||| (tbl [] (agN c k)).2 else h0:=rfl
   have hgo:¬(zan c k).op=4→∀ w',LW w1 w' gw g h n kc ms11 out11 nw11→aft c [] k h0<64→∃ (m:Nat) (ms':List Bool) (out':List Nat) (nw':Bool),[Value.int .i64 (aft c [] k h0:Nat)]=[.int .i64 (m:Int)]∧LW w1 w' gw g h n kc ms' out' nw'∧LP c ms out nw' ms' out' k∧m<64∧CR c out k h0 m nw'∧((zan c k).op=4→mkd ms' (eN c (agN c k))∧zgj h0 (za5 out' (eN c (agN c k))))∧(∀ l,l<6→m.testBit l=true→∀ j∈zaO c k,MayP c j l)∧∀ j∈zaO c k,MetP c j:=λh4 w' hW' hlt'=>
     ⟨_,ms11,out11,nw11,rfl,hW',hT11,hlt',λe=>⟨hkz e,λh=>absurd h h4,λ_=>by rw [hkz e]⟩,λh=>absurd h h4,λl hl hb j hj=>zs2 h4 hMk hj (hkm8 l hl) hb,λj hj=>.next hMk h4 hj⟩
   refine zaa za6 ?_;refine zac ty3 (zaA hAI) (Ext.refl _) λ_=>?_;refine zag ?_;refine br (λc6=>?_) (λc6=>?_)
   · obtain ⟨ha,_,hq⟩:=zdz hc hkn (.inl c6)
     have hp:=zl1 hq;rw [if_pos c6] at haf;refine zaa zaZ ?_;refine zac ty3 (zaw hAI) (Ext.refl _) λ_=>?_;rw [ha];refine (zjW (by omega)).mono ?_;rintro _ w13 ⟨hx13,rfl⟩;refine zhJ (m:=h0) (n:=2^agN c k) (by omega) (by omega) ?_;have:=hgo (by omega) w13 (H12.step hx13) (by rw [haf];exact zp3 hk64 hq);rw [haf] at this;exact this
   rw [if_neg c6] at haf;refine zag ?_;refine br (λc7=>?_) (λc7=>?_)
   · obtain ⟨ha,_,hq⟩:=zdz hc hkn (.inr c7)
     have hp:=zl1 hq;rw [if_pos c7] at haf;refine zaa zaZ ?_;refine zac ty3 (zaw hAI) (Ext.refl _) λ_=>?_;rw [ha];refine (zjW (by omega)).mono ?_;rintro _ w13 ⟨hx13,rfl⟩;refine (zq4 hk64 hp).mono ?_;rintro _ w14 ⟨hx14,rfl⟩;rw [zoZ hk64 hp];have:=hgo (by omega) w14 ((H12.step hx13).step hx14) (by rw [haf];exact Nat.lt_of_le_of_lt (zjU _ _) hk64);rw [haf] at this;exact this
   rw [if_neg c7] at haf;refine zag ?_;refine br (λc4=>?_) (λc4=>?_)
   · obtain ⟨ha1,ha2⟩:=zey hc hkn (.inl c4)
     have hpe:agN c k<c.entry.length:=by rw [hc.2.1.1];exact ha2
     obtain ⟨he1,he2,_⟩:=ziI hc hpe;obtain ⟨hz1,hz2,hz3⟩:=ziC hc ha2;refine zaa za7 ?_;refine zab zaK (zap hA) H12.ext λv66 h66=>?_;refine zaa zaZ ?_;refine zac ty3 (zaw hAI) (Ext.refl _) λ_=>?_;rw [ha1];refine zad u25 ty3 h66 hpe λb5 o5 hA5=>?_;rw [zbr hpe,he1] at hA5;refine zac ty3 hA5 H12.ext λ_=>?_;refine (zkf (i:=eN c (agN c k)) (m:=h0) H12 (by omega) hl11 hlo11 hT11.lt hk64).mono ?_;rintro _ w13 ⟨rfl,H13,hc13⟩;have hmE:MetP c (eN c (agN c k)):=.call hMk c4;have hT13:=hT11.put he2 hk64 hmE λl hl hb=>.call hMk c4 (hkm8 l hl hb);have hF1:=ziE (out:=out11) (m:=h0) (i:=eN c (agN c k)) (by rw [hlo11];omega);have hF0:mkd (ms11.set (eN c (agN c k)) true) (eN c (agN c k)):=(zcE (by rw [hl11];omega)).2 (.inr rfl);have hz13:ztM ms11 out11 nw11 (eN c (agN c k)) h0=false→nw11=false:=ztk;generalize ztM ms11 out11 nw11 (eN c (agN c k)) h0=nw13 at *;generalize out11.set (eN c (agN c k)) (za5 out11 (eN c (agN c k)) ||| h0)=out13 at *;generalize ms11.set (eN c (agN c k)) true=ms13 at *;have hgI:w11.heap.size<w12.heap.size:=hV12.lt;have hne:w11.heap.size∉[gw,g,h]:=by have h1:=H11.mks.lt g (by simp);have h2:=H11.mine.lt h (by simp);have h3:=H11.blk.lt;simp;omega
     have hAI13:=(hAB12.keep (hc13.block _ hgI hne)).at H13.ext;refine zab zcv hA H13.ext λv76 h76=>?_;refine zaa zaZ ?_;refine zac ty3 (zaw hAI13) (Ext.refl _) λ_=>?_;rw [ha1];refine (zjw h76 H13.ext (p:=(agN c k:Int)) (by omega) (by omega) hc.2.1.nonneg).mono ?_;rintro _ w14 ⟨hx14,rfl⟩;have H14:=H13.step hx14;rw [hz2];have hl13:ms13.length=n:=by rw [hT13.len,hnn]
     have hlo13:out13.length=n:=by rw [hT13.leno,hnn]
     refine NIL.mk rfl ?_;refine zaa zhN ?_;refine zas zhF H14.blk H14.c5 ?_;refine zad u85 ty4 (i:=zN c (agN c k)) H14.mks.is (by rw [hl13];omega) λb6 o6 hA6=>?_;refine zby ty4 hA6 (Ext.refl _) ?_;refine za1 ?_;have hmk13:=zbK (ms:=ms13) (i:=zN c (agN c k)) (by rw [hl13];omega);refine zcd (λhf13=>?_) (λhf13=>?_)
     · have hnm:¬mkd ms13 (zN c (agN c k)):=by rw [hmk13];simpa using hf13
       refine zaB ?_;refine ⟨mk-1,by omega,k+1,by omega,ms13,out13,nw13,rfl,by omega,H14,LP.close (h0:=h0) (m:=za5 out (zN c (agN c k))) hT13 (λe=>⟨hkz (hz13 e),λ_=>rfl,λh=>absurd c4 h⟩) (λ_=>⟨hF0,hF1⟩) λh=>absurd (h c4) hnm⟩
     have hyz:mkd ms13 (zN c (agN c k)):=by rw [hmk13];simpa using hf13
     have hMz:=hT13.snd _ hyz;refine NIL.mk rfl ?_;refine zaa zfq ?_;refine zas zaK H14.blk H14.c6 ?_;refine zad u25 ty3 (i:=zN c (agN c k)) H14.mine.is (by rw [zaj,hlo13];omega) λb7 o7 hA7=>?_;rw [zcj] at hA7;refine zac ty3 hA7 (Ext.refl _) λ_=>?_;exact ⟨za5 out13 (zN c (agN c k)),ms13,out13,nw13,rfl,H14,hT13,hT13.lt0 _,λe=>⟨hkz (hz13 e),λ_=>by rw [(hT13.no e).2.1],λh=>absurd c4 h⟩,λ_=>⟨hF0,hF1⟩,λl hl hb j hj=>.back hMk c4 hMz (hT13.sndm _ l (by omega) hb) hj,λj hj=>.back hMk c4 hMz hj⟩
   rw [if_neg c4] at haf;have:=hgo c4 w12 H12 (by rw [haf];exact hk64);rw [haf] at this;exact this
 rintro us w14 ⟨m,ms14,out14,nw14,hus,H14,hT14,hm64,hC14,hF14,hmay,hnx⟩;try replace hus:=zbG hus
 rw [hus];refine zab zcv hA H14.ext λv122 h122=>?_;refine (zk1 h122 H14.ext hc hkn).mono ?_;rintro v86 w15 ⟨hx15,ho15⟩;have H15:=H14.step hx15;have hl2:=zfS c k;have hnl:=λ{j:Nat} (hj:j∈zaO c k)=>(zeb hc hkn hj).1;have hclose:=λ{ms o:List Bool} {out0 out1:List Nat} {ag:Bool} (hP:LP c ms out0 ag o out1 k)=>LP.close (h0:=h0) (m:=m) hP;generalize hNx:zaO c k=N at *;refine zat N.length (λq us w'=>∃ (ms':List Bool) (out':List Nat) (nw':Bool),us=[.int .i64 (q:Int)]∧q≤N.length∧LW w1 w' gw g h n kc ms' out' nw'∧LP c ms out nw' ms' out' k∧CR c out k h0 m nw'∧((zan c k).op=4→mkd ms' (eN c (agN c k))∧zgj h0 (za5 out' (eN c (agN c k))))∧(∀ j∈N.take q,mkd ms' j∧zgj m (za5 out' j))∧OwnI w14.heap.size w15.heap.size w' v86 (za9 N)) 0 (z0 _) ⟨ms14,out14,nw14,rfl,z0 _,H15,hT14,hC14,hF14,by simp,ho15.toI⟩ ?_;rintro q mq u w16 hqm ⟨ms16,out16,nw16,hu,hql,H16,hT16,hC16,hF16,hq16,hO16⟩;try replace hu:=zbG hu
 rw [hu];refine zae u25 hO16.is ?_;rw [zaj];refine zaf ?_;refine br (λhlt=>?_) (λhge=>?_)
 case refine_2=>refine zaB ?_;rw [List.take_of_length_le (by omega)] at hq16;exact ⟨mk-1,by omega,k+1,by omega,ms16,out16,nw16,rfl,by omega,H16,hclose hT16 hC16 hF16 λ_=>hNx▸hq16⟩
 have hq:q<N.length:=by omega
 refine zad u25 ty3 (i:=q) hO16.is (by rw [zaj];exact hq) λb7 o7 hA7=>?_;rw [zbz] at hA7;refine zac ty3 hA7 (Ext.refl _) λ_=>?_;have htq:=λx=>zdi hq (x:=x);have hj:=List.getElem_mem hq;have hjl:=hnl hj;have hmj:=λl hl hb=>hmay l hl hb _ hj;have hmet:=hnx _ hj;generalize N[q]=j at *;have hl16:ms16.length=n:=by rw [hT16.len,hnn]
 have hlo16:out16.length=n:=by rw [hT16.leno,hnn]
 refine (zkf (i:=j) (m:=m) H16 (by omega) hl16 hlo16 hT16.lt hm64).mono ?_;rintro _ w17 ⟨rfl,H17,hc17⟩;refine zaB ?_;have hg14:=H14.mks.lt g (by simp);have hh14:=H14.mine.lt h (by simp);have hgw14:=H14.blk.lt;have hjo:j<out16.length:=by omega
 refine ⟨mq-1,by omega,q+1,by omega,_,_,_,rfl,by omega,H17,hT16.put hjl hm64 hmet hmj,λe=>hC16 (ztk e),λh4=>⟨zeM (hF16 h4).1,ztl hjo (hF16 h4).2⟩,λi hi=>?_,hO16.chgF hc17 (by simp;omega)⟩;rcases (htq i).1 hi with h | h
 · exact ⟨zeM (hq16 i h).1,ztl hjo (hq16 i h).2⟩
 subst h;exact ⟨(zcE (by rw [hl16];omega)).2 (.inr rfl),ziE hjo⟩
end Go.Proofs.YtakjaofncelghaaGreat
