/-
  Parts of the proof, put together by program.
-/
import Derived.Test.YtifonhplnmpgaaaGreatPMissed6
set_option linter.unusedVariables false
set_option linter.unusedSimpArgs false
set_option linter.unusedSectionVars false
namespace Go.Proofs.YtifonhplnmpgaaaGreat
open Go Go.Sh Go.Proofs
open Rep (rep)
def F216 (a0 a1:Value) (w:World) (R:VW):Prop:=
 NIL a0 <|
 rF 114 a0 0 w λx16=>
 rF 32 x16 2 w λx17=>
 rL 22 x17 w λx18=>
 rN 22 3 x18 w λx19=>
 oP (Instr.makeSlice 23 x19 x19) w λx20 w=>
 rN 23 3 x20 w λx22=>
 LOOPI [23] [(iV 0)] w λu3 w n3=>
 rC (u3 23) x22 w λx24=>
 BR x24
 (NIL a0 <|
 rF 114 a0 5 w λx28=>
 rL 3 x28 w λx29=>
 cL 116 [x29,(u3 23)] w λx31 w=>
 rT x31 w λx32=>
 BR x32
 (rX 23 x20 (u3 23) w λx35=>
 oS 3 x35 (iV 63) w λw=>
 rI (u3 23) w λx36=>
 n3 [x36] w)
 (rI (u3 23) w λx36=>
 n3 [x36] w))
 (LOOPI [7] [vT] w λu9 w n9=>
 BR (u9 7)
 (NIL a0 <|
 rF 114 a0 6 w λx40=>
 rL 3 x40 w λx41=>
 cL 66 [x41] w λx42 w=>
 rN 23 3 x42 w λx43=>
 LOOPI [7,44] [vF,(iV 0)] w λu12 w n12=>
 rC (u12 44) x43 w λx45=>
 BR x45
 (rX 23 x42 (u12 44) w λx46=>
 rL 3 x46 w λx47=>
 rX 23 x20 x47 w λx53=>
 rL 3 x53 w λx54=>
 cL 217 [a0,a1,x47,x54] w λx55 w=>
 cL 137 [a0,x47] w λx58 w=>
 rN 23 3 x58 w λx59=>
 LOOPI [7,60] [(u12 7),(iV 0)] w λu16 w n16=>
 rC (u16 60) x59 w λx61=>
 BR x61
 (rX 23 x58 (u16 60) w λx62=>
 rL 3 x62 w λx63=>
 NIL a0 <|
 rF 114 a0 0 w λx66=>
 rF 32 x66 4 w λx67=>
 rL 30 x67 w λx68=>
 rX 30 x68 x63 w λx70=>
 rL 111 x70 w λx71=>
 oP (aL 111) w λx13 w=>
 oS 111 x13 x71 w λw=>
 (λw=>rF 111 x13 0 w λx72=>
 rL 3 x72 w λx73=>
 rQ x73 (iV 4) w λx74=>
 BR x74
 (rF 111 x13 1 w λx77=>
 rL 3 x77 w λx78=>
 rX 23 x20 x78 w λx79=>
 rL 3 x79 w λx80=>
 rX 23 x55 x63 w λx83=>
 rL 3 x83 w λx84=>
 rB .and 3 T0 T0 x80 x84 w λx85=>
 rF 111 x13 1 w λx87=>
 rL 3 x87 w λx88=>
 rX 23 x20 x88 w λx89=>
 rL 3 x89 w λx90=>
 rB .neq 3 T0 T0 x85 x90 w λx91=>
 BR x91
 ((λw=>rF 111 x13 1 w λx94=>
 rL 3 x94 w λx95=>
 rX 23 x20 x95 w λx96=>
 rL 3 x96 w λx97=>
 rX 23 x55 x63 w λx100=>
 rL 3 x100 w λx101=>
 rB .and 3 T0 T0 x97 x101 w λx102=>
 rX 23 x20 x95 w λx103=>
 oS 3 x103 x102 w λw=>
 rI (u16 60) w λx104=>
 n16 [vT,x104] w) (World.drew1 w))
 (rI (u16 60) w λx104=>
 n16 [(u16 7),x104] w))
 (rI (u16 60) w λx104=>
 n16 [(u16 7),x104] w)) (World.drew1 w))
 (rI (u12 44) w λx105=>
 n12 [(u16 7),x105] w))
 (n9 [(u12 7)] w))
 (R x20 w))
theorem F216_call {a0 a1 w R} (h:F216 a0 a1 w R):cL 216 [a0,a1] w R:=co (g:=(kf [] [(3,137430564928,[23]),(9,81129638414606681695651566204544,[7]),(12,81129638414606681678196819113600,[7,44]),(16,40564819207302187926389895737472,[7,60])] [(19,[0,1,2,3,4,5,6,7,8,9,10,11,12,13,14,15,16,17,18,19,20],0),(20,[0,1,2,3,4,5,6,7,8,9,10,11],0)])) Tryz.func216 h
open Rep (rep)
theorem BI.updM {c:DCode} (hc:CodeR c) {out:List Nat} (h:BI c out) {p i hh:Nat} (hu:UsedP c p) (hi:zaG c p i) (ho:(zal c i).op=4) (hgz:∀ l,l<6→hh.testBit l=false→LostM c (tK (zcV c)) (tG (zcV c)) p none l) :
   BI c (out.set (agN c i) (zax out (agN c i) &&& zax (zcc c (zcV c) p hh) i)):=by
 have hp:=hu.lt hc;have hil:=(zbJ hc (by rw [hc.2.1.1];exact hp) hi).1;have hq:=(zbZ hc hil (.inl ho)).2;refine ⟨by simp [h.len],λx hx=>?_,λr l hr hl hb=>?_,λr l hr hl=>?_⟩
 · rcases zjp hx with rfl | hx
   · exact Nat.lt_of_le_of_lt Nat.and_le_left (h.lt0 _)
   exact h.lt x hx
 · rw [zb3 (by rw [h.len];exact hq)] at hb
   split at hb
   · rename_i e
     subst e;rw [Nat.testBit_and,Bool.and_eq_false_iff] at hb;rcases hb with hb | hb
     · exact h.snd _ l hr hl hb
     refine .call hu hi ho ?_;have k:=(zpk hil hl).1 hb
     have key:∀ {i l:Nat},l<6→LostP c (tK (zcV c)) (tG (zcV c)) p (λl=>hh.testBit l=true) i l→LostM c (tK (zcV c)) (tG (zcV c)) p (some i) l:=λ{i l} hl k=>by
       induction k with
       | ent h0=>exact .ent (hgz _ hl (by simpa using h0))
       | gen h0 hj h1=>exact .gen h0 hj h1
       | pass h0 hj _ h2 ih=>exact .pass h0 hj (ih hl) h2
     exact key hl k
   exact h.snd r l hr hl hb
 rw [zb3 (by rw [h.len];exact hq)];split
 · rename_i e
   rw [Nat.testBit_and,e,h.root r l hr hl];rfl
 exact h.root r l hr hl
def CL (c:DCode) (out:List Nat) (p i:Nat):Prop:=zax out (agN c i) &&& zax (zcc c (zcV c) p (zax out p)) i=zax out (agN c i)
structure BQ (c:DCode) (out0:List Nat) (ag:Bool) (out:List Nat) (D:Nat→Nat→Prop):Prop where
 bi:BI c out
 yes:ag=true→out.sum<out0.sum
 no:ag=false→out=out0∧∀ p i,D p i→UsedP c p→zaG c p i→(zal c i).op=4→CL c out0 p i
theorem BQ.mono {c:DCode} {out0 out:List Nat} {ag:Bool} {D D':Nat→Nat→Prop} (H:BQ c out0 ag out D) (h:∀ p i,UsedP c p→zaG c p i→(zal c i).op=4→D' p i→D p i):BQ c out0 ag out D':=
 ⟨H.bi,H.yes,λe=>⟨(H.no e).1,λp i hd hu hl ho=>(H.no e).2 p i (h p i hu hl ho hd) hu hl ho⟩⟩
theorem BQ.set {c:DCode} (hc:CodeR c) {out0 out:List Nat} {ag:Bool} {D D':Nat→Nat→Prop} (H:BQ c out0 ag out D) {p i hh:Nat} (hu:UsedP c p) (hi:zaG c p i) (ho:(zal c i).op=4) (hb:∀ l,l<6→hh.testBit l=false→LostM c (tK (zcV c)) (tG (zcV c)) p none l)
   (hne:zax out (agN c i) &&& zax (zcc c (zcV c) p hh) i≠zax out (agN c i)):BQ c out0 true (out.set (agN c i) (zax out (agN c i) &&& zax (zcc c (zcV c) p hh) i)) D':=by
 have hil:=(zbJ hc (by rw [hc.2.1.1];exact hu.lt hc) hi).1;have hq:=(zbZ hc hil (.inl ho)).2;refine ⟨H.bi.updM hc hu hi ho hb,λ_=>?_,λe=>by cases e⟩;have h1:=zhM (l:=out) (i:=agN c i) (v:=zax out (agN c i) &&& zax (zcc c (zcV c) p hh) i) (by rw [H.bi.len];exact hq);have h2:=zuL hne;cases ag with
 | true=>have:=H.yes rfl;omega
 | false=>rw [(H.no rfl).1] at h1 h2 ⊢;omega
theorem BQ.skip {c:DCode} {out0 out:List Nat} {ag:Bool} {D D':Nat→Nat→Prop} (H:BQ c out0 ag out D) {p i hh:Nat} (hz:ag=false→hh=zax out0 p) (hD:∀ q j,D' q j→D q j∨(q=p∧j=i)) (he:zax out (agN c i) &&& zax (zcc c (zcV c) p hh) i=zax out (agN c i)):BQ c out0 ag out D':=
 ⟨H.bi,H.yes,λe=>⟨(H.no e).1,λq j hd hu hl ho=>by
   rcases hD q j hd with h | ⟨rfl,rfl⟩
   · exact (H.no e).2 q j h hu hl ho
   unfold CL;rw [←hz e,←(H.no e).1];exact he⟩⟩
def BS (c:DCode) (k:Nat) (out:List Nat):Prop:=out.length=c.procs.length∧∀ p,p<c.procs.length→(¬(p<k∧¬RootP c p)→zax out p=0)∧(p<k→¬RootP c p→zax out p=63)
theorem BS.fin {c:DCode} (hc:CodeR c) {out:List Nat} (h:BS c c.procs.length out):BI c out:=BI.start hc out h.1 λp hp=>⟨λhr=>(h.2 p hp).1 λhn=>hn.2 hr,λhr=>(h.2 p hp).2 hp hr⟩
theorem zqv {w W0 W1:World} {b:Nat} {v1:Value} {c:DCode} (hW:WAt W0 b c) (e0:Ext W0 w) (h1:Is W1 v1 (zgg (zcV c))) (e1:Ext W1 w) (hc:CodeR c) :
   CALL tp 216 [.pointer (some ⟨b,0,none⟩),v1] w λr w'=>Ext w w'∧Own w.heap.size w' r (zaI (zvv c)):=by
 refine F216_call ?_;unfold F216;have h8:=hc.1.procs8;have hil:=hc.f.ins;have hTR:=zf0 c;refine NIL.mk rfl ?_;refine zab zaZ ?_;refine zab zbf ?_;refine zaa zb1 (zau hW.wl.code) e0 λv18 h18=>?_;refine zae u22 h18 ?_;have hn:c.procs.length=c.procs.length:=rfl;generalize hnn:c.procs.length=n at hn;rw [hnn] at h8;refine zdn (by omega) (by omega) λw2 hx2 hM2=>?_;have hs2:=hx2.size;generalize hg:w.heap.size=g at *;have hF2:FW w w2 g n (List.replicate n 0):=⟨hx2,hM2,by omega⟩;have hB2:BS c 0 (List.replicate n 0):=⟨by simp [hnn],λp hp=>⟨λ_=>by rw [←za3 (by simp;omega)];simp,λh=>by omega⟩⟩;refine zhW u23 ?_;have hrs:zcx c<256:=zba (by rw [hnn];omega);refine zam n (λk us w'=>∃ out,us=[.int .i64 (k:Int)]∧k≤n∧FW w w' g n out∧BS c k out) 0 (z0 _) ⟨_,rfl,z0 _,hF2,hB2⟩ ?_;rintro k mk u w3 hkm ⟨out,hu,hkl,hF3,hB3⟩;try replace hu:=zbi hu
 rw [hu];have hol:=hB3.1;refine zag ?_;refine br (λhlt=>?_) (λhge=>?_)
 · have hk:k<n:=by omega
   refine NIL.mk rfl ?_;refine zab zgj ?_;refine zad ty3 hW.roots (e0.t hF3.ext) λ_=>?_;refine (zeT (m:=zcx c) (i:=k) (by omega) (by omega)).mono ?_;rintro _ w4 ⟨hx4,rfl⟩;have hF4:=hF3.step hx4
   have hbit:(zcx c).testBit k=true↔RootP c k:=by
     unfold zcx;rw [zaT];exact ⟨λh=>h.2,λh=>⟨by omega,h⟩⟩
   refine zaX ?_;refine zbz (λhf=>?_) (λhf=>?_)
   · have hnr:¬RootP c k:=λh=>by rw [hbit.2 h] at hf;cases hf
     refine zbE (α:=Int) rfl u23 ty3 hk ?_;refine za9 (α:=Int) rfl ty3 hF4.mine (by rw [zaf];omega) hk (zbx (v:=63) (by omega)) λw5 hc5 hm5=>?_;have hF5:=hF4.set (v:=63) hc5 hm5;refine zas ?_;refine ⟨mk-1,by omega,k+1,by omega,_,rfl,by omega,hF5,by simp [hol],λp hp=>?_⟩;rw [zb3 (by rw [hol,hnn];exact hk)];have:=hB3.2 p hp;by_cases e:k=p
     · subst e
       exact ⟨λh=>absurd ⟨by omega,hnr⟩ h,λ_ _=>by rw [if_pos rfl]⟩
     rw [if_neg e];exact ⟨λh=>this.1 λh2=>h ⟨by omega,h2.2⟩,λh=>this.2 (by omega)⟩
   have hr:RootP c k:=hbit.1 (by simpa using hf);refine zas ?_;refine ⟨mk-1,by omega,k+1,by omega,_,rfl,by omega,hF4,hol,λp hp=>?_⟩;have:=hB3.2 p hp;by_cases e:k=p
   · subst e
     exact ⟨λ_=>this.1 λh=>h.2 hr,λ_ h=>absurd hr h⟩
   exact ⟨λh=>this.1 λh2=>h ⟨by omega,h2.2⟩,λh=>this.2 (by omega)⟩
 have hk:k=n:=by omega
 rw [hk,←hnn] at hB3;have hBI:=hB3.fin hc;clear hF2 hM2 hB2 hu hkm hB3;have hus:zdT c<256:=zba (by rw [hnn];omega);refine LOOPI.mk (λm us w'=>∃ (ag:Bool) (out:List Nat),us=[.bool ag]∧m=out.sum+(if ag then 1 else 0)∧FW w w' g n out∧BI c out∧(ag=false→∀ p i,UsedP c p→zaG c p i→(zal c i).op=4→CL c out p i)) (out.sum+1) ⟨true,out,rfl,rfl,hF3,hBI,λe=>by cases e⟩ ?_;rintro m u w6 ⟨ag,out,hu,hm,hF6,hB6,hsh⟩;try replace hu:=zbi hu
 rw [hu];refine zbz (λhag=>?_) (λhag=>?_)
 case refine_2=>rw [hB6.fin hc (hsh hag)] at hF6;have hoo:=hF6.own;rw [hg] at hoo;exact ⟨hF6.ext,hoo⟩
 rw [hag,if_pos rfl] at hm;refine NIL.mk rfl ?_;refine zab zgk ?_;refine zad ty3 hW.used (e0.t hF6.ext) λ_=>?_;refine (zcU (m:=zdT c) (by omega)).mono ?_;rintro v42 w7 ⟨hx7,ho7⟩;unfold zdT at ho7;rw [zdE (by rw [hnn];omega)] at ho7;have hF7:=hF6.step hx7;have hg6:=hF6.lt;have hL:∀ p,p∈zaY c.procs.length (UsedP c)↔UsedP c p:=λp=>by rw [zaJ];exact ⟨λh=>h.2,λh=>⟨h.lt hc,h⟩⟩
 have hLl:(zaY c.procs.length (UsedP c)).length≤8:=Nat.le_trans za0 (by rw [hnn];omega);generalize zaY c.procs.length (UsedP c)=L at *;have hO7:=ho7.toI;generalize hlo:w6.heap.size=lo at *;generalize hhi:w7.heap.size=hi at *;refine zae u23 ho7.is ?_;rw [zaf];refine zam L.length (λk us w'=>∃ (ag:Bool) (out':List Nat),us=[.bool ag,.int .i64 (k:Int)]∧k≤L.length∧FW w w' g n out'∧OwnI lo hi w' v42 (zaI L)∧BQ c out ag out' (λp i=>p∈L.take k)) 0 (z0 _) ⟨false,out,rfl,z0 _,hF7,hO7,hB6,λe=>(by cases e),λ_=>⟨rfl,λp i h=>by simp at h⟩⟩ ?_;rintro k mk u w8 hkm ⟨ag8,out8,hu,hkl,hF8,hO8,hQ8⟩;obtain ⟨hu1,hu2⟩:=zbL hu;clear hu;rw [hu1,hu2];refine zag ?_;refine br (λhlt=>?_) (λhge=>?_)
 case refine_2=>
   refine ⟨out8.sum+(if ag8 then 1 else 0),?_,ag8,out8,rfl,rfl,hF8,hQ8.bi,λe p i hu hl ho=>?_⟩
   · cases ag8 with
     | true=>have:=hQ8.yes rfl;simp;omega
     | false=>rw [(hQ8.no rfl).1];simp;omega
   have:=hQ8.no e;rw [this.1];exact this.2 p i (by rw [List.take_of_length_le (by omega)];exact (hL p).2 hu) hu hl ho
 have hk:k<L.length:=by omega
 refine zac u23 ty3 (i:=k) hO8.is (by rw [zaf];exact hk) λb2 o2 hA2=>?_;rw [zaP] at hA2;refine zad ty3 hA2 (Ext.refl _) λ_=>?_;have htk:=λx=>zbg hk (x:=x);have hup:=(hL L[k]).1 (List.getElem_mem hk);generalize L[k]=p at *;have hpn:=hup.lt hc;have hpe:p<c.entry.length:=by rw [hc.2.1.1];exact hpn
 have hl8:=hQ8.bi.len;refine zac u23 ty3 (i:=p) hF8.mine.is (by rw [zaf,hl8];exact hpn) λb3 o3 hA3=>?_;rw [zaL] at hA3;refine zad ty3 hA3 (Ext.refl _) λ_=>?_;have hh64:=hQ8.bi.lt0 p;have hhb:∀ l,l<6→(zax out8 p).testBit l=false→LostM c (tK (zcV c)) (tG (zcV c)) p none l:=λl hl hb=>hQ8.bi.snd p l hpn hl hb;have hhz:ag8=false→zax out8 p=zax out p:=λe=>by rw [(hQ8.no e).1]
 generalize zax out8 p=hh at *;refine (zoj hW.wl (e0.t hF8.ext) h1 (e1.trans hF8.ext) hc hTR hpn hh64).mono ?_;rintro v55 w9 ⟨hx9,ho9⟩;have hF9:=hF8.step hx9;have hO9:=hO8.ext hx9;have hg8:=hF8.lt;refine (zfM hW.wl (e0.t hF9.ext) hc hpn).mono ?_;rintro v58 w10 ⟨hx10,ho10⟩;have hF10:=hF9.step hx10;have hO10:=hO9.ext hx10;have hg9:=hF9.lt;have hA10:=ho9.toI.ext hx10;have hM:∀ i,i∈zaY c.ins.length (zaG c p)↔zaG c p i:=λi=>by rw [zaJ];exact ⟨λh=>h.2,λh=>⟨(zbJ hc hpe h).1,h⟩⟩
 have hMl:(zaY c.ins.length (zaG c p)).length≤1500:=Nat.le_trans za0 hil;generalize zaY c.ins.length (zaG c p)=M at *;have hLv10:=ho10.toI;generalize hl9:w9.heap.size=lo9 at *;generalize hl10:w10.heap.size=hi10 at *;generalize hl8':w8.heap.size=lo8 at *;refine zae u23 ho10.is ?_;rw [zaf];have hfl:(zcc c (zcV c) p hh).length=c.ins.length:=zdM _ _ _ _;have hf64:=zhc (c:=c) (T:=zcV c) (p:=p) (h:=hh);refine zam M.length (λj us w'=>∃ (ag:Bool) (out':List Nat),us=[.bool ag,.int .i64 (j:Int)]∧j≤M.length∧FW w w' g n out'∧OwnI lo hi w' v42 (zaI L)∧OwnI lo8 lo9 w' v55 (zaI (zcc c (zcV c) p hh))∧OwnI lo9 hi10 w' v58 (zaI M)∧BQ c out ag out' (λq i=>q∈L.take k∨(q=p∧i∈M.take j))∧(ag=false→hh=zax out p)) 0 (z0 _) ⟨ag8,out8,rfl,z0 _,hF10,hO10,hA10,hLv10,hQ8.mono λq i _ _ _ h=>h.elim id λh=>by simp at h,hhz⟩ ?_;rintro j mj u w11 hjm ⟨ag11,out11,hu,hjl,hF11,hO11,hA11,hLv11,hQ11,hz11⟩;obtain ⟨hu1,hu2⟩:=zbL hu;clear hu;rw [hu1,hu2];refine zag ?_;refine br (λhlt=>?_) (λhge=>?_)
 case refine_2=>
   refine zas ?_;refine ⟨mk-1,by omega,k+1,by omega,ag11,out11,rfl,by omega,hF11,hO11,hQ11.mono λq i hu hl ho h=>?_⟩;rcases (htk q).1 h with h | rfl
   · exact .inl h
   exact .inr ⟨rfl,by rw [List.take_of_length_le (by omega)];exact (hM i).2 hl⟩
 have hj:j<M.length:=by omega
 refine zac u23 ty3 (i:=j) hLv11.is (by rw [zaf];exact hj) λb4 o4 hA4=>?_;rw [zaP] at hA4;refine zad ty3 hA4 (Ext.refl _) λ_=>?_;have htj:=λx=>zbg hj (x:=x);have hiv:=(hM M[j]).1 (List.getElem_mem hj);generalize M[j]=i at *;have hin:=(zbJ hc hpe hiv).1;refine NIL.mk rfl ?_;refine zab zaZ ?_;refine zab zaD ?_;refine zaa zcu (zai hW.wl.code) (e0.t hF11.ext) λv68 h68=>?_;refine zac u30 zaO h68 hin λb5 o5 hA5=>?_;rw [zaz] at hA5;refine zaa zaO hA5 (e0.t hF11.ext) λv71 h71=>?_;refine zb7 zfx rfl zaO rfl h71 (e0.t hF11.ext) λw12 hx12 hA12 hV12=>?_;have hx13:=zaj w12;have hx123:=hx12.t hx13;have hF13:=hF11.step hx123;have hO13:=hO11.ext hx123;have hA13:=hA11.ext hx123;have hLv13:=hLv11.ext hx123;generalize World.drew1 w12=w13 at *;refine zab zaM ?_;refine zad ty3 (zav hA12) hx13 λ_=>?_;refine zao ?_
 have hno:¬(zal c i).op=4→BQ c out ag11 out11 (λq i=>q∈L.take k∨(q=p∧i∈M.take (j+1))):=λhn=>hQ11.mono λq i' _ _ ho h=>h.imp id λ⟨h1,h2⟩=>⟨h1,by
   rcases (htj i').1 h2 with h | rfl
   · exact h
   exact absurd ho hn⟩
 refine br (λc4=>?_) (λc4=>?_)
 case refine_2=>refine zas ?_;exact ⟨mj-1,by omega,j+1,by omega,ag11,out11,rfl,by omega,hF13,hO13,hA13,hLv13,hno c4,hz11⟩
 obtain ⟨hag4,hagn⟩:=zbZ hc hin (.inl c4);have hl11:=hQ11.bi.len;have hset:=λD'=>hQ11.set (D':=D') hc hup hiv c4 hhb
 have hskip:=hQ11.skip (D':=λq i=>q∈L.take k∨(q=p∧i∈M.take (j+1))) (p:=p) (i:=i) hz11 λq j' h=>by
   rcases h with h | ⟨h1,h2⟩
   · exact .inl (.inl h)
   rcases (htj j').1 h2 with h | h
   · exact .inl (.inr ⟨h1,h⟩)
   exact .inr ⟨h1,h⟩
 have hq64:=hQ11.bi.lt0 (agN c i);have ha64:=zcY hf64 i
 have hrO:∀ {w':World} {K:Value→Prop} (hF:FW w w' g n out11) (k:K (.int .i64 (zax out11 (agN c i):Int))),RD tp (Instr.indexAt 23 (.slice (some ⟨g,0,none⟩) n n) (.int .i64 (agN c i:Int))) w' λx37=>RD tp (Instr.loadAt 3 x37) w' K:=λhF k=>by
   refine zac u23 ty3 (i:=agN c i) hF.mine.is (by rw [zaf,hl11];exact hagn) λb1 o1 hA1=>?_;rw [zaL] at hA1;exact zad ty3 hA1 (Ext.refl _) λ_=>k
 have hrA:∀ {w':World} {K:Value→Prop} (hA:OwnI lo8 lo9 w' v55 (zaI (zcc c (zcV c) p hh))) (k:K (.int .i64 (zax (zcc c (zcV c) p hh) i:Int))),RD tp (Instr.indexAt 23 v55 (.int .i64 (i:Int))) w' λx37=>RD tp (Instr.loadAt 3 x37) w' K:=λhA k=>by
   refine zac u23 ty3 (i:=i) hA.is (by rw [zaf,hfl];exact hin) λb1 o1 hA1=>?_;rw [zaL] at hA1;exact zad ty3 hA1 (Ext.refl _) λ_=>k
 refine zab zaK ?_;refine zad ty3 (zat hA12) hx13 λ_=>?_;rw [hag4];refine hrO hF13 ?_;refine hrA hA13 ?_;refine zdW (by omega) (by omega) ?_;refine zab zaK ?_;refine zad ty3 (zat hA12) hx13 λ_=>?_;rw [hag4];refine hrO hF13 ?_;refine zaB ?_;refine br (λhne=>?_) (λheq=>?_)
 · have hx14:=zaj w13
   have hF14:=hF13.step hx14;have hO14:=hO13.ext hx14;have hA14:=hA13.ext hx14;have hLv14:=hLv13.ext hx14;generalize World.drew1 w13=w14 at *;refine zab zaK ?_;refine zad ty3 (zat hA12) (hx13.t hx14) λ_=>?_;rw [hag4];refine hrO hF14 ?_;refine hrA hA14 ?_;refine zdW (by omega) (by omega) ?_;have hvl:=Nat.and_le_left (n:=zax out11 (agN c i)) (m:=zax (zcc c (zcV c) p hh) i);refine zbE (α:=Int) rfl u23 ty3 (by omega) ?_;refine za9 (α:=Int) rfl ty3 hF14.mine (by rw [zaf,hl11,hnn]) (by omega) (zbx (v:=zax out11 (agN c i) &&& zax (zcc c (zcV c) p hh) i) (by omega)) λw15 hc15 hm15=>?_;have hF15:=hF14.set (v:=zax out11 (agN c i) &&& zax (zcc c (zcV c) p hh) i) hc15 hm15;have hc15':=zen hc15;refine zas ?_;exact ⟨mj-1,by omega,j+1,by omega,true,_,rfl,by omega,hF15,hO14.chg hc15' (by omega),hA14.chg hc15' (by omega),hLv14.chg hc15' (by omega),hset _ λe=>hne (by rw [e]),λe=>by cases e⟩
 refine zas ?_;exact ⟨mj-1,by omega,j+1,by omega,ag11,out11,rfl,by omega,hF13,hO13,hA13,hLv13,hskip (Int.ofNat_inj.1 (Decidable.not_not.1 heq)),hz11⟩
def F208 (a0 a1:Value) (w:World) (R:VW):Prop:=
 oX 32 a0 w λx2 w=>
 rL 32 x2 w λx16=>
 cL 151 [x16] w λx17 w=>
 rL 32 x2 w λx18=>
 cL 209 [x18] w λx19 w=>
 oP (Instr.buildSlice 23 0 #[]) w λx20 w=>
 LOOPI [7,8] [x20,(iV 0)] w λu5 w n5=>
 rF 32 x2 2 w λx22=>
 rL 22 x22 w λx23=>
 rN 22 3 x23 w λx24=>
 rC (u5 8) x24 w λx25=>
 BR x25
 (rX 101 x17 (u5 8) w λx30=>
 rL 4 x30 w λx31=>
 BR x31
 (oP (bS 23 (iV 0)) w λx34 w=>
 oP (aP 23 (u5 7) x34) w λx35 w=>
 rI (u5 8) w λx27=>
 n5 [x35,x27] w)
 (oP (bS 23 (iV 63)) w λx34 w=>
 oP (aP 23 (u5 7) x34) w λx35 w=>
 rI (u5 8) w λx27=>
 n5 [x35,x27] w))
 (LOOPI [10] [vT] w λu12 w n12=>
 BR (u12 10)
 (LOOPI [10,11] [vF,(iV 0)] w λu15 w n15=>
 rF 32 x2 2 w λx38=>
 rL 22 x38 w λx39=>
 rN 22 3 x39 w λx40=>
 rC (u15 11) x40 w λx41=>
 BR x41
 (rX 101 x19 (u15 11) w λx46=>
 rL 4 x46 w λx47=>
 rT x47 w λx48=>
 BR x48
 (rI (u15 11) w λx43=>
 n15 [(u15 10),x43] w)
 ((λw=>rL 32 x2 w λx49=>
 rX 23 (u5 7) (u15 11) w λx54=>
 rL 3 x54 w λx55=>
 cL 210 [x49,a1,(u15 11),x55] w λx56 w=>
 rL 32 x2 w λx57=>
 cL 234 [x57,(u15 11)] w λx59 w=>
 rF 32 x2 3 w λx60=>
 rL 23 x60 w λx61=>
 rX 23 x61 (u15 11) w λx63=>
 rL 3 x63 w λx64=>
 LOOPI [10,14] [(u15 10),x64] w λu21 w n21=>
 rL 32 x2 w λx66=>
 cL 124 [x66,(u15 11)] w λx68 w=>
 rB .leq 3 T0 T0 (u21 14) x68 w λx69=>
 BR x69
 (rF 32 x2 4 w λx72=>
 rL 30 x72 w λx73=>
 rX 30 x73 (u21 14) w λx75=>
 rL 111 x75 w λx76=>
 oP (aL 111) w λx15 w=>
 oS 111 x15 x76 w λw=>
 (λw=>rX 101 x59 (u21 14) w λx79=>
 rL 4 x79 w λx80=>
 BR x80
 (rF 111 x15 0 w λx82=>
 rL 3 x82 w λx83=>
 rQ x83 (iV 4) w λx84=>
 BR x84
 (rF 111 x15 1 w λx88=>
 rL 3 x88 w λx89=>
 rX 23 (u5 7) x89 w λx90=>
 rL 3 x90 w λx91=>
 rX 23 x56 (u21 14) w λx94=>
 rL 3 x94 w λx95=>
 rB .and 3 T0 T0 x91 x95 w λx96=>
 rF 111 x15 1 w λx98=>
 rL 3 x98 w λx99=>
 rX 23 (u5 7) x99 w λx100=>
 rL 3 x100 w λx101=>
 rB .neq 3 T0 T0 x96 x101 w λx102=>
 BR x102
 ((λw=>rF 111 x15 1 w λx105=>
 rL 3 x105 w λx106=>
 rF 111 x15 1 w λx108=>
 rL 3 x108 w λx109=>
 rX 23 (u5 7) x109 w λx110=>
 rL 3 x110 w λx111=>
 rX 23 x56 (u21 14) w λx114=>
 rL 3 x114 w λx115=>
 rB .and 3 T0 T0 x111 x115 w λx116=>
 rX 23 (u5 7) x106 w λx117=>
 oS 3 x117 x116 w λw=>
 rI (u21 14) w λx71=>
 n21 [vT,x71] w) (World.drew1 w))
 (rI (u21 14) w λx71=>
 n21 [(u21 10),x71] w))
 (rI (u21 14) w λx71=>
 n21 [(u21 10),x71] w))
 (rI (u21 14) w λx71=>
 n21 [(u21 10),x71] w)) (World.drew1 w))
 (rI (u15 11) w λx43=>
 n15 [(u21 10),x43] w)) (World.drew1 w)))
 (n12 [(u15 10)] w))
 (R (u5 7) w))
theorem F208_call {a0 a1 w R} (h:F208 a0 a1 w R):cL 208 [a0,a1] w R:=co (g:=(kf [] [(5,68717380480,[7,8]),(12,332306998946228968225951696350673920,[10]),(15,332306998946228968225951627631197184,[10,11]),(21,332306998946228931332463617651033088,[10,14])] [(18,[0,1,2,3,4,5,6,7,8],0),(24,[0,1,2,3,4,5,6,7,8,9,10,11,12,13,14,15,16,17,18,19,20,21,22,23,24,25,26],0),(25,[0,1,2,3,4,5,6,7,8,9,10,11,12,13,14],0)])) Tryz.func208 h
open Rep (rep)
structure FV (w1 w:World) (g:Nat) (v:Value) (out:List Nat):Prop where
 ext:Ext w1 w
 mine:Mine [g] w v (zaI out)
 g0:w1.heap.size≤g
section
variable {w1 w w':World} {g:Nat} {v:Value} {out:List Nat}
theorem FV.step (h:FV w1 w g v out) (hx:Ext w w'):FV w1 w' g v out:=⟨h.ext.trans hx,h.mine.ext hx,h.g0⟩
theorem FV.lt (h:FV w1 w g v out):g<w.heap.size:=h.mine.lt g (by simp)
theorem FV.own (h:FV w1 w g v out):Own w1.heap.size w v (zaI out):=⟨[g],h.mine,λb hb=>by simp only [List.mem_cons,List.not_mem_nil,or_false] at hb;have:=h.g0;omega⟩
theorem FV.make (ho:Own w1.heap.size w v (zaI out)) (hx:Ext w1 w) (hT:0<out.length):∃ g,FV w1 w g v out:=by
 obtain ⟨F,hm,hF⟩:=ho;obtain ⟨b,o,cap,hv,rfl⟩:=zew hm (by intro e;have:=congrArg List.length e;rw [zaf] at this;simp only [List.length_nil] at this;omega);exact ⟨b,hx,hm,hF b (by simp)⟩
theorem zvG {q m:Nat} {K:World→Prop} (h:FV w1 w g v out) (hq:q<out.length) (hm:m<9223372036854775808) (k:∀ w',FV w1 w' g v (out.set q m)→ChgI g (g+1) w w'→K w') :
   RD tp (Instr.indexAt 23 v (.int .i64 (q:Int))) w λa=>OPU tp (Instr.storeAt 3 a (.int .i64 (m:Int))) w K:=by
 refine zcI u23 ty3 h.mine (by rw [zaf];exact hq) λb o G hL=>?_;refine zcR (upd:=λy=>(zaI out).set q y) (y':=(m:Int)) ty3 hL (zbx hm) λw2 F2 hc2 hm2 hF2=>?_
 have hF:F2=[g]:=by
   obtain ⟨b,o,cap,hv,rfl⟩:=zew hm2 (by intro e;have:=congrArg List.length e;rw [List.length_set,zaf] at this;simp only [List.length_nil] at this;omega);have:=hF2 b (by simp);simpa using this
 subst hF;have hcc:=zen hc2;exact k w2 ⟨h.ext.chgI hcc h.g0,by rw [zff];exact hm2,h.g0⟩ hcc
end
noncomputable def bg0 (c:DCode) (p:Nat):Nat:=@ite _ (RootP c p) (Classical.propDecidable _) 0 63
noncomputable def bgL (c:DCode) (k:Nat):List Nat:=(List.range k).map (bg0 c)
theorem zpA (c:DCode) (k:Nat):zaI (bgL c (k+1))=zaI (bgL c k)++[(bg0 c k:Int)]:=by simp [bgL,zaI,List.range_succ]
theorem zgA (c:DCode) (k:Nat):(bgL c k).length=k:=by simp [bgL]
theorem zwC {c:DCode} (hc:CodeR c):BI c (bgL c c.procs.length):=BI.start hc _ (zgA c _) λp hp=>by
 have:zax (bgL c c.procs.length) p=bg0 c p:=by rw [←za3 (by rw [zgA];exact hp)];simp [bgL]
 rw [this];unfold bg0;exact ⟨λh=>by rw [if_pos h],λh=>by rw [if_neg h]⟩
theorem zlQ {w W0 W1:World} {v0 v1:Value} {c:DCode} (h0:Is W0 v0 c) (e0:Ext W0 w) (h1:Is W1 v1 (zgg (zcV c))) (e1:Ext W1 w) (hc:CodeR c) :
   CALL tp 208 [v0,v1] w λr w'=>Ext w w'∧Own w.heap.size w' r (zaI (zvv c)):=by
 refine F208_call ?_;unfold F208;have h8:=hc.1.procs8;have hil:=hc.f.ins;have hTR:=zf0 c;have hBI:=zwC hc;refine zbj h0 e0 λw0 hx0 hA=>?_;have hs0:=hx0.size;refine zaa zbq hA (Ext.refl _) λv16 h16=>?_;refine (zfk h16 (Ext.refl _) hc).mono ?_;rintro v17 wa ⟨hxa,hoa⟩;have hsa:=hxa.size;refine zaa zbq hA hxa λv18 h18=>?_;refine (zf5 h18 hxa hc).mono ?_;rintro v19 wb ⟨hxb,hob⟩;have hsb:=hxb.size;have hx0b:=hxa.t hxb;have hRo:=hoa.is.ext hxb;have hUs:=hob.is;have hn:c.procs.length=c.procs.length:=rfl;generalize hnn:c.procs.length=n at hn;rw [hnn] at h8;refine zaH (α:=Int) u23 ty3 λa w1 hx1 hr1=>?_;have hs1:=hx1.size;refine zam n (λk us w'=>∃ v,us=[v,.int .i64 (k:Int)]∧k≤n∧Ext wb w'∧RowI wb.heap.size w'.heap.size 3 w' v (zaI (bgL c k))) 0 (z0 _) ⟨_,rfl,z0 _,hx1,by simpa [bgL,zaI] using hr1.mono hs1 (lr _)⟩ ?_;rintro k mk u w3 hkm ⟨v,hu,hkl,hx3,hr3⟩;obtain ⟨hu1,hu2⟩:=zbL hu;clear hu;rw [hu1,hu2];have hs3:=hx3.size;have hx03:=hx0b.t hx3;refine zab zbf ?_;refine zaa zb1 (zau hA) hx03 λv23 h23=>?_;refine zae u22 h23 ?_;rw [hnn];refine zag ?_;refine br (λhlt=>?_) (λhge=>?_)
 · have hk:k<n:=by omega
   refine zac zcy ty4 (i:=k) hRo (by rw [zak];omega) λb2 o2 hA2=>?_;refine zay ty4 hA2 hx3 ?_;have hmk:=zaF (n:=c.procs.length) (p:=RootP c) (i:=k);rw [zaQ (by rw [zak];omega)] at hmk;refine zbz (λhf=>?_) (λhf=>?_)
   · have hb0:bg0 c k=0:=by unfold bg0;rw [if_pos (hmk.1 hf).2]
     refine zbF (lo2:=w3.heap.size) (hi2:=w3.heap.size) (x:=((0:Nat):Int)) u23 ty3 z3 zc3 (by decide) hr3 (by omega) (ownI_int _ _ (by unfold I64;omega)) (by omega) (by omega) (by rw [zan,zaf,zgA];omega) (by rw [zaf,zgA];omega) λv54 w9 hc9 hr9=>?_;refine zas ?_;refine ⟨mk-1,by omega,k+1,by omega,v54,rfl,by omega,hx3.chgI hc9 (lr _),?_⟩;rw [zpA,hb0];exact hr9
   have hb0:bg0 c k=63:=by unfold bg0;rw [if_neg λh=>by rw [hmk.2 ⟨by omega,h⟩] at hf;cases hf]
   refine zbF (lo2:=w3.heap.size) (hi2:=w3.heap.size) (x:=((63:Nat):Int)) u23 ty3 z3 zc3 (by decide) hr3 (by omega) (ownI_int _ _ (by unfold I64;omega)) (by omega) (by omega) (by rw [zan,zaf,zgA];omega) (by rw [zaf,zgA];omega) λv54 w9 hc9 hr9=>?_;refine zas ?_;refine ⟨mk-1,by omega,k+1,by omega,v54,rfl,by omega,hx3.chgI hc9 (lr _),?_⟩;rw [zpA,hb0];exact hr9
 have hk:k=c.procs.length:=by omega
 rw [hk] at hr3;obtain ⟨g,hF3⟩:=FV.make hr3.own.own hx3 (by rw [zgA];omega);generalize bgL c c.procs.length=out at *;clear hr3 hkm;refine LOOPI.mk (λm us w'=>∃ (ag:Bool) (out:List Nat),us=[.bool ag]∧m=out.sum+(if ag then 1 else 0)∧FV wb w' g v out∧BI c out∧(ag=false→∀ p i,UsedP c p→zaG c p i→(zal c i).op=4→CL c out p i)) (out.sum+1) ⟨true,out,rfl,rfl,hF3,hBI,λe=>by cases e⟩ ?_;rintro m u w6 ⟨ag,out,hu,hm,hF6,hB6,hsh⟩;try replace hu:=zbi hu
 rw [hu];refine zbz (λhag=>?_) (λhag=>?_)
 case refine_2=>rw [hB6.fin hc (hsh hag)] at hF6;exact ⟨hx0.t (hx0b.t hF6.ext),hF6.own.mono (by omega)⟩
 rw [hag,if_pos rfl] at hm;refine zam n (λk us w'=>∃ (ag:Bool) (out':List Nat),us=[.bool ag,.int .i64 (k:Int)]∧k≤n∧FV wb w' g v out'∧BQ c out ag out' (λp i=>p<k)) 0 (z0 _) ⟨false,out,rfl,z0 _,hF6,hB6,λe=>(by cases e),λ_=>⟨rfl,λp i h=>by omega⟩⟩ ?_;rintro p mk u w8 hkm ⟨ag8,out8,hu,hkl,hF8,hQ8⟩;obtain ⟨hu1,hu2⟩:=zbL hu;clear hu;rw [hu1,hu2];have hx08:=hx0b.t hF8.ext;refine zab zbf ?_;refine zaa zb1 (zau hA) hx08 λv38 h38=>?_;refine zae u22 h38 ?_;rw [hnn];refine zag ?_;refine br (λhlt=>?_) (λhge=>?_)
 case refine_2=>
   refine ⟨out8.sum+(if ag8 then 1 else 0),?_,ag8,out8,rfl,rfl,hF8,hQ8.bi,λe p' i hu hl ho=>?_⟩
   · cases ag8 with
     | true=>have:=hQ8.yes rfl;simp;omega
     | false=>rw [(hQ8.no rfl).1];simp;omega
   have:=hQ8.no e;rw [this.1];exact this.2 p' i (by have:=hu.lt hc;omega) hu hl ho
 have hpn':p<n:=by omega
 have hpn:p<c.procs.length:=by omega
 have hpe:p<c.entry.length:=by rw [hc.2.1.1];exact hpn
 refine zac zcy ty4 (i:=p) hUs (by rw [zak];omega) λb2 o2 hA2=>?_;refine zay ty4 hA2 hF8.ext ?_;have hmk:=zaF (n:=c.procs.length) (p:=UsedP c) (i:=p);rw [zaQ (by rw [zak];omega)] at hmk;refine zaX ?_;refine zbz (λhf=>?_) (λhf=>?_)
 · have hnu:¬UsedP c p:=λh=>by rw [hmk.2 ⟨hpn,h⟩] at hf;cases hf
   refine zas ?_;refine ⟨mk-1,by omega,p+1,by omega,ag8,out8,rfl,by omega,hF8,hQ8.mono λq i hu _ _ h=>?_⟩;by_cases e:q=p
   · subst e;exact absurd hu hnu
   omega
 have hup:UsedP c p:=(hmk.1 (by simpa using hf)).2;have hxd:=zaj w8;have hF8d:=hF8.step hxd;generalize World.drew1 w8=w8d at *;have hl8:=hQ8.bi.len;refine zaa zbq hA (hx0b.t hF8d.ext) λv49 h49=>?_;refine zac u23 ty3 (i:=p) hF8d.mine.is (by rw [zaf,hl8];exact hpn) λb3 o3 hA3=>?_;rw [zaL] at hA3;refine zad ty3 hA3 (Ext.refl _) λ_=>?_;have hh64:=hQ8.bi.lt0 p;have hhb:∀ l,l<6→(zax out8 p).testBit l=false→LostM c (tK (zcV c)) (tG (zcV c)) p none l:=λl hl hb=>hQ8.bi.snd p l hpn hl hb;have hhz:ag8=false→zax out8 p=zax out p:=λe=>by rw [(hQ8.no e).1]
 generalize zax out8 p=hh at *;refine (zhX h49 (hx0b.t hF8d.ext) h1 (e1.trans (hx0.t (hx0b.t hF8d.ext))) hc hTR hpn hh64).mono ?_;rintro v55 w9 ⟨hx9,ho9⟩;have hF9:=hF8d.step hx9;have hg8:=hF8d.lt;refine zaa zbq hA (hx0b.t hF9.ext) λv57 h57=>?_;refine (zeS h57 (hx0b.t hF9.ext) hc hpe).mono ?_;rintro v58 w10 ⟨hx10,ho10⟩;have hF10:=hF9.step hx10;have hg9:=hF9.lt;have hA10:=ho9.toI.ext hx10;have hLv10:=ho10.toI;generalize hl9:w9.heap.size=lo9 at *;generalize hl10:w10.heap.size=hi10 at *;generalize hl8':w8d.heap.size=lo8 at *;obtain ⟨he1,he2,he3⟩:=zfg hc hpe;obtain ⟨hz1,hz2,hz3⟩:=zdY hc hpn;obtain ⟨_,hez,_⟩:=zkf hc hpe;refine zab za6 ?_;refine zaa za4 (zap hA) (hx0b.t hF10.ext) λv61 h61=>?_;refine zac u23 ty3 h61 hpe λb5 o5 hA5=>?_;rw [zbm hpe,he1] at hA5;refine zad ty3 hA5 (hx0b.t hF10.ext) λ_=>?_;have hfl:(zcc c (zcV c) p hh).length=c.ins.length:=zdM _ _ _ _;have hf64:=zhc (c:=c) (T:=zcV c) (p:=p) (h:=hh)
 have hlz:∀ i,zaG c p i→eN c p≤i∧i≤zN c p:=λi h=>by
   have:=zbJ hc hpe h;exact zn6 hc this.1 hpe this.2
 generalize hE:eN c p=E at *;generalize hZ:zN c p=Z at *;refine zam (Z+1-E) (λj us w'=>∃ (ag:Bool) (out':List Nat),us=[.bool ag,.int .i64 ((E+j:Nat):Int)]∧E+j≤Z+1∧FV wb w' g v out'∧OwnI lo8 lo9 w' v55 (zaI (zcc c (zcV c) p hh))∧OwnI lo9 hi10 w' v58 (zby c.ins.length (zaG c p))∧BQ c out ag out' (λq i=>q<p∨(q=p∧i<E+j))∧(ag=false→hh=zax out p)) 0 (z0 _) ⟨ag8,out8,rfl,by omega,hF10,hA10,hLv10,hQ8.mono λq i _ hl _ h=>h.elim id λ⟨h1,h2⟩=>by subst h1;have:=hlz i hl;omega,hhz⟩ ?_;rintro j mj u w11 hjm ⟨ag11,out11,hu,hjl,hF11,hA11,hLv11,hQ11,hz11⟩;obtain ⟨hu1,hu2⟩:=zbL hu;clear hu;rw [hu1,hu2];have hx11:=hx0b.t hF11.ext;refine zaa zbq hA hx11 λv66 h66=>?_;refine (zeg h66 hx11 (p:=(p:Int)) (by omega) (by omega) hc.2.1.nonneg).mono ?_;rintro _ w12 ⟨hx12,rfl⟩;rw [hz2];have hF12:=hF11.step hx12;have hA12:=hA11.ext hx12;have hLv12:=hLv11.ext hx12;have hx012:=hx0b.t hF12.ext;refine zdV ?_;refine br (λhlt=>?_) (λhge=>?_)
 case refine_2=>
   refine zas ?_;refine ⟨mk-1,by omega,p+1,by omega,ag11,out11,rfl,by omega,hF12,hQ11.mono λq i hu hl ho h=>?_⟩;by_cases e:q=p
   · subst e
     have:=hlz i hl;exact .inr ⟨rfl,by omega⟩
   exact .inl (by omega)
 have hin:E+j<c.ins.length:=by omega
 generalize hij:E+j=i at *;refine zab zaD ?_;refine zaa zcu (zai hA) hx012 λv73 h73=>?_;refine zac u30 zaO h73 hin λb6 o6 hA6=>?_;rw [zaz] at hA6;refine zaa zaO hA6 hx012 λv76 h76=>?_;refine zb7 zfx rfl zaO rfl h76 hx012 λw12b hx12b hAI hV12=>?_;have hx13:=zaj w12b;have hx123:=hx12b.t hx13;have hF13:=hF12.step hx123;have hA13:=hA12.ext hx123;have hLv13:=hLv12.ext hx123;generalize World.drew1 w12b=w13 at *;have hml:=zaF (n:=c.ins.length) (p:=zaG c p) (i:=i);rw [zaQ (by rw [zak];exact hin)] at hml
 have hno:¬(zaG c p i∧(zal c i).op=4)→BQ c out ag11 out11 (λq i'=>q<p∨(q=p∧i'<i+1)):=λhn=>hQ11.mono λq i' _ hl ho h=>h.imp id λ⟨h1,h2⟩=>⟨h1,by
   by_cases e:i'=i
   · subst e;subst h1;exact absurd ⟨hl,ho⟩ hn
   omega⟩
 have hnext:∀ {w':World} {ag':Bool} {out':List Nat} (hF:FV wb w' g v out') (hA:OwnI lo8 lo9 w' v55 (zaI (zcc c (zcV c) p hh))) (hL:OwnI lo9 hi10 w' v58 (zby c.ins.length (zaG c p))) (hQ:BQ c out ag' out' (λq i'=>q<p∨(q=p∧i'<i+1))) (hz:ag'=false→hh=zax out p),
     ∃ m',m'<mj∧∃ k',k'+m'=Z+1-E∧∃ (ag:Bool) (out'':List Nat),[Value.bool ag',Value.int .i64 ((i+1:Nat):Int)]=[.bool ag,.int .i64 ((E+k':Nat):Int)]∧E+k'≤Z+1∧FV wb w' g v out''∧OwnI lo8 lo9 w' v55 (zaI (zcc c (zcV c) p hh))∧OwnI lo9 hi10 w' v58 (zby c.ins.length (zaG c p))∧BQ c out ag out'' (λq i=>q<p∨(q=p∧i<E+k'))∧(ag=false→hh=zax out p):=λ{w' ag' out'} hF hA hL hQ hz=>
   ⟨mj-1,by omega,j+1,by omega,ag',out',by rw [show i+1=E+(j+1) by omega],by omega,hF,hA,hL,by rw [show E+(j+1)=i+1 by omega];exact hQ,hz⟩
 refine zac zcy ty4 (i:=i) hLv13.is (by rw [zak];exact hin) λb7 o7 hA7=>?_;refine zay ty4 hA7 (Ext.refl _) ?_;refine zbz (λhf7=>?_) (λhf7=>?_)
 case refine_2=>refine zas ?_;exact hnext hF13 hA13 hLv13 (hno λh=>by rw [hml.2 ⟨hin,h.1⟩] at hf7;cases hf7) hz11
 have hiv:zaG c p i:=(hml.1 hf7).2;refine zab zaM ?_;refine zad ty3 (zav hAI) hx13 λ_=>?_;refine zao ?_;refine br (λc4=>?_) (λc4=>?_)
 case refine_2=>refine zas ?_;exact hnext hF13 hA13 hLv13 (hno λh=>c4 h.2) hz11
 obtain ⟨hag4,hagn⟩:=zbZ hc hin (.inl c4);have hl11:=hQ11.bi.len;have hset:=λD'=>hQ11.set (D':=D') hc hup hiv c4 hhb
 have hskip:=hQ11.skip (D':=λq i'=>q<p∨(q=p∧i'<i+1)) (p:=p) (i:=i) hz11 λq j' h=>by
   rcases h with h | ⟨h1,h2⟩
   · exact .inl (.inl h)
   by_cases e:j'=i
   · exact .inr ⟨h1,e⟩
   exact .inl (.inr ⟨h1,by omega⟩)
 have hq64:=hQ11.bi.lt0 (agN c i);have ha64:=zcY hf64 i
 have hrO:∀ {w':World} {K:Value→Prop} (hF:FV wb w' g v out11) (k:K (.int .i64 (zax out11 (agN c i):Int))),RD tp (Instr.indexAt 23 v (.int .i64 (agN c i:Int))) w' λx37=>RD tp (Instr.loadAt 3 x37) w' K:=λhF k=>by
   refine zac u23 ty3 (i:=agN c i) hF.mine.is (by rw [zaf,hl11];exact hagn) λb1 o1 hA1=>?_;rw [zaL] at hA1;exact zad ty3 hA1 (Ext.refl _) λ_=>k
 have hrA:∀ {w':World} {K:Value→Prop} (hA:OwnI lo8 lo9 w' v55 (zaI (zcc c (zcV c) p hh))) (k:K (.int .i64 (zax (zcc c (zcV c) p hh) i:Int))),RD tp (Instr.indexAt 23 v55 (.int .i64 (i:Int))) w' λx37=>RD tp (Instr.loadAt 3 x37) w' K:=λhA k=>by
   refine zac u23 ty3 (i:=i) hA.is (by rw [zaf,hfl];exact hin) λb1 o1 hA1=>?_;rw [zaL] at hA1;exact zad ty3 hA1 (Ext.refl _) λ_=>k
 refine zab zaK ?_;refine zad ty3 (zat hAI) hx13 λ_=>?_;rw [hag4];refine hrO hF13 ?_;refine hrA hA13 ?_;refine zdW (by omega) (by omega) ?_;refine zab zaK ?_;refine zad ty3 (zat hAI) hx13 λ_=>?_;rw [hag4];refine hrO hF13 ?_;refine zaB ?_;refine br (λhne=>?_) (λheq=>?_)
 · have hx14:=zaj w13
   have hF14:=hF13.step hx14;have hA14:=hA13.ext hx14;have hLv14:=hLv13.ext hx14;generalize World.drew1 w13=w14 at *;refine zab zaK ?_;refine zad ty3 (zat hAI) (hx13.t hx14) λ_=>?_;rw [hag4];refine zab zaK ?_;refine zad ty3 (zat hAI) (hx13.t hx14) λ_=>?_;rw [hag4];refine hrO hF14 ?_;refine hrA hA14 ?_;refine zdW (by omega) (by omega) ?_;have hvl:=Nat.and_le_left (n:=zax out11 (agN c i)) (m:=zax (zcc c (zcV c) p hh) i);refine zvG (m:=zax out11 (agN c i) &&& zax (zcc c (zcV c) p hh) i) hF14 (by rw [hl11];exact hagn) (by omega) λw15 hF15 hc15'=>?_;refine zas ?_;exact hnext hF15 (hA14.chg hc15' (by omega)) (hLv14.chg hc15' (by omega)) (hset _ λe=>hne (by rw [e])) (λe=>by cases e)
 refine zas ?_;exact hnext hF13 hA13 hLv13 (hskip (Int.ofNat_inj.1 (Decidable.not_not.1 heq))) hz11
def F158 (a0:Value) (w:World) (R:VW):Prop:=
 cL 215 [a0] w λx12 w=>
 cL 216 [a0,x12] w λx15 w=>
 NIL a0 <|
 rF 114 a0 0 w λx18=>
 rF 32 x18 4 w λx19=>
 rL 30 x19 w λx20=>
 rN 30 3 x20 w λx21=>
 oP (Instr.makeSlice 23 x21 x21) w λx22 w=>
 rN 23 3 x22 w λx24=>
 LOOPI [25] [(iV 0)] w λu5 w n5=>
 rC (u5 25) x24 w λx26=>
 BR x26
 (rX 23 x22 (u5 25) w λx30=>
 oS 3 x30 (iV 63) w λw=>
 rI (u5 25) w λx31=>
 n5 [x31] w)
 (NIL a0 <|
 rF 114 a0 6 w λx34=>
 rL 3 x34 w λx35=>
 cL 66 [x35] w λx36 w=>
 rN 23 3 x36 w λx37=>
 LOOPI [38] [(iV 0)] w λu10 w n10=>
 rC (u10 38) x37 w λx39=>
 BR x39
 (rX 23 x36 (u10 38) w λx40=>
 rL 3 x40 w λx41=>
 rX 23 x15 x41 w λx47=>
 rL 3 x47 w λx48=>
 cL 217 [a0,x12,x41,x48] w λx49 w=>
 NIL a0 <|
 rF 114 a0 0 w λx52=>
 rF 32 x52 3 w λx53=>
 rL 23 x53 w λx54=>
 rX 23 x54 x41 w λx56=>
 rL 3 x56 w λx57=>
 LOOPI [10] [x57] w λu14 w n14=>
 NIL a0 <|
 rF 114 a0 0 w λx61=>
 rL 32 x61 w λx62=>
 cL 134 [x62,x41] w λx64 w=>
 rC (u14 10) x64 w λx65=>
 BR x65
 (rX 23 x49 (u14 10) w λx72=>
 rL 3 x72 w λx73=>
 rX 23 x22 (u14 10) w λx74=>
 oS 3 x74 x73 w λw=>
 rI (u14 10) w λx67=>
 n14 [x67] w)
 (rI (u10 38) w λx75=>
 n10 [x75] w))
 (R x22 w))
theorem F158_call {a0 w R} (h:F158 a0 w R):cL 158 [a0] w R:=co (g:=(kf [] [(5,4261412928,[25]),(10,75557863725639445513984,[38]),(14,37778643632581009998848,[10])] [])) Tryz.func158 h
def F150 (a0:Value) (w:World) (R:VW):Prop:=
 oX 32 a0 w λx1 w=>
 rL 32 x1 w λx10=>
 cL 207 [x10] w λx11 w=>
 rL 32 x1 w λx12=>
 cL 208 [x12,x11] w λx14 w=>
 rL 32 x1 w λx15=>
 cL 209 [x15] w λx16 w=>
 rF 32 x1 4 w λx17=>
 rL 30 x17 w λx18=>
 rN 30 3 x18 w λx19=>
 oP (Instr.makeSlice 23 x19 x19) w λx20 w=>
 LOOPI [7] [(iV 0)] w λu6 w n6=>
 rF 32 x1 2 w λx22=>
 rL 22 x22 w λx23=>
 rN 22 3 x23 w λx24=>
 rC (u6 7) x24 w λx25=>
 BR x25
 ((λw=>rL 32 x1 w λx28=>
 rX 23 x14 (u6 7) w λx33=>
 rL 3 x33 w λx34=>
 cL 210 [x28,x11,(u6 7),x34] w λx35 w=>
 rF 32 x1 3 w λx36=>
 rL 23 x36 w λx37=>
 rX 23 x37 (u6 7) w λx39=>
 rL 3 x39 w λx40=>
 LOOPI [9] [x40] w λu10 w n10=>
 rL 32 x1 w λx42=>
 cL 124 [x42,(u6 7)] w λx44 w=>
 rB .leq 3 T0 T0 (u10 9) x44 w λx45=>
 BR x45
 (rX 23 x20 (u10 9) w λx50=>
 oS 3 x50 (iV 63) w λw=>
 rX 101 x16 (u6 7) w λx53=>
 rL 4 x53 w λx54=>
 BR x54
 (rX 23 x35 (u10 9) w λx59=>
 rL 3 x59 w λx60=>
 rX 23 x20 (u10 9) w λx61=>
 oS 3 x61 x60 w λw=>
 rI (u10 9) w λx47=>
 n10 [x47] w)
 (rI (u10 9) w λx47=>
 n10 [x47] w))
 (rI (u6 7) w λx27=>
 n6 [x27] w)) (World.drew1 w))
 (R x20 w)
theorem F150_call {a0 w R} (h:F150 a0 w R):cL 150 [a0] w R:=co (g:=(kf [] [(6,4611686018425291648,[7]),(10,4611683819404132864,[9])] [(8,[0,1,2,3,4,5,6,7,8],0)])) Tryz.func150 h
open Rep (rep)
def MS (c:DCode) (out:List Nat) (D:Nat→Prop):Prop:=out.length=c.ins.length∧∀ i,i<c.ins.length→D i→zax out i=zeW c i
theorem MS.set {c:DCode} {out:List Nat} {D D':Nat→Prop} (h:MS c out D) {i v:Nat} (hi:i<c.ins.length) (hv:v=zeW c i) (hD:∀ j,D' j→D j∨j=i):MS c (out.set i v) D':=by
 refine ⟨by simp [h.1],λj hj hd=>?_⟩;rw [zb3 (by rw [h.1];exact hi)];by_cases e:i=j
 · subst e;rw [if_pos rfl];exact hv
 rw [if_neg e];exact h.2 j hj ((hD j hd).resolve_right λe'=>e e'.symm)
theorem MS.mono {c:DCode} {out:List Nat} {D D':Nat→Prop} (h:MS c out D) (hD:∀ j,j<c.ins.length→D' j→D j):MS c out D':=⟨h.1,λj hj hd=>h.2 j hj (hD j hj hd)⟩
theorem MS.fin {c:DCode} {out:List Nat} {D:Nat→Prop} (h:MS c out D) (hD:∀ j,j<c.ins.length→D j):out=zhO c:=by
 refine List.ext_getElem (by rw [h.1,zhf]) λi h1 h2=>?_;have hi:i<c.ins.length:=by rw [←h.1];exact h1
 rw [za3 h1,za3 h2,ztR hi,h.2 i hi (hD i hi)]
theorem zdO {c:DCode} (hc:CodeR c) {i:Nat} (hi:i<c.ins.length):∃ p,p<c.procs.length∧zaw c i=p∧eN c p≤i∧i≤zN c p:=by
 obtain ⟨q,hq,h1,h2,h3⟩:=hc.f.find hc.1.procs8.2 (a:=(i:Int)) (by omega) (by omega);have hin:=zn6 hc hi hq h3;exact ⟨q,by have:=hc.2.1.1;omega,h3,hin⟩
theorem zvH {w W0:World} {b:Nat} {c:DCode} (hW:WAt W0 b c) (e0:Ext W0 w) (hc:CodeR c) :
   CALL tp 158 [.pointer (some ⟨b,0,none⟩)] w λr w'=>Ext w w'∧Own w.heap.size w' r (zaI (zhO c)):=by
 refine F158_call ?_;unfold F158;have h8:=hc.1.procs8;have hil:=hc.f.ins;have hTR:=zf0 c;refine (zqu hW e0 hc).mono ?_;rintro v12 w1 ⟨hx1,ho1⟩;have hs1:=hx1.size;refine (zqv hW (e0.t hx1) ho1.is (Ext.refl _) hc).mono ?_;rintro v15 w2 ⟨hx2,ho2⟩;have hs2:=hx2.size;have hx12:=hx1.t hx2;have e2:=e0.t hx12;have hE2:=ho1.is.ext hx2;have hB2:=ho2.is;refine NIL.mk rfl ?_;refine zab zaZ ?_;refine zab zaD ?_;refine zaa zcu (zai hW.wl.code) e2 λv20 h20=>?_;refine zae u30 h20 ?_;have hn:c.ins.length=c.ins.length:=rfl;generalize hnn:c.ins.length=n at hn;rw [hnn] at hil;have hz0:=(zdY hc h8.2).2.2;refine zdn (by omega) (by omega) λw3 hx3 hM3=>?_;have hs3:=hx3.size;generalize hg:w2.heap.size=g at *;have hF3:FW w2 w3 g n (fil n 0):=⟨hx3,by simpa [fil] using hM3,by omega⟩;refine zhW u23 ?_;refine zam n (λk us w'=>us=[.int .i64 (k:Int)]∧k≤n∧FW w2 w' g n (fil n k)) 0 (z0 _) ⟨rfl,z0 _,hF3⟩ ?_;rintro k mk u w4 hkm ⟨hu,hkl,hF4⟩;try replace hu:=zbi hu
 rw [hu];refine zag ?_;refine br (λhlt=>?_) (λhge=>?_)
 · have hk:k<n:=by omega
   refine zbE (α:=Int) rfl u23 ty3 hk ?_;refine za9 (α:=Int) rfl ty3 hF4.mine (by rw [zaf,zoh hkl]) hk (zbx (v:=63) (by omega)) λw5 hc5 hm5=>?_;have hF5:=hF4.set (v:=63) hc5 hm5;rw [zoi hk] at hF5;refine zas ?_;exact ⟨mk-1,by omega,k+1,by omega,rfl,by omega,hF5⟩
 have hk:k=n:=by omega
 rw [hk,zlO] at hF4
 have hMS:MS c (List.replicate n 63) (λi=>¬UsedP c (zaw c i).toNat):=⟨by simp [hnn],λi hi hd=>by
   rw [←za3 (by simp;omega)];obtain ⟨p,_,h1,_⟩:=zdO hc hi;have hd':¬UsedP c (zaw c i).toNat:=hd;rw [h1,Int.toNat_natCast] at hd';rw [zkC (p:=p) h1 hd'];simp⟩
 generalize List.replicate n 63=out at *;clear hu hkm;have hus:zdT c<256:=zba h8.1;refine NIL.mk rfl ?_;refine zab zgk ?_;refine zad ty3 hW.used (e2.trans hF4.ext) λ_=>?_;refine (zcU (m:=zdT c) (by omega)).mono ?_;rintro v36 w5 ⟨hx5,ho5⟩;unfold zdT at ho5;rw [zdE (by omega)] at ho5;have hF5:=hF4.step hx5;have hg4:=hF4.lt;have hL:∀ p,p∈zaY c.procs.length (UsedP c)↔UsedP c p:=λp=>by rw [zaJ];exact ⟨λh=>h.2,λh=>⟨h.lt hc,h⟩⟩
 have hLl:(zaY c.procs.length (UsedP c)).length≤8:=Nat.le_trans za0 h8.1;generalize zaY c.procs.length (UsedP c)=L at *;have hO5:=ho5.toI;generalize hlo:w4.heap.size=lo at *;generalize hhi:w5.heap.size=hi at *;refine zae u23 ho5.is ?_;rw [zaf];refine zam L.length (λk us w'=>∃ (out':List Nat),us=[.int .i64 (k:Int)]∧k≤L.length∧FW w2 w' g n out'∧OwnI lo hi w' v36 (zaI L)∧MS c out' (λi=>¬UsedP c (zaw c i).toNat∨(zaw c i).toNat∈L.take k)) 0 (z0 _) ⟨out,rfl,z0 _,hF5,hO5,hMS.mono λj _ h=>h.elim id λh=>by simp at h⟩ ?_;rintro k mk u w8 hkm ⟨out8,hu,hkl,hF8,hO8,hS8⟩;try replace hu:=zbi hu
 rw [hu];refine zag ?_;refine br (λhlt=>?_) (λhge=>?_)
 case refine_2=>
   rw [hS8.fin λj hj=>by
     by_cases hu:UsedP c (zaw c j).toNat
     · exact .inr (by rw [List.take_of_length_le (by omega)];exact (hL _).2 hu)
     exact .inl hu] at hF8
   exact ⟨hx12.t hF8.ext,hF8.own.mono (by omega)⟩
 have hk:k<L.length:=by omega
 refine zac u23 ty3 (i:=k) hO8.is (by rw [zaf];exact hk) λb2 o2 hA2=>?_;rw [zaP] at hA2;refine zad ty3 hA2 (Ext.refl _) λ_=>?_;have htk:=λx=>zbg hk (x:=x);have hup:=(hL L[k]).1 (List.getElem_mem hk);generalize L[k]=p at *;have hpn:=hup.lt hc;have hpe:p<c.entry.length:=by rw [hc.2.1.1];exact hpn
 have e8:=e2.trans hF8.ext;refine zac u23 ty3 (i:=p) hB2 (by rw [zaf,ziz];exact hpn) λb3 o3 hA3=>?_;rw [zaL,zn7 hpn] at hA3;refine zad ty3 hA3 hF8.ext λ_=>?_;refine (zoj hW.wl e8 hE2 hF8.ext hc hTR hpn (h:=zpj c p) zjt).mono ?_;rintro v49 w9 ⟨hx9,ho9⟩;have hF9:=hF8.step hx9;have hO9:=hO8.ext hx9;have hg8:=hF8.lt;have hA9:=ho9.toI;have e9:=e2.trans hF9.ext;generalize hl8':w8.heap.size=lo8 at *;generalize hl9:w9.heap.size=lo9 at *;obtain ⟨he1,he2,he3⟩:=zfg hc hpe;obtain ⟨hz1,hz2,hz3⟩:=zdY hc hpn;obtain ⟨_,hez,_⟩:=zkf hc hpe;have hval:∀ i,eN c p≤i→i≤zN c p→zax (zcc c (zcV c) p (zpj c p)) i=zeW c i:=λi h1 h2=>(zju (zlC hc hpe h1 h2) hup).symm
 have hin:∀ i,i<c.ins.length→(zaw c i).toNat=p→eN c p≤i∧i≤zN c p:=λi hi h=>by
   obtain ⟨q,hq,h1,h2⟩:=zdO hc hi;have:q=p:=by rw [h1,Int.toNat_natCast] at h;exact h
   subst this;exact h2
 have hfl:(zcc c (zcV c) p (zpj c p)).length=c.ins.length:=zdM _ _ _ _;have hf64:=zhc (c:=c) (T:=zcV c) (p:=p) (h:=zpj c p);generalize zcc c (zcV c) p (zpj c p)=fl at *;refine NIL.mk rfl ?_;refine zab zaZ ?_;refine zab za6 ?_;refine zaa za4 (zap hW.wl.code) e9 λv54 h54=>?_;refine zac u23 ty3 h54 hpe λb5 o5 hA5=>?_;rw [zbm hpe,he1] at hA5;refine zad ty3 hA5 e9 λ_=>?_;generalize hE:eN c p=E at *;generalize hZ:zN c p=Z at *;refine zam (Z+1-E) (λj us w'=>∃ (out':List Nat),us=[.int .i64 ((E+j:Nat):Int)]∧E+j≤Z+1∧FW w2 w' g n out'∧OwnI lo hi w' v36 (zaI L)∧OwnI lo8 lo9 w' v49 (zaI fl)∧MS c out' (λi=>¬UsedP c (zaw c i).toNat∨(zaw c i).toNat∈L.take k∨(E≤i∧i<E+j))) 0 (z0 _) ⟨out8,rfl,by omega,hF9,hO9,hA9,hS8.mono λi _ h=>h.imp id λh=>h.resolve_right λh=>by omega⟩ ?_;rintro j mj u w11 hjm ⟨out11,hu,hjl,hF11,hO11,hA11,hS11⟩;try replace hu:=zbi hu
 rw [hu];have e11:=e2.trans hF11.ext;refine NIL.mk rfl ?_;refine zab zaZ ?_;refine zaa zbq hW.wl.code e11 λv62 h62=>?_;refine (zc8 h62 e11 (by omega)).mono ?_;rintro _ w12 ⟨hx12',rfl⟩;rw [hz1];have hF12:=hF11.step hx12';have hO12:=hO11.ext hx12';have hA12:=hA11.ext hx12';refine zag ?_;refine br (λhlt=>?_) (λhge=>?_)
 case refine_2=>
   refine zas ?_;refine ⟨mk-1,by omega,k+1,by omega,out11,rfl,by omega,hF12,hO12,hS11.mono λi hi h=>?_⟩;rcases h with h | h
   · exact .inl h
   rcases (htk _).1 h with h | h
   · exact .inr (.inl h)
   have:=hin i hi h;exact .inr (.inr (by omega))
 have hij:E+j<n:=by omega
 have hv:=hval (E+j) (by omega) (by omega);have hv64:=zcY hf64 (E+j);refine zac u23 ty3 (i:=E+j) hA12.is (by rw [zaf,hfl,hnn];exact hij) λb6 o6 hA6=>?_;rw [zaL] at hA6;refine zad ty3 hA6 (Ext.refl _) λ_=>?_;refine zbE (α:=Int) rfl u23 ty3 hij ?_;refine za9 (α:=Int) rfl ty3 hF12.mine (by rw [zaf,hS11.1,hnn]) hij (zbx (v:=zax fl (E+j)) (by omega)) λw13 hc13 hm13=>?_;have hF13:=hF12.set (v:=zax fl (E+j)) hc13 hm13;have hc13':=zen hc13;refine zas ?_;refine ⟨mj-1,by omega,j+1,by omega,_,rfl,by omega,hF13,hO12.chg hc13' (by omega),hA12.chg hc13' (by omega),hS11.set (by rw [hnn];exact hij) hv λi h=>?_⟩;by_cases e:i=E+j
 · exact .inr e
 exact .inl (h.imp id λh=>h.imp id λh=>by omega)
theorem zqw {w W0:World} {v0:Value} {c:DCode} (h0:Is W0 v0 c) (e0:Ext W0 w) (hc:CodeR c) :
   CALL tp 150 [v0] w λr w'=>Ext w w'∧Own w.heap.size w' r (zaI (zhO c)):=by
 refine F150_call ?_;unfold F150;have h8:=hc.1.procs8;have hil:=hc.f.ins;have hTR:=zf0 c;refine zbj h0 e0 λw0 hx0 hA=>?_;have hs0:=hx0.size;refine zaa zbq hA (Ext.refl _) λv10 h10=>?_;refine (zlP h10 (Ext.refl _) hc).mono ?_;rintro v12 w1 ⟨hx1,ho1⟩;have hs1:=hx1.size;refine zaa zbq hA hx1 λv11 h11=>?_;refine (zlQ h11 hx1 ho1.is (Ext.refl _) hc).mono ?_;rintro v15 w1b ⟨hx1b,ho1b⟩;have hs1b:=hx1b.size;refine zaa zbq hA (hx1.t hx1b) λv16 h16=>?_;refine (zf5 h16 (hx1.t hx1b) hc).mono ?_;rintro v17 w2 ⟨hx2,ho2⟩;have hs2:=hx2.size;have hx12:=hx1.t (hx1b.t hx2);have hE2:=ho1.is.ext (hx1b.t hx2);have hB2:=ho1b.is.ext hx2;have hU2:=ho2.is;refine zab zaD ?_;refine zaa zcu (zai hA) hx12 λv20 h20=>?_;refine zae u30 h20 ?_;have hn:c.ins.length=c.ins.length:=rfl;generalize hnn:c.ins.length=n at hn;rw [hnn] at hil;have hz0:=(zdY hc h8.2).2.2;refine zdn (by omega) (by omega) λw3 hx3 hM3=>?_;have hs3:=hx3.size;generalize hg:w2.heap.size=g at *;have hF3:FW w2 w3 g n (List.replicate n 0):=⟨hx3,hM3,by omega⟩;refine zam c.procs.length (λk us w'=>∃ (out':List Nat),us=[.int .i64 (k:Int)]∧k≤c.procs.length∧FW w2 w' g n out'∧MS c out' (λi=>(zaw c i).toNat<k)) 0 (z0 _) ⟨_,rfl,z0 _,hF3,by simp [hnn],λi _ h=>by omega⟩ ?_;rintro p mk u w8 hkm ⟨out8,hu,hkl,hF8,hS8⟩;try replace hu:=zbi hu
 rw [hu];have e8:=hx12.t hF8.ext;refine zab zbf ?_;refine zaa zb1 (zau hA) e8 λv23 h23=>?_;refine zae u22 h23 ?_;refine zag ?_;refine br (λhlt=>?_) (λhge=>?_)
 case refine_2=>rw [hS8.fin λj hj=>by obtain ⟨q,hq,h1,_⟩:=zdO hc hj;rw [h1,Int.toNat_natCast];omega] at hF8;exact ⟨hx0.t (hx12.t hF8.ext),hF8.own.mono (by omega)⟩
 have hpn:p<c.procs.length:=by omega
 have hpe:p<c.entry.length:=by rw [hc.2.1.1];exact hpn
 have hxd:=zaj w8;have hF8d:=hF8.step hxd;have e8d:=e8.trans hxd;generalize World.drew1 w8=w8d at *;refine zaa zbq hA e8d λv28 h28=>?_;refine zac u23 ty3 (i:=p) hB2 (by rw [zaf,ziz];exact hpn) λb3 o3 hA3=>?_;rw [zaL,zn7 hpn] at hA3;refine zad ty3 hA3 hF8d.ext λ_=>?_;refine (zhX h28 e8d hE2 hF8d.ext hc hTR hpn (h:=zpj c p) zjt).mono ?_;rintro v49 w9 ⟨hx9,ho9⟩;have hF9:=hF8d.step hx9;have hg8:=hF8d.lt;have hA9:=ho9.toI;have e9:=hx12.t hF9.ext;generalize hl8':w8d.heap.size=lo8 at *;generalize hl9:w9.heap.size=lo9 at *;obtain ⟨he1,he2,he3⟩:=zfg hc hpe;obtain ⟨hz1,hz2,hz3⟩:=zdY hc hpn;obtain ⟨_,hez,_⟩:=zkf hc hpe;have hval:UsedP c p→∀ i,eN c p≤i→i≤zN c p→zax (zcc c (zcV c) p (zpj c p)) i=zeW c i:=λhu i h1 h2=>(zju (zlC hc hpe h1 h2) hu).symm;have hval2:¬UsedP c p→∀ i,eN c p≤i→i≤zN c p→63=zeW c i:=λhu i h1 h2=>(zkC (zlC hc hpe h1 h2) hu).symm
 have hin:∀ i,i<c.ins.length→(zaw c i).toNat=p→eN c p≤i∧i≤zN c p:=λi hi h=>by
   obtain ⟨q,hq,h1,h2⟩:=zdO hc hi;have:q=p:=by rw [h1,Int.toNat_natCast] at h;exact h
   subst this;exact h2
 have hfl:(zcc c (zcV c) p (zpj c p)).length=c.ins.length:=zdM _ _ _ _;have hf64:=zhc (c:=c) (T:=zcV c) (p:=p) (h:=zpj c p);generalize zcc c (zcV c) p (zpj c p)=fl at *;refine zab za6 ?_;refine zaa za4 (zap hA) e9 λv37 h37=>?_;refine zac u23 ty3 h37 hpe λb5 o5 hA5=>?_;rw [zbm hpe,he1] at hA5;refine zad ty3 hA5 e9 λ_=>?_;generalize hE:eN c p=E at *;generalize hZ:zN c p=Z at *;refine zam (Z+1-E) (λj us w'=>∃ (out':List Nat),us=[.int .i64 ((E+j:Nat):Int)]∧E+j≤Z+1∧FW w2 w' g n out'∧OwnI lo8 lo9 w' v49 (zaI fl)∧MS c out' (λi=>(zaw c i).toNat<p∨(E≤i∧i<E+j))) 0 (z0 _) ⟨out8,rfl,by omega,hF9,hA9,hS8.mono λi _ h=>h.resolve_right λh=>by omega⟩ ?_;rintro j mj u w11 hjm ⟨out11,hu,hjl,hF11,hA11,hS11⟩;try replace hu:=zbi hu
 rw [hu];have e11:=hx12.t hF11.ext;refine zaa zbq hA e11 λv42 h42=>?_;refine (zeg h42 e11 (p:=(p:Int)) (by omega) (by omega) hc.2.1.nonneg).mono ?_;rintro _ w12 ⟨hx12',rfl⟩;rw [hz2];have hF12:=hF11.step hx12';have hA12:=hA11.ext hx12';refine zdV ?_;refine br (λhlt=>?_) (λhge=>?_)
 case refine_2=>
   refine zas ?_;refine ⟨mk-1,by omega,p+1,by omega,out11,rfl,by omega,hF12,hS11.mono λi hi h=>?_⟩;by_cases e:(zaw c i).toNat=p
   · have:=hin i hi e
     exact .inr (by omega)
   exact .inl (by omega)
 have hij:E+j<n:=by omega
 refine zbE (α:=Int) rfl u23 ty3 hij ?_;refine za9 (α:=Int) rfl ty3 hF12.mine (by rw [zaf,hS11.1,hnn]) hij (zbx (v:=63) (by omega)) λw13 hc13 hm13=>?_;have hF13:=hF12.set (v:=63) hc13 hm13;have hc13':=zen hc13;have hA13:=hA12.chg hc13' (by omega);refine zac zcy ty4 (i:=p) hU2 (by rw [zak];exact hpn) λb7 o7 hA7=>?_;refine zay ty4 hA7 hF13.ext ?_;have hmk:=zaF (n:=c.procs.length) (p:=UsedP c) (i:=p);rw [zaQ (by rw [zak];exact hpn)] at hmk
 have hD:∀ i:Nat,((zaw c i).toNat<p∨(E≤i∧i<E+(j+1)))→((zaw c i).toNat<p∨(E≤i∧i<E+j))∨i=E+j:=λi h=>by
   by_cases e:i=E+j
   · exact .inr e
   exact .inl (h.imp id λh=>by omega)
 refine zbz (λhf=>?_) (λhf=>?_)
 · have hv:=hval (hmk.1 hf).2 (E+j) (by omega) (by omega)
   have hv64:=zcY hf64 (E+j);refine zac u23 ty3 (i:=E+j) hA13.is (by rw [zaf,hfl,hnn];exact hij) λb6 o6 hA6=>?_;rw [zaL] at hA6;refine zad ty3 hA6 (Ext.refl _) λ_=>?_;refine zbE (α:=Int) rfl u23 ty3 hij ?_;refine za9 (α:=Int) rfl ty3 hF13.mine (by rw [zaf,List.length_set,hS11.1,hnn]) hij (zbx (v:=zax fl (E+j)) (by omega)) λw14 hc14 hm14=>?_;have hF14:=hF13.set (v:=zax fl (E+j)) hc14 hm14;have hc14':=zen hc14;rw [List.set_set] at hF14;refine zas ?_;exact ⟨mj-1,by omega,j+1,by omega,_,rfl,by omega,hF14,hA13.chg hc14' (by omega),hS11.set (by rw [hnn];exact hij) hv hD⟩
 have hv:=hval2 (λh=>by rw [hmk.2 ⟨hpn,h⟩] at hf;cases hf) (E+j) (by omega) (by omega);refine zas ?_;exact ⟨mj-1,by omega,j+1,by omega,_,rfl,by omega,hF13,hA13,hS11.set (by rw [hnn];exact hij) hv hD⟩
def MC (c:DCode) (ms:List Bool) (i:Nat):Prop:=
 ((zal c i).op=4→mkd ms (eN c (agN c i))∧(mkd ms (zN c (agN c i))→∀ j∈zaC c i,mkd ms j))∧(¬(zal c i).op=4→∀ j∈zaC c i,mkd ms j)
structure TP (c:DCode) (ms0:List Bool) (ag:Bool) (ms:List Bool) (k:Nat):Prop where
 len:ms.length=c.ins.length
 snd:∀ i,mkd ms i→MetP c i
 root:∀ p,RootP c p→mkd ms (eN c p)
 yes:ag=true→zio ms0<zio ms
 no:ag=false→ms=ms0∧∀ i,i<k→mkd ms0 i→MC c ms0 i
theorem zeB {ms:List Bool} {i j:Nat} (h:mkd ms j):mkd (ms.set i true) j:=by
 have hl:=zoS h;by_cases hi:i<ms.length
 · exact (zcp hi).2 (.inl h)
 rw [List.set_eq_of_length_le (by omega)];exact h
theorem zjU {ms:List Bool} {i:Nat} (h:mkd ms i):ms.set i true=ms:=by
 have hl:=zoS h;rw [zaQ hl] at h;rw [←h];exact List.set_getElem_self hl
def zv9 (ms:List Bool) (i:Nat) (ag:Bool):Bool:=ag || !ms.getD i false
theorem zpB {ms:List Bool} {i:Nat} {ag:Bool} (h:mkd ms i):zv9 ms i ag=ag:=by
 unfold mkd at h;unfold zv9;rw [h];simp
theorem zpC {ms:List Bool} {i:Nat} {ag:Bool} (h:¬mkd ms i):zv9 ms i ag=true:=by
 unfold mkd at h;unfold zv9;rw [Bool.not_eq_true] at h;rw [h];simp
theorem TP.meet {c:DCode} {ms0 ms:List Bool} {ag:Bool} {k i:Nat} (h:TP c ms0 ag ms k) (hi:i<c.ins.length) (hm:MetP c i):TP c ms0 (zv9 ms i ag) (ms.set i true) k:=by
 by_cases hk:mkd ms i
 · rw [zpB hk,zjU hk];exact h
 rw [zpC hk];have hc:=zgO (by rw [h.len];exact hi) hk;refine ⟨by simp [h.len],λj hj=>?_,λp hp=>zeB (h.root p hp),λ_=>?_,λe=>by cases e⟩
 · rcases (zcp (by rw [h.len];exact hi)).1 hj with h1 | h1
   · exact h.snd j h1
   rw [h1];exact hm
 cases ag with
 | true=>have:=h.yes rfl;omega
 | false=>rw [←(h.no rfl).1];omega
theorem TP.next {c:DCode} {ms0 ms:List Bool} {ag:Bool} {k:Nat} (h:TP c ms0 ag ms k) (hk:mkd ms k→MC c ms k):TP c ms0 ag ms (k+1):=
 ⟨h.len,h.snd,h.root,h.yes,λe=>⟨(h.no e).1,λi hi hm=>by
   by_cases e2:i=k
   · subst e2;rw [(h.no e).1] at hk;exact hk hm
   exact (h.no e).2 i (by omega) hm⟩⟩
theorem TP.fin {c:DCode} (hc:CodeR c) {ms0 ms:List Bool} (h:TP c ms0 false ms c.ins.length):ms=zfq c:=by
 obtain ⟨h1,h2⟩:=h.no rfl;refine zbT h.len λi hi=>⟨h.snd i,λhm=>?_⟩;have hC:MetC c (mkd ms):=⟨h.root,λi hi ho=>?_,λi j hi ho hj=>?_,λi j hi ho hz hj=>?_⟩
 · exact hC.all hm
 all_goals
   have hil:=zoS hi;rw [h.len] at hil;have:=h2 i hil (by rw [←h1];exact hi);rw [←h1] at this
 · exact (this.1 ho).1
 · exact this.2 ho j hj
 exact (this.1 ho).2 hz j hj
theorem TP.again {c:DCode} {ms0 ms:List Bool} {ag:Bool} {k:Nat} (h:TP c ms0 ag ms k):TP c ms false ms 0:=
 ⟨h.len,h.snd,h.root,λe=>(by cases e),λ_=>⟨rfl,λi hi=>by omega⟩⟩
def zf6 (m n:Nat):Prop:=∀ l,l<6→m.testBit l=true→n.testBit l=true
def HC (c:DCode) (out:List Nat) (i:Nat):Prop:=
 ((zal c i).op=4→zf6 (zax out i) (zax out (eN c (agN c i)))∧(MetP c (zN c (agN c i))→∀ j∈zaC c i,zf6 (zax out (zN c (agN c i))) (zax out j)))∧(¬(zal c i).op=4→∀ j∈zaC c i,zf6 (aft c [] i (zax out i)) (zax out j))
structure HP (c:DCode) (out0:List Nat) (ag:Bool) (out:List Nat) (k:Nat):Prop where
 len:out.length=c.ins.length
 lt:∀ x∈out,x<64
 snd:∀ i l,i<c.ins.length→(zax out i).testBit l=true→MayP c i l∧MetP c i
 yes:ag=true→out0.sum<out.sum
 no:ag=false→out=out0∧∀ i,i<k→MetP c i→HC c out0 i
theorem HP.lt0 {c:DCode} {out0 out:List Nat} {ag:Bool} {k:Nat} (h:HP c out0 ag out k) (i:Nat):zax out i<64:=zcY h.lt i
theorem zsr {m n:Nat} (h:n ||| m=n):zf6 m n:=λl _ hb=>by
 rw [←h,Nat.testBit_or,hb];simp
theorem zuT {m n:Nat}:zf6 m (n ||| m):=λl _ hb=>by rw [Nat.testBit_or,hb];simp
theorem zjV {m n k:Nat} (h:zf6 k n):zf6 k (n ||| m):=λl hl hb=>by rw [Nat.testBit_or,h l hl hb];rfl
theorem znc {m n:Nat} (hm:m<64) (hn:n<64):zir m n=0↔zf6 m n:=by
 constructor
 · intro h l hl hb
   have:=congrArg (·.testBit l) h;simp only [zcw,hb,Bool.true_and,Nat.zero_testBit,Bool.not_eq_false'] at this;exact this
 intro h;refine Nat.eq_of_testBit_eq λl=>?_;rw [zcw,Nat.zero_testBit];cases e:m.testBit l
 · rfl
 rw [h l (zfe hm e) e];rfl
theorem zlR {m n:Nat} (hm:m<64) (hn:n<64):n ||| m<64:=Nat.or_lt_two_pow (n:=6) hn hm
theorem zt7 {m n:Nat} (h:¬n ||| m=n):n<n ||| m:=by
 have:n≤n ||| m:=Nat.left_le_or;omega
theorem HP.add {c:DCode} {out0 out:List Nat} {ag:Bool} {k i m:Nat} (h:HP c out0 ag out k) (hi:i<c.ins.length) (hm:m<64) (hmet:MetP c i) (hmay:∀ l,l<6→m.testBit l=true→MayP c i l) (hn:¬zf6 m (zax out i)):HP c out0 true (out.set i (zax out i ||| m)) k:=by
 have h64:=h.lt0 i;refine ⟨by simp [h.len],λx hx=>?_,λj l hj hb=>?_,λ_=>?_,λe=>by cases e⟩
 · rcases zjp hx with rfl | hx
   · exact zlR hm h64
   exact h.lt x hx
 · rw [zb3 (by rw [h.len];exact hi)] at hb
   split at hb
   · rename_i e
     subst e;rw [Nat.testBit_or,Bool.or_eq_true] at hb;rcases hb with hb | hb
     · exact h.snd i l hj hb
     exact ⟨hmay l (zfe hm hb) hb,hmet⟩
   exact h.snd j l hj hb
 have h1:=zhM (l:=out) (i:=i) (v:=zax out i ||| m) (by rw [h.len];exact hi);have h2:=zt7 (m:=m) (n:=zax out i) λe=>hn (zsr e);cases ag with
 | true=>have:=h.yes rfl;omega
 | false=>rw [←(h.no rfl).1];omega
theorem HP.next {c:DCode} {out0 out:List Nat} {ag:Bool} {k:Nat} (h:HP c out0 ag out k) (hk:ag=false→MetP c k→HC c out k):HP c out0 ag out (k+1):=
 ⟨h.len,h.lt,h.snd,h.yes,λe=>⟨(h.no e).1,λi hi hm=>by
   by_cases e2:i=k
   · subst e2
     have:=hk e hm;rw [(h.no e).1] at this;exact this
   exact (h.no e).2 i (by omega) hm⟩⟩
theorem zlS {c:DCode} {i m l:Nat} (h4:¬(zal c i).op=4):(aft c [] i m).testBit l=true↔¬((zal c i).op=7∧agN c i=l)∧(((zal c i).op=6∧agN c i=l)∨m.testBit l=true):=by
 rw [←Bool.not_eq_false,zlD];unfold zww zrZ;have e4:((zal c i).op=4)=False:=eq_false h4;simp only [e4,false_and,or_false,not_false_eq_true,and_true,not_or,not_and,Bool.not_eq_false];constructor
 · rintro ⟨h1,h2⟩
   refine ⟨h1,?_⟩;by_cases e:(zal c i).op=6∧agN c i=l
   · exact .inl e
   exact .inr (h2 λa b=>e ⟨a,b⟩)
 rintro ⟨h1,h2⟩;refine ⟨h1,λh3=>?_⟩;rcases h2 with h2 | h2
 · exact absurd h2.2 (h3 h2.1)
 exact h2
theorem zss {c:DCode} {i j m l:Nat} (h4:¬(zal c i).op=4) (hm:MetP c i) (hj:j∈zaC c i) (hmay:m.testBit l=true→MayP c i l) (hb:(aft c [] i m).testBit l=true):MayP c j l:=by
 obtain ⟨h1,h2⟩:=(zlS h4).1 hb;rcases h2 with h2 | h2
 · exact .lock hm h2.1 h2.2 hj
 exact .pass hm h4 h1 (hmay h2) hj
theorem HC.may {c:DCode} {out:List Nat} (hc:CodeR c) (h:∀ i,MetP c i→HC c out i):MayC c λi l=>(zax out i).testBit l=true:=by
 refine ⟨λi j hm ho hj=>?_,λi j l hm hl ho ha hb hj=>?_,λi l hm hl ho hb=>?_,λi j l hm hl ho hz hb hj=>?_⟩
 · have ha:=zcN hc (hm.lt hc) (.inl ho)
   exact (h i hm).2 (by omega) j hj _ ha.2.2 ((zlS (by omega)).2 ⟨λh=>by omega,.inl ⟨ho,rfl⟩⟩)
 · exact (h i hm).2 ho j hj l hl ((zlS ho).2 ⟨ha,.inr hb⟩)
 · exact ((h i hm).1 ho).1 l hl hb
 exact ((h i hm).1 ho).2 hz j hj l hl hb
theorem zst {c:DCode} (hc:CodeR c) {out:List Nat} (hlen:out.length=c.ins.length) (hlt:∀ x∈out,x<64) (hs:∀ i l,i<c.ins.length→(zax out i).testBit l=true→MayP c i l) (h:∀ i,MetP c i→HC c out i):out=zmR c:=by
 have hC:=HC.may hc h;refine List.ext_getElem (by rw [hlen,ziA]) λi h1 h2=>?_;have hi:i<c.ins.length:=by rw [←hlen];exact h1
 rw [za3 h1,za3 h2,zn8 hi];exact zrX (zcY hlt i) λl hl=>⟨hs i l hi,λhm=>hC.all hl hm⟩
theorem HP.fin {c:DCode} (hc:CodeR c) {out0 out:List Nat} (h:HP c out0 false out c.ins.length):out=zmR c:=by
 obtain ⟨h1,h2⟩:=h.no rfl;exact zst hc h.len h.lt (λi l hi hb=>(h.snd i l hi hb).1) λi hm=>by rw [h1];exact h2 i (hm.lt hc) hm
theorem HP.again {c:DCode} {out0 out:List Nat} {ag:Bool} {k:Nat} (h:HP c out0 ag out k):HP c out false out 0:=
 ⟨h.len,h.lt,h.snd,λe=>(by cases e),λ_=>⟨rfl,λi hi=>by omega⟩⟩
theorem HP.start {c:DCode}:HP c (List.replicate c.ins.length 0) false (List.replicate c.ins.length 0) 0:=
 ⟨by simp,λx hx=>by rw [(List.mem_replicate.1 hx).2];omega,λi l hi hb=>by rw [←za3 (by simp;exact hi)] at hb;simp at hb,λe=>(by cases e),λ_=>⟨rfl,λi hi=>by omega⟩⟩
theorem HP.sum_le {c:DCode} {out0 out:List Nat} {ag:Bool} {k:Nat} (h:HP c out0 ag out k):out.sum≤c.ins.length*63:=by
 rw [←h.len];exact Go.Proofs.YtifonhplnmpgaaaGreat.sum_le λx hx=>by have:=h.lt x hx;omega
end Go.Proofs.YtifonhplnmpgaaaGreat
namespace Go.Sh
open Rep (rep)
theorem ChgI.one {w w':World} {g:Nat} (h:ChgI g (g+1) w w'):Chg [g] w w':=⟨h.os,h.tape,h.output,h.size,λb hb hn=>h.block b hb (by simp at hn;omega)⟩
theorem OwnI.chgF {α:Type} [Rep α] {w w':World} {lo hi:Nat} {v:Value} {x:α} {F:List Nat} (h:OwnI lo hi w v x) (hc:Chg F w w') (hd:∀ b∈F,b<lo∨hi≤b):OwnI lo hi w' v x:=by
 obtain ⟨G,hm,hG⟩:=h;exact ⟨G,hm.keep λb hb=>hc.block b (hm.lt b hb) λhF=>by have:=hG b hb;have:=hd b hF;omega,hG⟩
theorem Blk.chgF {w w':World} {g e:Nat} {cs:List Value} {F:List Nat} (h:Blk g e w cs) (hc:Chg F w w') (hd:g∉F):Blk g e w' cs:=h.keep (hc.block g h.lt hd)
theorem Ext.chgF {w0 w w':World} {F:List Nat} (h:Ext w0 w) (hc:Chg F w w') (hd:∀ b∈F,w0.heap.size≤b):Ext w0 w':=
 ⟨hc.os.trans h.os,hc.tape.trans h.tape,hc.output.trans h.output,Nat.le_trans h.size hc.size,λb hb=>(hc.block b (Nat.lt_of_lt_of_le hb h.size) λhF=>by have:=hd b hF;omega).trans (h.block b hb)⟩
end Go.Sh
namespace Go.Proofs.YtifonhplnmpgaaaGreat
open Go Go.Sh Go.Proofs
open Rep (rep)
def F144 (a0 a1 a2:Value) (w:World) (R:VW):Prop:=
 rL 101 a1 w λx4=>
 rX 101 x4 a0 w λx6=>
 rL 4 x6 w λx7=>
 rT x7 w λx8=>
 BR x8
 (rL 101 a1 w λx9=>
 rX 101 x9 a0 w λx11=>
 oS 4 x11 vT w λw=>
 oS 4 a2 vT w λw=>
 R (Value.tuple #[]) w)
 (R (Value.tuple #[]) w)
theorem F144_call {a0 a1 a2 w R} (h:F144 a0 a1 a2 w R):cL 144 [a0,a1,a2] w R:=co (g:=(kf [] [] [])) Tryz.func144 h
def F86 (a0:Value) (w:World) (R:VW):Prop:=
 NIL a0 <|
 rF 114 a0 0 w λx14=>
 rF 32 x14 4 w λx15=>
 rL 30 x15 w λx16=>
 rN 30 3 x16 w λx17=>
 oP (Instr.makeSlice 101 x17 x17) w λx18 w=>
 oP (aL 101) w λx3 w=>
 oS 101 x3 x18 w λw=>
 NIL a0 <|
 rF 114 a0 5 w λx21=>
 rL 3 x21 w λx22=>
 cL 66 [x22] w λx23 w=>
 rN 23 3 x23 w λx24=>
 LOOPI [25] [(iV 0)] w λu3 w n3=>
 rC (u3 25) x24 w λx26=>
 BR x26
 (rX 23 x23 (u3 25) w λx27=>
 rL 3 x27 w λx28=>
 (λw=>rL 101 x3 w λx29=>
 NIL a0 <|
 rF 114 a0 0 w λx32=>
 rF 32 x32 3 w λx33=>
 rL 23 x33 w λx34=>
 rX 23 x34 x28 w λx36=>
 rL 3 x36 w λx37=>
 rX 101 x29 x37 w λx38=>
 oS 4 x38 vT w λw=>
 rI (u3 25) w λx39=>
 n3 [x39] w) (World.drew1 w))
 (oP (aL 4) w λx6 w=>
 oS 4 x6 vT w λw=>
 LOOPI [6] [x6] w λu8 w n8=>
 rL 4 (u8 6) w λx40=>
 BR x40
 (oS 4 (u8 6) vF w λw=>
 rD (Instr.makeFunc (Go.Fn.func 144) [].toArray [x3,(u8 6)].toArray) w λx41=>
 NIL a0 <|
 rF 114 a0 0 w λx44=>
 rF 32 x44 4 w λx45=>
 rL 30 x45 w λx46=>
 rN 30 3 x46 w λx47=>
 LOOPI [48] [(iV 0)] w λu12 w n12=>
 rC (u12 48) x47 w λx49=>
 BR x49
 (rX 30 x46 (u12 48) w λx51=>
 rL 111 x51 w λx52=>
 oP (aL 111) w λx9 w=>
 oS 111 x9 x52 w λw=>
 rL 101 x3 w λx53=>
 rX 101 x53 (u12 48) w λx55=>
 rL 4 x55 w λx56=>
 rT x56 w λx57=>
 BR x57
 (rI (u12 48) w λx96=>
 n12 [x96] w)
 (JOIN [] (λJ18=>
 rF 111 x9 0 w λx58=>
 rL 3 x58 w λx59=>
 rQ x59 (iV 4) w λx60=>
 BR x60
 ((λw=>NIL a0 <|
 rF 114 a0 0 w λx64=>
 rF 32 x64 3 w λx65=>
 rL 23 x65 w λx66=>
 rF 111 x9 1 w λx67=>
 rL 3 x67 w λx68=>
 rX 23 x66 x68 w λx69=>
 rL 3 x69 w λx70=>
 OPN tp (zj6 x41 [x70]) w λx71 w=>
 (λw=>rL 101 x3 w λx72=>
 NIL a0 <|
 rF 114 a0 0 w λx75=>
 rL 32 x75 w λx76=>
 rF 111 x9 1 w λx77=>
 rL 3 x77 w λx78=>
 (λw_=>cL 134 [x76,x78] w_ λx79 w=>
 Ext w_ w ∧
 rB .sub 3 T0 U0 x79 (iV 1) w λx80=>
 rX 101 x72 x80 w λx81=>
 rL 4 x81 w λx82=>
 rT x82 w λx83=>
 BR x83
 (rI (u12 48) w λx96=>
 n12 [x96] w)
 (J18 [] w)) w) (World.drew1 w)) (World.drew1 w))
 (J18 [] w)) (λu18 w=>
 cL 136 [a0,(u12 48)] w λx86 w=>
 rN 23 3 x86 w λx87=>
 LOOPI [88] [(iV 0)] w λu19 w n19=>
 rC (u19 88) x87 w λx89=>
 BR x89
 (rX 23 x86 (u19 88) w λx90=>
 rL 3 x90 w λx91=>
 OPN tp (zj6 x41 [x91]) w λx94 w=>
 rI (u19 88) w λx95=>
 n19 [x95] w)
 (rI (u12 48) w λx96=>
 n12 [x96] w))))
 (rL 4 (u8 6) w λx97=>
 oP (aL 4) w λx6 w=>
 oS 4 x6 x97 w λw=>
 n8 [x6] w))
 (rL 101 x3 w λx98=>
 R x98 w))
theorem F86_call {a0 w R} (h:F86 a0 w R):cL 86 [a0] w R:=co (g:=(kf [(18,19342812825603690643587072,[])] [(3,1099478073376,[25]),(8,316912650057057349274664176576,[6]),(12,158456325028528393712111192832,[48]),(19,78918677504442992524819171328,[88])] [(5,[0,1,2,3,4,5,6,7,8,9,10],0),(16,[0,1,2,3,4,5,6,7,8,9,10],0),(17,[0,1,2,3,4,5,6,7,8,9,10,11],128)])) Tryz.func86 h
open Rep (rep)
theorem zpD {P:Program} {f:Nat} {args caps:List Value} {w:World} {K:Value→World→Prop} (hE:zes P f=true) (h:CALL P f (args++caps) w K):OPN P (zj6 (.func (.func f) #[] caps.toArray) args) w K:=by
 obtain ⟨h⟩:=h;refine .enter f (args++caps).toArray w ?_ h;simp [zj6,Deferred.ofValue,invoke,zdK hE]
theorem zuU:zes tp 144=true:=by kernel_rfl
theorem zuV:zes tp 145=true:=by kernel_rfl
theorem zxr:zcz tp 101=some [.slice none 0 0]:=by kernel_rfl
theorem zxs:zcz tp 23=some [.slice none 0 0]:=by kernel_rfl
theorem zdo {w:World} {lo hi:Nat} {u:Value} (h:u.oneCell'=true):OwnI lo hi w u (⟨u⟩:Raw):=⟨[],⟨⟨[u],⟨rfl,rfl,h⟩,rfl⟩,List.nodup_nil,Wr.nil _⟩,by simp⟩
theorem zhZ {t by_:Nat} {z u:Value} {w:World} {K:Value→World→Prop} (hz:zcz tp t=some [z]) (ht:tyI tp t=some (1,by_,false)) (hu:u.oneCell'=true) (k:∀ w',Ext w w'→Blk w.heap.size t w' [u]→K (.pointer (some ⟨w.heap.size,0,none⟩)) w') :
   OP tp (Instr.alloc t true (.tuple #[])) w λp w1=>OPU tp (Instr.storeAt t p u) w1 λw2=>K p w2:=by
 refine zin hz λw1 hx1 hB1=>?_;refine zdl (α:=Raw) (lo:=0) (hi:=0) ht rfl rfl hB1 (by simp) (zdo hu) λw2 hc2 hB2=>?_;exact k w2 (hx1.chgI hc2 (lr _)) hB2
structure MW (w1 w:World) (gv g ga n:Nat) (ms:List Bool) (ag:Bool):Prop where
 ext:Ext w1 w
 var:Blk gv 101 w [.slice (some ⟨g,0,none⟩) n n]
 mks:Mine [g] w (.slice (some ⟨g,0,none⟩) n n) ms
 agn:Blk ga 4 w [.bool ag]
 n1:gv≠g
 n2:gv≠ga
 n3:g≠ga
 g0:w1.heap.size≤g
 g1:w1.heap.size≤gv
 g2:w1.heap.size≤ga
section
variable {w1 w w':World} {gv g ga n:Nat} {ms:List Bool} {ag:Bool}
theorem MW.step (h:MW w1 w gv g ga n ms ag) (hx:Ext w w'):MW w1 w' gv g ga n ms ag:=⟨h.ext.trans hx,h.var.ext hx,h.mks.ext hx,h.agn.ext hx,h.n1,h.n2,h.n3,h.g0,h.g1,h.g2⟩
theorem MW.mark {ms':List Bool} (h:MW w1 w gv g ga n ms ag) (hc:Chg [g] w w') (hm:Mine [g] w' (.slice (some ⟨g,0,none⟩) n n) ms'):MW w1 w' gv g ga n ms' ag:=
 ⟨h.ext.chgF hc (by simp [h.g0]),h.var.chgF hc (by simp [h.n1]),hm,h.agn.chgF hc (by simp [Ne.symm h.n3]),h.n1,h.n2,h.n3,h.g0,h.g1,h.g2⟩
theorem MW.agains {ag':Bool} (h:MW w1 w gv g ga n ms ag) (hc:Chg [ga] w w') (hB:Blk ga 4 w' [.bool ag']):MW w1 w' gv g ga n ms ag':=
 ⟨h.ext.chgF hc (by simp [h.g2]),h.var.chgF hc (by simp [h.n2]),h.mks.keep λb hb=>by
   simp only [List.mem_cons,List.not_mem_nil,or_false] at hb;subst hb;exact hc.block b (h.mks.lt b (by simp)) (by simp [h.n3]),hB,h.n1,h.n2,h.n3,h.g0,h.g1,h.g2⟩
theorem MW.cell {ga':Nat} {ag':Bool} (h:MW w1 w gv g ga n ms ag) (hx:Ext w w') (hB:Blk ga' 4 w' [.bool ag']) (hg:w.heap.size≤ga'):MW w1 w' gv g ga' n ms ag':=
 ⟨h.ext.trans hx,h.var.ext hx,h.mks.ext hx,hB,h.n1,by have:=h.var.lt;omega,by have:=h.mks.lt g (by simp);omega,h.g0,h.g1,by have:=h.ext.size;omega⟩
theorem zsu {i:Nat} (h:MW w1 w gv g ga n ms ag) (hi:i<n) (hl:ms.length=n) :
   CALL tp 144 [.int .i64 (i:Int),.pointer (some ⟨gv,0,none⟩),.pointer (some ⟨ga,0,none⟩)] w λr w'=>r=.tuple #[]∧MW w1 w' gv g ga n (ms.set i true) (zv9 ms i ag)∧Chg [g,ga] w w':=by
 refine F144_call ?_;unfold F144;refine zaA zcd h.var rfl ?_;refine zac zcy ty4 h.mks.is (by rw [hl];exact hi) λb1 o1 hA1=>?_;refine zay ty4 hA1 (Ext.refl _) ?_;have hmk:=zaQ (ms:=ms) (i:=i) (by rw [hl];exact hi);refine zaX ?_;refine zbz (λhf=>?_) (λhf=>?_)
 · have hn:¬mkd ms i:=by rw [hmk];simpa using hf
   rw [zpC hn];refine zaA zcd h.var rfl ?_;refine zbE (α:=Bool) rfl zcy ty4 hi ?_;refine za9 (α:=Bool) rfl ty4 h.mks hl hi zbu λw2 hc2 hm2=>?_;have h2:=h.mark hc2 hm2;refine zdl (α:=Raw) (lo:=0) (hi:=0) ty4 rfl rfl h2.agn (by simp) (zdo rfl) λw3 hc3 hB3=>?_;exact ⟨rfl,h2.agains hc3.one hB3,(hc2.mono (by simp)).trans (hc3.one.mono (by simp))⟩
 have hy:mkd ms i:=by rw [hmk];simpa using hf
 rw [zpB hy,zjU hy];exact ⟨rfl,h,Chg.refl _ _⟩
end
theorem zuW {w W0:World} {b:Nat} {c:DCode} (hW:WAt W0 b c) (e0:Ext W0 w) (hc:CodeR c) :
   CALL tp 86 [.pointer (some ⟨b,0,none⟩)] w λr w'=>Ext w w'∧Own w.heap.size w' r (zfq c):=by
 refine F86_call ?_;unfold F86;have h8:=hc.1.procs8;have hil:=hc.f.ins;have hcode:=hW.wl.code;refine NIL.mk rfl ?_;refine zab zaZ ?_;refine zab zaD ?_;refine zaa zcu (zai hcode) e0 λv16 h16=>?_;refine zae u30 h16 ?_;have hz0:=(zdY hc h8.2).2.2;have hn:c.ins.length=c.ins.length:=rfl;generalize hnn:c.ins.length=n at hn;rw [hnn] at hil;refine zd2 (by omega) (by omega) λw1 hx1 hM1=>?_;have hs1:=hx1.size;have hg1:=hM1.lt _ (List.mem_singleton.2 rfl);generalize hg:w.heap.size=g at *;refine zhZ zxr zcd rfl λw2 hx2 hB2=>?_;have hs2:=hx2.size;have hM2:=hM1.ext hx2;generalize hgv:w1.heap.size=gv at *;refine NIL.mk rfl ?_;refine zab zgj ?_;refine zad ty3 hW.roots (e0.t (hx1.t hx2)) λ_=>?_;have hrs:zcx c<256:=zba h8.1;refine (zcU (m:=zcx c) (by omega)).mono ?_;rintro v23 w3 ⟨hx3,ho3⟩;unfold zcx at ho3;rw [zdE (by omega)] at ho3;have hL:∀ p,p∈zaY c.procs.length (RootP c)↔RootP c p:=λp=>by rw [zaJ];exact ⟨λh=>h.2,λh=>⟨h.lt hc,h⟩⟩
 have hLl:(zaY c.procs.length (RootP c)).length≤8:=Nat.le_trans za0 h8.1;generalize zaY c.procs.length (RootP c)=L at *;have hs3:=hx3.size;have hgv2:=hB2.lt;refine zae u23 ho3.is ?_;rw [zaf];refine zam L.length (λk us w'=>∃ ms,us=[.int .i64 (k:Int)]∧k≤L.length∧Ext w w'∧Blk gv 101 w' [.slice (some ⟨g,0,none⟩) n n]∧Mine [g] w' (.slice (some ⟨g,0,none⟩) n n) ms∧OwnI w2.heap.size w3.heap.size w' v23 (zaI L)∧ms.length=n∧(∀ i,mkd ms i→MetP c i)∧∀ p∈L.take k,mkd ms (eN c p)) 0 (z0 _) ⟨_,rfl,z0 _,hx1.t (hx2.t hx3),hB2.ext hx3,hM2.ext hx3,ho3.toI,by simp,λi h=>absurd h zbv,by simp⟩ ?_;rintro k mk u w4 hkm ⟨ms,hu,hkl,hx4,hB4,hM4,hO4,hl4,hsn4,hrt4⟩;try replace hu:=zbi hu
 rw [hu];refine zag ?_;refine br (λhlt=>?_) (λhge=>?_)
 · have hk:k<L.length:=by omega
   refine zac u23 ty3 (i:=k) hO4.is (by rw [zaf];exact hk) λb2 o2 hA2=>?_;rw [zaP] at hA2;refine zad ty3 hA2 (Ext.refl _) λ_=>?_;have htk:=λx=>zbg hk (x:=x);have hrp:=(hL L[k]).1 (List.getElem_mem hk);generalize L[k]=p at *;have hpe:p<c.entry.length:=by rw [hc.2.1.1];exact hrp.lt hc
   obtain ⟨he1,he2,_⟩:=zfg hc hpe;have hxd:=zaj w4;have hx5:=hx4.t hxd;have hB5:=hB4.ext hxd;have hM5:=hM4.ext hxd;have hO5:=hO4.ext hxd;generalize World.drew1 w4=w5 at *;refine zaA zcd hB5 rfl ?_;refine NIL.mk rfl ?_;refine zab zaZ ?_;refine zab za6 ?_;refine zaa za4 (zap hcode) (e0.t hx5) λv34 h34=>?_;refine zac u23 ty3 h34 hpe λb5 o5 hA5=>?_;rw [zbm hpe,he1] at hA5;refine zad ty3 hA5 (e0.t hx5) λ_=>?_;refine zbE (α:=Bool) rfl zcy ty4 (by omega) ?_;refine za9 (α:=Bool) rfl ty4 hM5 hl4 (by omega) zbu λw6 hc6 hm6=>?_;refine zas ?_;refine ⟨mk-1,by omega,k+1,by omega,_,rfl,by omega,hx5.chgF hc6 (by simp [hg]),hB5.chgF hc6 (by simp;omega),hm6,hO5.chgF hc6 (by simp;omega),by simp [hl4],λi hi=>?_,λq hq=>?_⟩
   · rcases (zcp (by rw [hl4];omega)).1 hi with h | h
     · exact hsn4 i h
     rw [h];exact .root hrp
   rcases (htk q).1 hq with h | h
   · exact zeB (hrt4 q h)
   rw [h];exact (zcp (by rw [hl4];omega)).2 (.inr rfl)
 have hrt:∀ p,RootP c p→mkd ms (eN c p):=λp hp=>hrt4 p (by rw [List.take_of_length_le (by omega)];exact (hL p).2 hp);have hT:TP c ms false ms 0:=⟨by rw [hl4,hnn],hsn4,hrt,λe=>(by cases e),λ_=>⟨rfl,λi hi=>by omega⟩⟩;clear hu hkm hO4 ho3;refine zhZ zv6 ty4 rfl λw5 hx5 hB5=>?_;have hs4:=hx4.size;have hMW:MW w w5 gv g w4.heap.size n ms true:=⟨hx4.t hx5,hB4.ext hx5,hM4.ext hx5,hB5,by omega,by have:=hB4.lt;omega,by have:=hM4.lt g (by simp);omega,by omega,by omega,by omega⟩;generalize w4.heap.size=ga at *;refine LOOPI.mk (λm us w'=>∃ (ga:Nat) (ms:List Bool) (ag:Bool),us=[.pointer (some ⟨ga,0,none⟩)]∧m=(n-zio ms)+(if ag then 1 else 0)∧MW w w' gv g ga n ms ag∧TP c ms false ms 0∧(ag=false→ms=zfq c)) (n-zio ms+1) ⟨ga,ms,true,rfl,rfl,hMW,hT,λe=>by cases e⟩ ?_;rintro m u w6 ⟨ga,ms,ag,hu,hm,hW6,hT6,hend⟩;try replace hu:=zbi hu
 rw [hu];have hcn:=zfv ms;rw [hT6.len,hnn] at hcn;refine zaA ty4 hW6.agn rfl ?_;refine zbz (λhag=>?_) (λhag=>?_)
 case refine_2=>refine zaA zcd hW6.var rfl ?_;rw [←hend hag];exact ⟨hW6.ext,[g],hW6.mks,λb hb=>by simp only [List.mem_cons,List.not_mem_nil,or_false] at hb;omega⟩
 rw [hag,if_pos rfl] at hm;refine zdl (α:=Raw) (lo:=0) (hi:=0) ty4 rfl rfl hW6.agn (by simp) (zdo rfl) λw7 hc7 hB7=>?_;have hW7:=hW6.agains hc7.one hB7;refine za7 (v:=.func (.func 144) #[] #[.pointer (some ⟨gv,0,none⟩),.pointer (some ⟨ga,0,none⟩)]) (λw' _=>by simp [Instr.makeFunc]) ?_;refine NIL.mk rfl ?_;refine zab zaZ ?_;refine zab zaD ?_;refine zaa zcu (zai hcode) (e0.t hW7.ext) λv46 h46=>?_;refine zae u30 h46 ?_;rw [hnn];refine zam n (λk us w'=>∃ (ms':List Bool) (ag':Bool),us=[.int .i64 (k:Int)]∧k≤n∧MW w w' gv g ga n ms' ag'∧TP c ms ag' ms' k) 0 (z0 _) ⟨ms,false,rfl,z0 _,hW7,hT6⟩ ?_;rintro k mk u w8 hkm ⟨ms8,ag8,hu,hkl,hW8,hT8⟩;try replace hu:=zbi hu
 rw [hu];refine zag ?_;refine br (λhlt=>?_) (λhge=>?_)
 case refine_2=>
   have hke:k=n:=by omega
   rw [hke] at hT8;refine zaA ty4 hW8.agn rfl ?_;refine zhZ zv6 ty4 rfl λw9 hx9 hB9=>?_;have hcn8:=zfv ms8;rw [hT8.len,hnn] at hcn8;refine ⟨(n-zio ms8)+(if ag8 then 1 else 0),?_,_,ms8,ag8,rfl,rfl,hW8.cell hx9 hB9 (lr _),hT8.again,λe=>?_⟩
   · cases ag8 with
     | true=>have:=hT8.yes rfl;simp;omega
     | false=>rw [(hT8.no rfl).1];simp;omega
   rw [e,←hnn] at hT8;exact hT8.fin hc
 have hk:k<n:=by omega
 have hkn:k<c.ins.length:=by omega
 have hl8:ms8.length=n:=by rw [hT8.len,hnn]
 refine zac u30 zaO h46 hkn λb3 o3 hA3=>?_;rw [zaz] at hA3;refine zaa zaO hA3 (e0.t hW8.ext) λv52 h52=>?_;refine zb7 zfx rfl zaO rfl h52 (e0.t hW8.ext) λw9 hx9 hAI hV9=>?_;have hW9:=hW8.step hx9;have hAB9:=zfA h52 hV9 rfl;refine zaA zcd hW9.var rfl ?_;refine zac zcy ty4 (i:=k) hW9.mks.is (by rw [hl8];exact hk) λb4 o4 hA4=>?_;refine zay ty4 hA4 (Ext.refl _) ?_;refine zaX ?_;have hmk8:=zaQ (ms:=ms8) (i:=k) (by rw [hl8];exact hk);refine zbz (λhf=>?_) (λhf=>?_)
 · have hnm:¬mkd ms8 k:=by rw [hmk8];simpa using hf
   refine zas ?_;exact ⟨mk-1,by omega,k+1,by omega,ms8,ag8,rfl,by omega,hW9,hT8.next λh=>absurd h hnm⟩
 have hym:mkd ms8 k:=by rw [hmk8];simpa using hf
 have hMk:=hT8.snd k hym;refine JOIN.mk (λus w'=>∃ (ms':List Bool) (ag':Bool),MW w w' gv g ga n ms' ag'∧TP c ms ag' ms' k∧((zal c k).op=4→mkd ms' (eN c (agN c k)))∧∀ j∈zaC c k,MetP c j) ?_ ?_
 · refine zab zaM ?_
   refine zad ty3 (zav hAI) (Ext.refl _) λ_=>?_;refine zao ?_;refine br (λc4=>?_) (λc4=>?_)
   · obtain ⟨ha1,ha2⟩:=zbZ hc hkn (.inl c4)
     have hpe:agN c k<c.entry.length:=by rw [hc.2.1.1];exact ha2
     obtain ⟨he1,he2,_⟩:=zfg hc hpe;obtain ⟨hz1,hz2,hz3⟩:=zdY hc ha2;have hxd:=zaj w9;have hW10:=hW9.step hxd;generalize World.drew1 w9=w10 at *;refine NIL.mk rfl ?_;refine zab zaZ ?_;refine zab za6 ?_;refine zaa za4 (zap hcode) (e0.t hW10.ext) λv66 h66=>?_;refine zab zaK ?_;refine zad ty3 (zat hAI) hxd λ_=>?_;rw [ha1];refine zac u23 ty3 h66 hpe λb5 o5 hA5=>?_;rw [zbm hpe,he1] at hA5;refine zad ty3 hA5 (e0.t hW10.ext) λ_=>?_;refine zpD (args:=[_]) (caps:=[_,_]) zuU ((zsu (i:=eN c (agN c k)) hW10 (by omega) hl8).mono ?_);rintro _ w11 ⟨rfl,hW11,hc11⟩;have hT11:=hT8.meet he2 (.call hMk c4);have hme:mkd (ms8.set (eN c (agN c k)) true) (eN c (agN c k)):=(zcp (by rw [hl8];omega)).2 (.inr rfl);have hx12:=zaj w11;have hW12:=hW11.step hx12;have hgI:w8.heap.size<w10.heap.size:=by have:=hV9.lt;have:=hxd.size;omega
     have hne:w8.heap.size∉[g,ga]:=by have h1:=hW8.mks.lt g (by simp);have h2:=hW8.agn.lt;simp;omega
     have hAI11:=(hAB9.ext hxd).keep (hc11.block _ hgI hne);have hAI12:=(hAI11.ext hx12).at (e0.t hW12.ext);generalize World.drew1 w11=w12 at *;refine zaA zcd hW12.var rfl ?_;refine NIL.mk rfl ?_;refine zab zaZ ?_;refine zaa zbq hcode (e0.t hW12.ext) λv76 h76=>?_;refine zab zaK ?_;refine zad ty3 (zat hAI12) (Ext.refl _) λ_=>?_;rw [ha1];refine (zc8 h76 (e0.t hW12.ext) (by omega)).mono ?_;rintro _ w13 ⟨hx13,rfl⟩;refine ⟨hx13,?_⟩;have hW13:=hW12.step hx13;rw [hz1];refine zbd (by unfold I64;omega) ?_;rw [show ((zN c (agN c k)+1:Nat):Int)-1=(zN c (agN c k):Int) by omega];have hl13:(ms8.set (eN c (agN c k)) true).length=n:=by rw [List.length_set,hl8]
     generalize ms8.set (eN c (agN c k)) true=ms13 at *;refine zac zcy ty4 (i:=zN c (agN c k)) hW13.mks.is (by rw [hl13];omega) λb6 o6 hA6=>?_;refine zay ty4 hA6 (Ext.refl _) ?_;refine zaX ?_;have hmk13:=zaQ (ms:=ms13) (i:=zN c (agN c k)) (by rw [hl13];omega);refine zbz (λhf13=>?_) (λhf13=>?_)
     · have hnm:¬mkd ms13 (zN c (agN c k)):=by rw [hmk13];simpa using hf13
       refine zas ?_;exact ⟨mk-1,by omega,k+1,by omega,ms13,_,rfl,by omega,hW13,hT11.next λ_=>⟨λ_=>⟨hme,λh=>absurd h hnm⟩,λh=>absurd c4 h⟩⟩
     have hyz:mkd ms13 (zN c (agN c k)):=by rw [hmk13];simpa using hf13
     exact ⟨ms13,_,hW13,hT11,λ_=>hme,λj hj=>.back hMk c4 (hT11.snd _ hyz) hj⟩
   exact ⟨ms8,ag8,hW9,hT8,λh=>absurd h c4,λj hj=>.next hMk c4 hj⟩
 rintro us w14 ⟨ms14,ag14,hW14,hT14,hc14,hnx⟩;refine (zg9 hcode (e0.t hW14.ext) hc hkn).mono ?_;rintro v86 w15 ⟨hx15,ho15⟩;have hW15:=hW14.step hx15;have hl2:=zeh c k;have hnl:=λ{j:Nat} (hj:j∈zaC c k)=>(zcJ hc hkn hj).1;generalize hNx:zaC c k=N at *;refine zae u23 ho15.is ?_;rw [zaf];refine zam N.length (λq us w'=>∃ (ms':List Bool) (ag':Bool),us=[.int .i64 (q:Int)]∧q≤N.length∧MW w w' gv g ga n ms' ag'∧TP c ms ag' ms' k∧((zal c k).op=4→mkd ms' (eN c (agN c k)))∧(∀ j∈N.take q,mkd ms' j)∧OwnI w14.heap.size w15.heap.size w' v86 (zaI N)) 0 (z0 _) ⟨ms14,ag14,rfl,z0 _,hW15,hT14,hc14,by simp,ho15.toI⟩ ?_;rintro q mq u w16 hqm ⟨ms16,ag16,hu,hql,hW16,hT16,hc16,hq16,hO16⟩;try replace hu:=zbi hu
 rw [hu];refine zag ?_;refine br (λhlt=>?_) (λhge=>?_)
 case refine_2=>refine zas ?_;rw [List.take_of_length_le (by omega)] at hq16;exact ⟨mk-1,by omega,k+1,by omega,ms16,ag16,rfl,by omega,hW16,hT16.next λ_=>⟨λh4=>⟨hc16 h4,λ_=>hNx▸hq16⟩,λ_=>hNx▸hq16⟩⟩
 have hq:q<N.length:=by omega
 refine zac u23 ty3 (i:=q) hO16.is (by rw [zaf];exact hq) λb7 o7 hA7=>?_;rw [zaP] at hA7;refine zad ty3 hA7 (Ext.refl _) λ_=>?_;have htq:=λx=>zbg hq (x:=x);have hj:=List.getElem_mem hq;have hjl:=hnl hj;have hjm:=hnx _ hj;generalize N[q]=j at *;have hl16:ms16.length=n:=by rw [hT16.len,hnn]
 refine zpD (args:=[_]) (caps:=[_,_]) zuU ((zsu (i:=j) hW16 (by omega) hl16).mono ?_);rintro _ w17 ⟨rfl,hW17,hc17⟩;refine zas ?_;have hg14:=hW14.mks.lt g (by simp);have hga14:=hW14.agn.lt;refine ⟨mq-1,by omega,q+1,by omega,_,_,rfl,by omega,hW17,hT16.meet hjl hjm,λh4=>zeB (hc16 h4),λi hi=>?_,hO16.chgF hc17 (by simp;omega)⟩;rcases (htq i).1 hi with h | h
 · exact zeB (hq16 i h)
 rw [h];exact (zcp (by rw [hl16];omega)).2 (.inr rfl)
def F145 (a0 a1 a2 a3 a4:Value) (w:World) (R:VW):Prop:=
 rL 101 a2 w λx7=>
 rX 101 x7 a0 w λx9=>
 rL 4 x9 w λx10=>
 BR x10
 (rL 23 a3 w λx13=>
 rX 23 x13 a0 w λx15=>
 rL 3 x15 w λx16=>
 rB .andNot 3 T0 T0 a1 x16 w λx17=>
 rB .neq 3 T0 U0 x17 (iV 0) w λx18=>
 BR x18
 (rL 23 a3 w λx20=>
 rX 23 x20 a0 w λx22=>
 rL 3 x22 w λx23=>
 rB .or 3 T0 T0 x23 a1 w λx25=>
 rX 23 x20 a0 w λx26=>
 oS 3 x26 x25 w λw=>
 oS 4 a4 vT w λw=>
 R (Value.tuple #[]) w)
 (R (Value.tuple #[]) w))
 (R (Value.tuple #[]) w)
theorem F145_call {a0 a1 a2 a3 a4 w R} (h:F145 a0 a1 a2 a3 a4 w R):cL 145 [a0,a1,a2,a3,a4] w R:=co (g:=(kf [] [] [])) Tryz.func145 h
def F87 (a0 a1:Value) (w:World) (R:VW):Prop:=
 oX 101 a1 w λx3 w=>
 NIL a0 <|
 rF 114 a0 0 w λx15=>
 rF 32 x15 4 w λx16=>
 rL 30 x16 w λx17=>
 rN 30 3 x17 w λx18=>
 oP (Instr.makeSlice 23 x18 x18) w λx19 w=>
 oP (aL 23) w λx5 w=>
 oS 23 x5 x19 w λw=>
 oP (aL 4) w λx6 w=>
 oS 4 x6 vT w λw=>
 LOOPI [6] [x6] w λu3 w n3=>
 rL 4 (u3 6) w λx20=>
 BR x20
 (oS 4 (u3 6) vF w λw=>
 rD (Instr.makeFunc (Go.Fn.func 145) [].toArray [x3,x5,(u3 6)].toArray) w λx21=>
 NIL a0 <|
 rF 114 a0 0 w λx24=>
 rF 32 x24 4 w λx25=>
 rL 30 x25 w λx26=>
 rN 30 3 x26 w λx27=>
 LOOPI [28] [(iV 0)] w λu7 w n7=>
 rC (u7 28) x27 w λx29=>
 BR x29
 (rX 30 x26 (u7 28) w λx31=>
 rL 111 x31 w λx32=>
 oP (aL 111) w λx9 w=>
 oS 111 x9 x32 w λw=>
 rL 101 x3 w λx33=>
 rX 101 x33 (u7 28) w λx35=>
 rL 4 x35 w λx36=>
 rT x36 w λx37=>
 BR x37
 (rI (u7 28) w λx98=>
 n7 [x98] w)
 (rL 23 x5 w λx38=>
 rX 23 x38 (u7 28) w λx40=>
 rL 3 x40 w λx41=>
 JOIN [10] (λJ19=>
 rF 111 x9 0 w λx42=>
 rL 3 x42 w λx43=>
 rQ x43 (iV 6) w λx45=>
 BR x45
 (rF 111 x9 1 w λx47=>
 rL 3 x47 w λx48=>
 rD (convert 3 121 x48) w λx49=>
 rB .shl 3 U0 T0 (iV 1) x49 w λx50=>
 rB .or 3 T0 T0 x41 x50 w λx51=>
 J19 [x51] w)
 (rQ x43 (iV 7) w λx53=>
 BR x53
 (rF 111 x9 1 w λx55=>
 rL 3 x55 w λx56=>
 rD (convert 3 121 x56) w λx57=>
 rB .shl 3 U0 T0 (iV 1) x57 w λx58=>
 rB .andNot 3 T0 T0 x41 x58 w λx59=>
 J19 [x59] w)
 (rQ x43 (iV 4) w λx61=>
 BR x61
 ((λw=>NIL a0 <|
 rF 114 a0 0 w λx65=>
 rF 32 x65 3 w λx66=>
 rL 23 x66 w λx67=>
 rF 111 x9 1 w λx68=>
 rL 3 x68 w λx69=>
 rX 23 x67 x69 w λx70=>
 rL 3 x70 w λx71=>
 OPN tp (zj6 x21 [x71,x41]) w λx73 w=>
 (λw=>rL 23 x5 w λx74=>
 NIL a0 <|
 rF 114 a0 0 w λx77=>
 rL 32 x77 w λx78=>
 rF 111 x9 1 w λx79=>
 rL 3 x79 w λx80=>
 (λw_=>cL 134 [x78,x80] w_ λx81 w=>
 Ext w_ w ∧
 rB .sub 3 T0 U0 x81 (iV 1) w λx82=>
 rX 23 x74 x82 w λx83=>
 rL 3 x83 w λx84=>
 J19 [x84] w) w) (World.drew1 w)) (World.drew1 w))
 (J19 [x41] w)))) (λu19 w=>
 cL 136 [a0,(u7 28)] w λx87 w=>
 rN 23 3 x87 w λx88=>
 LOOPI [89] [(iV 0)] w λu20 w n20=>
 rC (u20 89) x88 w λx90=>
 BR x90
 (rX 23 x87 (u20 89) w λx91=>
 rL 3 x91 w λx92=>
 OPN tp (zj6 x21 [x92,(u19 10)]) w λx96 w=>
 rI (u20 89) w λx97=>
 n20 [x97] w)
 (rI (u7 28) w λx98=>
 n7 [x98] w))))
 (rL 4 (u3 6) w λx99=>
 oP (aL 4) w λx6 w=>
 oS 4 x6 x99 w λw=>
 n3 [x6] w))
 (rL 23 x5 w λx100=>
 R x100 w)
theorem F87_call {a0 a1 w R} (h:F87 a0 a1 w R):cL 87 [a0,a1] w R:=co (g:=(kf [(19,38685626227663735544087552,[10])] [(3,1267650600228229401496702162880,[6]),(7,633825300114114700748083173120,[28]),(20,316293680037414660236726243328,[89])] [(17,[0,1,2,3,4,5,6,7,8,9,10,11],0),(18,[0,1,2,3,4,5,6,7,8,9,10,11],128)])) Tryz.func87 h
open Rep (rep)
theorem zvI {P:Program} {w:World} {t:TypeId} {v:Value} {K:Value→World→Prop} (h:v.cells=#[v]) (k:∀ w',Ext w w'→Blk w.heap.size t w' [v]→K (.pointer (some ⟨w.heap.size,0,none⟩)) w'):OP P (Instr.box t v) w K:=
 ⟨_,w.alloc (.cells #[v] t),by simp [Instr.box,newVar,newRow,h],k _ (zaV w _) (by unfold Blk;rw [heap_alloc_new w _])⟩
def AddR (c:DCode) (out:List Nat) (ag:Bool) (i m:Nat) (out':List Nat) (ag':Bool):Prop:=
 (MetP c i∧¬zf6 m (zax out i)∧out'=out.set i (zax out i ||| m)∧ag'=true)∨((MetP c i→zf6 m (zax out i))∧out'=out∧ag'=ag)
theorem AddR.hp {c:DCode} {out0 out out':List Nat} {ag ag':Bool} {k i m:Nat} (h:AddR c out ag i m out' ag') (hP:HP c out0 ag out k) (hi:i<c.ins.length) (hm:m<64) (hmay:∀ l,l<6→m.testBit l=true→MayP c i l):HP c out0 ag' out' k:=by
 rcases h with ⟨h1,h2,rfl,rfl⟩ | ⟨_,rfl,rfl⟩
 · exact hP.add hi hm h1 hmay h2
 exact hP
theorem AddR.sub {c:DCode} {out out':List Nat} {ag ag':Bool} {i m:Nat} (h:AddR c out ag i m out' ag') (hi:i<out.length) (hm:MetP c i):zf6 m (zax out' i):=by
 rcases h with ⟨h1,h2,rfl,rfl⟩ | ⟨h,rfl,rfl⟩
 · rw [zb3 hi,if_pos rfl];exact zuT
 exact h hm
theorem AddR.mono {c:DCode} {out out':List Nat} {ag ag':Bool} {i m x j:Nat} (h:AddR c out ag i m out' ag') (hi:i<out.length) (hx:zf6 x (zax out j)):zf6 x (zax out' j):=by
 rcases h with ⟨h1,h2,rfl,rfl⟩ | ⟨_,rfl,rfl⟩
 · rw [zb3 hi]
   split
   · rename_i e;subst e;exact zjV hx
   exact hx
 exact hx
theorem AddR.ag {c:DCode} {out out':List Nat} {ag ag':Bool} {i m:Nat} (h:AddR c out ag i m out' ag') (e:ag'=false):ag=false:=by
 rcases h with ⟨_,_,_,rfl⟩ | ⟨_,_,rfl⟩
 · cases e
 exact e
structure HW (w1 w:World) (gm go g ga n:Nat) (vm:Value) (out:List Nat) (ag:Bool):Prop where
 ext:Ext w1 w
 met:Blk gm 101 w [vm]
 var:Blk go 23 w [.slice (some ⟨g,0,none⟩) n n]
 mine:Mine [g] w (.slice (some ⟨g,0,none⟩) n n) (zaI out)
 agn:Blk ga 4 w [.bool ag]
 n0:gm≠g
 n01:gm≠ga
 n1:go≠g
 n2:go≠ga
 n3:g≠ga
 g0:w1.heap.size≤g
 g1:w1.heap.size≤go
 g2:w1.heap.size≤ga
section
variable {w1 w w':World} {gm go g ga n:Nat} {vm:Value} {out:List Nat} {ag:Bool}
theorem HW.step (h:HW w1 w gm go g ga n vm out ag) (hx:Ext w w'):HW w1 w' gm go g ga n vm out ag:=⟨h.ext.trans hx,h.met.ext hx,h.var.ext hx,h.mine.ext hx,h.agn.ext hx,h.n0,h.n01,h.n1,h.n2,h.n3,h.g0,h.g1,h.g2⟩
theorem HW.set {i v:Nat} (h:HW w1 w gm go g ga n vm out ag) (hc:Chg [g] w w') (hm:Mine [g] w' (.slice (some ⟨g,0,none⟩) n n) ((zaI out).set i (v:Int))):HW w1 w' gm go g ga n vm (out.set i v) ag:=
 ⟨h.ext.chgF hc (by simp [h.g0]),h.met.chgF hc (by simp [h.n0]),h.var.chgF hc (by simp [h.n1]),by rw [zff];exact hm,h.agn.chgF hc (by simp [Ne.symm h.n3]),h.n0,h.n01,h.n1,h.n2,h.n3,h.g0,h.g1,h.g2⟩
theorem HW.agains {ag':Bool} (h:HW w1 w gm go g ga n vm out ag) (hc:Chg [ga] w w') (hB:Blk ga 4 w' [.bool ag']):HW w1 w' gm go g ga n vm out ag':=
 ⟨h.ext.chgF hc (by simp [h.g2]),h.met.chgF hc (by simp [h.n01]),h.var.chgF hc (by simp [h.n2]),h.mine.keep λb hb=>by
   simp only [List.mem_cons,List.not_mem_nil,or_false] at hb;subst hb;exact hc.block b (h.mine.lt b (by simp)) (by simp [h.n3]),hB,h.n0,h.n01,h.n1,h.n2,h.n3,h.g0,h.g1,h.g2⟩
theorem HW.cell {ga':Nat} {ag':Bool} (h:HW w1 w gm go g ga n vm out ag) (hx:Ext w w') (hB:Blk ga' 4 w' [.bool ag']) (hg:w.heap.size≤ga'):HW w1 w' gm go g ga' n vm out ag':=
 ⟨h.ext.trans hx,h.met.ext hx,h.var.ext hx,h.mine.ext hx,hB,h.n0,by have:=h.met.lt;omega,h.n1,by have:=h.var.lt;omega,by have:=h.mine.lt g (by simp);omega,h.g0,h.g1,by have:=h.ext.size;omega⟩
theorem zsv {W1:World} {c:DCode} {i m:Nat} (h:HW w1 w gm go g ga n vm out ag) (hv:Is W1 vm (zfq c)) (e1:Ext W1 w) (hn:c.ins.length=n) (hi:i<n) (hl:out.length=n) (h64:∀ x∈out,x<64) (hm:m<64) :
   CALL tp 145 [.int .i64 (i:Int),.int .i64 (m:Int),.pointer (some ⟨gm,0,none⟩),.pointer (some ⟨go,0,none⟩),.pointer (some ⟨ga,0,none⟩)] w λr w'=>r=.tuple #[]∧∃ out' ag',HW w1 w' gm go g ga n vm out' ag'∧Chg [g,ga] w w'∧AddR c out ag i m out' ag':=by
 refine F145_call ?_;unfold F145;have hml:(zfq c).length=n:=by unfold zfq;rw [zak,hn]
 refine zaA zcd h.met rfl ?_;refine zac zcy ty4 hv (by rw [hml];exact hi) λb1 o1 hA1=>?_;refine zay ty4 hA1 e1 ?_;have hmk:=zaQ (ms:=zfq c) (i:=i) (by rw [hml];exact hi);have hms:=zaF (n:=c.ins.length) (p:=MetP c) (i:=i)
 have hiff:(zfq c)[i]=true↔MetP c i:=by
   rw [←hmk];unfold zfq;rw [hms];exact ⟨λh=>h.2,λh=>⟨by omega,h⟩⟩
 have hi64:=zcY h64 i;refine zbz (λhf=>?_) (λhf=>?_)
 · have hmet:=hiff.1 hf
   refine zaA za4 h.var rfl ?_;refine zac u23 ty3 (i:=i) h.mine.is (by rw [zaf,hl];exact hi) λb2 o2 hA2=>?_;rw [zaL] at hA2;refine zad ty3 hA2 (Ext.refl _) λ_=>?_;refine zfB (m:=m) (n:=zax out i) (by omega) (by omega) ?_;refine zaB ?_;refine br (λhne=>?_) (λheq=>?_)
   · have hns:¬zf6 m (zax out i):=λhs=>hne (by rw [(znc hm hi64).2 hs];rfl)
     refine zaA za4 h.var rfl ?_;refine zac u23 ty3 (i:=i) h.mine.is (by rw [zaf,hl];exact hi) λb3 o3 hA3=>?_;rw [zaL] at hA3;refine zad ty3 hA3 (Ext.refl _) λ_=>?_;refine ze3 (m:=zax out i) (n:=m) (by omega) (by omega) ?_;have ho:=zlR hm hi64;refine zbE (α:=Int) rfl u23 ty3 hi ?_;refine za9 (α:=Int) rfl ty3 h.mine (by rw [zaf,hl]) hi (zbx (v:=zax out i ||| m) (by omega)) λw2 hc2 hm2=>?_;have h2:=h.set (v:=zax out i ||| m) hc2 hm2;refine zdl (α:=Raw) (lo:=0) (hi:=0) ty4 rfl rfl h2.agn (by simp) (zdo rfl) λw3 hc3 hB3=>?_;exact ⟨rfl,_,true,h2.agains hc3.one hB3,(hc2.mono (by simp)).trans (hc3.one.mono (by simp)),.inl ⟨hmet,hns,rfl,rfl⟩⟩
   have hs:zf6 m (zax out i):=(znc hm hi64).1 (Int.ofNat_inj.1 (Decidable.not_not.1 heq));exact ⟨rfl,out,ag,h,Chg.refl _ _,.inr ⟨λ_=>hs,rfl,rfl⟩⟩
 exact ⟨rfl,out,ag,h,Chg.refl _ _,.inr ⟨λhm=>(by rw [hiff.2 hm] at hf;cases hf),rfl,rfl⟩⟩
end
def CR (c:DCode) (out0:List Nat) (k h0 m:Nat) (ag:Bool):Prop:=ag=false→h0=zax out0 k∧((zal c k).op=4→m=zax out0 (zN c (agN c k)))∧(¬(zal c k).op=4→m=aft c [] k (zax out0 k))
theorem HP.close {c:DCode} {out0 out:List Nat} {ag:Bool} {k h0 m:Nat} (hP:HP c out0 ag out k) (hC:CR c out0 k h0 m ag) (h1:(zal c k).op=4→zf6 h0 (zax out (eN c (agN c k)))) (h2:∀ j∈zaC c k,MetP c j→zf6 m (zax out j)):HP c out0 ag out (k+1):=
 hP.next λe hk=>by
   obtain ⟨c1,c2,c3⟩:=hC e;have ho:=(hP.no e).1;rw [←ho] at c1 c2 c3;refine ⟨λh4=>⟨c1▸h1 h4,λhz j hj=>?_⟩,λh4 j hj=>?_⟩
   · rw [←c2 h4];exact h2 j hj (.back hk h4 hz hj)
   rw [←c3 h4];exact h2 j hj (.next hk h4 hj)
theorem zwD {w W0 W1:World} {b:Nat} {v1:Value} {c:DCode} (hW:WAt W0 b c) (e0:Ext W0 w) (hv:Is W1 v1 (zfq c)) (e1:Ext W1 w) (hc:CodeR c) :
   CALL tp 87 [.pointer (some ⟨b,0,none⟩),v1] w λr w'=>Ext w w'∧Own w.heap.size w' r (zaI (zmR c)):=by
 refine F87_call ?_;unfold F87;have h8:=hc.1.procs8;have hil:=hc.f.ins;have hcode:=hW.wl.code
 have hcell:v1.cells=#[v1]:=by
   obtain ⟨aa,cc,FF,xx,hh,_⟩:=zdt hv;rw [hh];rfl
 refine zvI hcell λwm hxm hBm=>?_;have hsm:=hxm.size;have e0m:=e0.t hxm;refine NIL.mk rfl ?_;refine zab zaZ ?_;refine zab zaD ?_;refine zaa zcu (zai hcode) e0m λv17 h17=>?_;refine zae u30 h17 ?_;have hz0:=(zdY hc h8.2).2.2;have hP0:=HP.start (c:=c);have hn:c.ins.length=c.ins.length:=rfl;generalize hnn:c.ins.length=n at hn;rw [hnn] at hil hP0;refine zdn (by omega) (by omega) λw1 hx1 hM1=>?_;have hs1:=hx1.size;have hg1:=hM1.lt _ (List.mem_singleton.2 rfl);have hmg:w.heap.size<wm.heap.size:=hBm.lt;generalize hgm:w.heap.size=gm at *;generalize hg:wm.heap.size=g at *;refine zhZ zxs za4 rfl λw2 hx2 hB2=>?_;have hs2:=hx2.size;have hM2:=hM1.ext hx2;have hBm2:=hBm.ext (hx1.t hx2);generalize hgo:w1.heap.size=go at *;have hgo2:=hB2.lt;refine zhZ zv6 ty4 rfl λw5 hx5 hB5=>?_;have hHW:HW w w5 gm go g w2.heap.size n v1 (List.replicate n 0) true:=⟨hxm.t (hx1.t (hx2.t hx5)),hBm2.ext hx5,hB2.ext hx5,hM2.ext hx5,hB5,by omega,by omega,by omega,by omega,by omega,by omega,by omega,by omega⟩;generalize w2.heap.size=ga at *;generalize List.replicate n 0=out at *;refine LOOPI.mk (λm us w'=>∃ (ga:Nat) (out:List Nat) (ag:Bool),us=[.pointer (some ⟨ga,0,none⟩)]∧m=(n*63-out.sum)+(if ag then 1 else 0)∧HW w w' gm go g ga n v1 out ag∧HP c out false out 0∧(ag=false→out=zmR c)) (n*63-out.sum+1) ⟨ga,out,true,rfl,rfl,hHW,hP0,λe=>by cases e⟩ ?_;rintro m u w6 ⟨ga,out,ag,hu,hm,hW6,hT6,hend⟩;try replace hu:=zbi hu
 rw [hu];have hcn:=hT6.sum_le;rw [hnn] at hcn;refine zaA ty4 hW6.agn rfl ?_;refine zbz (λhag=>?_) (λhag=>?_)
 case refine_2=>refine zaA za4 hW6.var rfl ?_;rw [←hend hag];exact ⟨hW6.ext,[g],hW6.mine,λb hb=>by simp only [List.mem_cons,List.not_mem_nil,or_false] at hb;omega⟩
 rw [hag,if_pos rfl] at hm;refine zdl (α:=Raw) (lo:=0) (hi:=0) ty4 rfl rfl hW6.agn (by simp) (zdo rfl) λw7 hc7 hB7=>?_;have hW7:=hW6.agains hc7.one hB7;refine za7 (v:=.func (.func 145) #[] #[.pointer (some ⟨gm,0,none⟩),.pointer (some ⟨go,0,none⟩),.pointer (some ⟨ga,0,none⟩)]) (λw' _=>by simp [Instr.makeFunc]) ?_;refine NIL.mk rfl ?_;refine zab zaZ ?_;refine zab zaD ?_;refine zaa zcu (zai hcode) (e0.t hW7.ext) λv26 h26=>?_;refine zae u30 h26 ?_;rw [hnn];refine zam n (λk us w'=>∃ (out':List Nat) (ag':Bool),us=[.int .i64 (k:Int)]∧k≤n∧HW w w' gm go g ga n v1 out' ag'∧HP c out ag' out' k) 0 (z0 _) ⟨out,false,rfl,z0 _,hW7,hT6⟩ ?_;rintro k mk u w8 hkm ⟨out8,ag8,hu,hkl,hW8,hT8⟩;try replace hu:=zbi hu
 rw [hu];refine zag ?_;refine br (λhlt=>?_) (λhge=>?_)
 case refine_2=>
   have hke:k=n:=by omega
   rw [hke] at hT8;refine zaA ty4 hW8.agn rfl ?_;refine zhZ zv6 ty4 rfl λw9 hx9 hB9=>?_;have hcn8:=hT8.sum_le;rw [hnn] at hcn8;refine ⟨(n*63-out8.sum)+(if ag8 then 1 else 0),?_,_,out8,ag8,rfl,rfl,hW8.cell hx9 hB9 (lr _),hT8.again,λe=>?_⟩
   · cases ag8 with
     | true=>have:=hT8.yes rfl;simp;omega
     | false=>rw [(hT8.no rfl).1];simp;omega
   rw [e,←hnn] at hT8;exact hT8.fin hc
 have hk:k<n:=by omega
 have hkn:k<c.ins.length:=by omega
 have hl8:out8.length=n:=by rw [hT8.len,hnn]
 refine zac u30 zaO h26 hkn λb3 o3 hA3=>?_;rw [zaz] at hA3;refine zaa zaO hA3 (e0.t hW8.ext) λv32 h32=>?_;refine zb7 zfx rfl zaO rfl h32 (e0.t hW8.ext) λw9 hx9 hAI hV9=>?_;have hW9:=hW8.step hx9;have hAB9:=zfA h32 hV9 rfl;have hml:(zfq c).length=n:=by unfold zfq;rw [zak,hnn]
 have hms:=zaF (n:=c.ins.length) (p:=MetP c) (i:=k);have hmk:=zaQ (ms:=zfq c) (i:=k) (by rw [hml];exact hk)
 have hiff:(zfq c)[k]=true↔MetP c k:=by
   rw [←hmk];unfold zfq;rw [hms];exact ⟨λh=>h.2,λh=>⟨by omega,h⟩⟩
 refine zaA zcd hW9.met rfl ?_;refine zac zcy ty4 (i:=k) hv (by rw [hml];exact hk) λb4 o4 hA4=>?_;refine zay ty4 hA4 (e1.trans hW9.ext) ?_;refine zaX ?_;refine zbz (λhf=>?_) (λhf=>?_)
 · have hnm:¬MetP c k:=λh=>by rw [hiff.2 h] at hf;cases hf
   refine zas ?_;exact ⟨mk-1,by omega,k+1,by omega,out8,ag8,rfl,by omega,hW9,hT8.next λ_ h=>absurd h hnm⟩
 have hMk:MetP c k:=hiff.1 (by simpa using hf);have hk64:=hT8.lt0 k;refine zaA za4 hW9.var rfl ?_;refine zac u23 ty3 (i:=k) hW9.mine.is (by rw [zaf,hl8];exact hk) λb5 o5 hA5=>?_;rw [zaL] at hA5;refine zad ty3 hA5 (Ext.refl _) λ_=>?_;have hkz:ag8=false→zax out8 k=zax out k:=λe=>by rw [(hT8.no e).1]
 have hkm8:∀ l,l<6→(zax out8 k).testBit l=true→MayP c k l:=λl hl hb=>(hT8.snd k l hkn hb).1;generalize hh0:zax out8 k=h0 at *;refine JOIN.mk (λus w'=>∃ (m:Nat) (out':List Nat) (ag':Bool),us=[.int .i64 (m:Int)]∧HW w w' gm go g ga n v1 out' ag'∧HP c out ag' out' k∧m<64∧CR c out k h0 m ag'∧((zal c k).op=4→zf6 h0 (zax out' (eN c (agN c k))))∧∀ l,l<6→m.testBit l=true→∀ j∈zaC c k,MayP c j l) ?_ ?_
 · have haf:aft c [] k h0=if (zal c k).op=6 then h0 ||| 2^agN c k else if (zal c k).op=7 then zir h0 (2^agN c k) else if (zal c k).op=4 then (h0 &&& (tbl [] (agN c k)).1) ||| (tbl [] (agN c k)).2 else h0:=rfl
   have hgo:¬(zal c k).op=4→∀ w',HW w w' gm go g ga n v1 out8 ag8→aft c [] k h0<64→∃ (m:Nat) (out':List Nat) (ag':Bool),[Value.int .i64 (aft c [] k h0:Nat)]=[.int .i64 (m:Int)]∧HW w w' gm go g ga n v1 out' ag'∧HP c out ag' out' k∧m<64∧CR c out k h0 m ag'∧((zal c k).op=4→zf6 h0 (zax out' (eN c (agN c k))))∧∀ l,l<6→m.testBit l=true→∀ j∈zaC c k,MayP c j l:=λh4 w' hW' hlt'=>
     ⟨_,out8,ag8,rfl,hW',hT8,hlt',λe=>⟨hkz e,λh=>absurd h h4,λ_=>by rw [hkz e]⟩,λh=>absurd h h4,λl hl hb j hj=>zss h4 hMk hj (hkm8 l hl) hb⟩
   refine zab zaM ?_;refine zad ty3 (zav hAI) (Ext.refl _) λ_=>?_;refine zao ?_;refine br (λc6=>?_) (λc6=>?_)
   · obtain ⟨ha,_,hq⟩:=zcN hc hkn (.inl c6)
     have hp:=zeH hq;rw [if_pos c6] at haf;refine zab zaK ?_;refine zad ty3 (zat hAI) (Ext.refl _) λ_=>?_;rw [ha];refine zbI (by kernel_rfl) ziq (by omega) ?_;refine zds (by omega) ?_;refine ze3 (m:=h0) (n:=2^agN c k) (by omega) (by omega) ?_;have:=hgo (by omega) w9 hW9 (by rw [haf];exact zkA hk64 hq);rw [haf] at this;exact this
   rw [if_neg c6] at haf;refine zao ?_;refine br (λc7=>?_) (λc7=>?_)
   · obtain ⟨ha,_,hq⟩:=zcN hc hkn (.inr c7)
     have hp:=zeH hq;rw [if_pos c7] at haf;refine zab zaK ?_;refine zad ty3 (zat hAI) (Ext.refl _) λ_=>?_;rw [ha];refine zbI (by kernel_rfl) ziq (by omega) ?_;refine zds (by omega) ?_;refine zfB (m:=h0) (n:=2^agN c k) (by omega) (by omega) ?_;have:=hgo (by omega) w9 hW9 (by rw [haf];exact Nat.lt_of_le_of_lt (zgp _ _) hk64);rw [haf] at this;exact this
   rw [if_neg c7] at haf;refine zao ?_;refine br (λc4=>?_) (λc4=>?_)
   · obtain ⟨ha1,ha2⟩:=zbZ hc hkn (.inl c4)
     have hpe:agN c k<c.entry.length:=by rw [hc.2.1.1];exact ha2
     obtain ⟨he1,he2,_⟩:=zfg hc hpe;obtain ⟨hz1,hz2,hz3⟩:=zdY hc ha2;have hxd:=zaj w9;have hW10:=hW9.step hxd;generalize World.drew1 w9=w10 at *;refine NIL.mk rfl ?_;refine zab zaZ ?_;refine zab za6 ?_;refine zaa za4 (zap hcode) (e0.t hW10.ext) λv66 h66=>?_;refine zab zaK ?_;refine zad ty3 (zat hAI) hxd λ_=>?_;rw [ha1];refine zac u23 ty3 h66 hpe λb5 o5 hA5=>?_;rw [zbm hpe,he1] at hA5;refine zad ty3 hA5 (e0.t hW10.ext) λ_=>?_;refine zpD (args:=[_,_]) (caps:=[_,_,_]) zuV ((zsv (i:=eN c (agN c k)) (m:=h0) hW10 hv (e1.trans hW10.ext) hnn (by omega) hl8 hT8.lt hk64).mono ?_);rintro _ w11 ⟨rfl,out11,ag11,hW11,hc11,hR11⟩;have hmE:MetP c (eN c (agN c k)):=.call hMk c4;have hT11:=hR11.hp hT8 he2 hk64 λl hl hb=>.call hMk c4 (hkm8 l hl hb);have hF1:=hR11.sub (by rw [hl8];omega) hmE;have hx12:=zaj w11;have hW12:=hW11.step hx12;have hgI:w8.heap.size<w10.heap.size:=by have:=hV9.lt;have:=hxd.size;omega
     have hne:w8.heap.size∉[g,ga]:=by have h1:=hW8.mine.lt g (by simp);have h2:=hW8.agn.lt;simp;omega
     have hAI11:=(hAB9.ext hxd).keep (hc11.block _ hgI hne);have hAI12:=(hAI11.ext hx12).at (e0.t hW12.ext);generalize World.drew1 w11=w12 at *;refine zaA za4 hW12.var rfl ?_;refine NIL.mk rfl ?_;refine zab zaZ ?_;refine zaa zbq hcode (e0.t hW12.ext) λv76 h76=>?_;refine zab zaK ?_;refine zad ty3 (zat hAI12) (Ext.refl _) λ_=>?_;rw [ha1];refine (zc8 h76 (e0.t hW12.ext) (by omega)).mono ?_;rintro _ w13 ⟨hx13,rfl⟩;refine ⟨hx13,?_⟩;have hW13:=hW12.step hx13;rw [hz1];refine zbd (by unfold I64;omega) ?_;rw [show ((zN c (agN c k)+1:Nat):Int)-1=(zN c (agN c k):Int) by omega];have hl11:out11.length=n:=by rw [hT11.len,hnn]
     refine zac u23 ty3 (i:=zN c (agN c k)) hW13.mine.is (by rw [zaf,hl11];omega) λb6 o6 hA6=>?_;rw [zaL] at hA6;refine zad ty3 hA6 (Ext.refl _) λ_=>?_;refine ⟨zax out11 (zN c (agN c k)),out11,ag11,rfl,hW13,hT11,hT11.lt0 _,λe=>⟨hkz (hR11.ag e),λ_=>by rw [(hT11.no e).1],λh=>absurd c4 h⟩,λ_=>hF1,λl hl hb j hj=>?_⟩;have:=hT11.snd _ l (by omega) hb;exact .back hMk c4 this.2 this.1 hj
   rw [if_neg c4] at haf;have:=hgo c4 w9 hW9 (by rw [haf];exact hk64);rw [haf] at this;exact this
 rintro us w14 ⟨m,out14,ag14,hus,hW14,hT14,hm64,hC14,hF14,hmay⟩;try replace hus:=zbi hus
 rw [hus];refine (zg9 hcode (e0.t hW14.ext) hc hkn).mono ?_;rintro v86 w15 ⟨hx15,ho15⟩;have hW15:=hW14.step hx15;have hl2:=zeh c k;have hnl:=λ{j:Nat} (hj:j∈zaC c k)=>(zcJ hc hkn hj).1;have hclose:=λ{out:List Nat} {o:List Nat} {ag:Bool} (hP:HP c out ag o k)=>HP.close (h0:=h0) (m:=m) hP;generalize hNx:zaC c k=N at *;refine zae u23 ho15.is ?_;rw [zaf];refine zam N.length (λq us w'=>∃ (out':List Nat) (ag':Bool),us=[.int .i64 (q:Int)]∧q≤N.length∧HW w w' gm go g ga n v1 out' ag'∧HP c out ag' out' k∧CR c out k h0 m ag'∧((zal c k).op=4→zf6 h0 (zax out' (eN c (agN c k))))∧(∀ j∈N.take q,MetP c j→zf6 m (zax out' j))∧OwnI w14.heap.size w15.heap.size w' v86 (zaI N)) 0 (z0 _) ⟨out14,ag14,rfl,z0 _,hW15,hT14,hC14,hF14,by simp,ho15.toI⟩ ?_;rintro q mq u w16 hqm ⟨out16,ag16,hu,hql,hW16,hT16,hC16,hF16,hq16,hO16⟩;try replace hu:=zbi hu
 rw [hu];refine zag ?_;refine br (λhlt=>?_) (λhge=>?_)
 case refine_2=>refine zas ?_;rw [List.take_of_length_le (by omega)] at hq16;exact ⟨mk-1,by omega,k+1,by omega,out16,ag16,rfl,by omega,hW16,hclose hT16 hC16 hF16 (hNx▸hq16)⟩
 have hq:q<N.length:=by omega
 refine zac u23 ty3 (i:=q) hO16.is (by rw [zaf];exact hq) λb7 o7 hA7=>?_;rw [zaP] at hA7;refine zad ty3 hA7 (Ext.refl _) λ_=>?_;have htq:=λx=>zbg hq (x:=x);have hj:=List.getElem_mem hq;have hjl:=hnl hj;have hmj:=λl hl hb=>hmay l hl hb _ hj;generalize N[q]=j at *;have hl16:out16.length=n:=by rw [hT16.len,hnn]
 refine zpD (args:=[_,_]) (caps:=[_,_,_]) zuV ((zsv (i:=j) (m:=m) hW16 hv (e1.trans hW16.ext) hnn (by omega) hl16 hT16.lt hm64).mono ?_);rintro _ w17 ⟨rfl,out17,ag17,hW17,hc17,hR17⟩;refine zas ?_;have hg14:=hW14.mine.lt g (by simp);have hga14:=hW14.agn.lt;have hjo:j<out16.length:=by omega
 refine ⟨mq-1,by omega,q+1,by omega,out17,ag17,rfl,by omega,hW17,hR17.hp hT16 hjl hm64 hmj,λe=>hC16 (hR17.ag e),λh4=>hR17.mono hjo (hF16 h4),λi hi hmi=>?_,hO16.chgF hc17 (by simp;omega)⟩;rcases (htq i).1 hi with h | h
 · exact hR17.mono hjo (hq16 i h hmi)
 subst h;exact hR17.sub hjo hmi
end Go.Proofs.YtifonhplnmpgaaaGreat
namespace Go.Sh
open Rep (rep)
theorem zeX {α:Type} [Rep α] {w:World} {g e o:Nat} {cs:List Value} {v:Value} {l:List α} (hB:Blk g e w cs) (ho:cs[o]?=some v) (h:Is w v l):At w g o l:=by
 obtain ⟨F,xs,hr,rfl⟩:=h;have hr':=hr;obtain ⟨a,cap,Fi,ys,rfl,h⟩:=hr;refine ⟨F,_,hr',λi u hi=>?_⟩
 have:i=0:=by
   cases i with
   | zero=>rfl
   | succ i=>simp at hi
 subst this;simp only [List.getElem?_cons_zero,Option.some.injEq] at hi;subst hi;have:=hB.range o _ ho;rw [Nat.zero_add] at this;exact this
end Go.Sh
namespace Go.Proofs.YtifonhplnmpgaaaGreat
open Go Go.Sh Go.Proofs
open Rep (rep)
def F177 (a0 a1 a2:Value) (w:World) (R:VW):Prop:=
 (λw=>NIL a0 <|
 rF 159 a0 1 w λx8=>
 rL 101 x8 w λx9=>
 rX 101 x9 a1 w λx11=>
 rL 4 x11 w λx12=>
 rT x12 w λx13=>
 BR x13
 (NIL a0 <|
 rF 159 a0 1 w λx35=>
 rL 101 x35 w λx36=>
 rX 101 x36 a1 w λx38=>
 oS 4 x38 vT w λw=>
 (λw=>NIL a0 <|
 rF 159 a0 2 w λx41=>
 rL 23 x41 w λx42=>
 NIL a0 <|
 rF 159 a0 2 w λx46=>
 rL 23 x46 w λx47=>
 rX 23 x47 a1 w λx49=>
 rL 3 x49 w λx50=>
 rB .or 3 T0 T0 x50 a2 w λx52=>
 rX 23 x42 a1 w λx53=>
 oS 3 x53 x52 w λw=>
 NIL a0 <|
 rF 159 a0 3 w λx56=>
 oS 4 x56 vT w λw=>
 R (Value.tuple #[]) w) (World.drew1 w))
 (NIL a0 <|
 rF 159 a0 2 w λx17=>
 rL 23 x17 w λx18=>
 rX 23 x18 a1 w λx20=>
 rL 3 x20 w λx21=>
 rB .or 3 T0 T0 x21 a2 w λx23=>
 NIL a0 <|
 rF 159 a0 2 w λx26=>
 rL 23 x26 w λx27=>
 rX 23 x27 a1 w λx29=>
 rL 3 x29 w λx30=>
 rB .neq 3 T0 T0 x23 x30 w λx31=>
 BR x31
 (NIL a0 <|
 rF 159 a0 1 w λx35=>
 rL 101 x35 w λx36=>
 rX 101 x36 a1 w λx38=>
 oS 4 x38 vT w λw=>
 (λw=>NIL a0 <|
 rF 159 a0 2 w λx41=>
 rL 23 x41 w λx42=>
 NIL a0 <|
 rF 159 a0 2 w λx46=>
 rL 23 x46 w λx47=>
 rX 23 x47 a1 w λx49=>
 rL 3 x49 w λx50=>
 rB .or 3 T0 T0 x50 a2 w λx52=>
 rX 23 x42 a1 w λx53=>
 oS 3 x53 x52 w λw=>
 NIL a0 <|
 rF 159 a0 3 w λx56=>
 oS 4 x56 vT w λw=>
 R (Value.tuple #[]) w) (World.drew1 w))
 (R (Value.tuple #[]) w))) (World.drew1 w)
theorem F177_call {a0 a1 a2 w R} (h:F177 a0 a1 a2 w R):cL 177 [a0,a1,a2] w R:=co (g:=(kf [] [] [(0,[0,1,2,3,4,5,6,7,8,9,10,11,12,13,14,15,16,17,18,19,20,21,22,23,24,25,26],0),(2,[0,1,2,3,4,5,6,7,8,9,10,11,12,13,14,15],0)])) Tryz.func177 h
open Rep (rep)
theorem zkJ {w:World} {v:Value} {c:DCode} (h:Is w v c):∃ a0 a1 a2 a3 a4 n0 n1 n2 n3 n4 k0 k1 k2 k3 k4,v=.agg #[.slice a0 n0 k0,.slice a1 n1 k1,.slice a2 n2 k2,.slice a3 n3 k3,.slice a4 n4 k4]:=by
 obtain ⟨F,cs,hr,rfl⟩:=h;obtain ⟨F0,c0,F1,c1,F2,c2,F3,c3,F4,c4,rfl,rfl,⟨_,_,_,_,rfl,_⟩,⟨_,_,_,_,rfl,_⟩,⟨_,_,_,_,rfl,_⟩,⟨_,_,_,_,rfl,_⟩,⟨_,_,_,_,rfl,_⟩⟩:=zjc hr;exact ⟨_,_,_,_,_,_,_,_,_,_,_,_,_,_,_,rfl⟩
structure LP (c:DCode) (ms0:List Bool) (out0:List Nat) (nw:Bool) (ms:List Bool) (out:List Nat) (k:Nat):Prop where
 len:ms.length=c.ins.length
 leno:out.length=c.ins.length
 lt:∀ x∈out,x<64
 snd:∀ i,mkd ms i→MetP c i
 sndm:∀ i l,i<c.ins.length→(zax out i).testBit l=true→MayP c i l
 root:∀ p,RootP c p→mkd ms (eN c p)
 yes:nw=true→zio ms0+out0.sum<zio ms+out.sum
 no:nw=false→ms=ms0∧out=out0∧∀ i,i<k→mkd ms0 i→MC c ms0 i∧((zal c i).op=4→zf6 (zax out0 i) (zax out0 (eN c (agN c i)))∧(mkd ms0 (zN c (agN c i))→∀ j∈zaC c i,zf6 (zax out0 (zN c (agN c i))) (zax out0 j)))∧(¬(zal c i).op=4→∀ j∈zaC c i,zf6 (aft c [] i (zax out0 i)) (zax out0 j))
theorem LP.lt0 {c:DCode} {ms0 ms:List Bool} {out0 out:List Nat} {nw:Bool} {k:Nat} (h:LP c ms0 out0 nw ms out k) (i:Nat):zax out i<64:=zcY h.lt i
def zs9 (ms:List Bool) (out:List Nat) (nw:Bool) (i m:Nat):Bool:=nw || !(ms.getD i false&&decide (zax out i ||| m=zax out i))
theorem zpE {ms:List Bool} {out:List Nat} {nw:Bool} {i m:Nat} (h:mkd ms i) (h2:zax out i ||| m=zax out i):zs9 ms out nw i m=nw:=by
 unfold mkd at h;unfold zs9;rw [h,decide_eq_true h2];simp
theorem zlT {ms:List Bool} {out:List Nat} {nw:Bool} {i m:Nat} (h:¬(mkd ms i∧zax out i ||| m=zax out i)):zs9 ms out nw i m=true:=by
 unfold mkd at h;unfold zs9;cases e:ms.getD i false
 · simp
 have:¬(zax out i ||| m=zax out i):=λh2=>h ⟨e,h2⟩;rw [decide_eq_false this];simp
theorem zlU {out:List Nat} {i:Nat} (h:i<out.length):out.set i (zax out i)=out:=by rw [←za3 h];exact List.set_getElem_self h
theorem zsw {ms:List Bool} {i:Nat}:zio ms≤zio (ms.set i true):=by
 by_cases h:i<ms.length
 · by_cases hk:mkd ms i
   · rw [zjU hk];exact Nat.le_refl _
   rw [zgO h hk];omega
 rw [List.set_eq_of_length_le (by omega)];exact Nat.le_refl _
theorem LP.put {c:DCode} {ms0 ms:List Bool} {out0 out:List Nat} {nw:Bool} {k i m:Nat} (h:LP c ms0 out0 nw ms out k) (hi:i<c.ins.length) (hm:m<64) (hmet:MetP c i) (hmay:∀ l,l<6→m.testBit l=true→MayP c i l) :
   LP c ms0 out0 (zs9 ms out nw i m) (ms.set i true) (out.set i (zax out i ||| m)) k:=by
 by_cases hk:mkd ms i∧zax out i ||| m=zax out i
 · rw [zpE hk.1 hk.2,zjU hk.1,hk.2,zlU (by rw [h.leno];exact hi)];exact h
 rw [zlT hk];have h64:=h.lt0 i;have h1:=zhM (l:=out) (i:=i) (v:=zax out i ||| m) (by rw [h.leno];exact hi);have h2:zax out i≤zax out i ||| m:=Nat.left_le_or;have h3:=zsw (ms:=ms) (i:=i);refine ⟨by simp [h.len],by simp [h.leno],λx hx=>?_,λj hj=>?_,λj l hj hb=>?_,λp hp=>zeB (h.root p hp),λ_=>?_,λe=>by cases e⟩
 · rcases zjp hx with rfl | hx
   · exact zlR hm h64
   exact h.lt x hx
 · rcases (zcp (by rw [h.len];exact hi)).1 hj with h4 | h4
   · exact h.snd j h4
   rw [h4];exact hmet
 · rw [zb3 (by rw [h.leno];exact hi)] at hb
   split at hb
   · rename_i e
     subst e;rw [Nat.testBit_or,Bool.or_eq_true] at hb;rcases hb with hb | hb
     · exact h.sndm i l hj hb
     exact hmay l (zfe hm hb) hb
   exact h.sndm j l hj hb
 have key:zio ms+out.sum<zio (ms.set i true)+(out.set i (zax out i ||| m)).sum:=by
   by_cases hk1:mkd ms i
   · have:=zt7 λe=>hk ⟨hk1,e⟩
     omega
   have:=zgO (by rw [h.len];exact hi) hk1;omega
 cases nw with
 | true=>have:=h.yes rfl;omega
 | false=>rw [←(h.no rfl).1,←(h.no rfl).2.1];exact key
theorem zsx {ms:List Bool} {out:List Nat} {nw:Bool} {i m:Nat} (e:zs9 ms out nw i m=false):nw=false:=by
 unfold zs9 at e;cases nw<;>simp_all
theorem zsy {out:List Nat} {i j m x:Nat} (hi:i<out.length) (hx:zf6 x (zax out j)):zf6 x (zax (out.set i (zax out i ||| m)) j):=by
 rw [zb3 hi];split
 · rename_i e;subst e;exact zjV hx
 exact hx
theorem zif {out:List Nat} {i m:Nat} (hi:i<out.length):zf6 m (zax (out.set i (zax out i ||| m)) i):=by
 rw [zb3 hi,if_pos rfl];exact zuT
theorem LP.fin {c:DCode} (hc:CodeR c) {ms0 ms:List Bool} {out0 out:List Nat} (h:LP c ms0 out0 false ms out c.ins.length):ms=zfq c∧out=zmR c:=by
 obtain ⟨h1,h2,h3⟩:=h.no rfl;rw [←h1,←h2] at h3;have hT:TP c ms false ms c.ins.length:=⟨h.len,h.snd,h.root,λe=>(by cases e),λ_=>⟨rfl,λi hi hm=>(h3 i hi hm).1⟩⟩;have hms:=hT.fin hc;have hmk:∀ i,MetP c i→mkd ms i:=λi hi=>by rw [hms];exact zaF.2 ⟨hi.lt hc,hi⟩
 exact ⟨hms,zst hc h.leno h.lt h.sndm λi hm=>by
   have:=(h3 i (hm.lt hc) (hmk i hm)).2;exact ⟨λh4=>⟨(this.1 h4).1,λhz=>(this.1 h4).2 (hmk _ hz)⟩,this.2⟩⟩
theorem LP.again {c:DCode} {ms0 ms:List Bool} {out0 out:List Nat} {nw:Bool} {k:Nat} (h:LP c ms0 out0 nw ms out k):LP c ms out false ms out 0:=
 ⟨h.len,h.leno,h.lt,h.snd,h.sndm,h.root,λe=>(by cases e),λ_=>⟨rfl,rfl,λi hi=>by omega⟩⟩
theorem LP.skip {c:DCode} {ms0 ms:List Bool} {out0 out:List Nat} {nw:Bool} {k:Nat} (h:LP c ms0 out0 nw ms out k) (hk:¬mkd ms k):LP c ms0 out0 nw ms out (k+1):=
 ⟨h.len,h.leno,h.lt,h.snd,h.sndm,h.root,h.yes,λe=>⟨(h.no e).1,(h.no e).2.1,λi hi hm=>by
   by_cases e2:i=k
   · subst e2;rw [(h.no e).1] at hk;exact absurd hm hk
   exact (h.no e).2.2 i (by omega) hm⟩⟩
theorem LP.close {c:DCode} {ms0 ms:List Bool} {out0 out:List Nat} {nw:Bool} {k h0 m:Nat} (h:LP c ms0 out0 nw ms out k) (hC:CR c out0 k h0 m nw) (h1:(zal c k).op=4→mkd ms (eN c (agN c k))∧zf6 h0 (zax out (eN c (agN c k))))
   (h2:((zal c k).op=4→mkd ms (zN c (agN c k)))→∀ j∈zaC c k,mkd ms j∧zf6 m (zax out j)):LP c ms0 out0 nw ms out (k+1):=
 ⟨h.len,h.leno,h.lt,h.snd,h.sndm,h.root,h.yes,λe=>by
   obtain ⟨o1,o2,o3⟩:=h.no e;refine ⟨o1,o2,λi hi hm=>?_⟩;by_cases e2:i=k
   · subst e2
     obtain ⟨c1,c2,c3⟩:=hC e;rw [o1,o2] at h1;rw [o1,o2] at h2;refine ⟨⟨λh4=>⟨(h1 h4).1,λhz j hj=>(h2 (λ_=>hz) j hj).1⟩,λh4 j hj=>(h2 (λh=>absurd h h4) j hj).1⟩,λh4=>⟨c1▸(h1 h4).2,λhz j hj=>c2 h4▸(h2 (λ_=>hz) j hj).2⟩,λh4 j hj=>c3 h4▸(h2 (λh=>absurd h h4) j hj).2⟩
   exact o3 i (by omega) hm⟩
structure LW (w1 w:World) (gw g h n:Nat) (kc:List Value) (ms:List Bool) (out:List Nat) (nw:Bool):Prop where
 ext:Ext w1 w
 blk:Blk gw 159 w (kc++[.slice (some ⟨g,0,none⟩) n n,.slice (some ⟨h,0,none⟩) n n,.bool nw])
 mks:Mine [g] w (.slice (some ⟨g,0,none⟩) n n) ms
 mine:Mine [h] w (.slice (some ⟨h,0,none⟩) n n) (zaI out)
 k5:kc.length=5
 n1:gw≠g
 n2:gw≠h
 n3:g≠h
 g0:w1.heap.size≤gw
 g1:w1.heap.size≤g
 g2:w1.heap.size≤h
section
variable {w1 w w':World} {gw g h n:Nat} {kc:List Value} {ms:List Bool} {out:List Nat} {nw:Bool}
theorem LW.step (H:LW w1 w gw g h n kc ms out nw) (hx:Ext w w'):LW w1 w' gw g h n kc ms out nw:=⟨H.ext.trans hx,H.blk.ext hx,H.mks.ext hx,H.mine.ext hx,H.k5,H.n1,H.n2,H.n3,H.g0,H.g1,H.g2⟩
theorem LW.c5 (H:LW w1 w gw g h n kc ms out nw):(kc++[Value.slice (some ⟨g,0,none⟩) n n,.slice (some ⟨h,0,none⟩) n n,.bool nw])[5]?=some (.slice (some ⟨g,0,none⟩) n n):=by rw [List.getElem?_append_right (by rw [H.k5];omega),H.k5];rfl
theorem LW.c6 (H:LW w1 w gw g h n kc ms out nw):(kc++[Value.slice (some ⟨g,0,none⟩) n n,.slice (some ⟨h,0,none⟩) n n,.bool nw])[6]?=some (.slice (some ⟨h,0,none⟩) n n):=by rw [List.getElem?_append_right (by rw [H.k5];omega),H.k5];rfl
theorem LW.c7 (H:LW w1 w gw g h n kc ms out nw):(kc++[Value.slice (some ⟨g,0,none⟩) n n,.slice (some ⟨h,0,none⟩) n n,.bool nw])[7]?=some (.bool nw):=by rw [List.getElem?_append_right (by rw [H.k5];omega),H.k5];rfl
theorem LW.mark {ms':List Bool} (H:LW w1 w gw g h n kc ms out nw) (hc:Chg [g] w w') (hm:Mine [g] w' (.slice (some ⟨g,0,none⟩) n n) ms'):LW w1 w' gw g h n kc ms' out nw:=
 ⟨H.ext.chgF hc (by simp [H.g1]),H.blk.chgF hc (by simp [H.n1]),hm,H.mine.keep λb hb=>by
   simp only [List.mem_cons,List.not_mem_nil,or_false] at hb;subst hb;exact hc.block b (H.mine.lt b (by simp)) (by simp [Ne.symm H.n3]),H.k5,H.n1,H.n2,H.n3,H.g0,H.g1,H.g2⟩
theorem LW.set {i v:Nat} (H:LW w1 w gw g h n kc ms out nw) (hc:Chg [h] w w') (hm:Mine [h] w' (.slice (some ⟨h,0,none⟩) n n) ((zaI out).set i (v:Int))):LW w1 w' gw g h n kc ms (out.set i v) nw:=
 ⟨H.ext.chgF hc (by simp [H.g2]),H.blk.chgF hc (by simp [H.n2]),H.mks.keep λb hb=>by
   simp only [List.mem_cons,List.not_mem_nil,or_false] at hb;subst hb;exact hc.block b (H.mks.lt b (by simp)) (by simp [H.n3]),by rw [zff];exact hm,H.k5,H.n1,H.n2,H.n3,H.g0,H.g1,H.g2⟩
theorem LW.news {nw':Bool} (H:LW w1 w gw g h n kc ms out nw) (hc:Chg [gw] w w') (hB:Blk gw 159 w' ((kc++[Value.slice (some ⟨g,0,none⟩) n n,.slice (some ⟨h,0,none⟩) n n,.bool nw]).set 7 (.bool nw'))):LW w1 w' gw g h n kc ms out nw':=by
 have e:(kc++[Value.slice (some ⟨g,0,none⟩) n n,.slice (some ⟨h,0,none⟩) n n,.bool nw]).set 7 (.bool nw')=kc++[Value.slice (some ⟨g,0,none⟩) n n,.slice (some ⟨h,0,none⟩) n n,.bool nw']:=by
   rw [List.set_append_right _ _ (by rw [H.k5];omega),H.k5];rfl
 rw [e] at hB
 exact ⟨H.ext.chgF hc (by simp [H.g0]),hB,H.mks.keep λb hb=>by
   simp only [List.mem_cons,List.not_mem_nil,or_false] at hb;subst hb;exact hc.block b (H.mks.lt b (by simp)) (by simp [Ne.symm H.n1]),H.mine.keep λb hb=>by
   simp only [List.mem_cons,List.not_mem_nil,or_false] at hb;subst hb;exact hc.block b (H.mine.lt b (by simp)) (by simp [Ne.symm H.n2]),H.k5,H.n1,H.n2,H.n3,H.g0,H.g1,H.g2⟩
theorem LW.l8 (H:LW w1 w gw g h n kc ms out nw):7<(kc++[Value.slice (some ⟨g,0,none⟩) n n,.slice (some ⟨h,0,none⟩) n n,.bool nw]).length:=by simp [H.k5]
theorem zjW {i m:Nat} (H:LW w1 w gw g h n kc ms out nw) (hi:i<n) (hl:ms.length=n) (hlo:out.length=n) (h64:∀ x∈out,x<64) (hm:m<64) :
   CALL tp 177 [.pointer (some ⟨gw,0,none⟩),.int .i64 (i:Int),.int .i64 (m:Int)] w λr w'=>r=.tuple #[]∧LW w1 w' gw g h n kc (ms.set i true) (out.set i (zax out i ||| m)) (zs9 ms out nw i m)∧Chg [gw,g,h] w w':=by
 refine F177_call ?_;unfold F177;have hi64:=zcY h64 i;have ho:=zlR hm hi64;have hxd:=zaj w;have H1:=H.step hxd;have hcd:Chg [gw,g,h] w (World.drew1 w):=⟨hxd.os,hxd.tape,hxd.output,hxd.size,λb hb _=>hxd.block b hb⟩;generalize World.drew1 w=wd at *;have hmk:=zaQ (ms:=ms) (i:=i) (by rw [hl];exact hi);refine NIL.mk rfl ?_;refine zab zgl ?_;refine zaA zcd H1.blk H1.c5 ?_;refine zac zcy ty4 H1.mks.is (by rw [hl];exact hi) λb1 o1 hA1=>?_;refine zay ty4 hA1 (Ext.refl _) ?_;refine zaX ?_
 have hrd:∀ {w':World} {K:Value→Prop} (H:LW w1 w' gw g h n kc ms out nw) (k:K (.int .i64 (zax out i:Int))),RD tp (Instr.indexAt 23 (.slice (some ⟨h,0,none⟩) n n) (.int .i64 (i:Int))) w' λx37=>RD tp (Instr.loadAt 3 x37) w' K:=λH k=>by
   refine zac u23 ty3 (i:=i) H.mine.is (by rw [zaf,hlo];exact hi) λb1 o1 hA1=>?_;rw [zaL] at hA1;exact zad ty3 hA1 (Ext.refl _) λ_=>k
 refine zbz (λhf=>?_) (λhf=>?_)
 · have hnew:¬(mkd ms i∧zax out i ||| m=zax out i):=λhh=>by rw [hmk.1 hh.1] at hf;cases hf
   rw [zlT hnew];refine NIL.mk rfl ?_;refine zab zgl ?_;refine zaA zcd H1.blk H1.c5 ?_;refine zbE (α:=Bool) rfl zcy ty4 hi ?_;refine za9 (α:=Bool) rfl ty4 H1.mks hl hi zbu λw2 hc2 hm2=>?_;have H2:=H1.mark hc2 hm2;have hx3:=zaj w2;have H3:=H2.step hx3;have hc3:Chg [gw,g,h] w2 (World.drew1 w2):=⟨hx3.os,hx3.tape,hx3.output,hx3.size,λb hb _=>hx3.block b hb⟩;generalize World.drew1 w2=w3 at *;refine NIL.mk rfl ?_;refine zab ze7 ?_;refine zaA za4 H3.blk H3.c6 ?_;refine NIL.mk rfl ?_;refine zab ze7 ?_;refine zaA za4 H3.blk H3.c6 ?_;refine zac u23 ty3 (i:=i) H3.mine.is (by rw [zaf,hlo];exact hi) λb4 o4 hA4=>?_;rw [zaL] at hA4;refine zad ty3 hA4 (Ext.refl _) λ_=>?_;refine ze3 (m:=zax out i) (n:=m) (by omega) (by omega) ?_;refine zbE (α:=Int) rfl u23 ty3 hi ?_;refine za9 (α:=Int) rfl ty3 H3.mine (by rw [zaf,hlo]) hi (zbx (v:=zax out i ||| m) (by omega)) λw4 hc4 hm4=>?_;have H4:=H3.set (v:=zax out i ||| m) hc4 hm4;refine NIL.mk rfl ?_;refine zab zk7 ?_;refine zdl (α:=Raw) (lo:=0) (hi:=0) ty4 rfl rfl H4.blk H4.l8 (zdo rfl) λw5 hc5 hB5=>?_;exact ⟨rfl,H4.news hc5.one hB5,(((hcd.trans (hc2.mono (by simp))).trans hc3).trans (hc4.mono (by simp))).trans (hc5.one.mono (by simp))⟩
 have hym:mkd ms i:=by rw [hmk];simpa using hf
 refine NIL.mk rfl ?_;refine zab ze7 ?_;refine zaA za4 H1.blk H1.c6 ?_;refine hrd H1 ?_;refine ze3 (m:=zax out i) (n:=m) (by omega) (by omega) ?_;refine NIL.mk rfl ?_;refine zab ze7 ?_;refine zaA za4 H1.blk H1.c6 ?_;refine hrd H1 ?_;refine zaB ?_;refine br (λhne=>?_) (λheq=>?_)
 · have hnew:¬(mkd ms i∧zax out i ||| m=zax out i):=λhh=>hne (by rw [hh.2])
   rw [zlT hnew];refine NIL.mk rfl ?_;refine zab zgl ?_;refine zaA zcd H1.blk H1.c5 ?_;refine zbE (α:=Bool) rfl zcy ty4 hi ?_;refine za9 (α:=Bool) rfl ty4 H1.mks hl hi zbu λw2 hc2 hm2=>?_;have H2:=H1.mark hc2 hm2;have hx3:=zaj w2;have H3:=H2.step hx3;have hc3:Chg [gw,g,h] w2 (World.drew1 w2):=⟨hx3.os,hx3.tape,hx3.output,hx3.size,λb hb _=>hx3.block b hb⟩;generalize World.drew1 w2=w3 at *;refine NIL.mk rfl ?_;refine zab ze7 ?_;refine zaA za4 H3.blk H3.c6 ?_;refine NIL.mk rfl ?_;refine zab ze7 ?_;refine zaA za4 H3.blk H3.c6 ?_;refine zac u23 ty3 (i:=i) H3.mine.is (by rw [zaf,hlo];exact hi) λb4 o4 hA4=>?_;rw [zaL] at hA4;refine zad ty3 hA4 (Ext.refl _) λ_=>?_;refine ze3 (m:=zax out i) (n:=m) (by omega) (by omega) ?_;refine zbE (α:=Int) rfl u23 ty3 hi ?_;refine za9 (α:=Int) rfl ty3 H3.mine (by rw [zaf,hlo]) hi (zbx (v:=zax out i ||| m) (by omega)) λw4 hc4 hm4=>?_;have H4:=H3.set (v:=zax out i ||| m) hc4 hm4;refine NIL.mk rfl ?_;refine zab zk7 ?_;refine zdl (α:=Raw) (lo:=0) (hi:=0) ty4 rfl rfl H4.blk H4.l8 (zdo rfl) λw5 hc5 hB5=>?_;exact ⟨rfl,H4.news hc5.one hB5,(((hcd.trans (hc2.mono (by simp))).trans hc3).trans (hc4.mono (by simp))).trans (hc5.one.mono (by simp))⟩
 have he:zax out i ||| m=zax out i:=Int.ofNat_inj.1 (Decidable.not_not.1 heq);rw [zpE hym he,zjU hym,he,zlU (by rw [hlo];exact hi)];exact ⟨rfl,H1,hcd⟩
end
def F129 (a0:Value) (w:World) (R:VW):Prop:=
 oX 32 a0 w λx1 w=>
 (λw0=>PAR w0 [[(0,12)],[(1,13)],[(2,14),(1,13)],[(3,15),(2,14)],[(4,16),(3,15),(3,15)],[(5,17)],[(6,18),(5,17)],[(7,19),(6,18)],[(8,20),(7,19),(7,19)]] (λQ=>
 (∀ (u1:Env) (T:Nat→Nat×Nat) (w:World),Ext w0 w→zck [] w0.heap.size w.heap.size T→(True)→(λw1=>rL 32 x1 w λx12=>
 Ext w1 w∧Q 0 (upd u1 12 x12) (zdZ T 0 (w1.heap.size,w.heap.size)) w) w) ∧
 (∀ (u1:Env) (T:Nat→Nat×Nat) (w:World),Ext w0 w→zck [] w0.heap.size w.heap.size T→(True)→(λw1=>rF 32 x1 4 w λx13=>
 Ext w1 w∧Q 1 (upd u1 13 x13) (zdZ T 1 (w1.heap.size,w.heap.size)) w) w) ∧
 (∀ (u1:Env) (T:Nat→Nat×Nat) (w:World),Ext w0 w→zck [1] w0.heap.size w.heap.size T→(Q 1 u1 T w∧True)→(λw1=>rL 30 (u1 13) w λx14=>
 Ext w1 w∧Q 2 (upd u1 14 x14) (zdZ T 2 (w1.heap.size,w.heap.size)) w) w) ∧
 (∀ (u1:Env) (T:Nat→Nat×Nat) (w:World),Ext w0 w→zck [2] w0.heap.size w.heap.size T→(Q 2 u1 T w∧True)→(λw1=>rN 30 3 (u1 14) w λx15=>
 Ext w1 w∧Q 3 (upd u1 15 x15) (zdZ T 3 (w1.heap.size,w.heap.size)) w) w) ∧
 (∀ (u1:Env) (T:Nat→Nat×Nat) (w:World),Ext w0 w→zck [3,3] w0.heap.size w.heap.size T→(Q 3 u1 T w∧Q 3 u1 T w∧True)→(λw1=>oP (Instr.makeSlice 101 (u1 15) (u1 15)) w λx16 w=>
 Ext w1 w∧Q 4 (upd u1 16 x16) (zdZ T 4 (w1.heap.size,w.heap.size)) w) w) ∧
 (∀ (u1:Env) (T:Nat→Nat×Nat) (w:World),Ext w0 w→zck [] w0.heap.size w.heap.size T→(True)→(λw1=>rF 32 x1 4 w λx17=>
 Ext w1 w∧Q 5 (upd u1 17 x17) (zdZ T 5 (w1.heap.size,w.heap.size)) w) w) ∧
 (∀ (u1:Env) (T:Nat→Nat×Nat) (w:World),Ext w0 w→zck [5] w0.heap.size w.heap.size T→(Q 5 u1 T w∧True)→(λw1=>rL 30 (u1 17) w λx18=>
 Ext w1 w∧Q 6 (upd u1 18 x18) (zdZ T 6 (w1.heap.size,w.heap.size)) w) w) ∧
 (∀ (u1:Env) (T:Nat→Nat×Nat) (w:World),Ext w0 w→zck [6] w0.heap.size w.heap.size T→(Q 6 u1 T w∧True)→(λw1=>rN 30 3 (u1 18) w λx19=>
 Ext w1 w∧Q 7 (upd u1 19 x19) (zdZ T 7 (w1.heap.size,w.heap.size)) w) w) ∧
 (∀ (u1:Env) (T:Nat→Nat×Nat) (w:World),Ext w0 w→zck [7,7] w0.heap.size w.heap.size T→(Q 7 u1 T w∧Q 7 u1 T w∧True)→(λw1=>oP (Instr.makeSlice 23 (u1 19) (u1 19)) w λx20 w=>
 Ext w1 w∧Q 8 (upd u1 20 x20) (zdZ T 8 (w1.heap.size,w.heap.size)) w) w) ∧
 True)
 (λQ=>∀ (u1:Env) (T:Nat→Nat×Nat) (w:World),Ext w0 w→zck [0,1,2,3,4,5,6,7,8] w0.heap.size w.heap.size T→(Q 0 u1 T w∧Q 1 u1 T w∧Q 2 u1 T w∧Q 3 u1 T w∧Q 4 u1 T w∧Q 5 u1 T w∧Q 6 u1 T w∧Q 7 u1 T w∧Q 8 u1 T w∧True) →
 rD (Instr.build 159 #[(0,(u1 12)),(1,(u1 16)),(2,(u1 20)),(3,vT)]) w λx21=>
 oX 159 x21 w λx22 w=>
 rL 32 x1 w λx23=>
 cL 151 [x23] w λx24 w=>
 cL 176 [x24] w λx25 w=>
 LOOPI [5] [(iV 0)] w λu4 w n4=>
 rN 23 3 x25 w λx28=>
 rC (u4 5) x28 w λx29=>
 BR x29
 ((λw=>rF 32 x1 3 w λx33=>
 rL 23 x33 w λx34=>
 rX 23 x25 (u4 5) w λx37=>
 rL 3 x37 w λx38=>
 rX 23 x34 x38 w λx39=>
 rL 3 x39 w λx40=>
 cL 177 [x22,x40,(iV 0)] w λx41 w=>
 rI (u4 5) w λx31=>
 n4 [x31] w) (World.drew1 w))
 (LOOPI [] [] w λu7 w n7=>
 NIL x22 <|
 rF 159 x22 3 w λx44=>
 rL 4 x44 w λx45=>
 BR x45
 (NIL x22 <|
 rF 159 x22 3 w λx48=>
 oS 4 x48 vF w λw=>
 LOOPI [6] [(iV 0)] w λu10 w n10=>
 rF 32 x1 4 w λx50=>
 rL 30 x50 w λx51=>
 rN 30 3 x51 w λx52=>
 rC (u10 6) x52 w λx53=>
 BR x53
 (NIL x22 <|
 rF 159 x22 1 w λx58=>
 rL 101 x58 w λx59=>
 rX 101 x59 (u10 6) w λx61=>
 rL 4 x61 w λx62=>
 rT x62 w λx63=>
 BR x63
 (rI (u10 6) w λx55=>
 n10 [x55] w)
 (rF 32 x1 4 w λx64=>
 rL 30 x64 w λx65=>
 rX 30 x65 (u10 6) w λx67=>
 rL 111 x67 w λx68=>
 oP (aL 111) w λx7 w=>
 oS 111 x7 x68 w λw=>
 NIL x22 <|
 rF 159 x22 2 w λx71=>
 rL 23 x71 w λx72=>
 rX 23 x72 (u10 6) w λx74=>
 rL 3 x74 w λx75=>
 JOIN [8] (λJ25=>
 rF 111 x7 0 w λx76=>
 rL 3 x76 w λx77=>
 rQ x77 (iV 6) w λx79=>
 BR x79
 (rF 111 x7 1 w λx81=>
 rL 3 x81 w λx82=>
 cL 102 [x82] w λx83 w=>
 rB .or 3 T0 T0 x75 x83 w λx84=>
 J25 [x84] w)
 (rQ x77 (iV 7) w λx86=>
 BR x86
 (rF 111 x7 1 w λx88=>
 rL 3 x88 w λx89=>
 cL 102 [x89] w λx90 w=>
 cL 178 [x75,x90] w λx91 w=>
 J25 [x91] w)
 (rQ x77 (iV 4) w λx93=>
 BR x93
 (rF 32 x1 3 w λx95=>
 rL 23 x95 w λx96=>
 rF 111 x7 1 w λx97=>
 rL 3 x97 w λx98=>
 rX 23 x96 x98 w λx99=>
 rL 3 x99 w λx100=>
 cL 177 [x22,x100,x75] w λx102 w=>
 rL 32 x1 w λx103=>
 rF 111 x7 1 w λx104=>
 rL 3 x104 w λx105=>
 cL 124 [x103,x105] w λx106 w=>
 NIL x22 <|
 rF 159 x22 1 w λx109=>
 rL 101 x109 w λx110=>
 rX 101 x110 x106 w λx112=>
 rL 4 x112 w λx113=>
 rT x113 w λx114=>
 BR x114
 (rI (u10 6) w λx55=>
 n10 [x55] w)
 (NIL x22 <|
 rF 159 x22 2 w λx117=>
 rL 23 x117 w λx118=>
 rX 23 x118 x106 w λx120=>
 rL 3 x120 w λx121=>
 J25 [x121] w))
 (J25 [x75] w)))) (λu25 w=>
 rL 32 x1 w λx122=>
 cL 179 [x122,(u10 6)] w λx124 w=>
 LOOPI [11] [(iV 0)] w λu27 w n27=>
 rN 23 3 x124 w λx127=>
 rC (u27 11) x127 w λx128=>
 BR x128
 (rX 23 x124 (u27 11) w λx134=>
 rL 3 x134 w λx135=>
 cL 177 [x22,x135,(u25 8)] w λx137 w=>
 rI (u27 11) w λx130=>
 n27 [x130] w)
 (rI (u10 6) w λx55=>
 n10 [x55] w))))
 (n7 [] w))
 (R x22 w)))) (World.drew1 w)
def cfg129:Cfg:=⟨extL,[(25,5316911983139587933751502326797959936,[8])],[(4,4397979402272,[5]),(7,348449143727040986586495598005732602023872,[]),(10,348449143727040986586495597447180695113664,[6]),(27,348406608431175869278562676184201677506560,[11])],[(6,[0,1,2,3,4,5,6,7,8,9],0)],[(1,8384520,9)],[],[]⟩
theorem F129_call {a0 w R} (h:F129 a0 w R):cL 129 [a0] w R:=co (g:=cfg129) Tryz.func129 h
open Rep (rep)
def lkQ (c:DCode) (g1 n:Nat) (w0:World):ParQ:=λi u T w=>match i with
 | 0=>Is w0 (u 12) c
 | 1=>u 13=.pointer (some ⟨g1,0+4,none⟩)
 | 2=>Is w0 (u 14) c.ins
 | 3=>u 15=.int .i64 (n:Int)
 | 4=>∃ g,u 16=.slice (some ⟨g,0,none⟩) n n∧(T 4).1≤g∧g<(T 4).2∧Mine [g] w (.slice (some ⟨g,0,none⟩) n n) (List.replicate n false)
 | 5=>u 17=.pointer (some ⟨g1,0+4,none⟩)
 | 6=>Is w0 (u 18) c.ins
 | 7=>u 19=.int .i64 (n:Int)
 | 8=>∃ g,u 20=.slice (some ⟨g,0,none⟩) n n∧(T 8).1≤g∧g<(T 8).2∧Mine [g] w (.slice (some ⟨g,0,none⟩) n n) (zaI (List.replicate n 0))
 | _=>True
theorem znd {w W0:World} {v0:Value} {c:DCode} (h0:Is W0 v0 c) (e0:Ext W0 w) (hc:CodeR c) :
   CALL tp 129 [v0] w λr w'=>Ext w w'∧∃ gw,r=.pointer (some ⟨gw,0,none⟩)∧At w' gw (0+5) (zfq c)∧At w' gw (0+6) (zaI (zmR c)):=by
 refine F129_call ?_;unfold F129;have h8:=hc.1.procs8;have hil:=hc.f.ins;have hz0:=(zdY hc h8.2).2.2;have hrep:=HP.start (c:=c);refine zbj h0 e0 λw1 hx1 hA=>?_;have hs1:=hx1.size;have hn:c.ins.length=c.ins.length:=rfl;generalize hnn:c.ins.length=n at hn;rw [hnn] at hil hrep;have hx1d:=zaj w1;refine PAR.mk (lkQ c w.heap.size n (World.drew1 w1)) ?_ ?_ ?_
 · intro i u u' T T' wa wb hxa hxb hd hq
   match i,hd,hq with
   | 0,hd,hq=>have:=(hd (0,12) (by decide)).1;show Is _ (u' 12) _;simp only [this];exact hq
   | 1,hd,hq=>exact (hd (1,13) (by decide)).1.trans hq
   | 2,hd,hq=>have:=(hd (2,14) (by decide)).1;show Is _ (u' 14) _;simp only [this];exact hq
   | 3,hd,hq=>exact (hd (3,15) (by decide)).1.trans hq
   | 4,hd,⟨g,q1,q2,q3,q4⟩=>
     obtain ⟨e1,e2⟩:=hd (4,16) (by decide);simp only at e1 e2;exact ⟨g,e1.trans q1,by rw [e2];exact q2,by rw [e2];exact q3,q4.ext hxb⟩
   | 5,hd,hq=>exact (hd (5,17) (by decide)).1.trans hq
   | 6,hd,hq=>have:=(hd (6,18) (by decide)).1;show Is _ (u' 18) _;simp only [this];exact hq
   | 7,hd,hq=>exact (hd (7,19) (by decide)).1.trans hq
   | 8,hd,⟨g,q1,q2,q3,q4⟩=>
     obtain ⟨e1,e2⟩:=hd (8,20) (by decide);simp only at e1 e2;exact ⟨g,e1.trans q1,by rw [e2];exact q2,by rw [e2];exact q3,q4.ext hxb⟩
   | n+9,_,_=>trivial
 · refine ⟨λu T w' hx _ _=>?_,λu T w' hx _ _=>?_,λu T w' hx _ hp=>?_,λu T w' hx _ hp=>?_,λu T w' hx _ hp=>?_,λu T w' hx _ _=>?_,λu T w' hx _ hp=>?_,λu T w' hx _ hp=>?_,λu T w' hx _ hp=>?_,trivial⟩
   · exact zaa zbq hA (hx1d.t hx) λv6 h6=>⟨Ext.refl _,h6.ext hx1d⟩
   · exact zab zaD ⟨Ext.refl _,rfl⟩
   · have q0:u 13=_:=hp.1
     rw [q0];exact zaa zcu (zai hA) (hx1d.t hx) λv6 h6=>⟨Ext.refl _,h6.ext hx1d⟩
   · have q1:Is _ (u 14) c.ins:=hp.1
     exact zae u30 q1 (by rw [hnn];exact ⟨Ext.refl _,rfl⟩)
   · have q2:u 15=_:=hp.1
     rw [q2];exact zd2 (by omega) (by omega) λw4 hx4 r=>⟨hx4,_,rfl,lr _,r.lt _ (List.mem_singleton.2 rfl),r⟩
   · exact zab zaD ⟨Ext.refl _,rfl⟩
   · have q0:u 17=_:=hp.1
     rw [q0];exact zaa zcu (zai hA) (hx1d.t hx) λv6 h6=>⟨Ext.refl _,h6.ext hx1d⟩
   · have q1:Is _ (u 18) c.ins:=hp.1
     exact zae u30 q1 (by rw [hnn];exact ⟨Ext.refl _,rfl⟩)
   have q2:u 19=_:=hp.1;rw [q2];exact zdn (by omega) (by omega) λw4 hx4 r=>⟨hx4,_,rfl,lr _,r.lt _ (List.mem_singleton.2 rfl),r⟩
 rintro u T w2 hx2 hap ⟨hq0,-,-,-,⟨g,q16,hga,hgb,hMg⟩,-,-,-,⟨h,q20,hha,hhb,hMh⟩,-⟩;have hq0:Is (World.drew1 w1) (u 12) c:=hq0;have t4:=hap.1 4 (by decide);have t8:=hap.1 8 (by decide);have d48:=hap.2 4 (by decide) 8 (by decide) (by decide);have hx12:=hx1d.t hx2;have hsd:(World.drew1 w1).heap.size=w1.heap.size:=rfl;rw [q16,q20];obtain ⟨a0,a1,a2,a3,a4,n0,n1,n2,n3,n4,k0,k1,k2,k3,k4,hcv⟩:=zkJ hq0;rw [hcv];refine zch (cells:=#[.slice a0 n0 k0,.slice a1 n1 k1,.slice a2 n2 k2,.slice a3 n3 k3,.slice a4 n4 k4,.slice (some ⟨g,0,none⟩) n n,.slice (some ⟨h,0,none⟩) n n,.bool true]) (by kernel_rfl) ?_;refine zla λw3 hx3 hB3=>?_;have H3:LW w1 w3 w2.heap.size g h n [.slice a0 n0 k0,.slice a1 n1 k1,.slice a2 n2 k2,.slice a3 n3 k3,.slice a4 n4 k4] (List.replicate n false) (List.replicate n 0) true:=⟨hx12.t hx3,hB3,hMg.ext hx3,hMh.ext hx3,rfl,by omega,by omega,by omega,hx12.size,by omega,by omega⟩;generalize [Value.slice a0 n0 k0,.slice a1 n1 k1,.slice a2 n2 k2,.slice a3 n3 k3,.slice a4 n4 k4]=kc at *;generalize w2.heap.size=gw at *;refine zaa zbq hA H3.ext λv23 h23=>?_;refine (zfk h23 H3.ext hc).mono ?_;rintro v24 w4 ⟨hx4,ho4⟩;refine (zex ho4.is (Ext.refl _) (by rw [zak];omega)).mono ?_;rintro v25 w5 ⟨hx5,ho5⟩;rw [zak,zfK] at ho5;have H4:=H3.step hx4;have H5:=H4.step hx5;have hL:∀ p,p∈zaY c.procs.length (RootP c)↔RootP c p:=λp=>by rw [zaJ];exact ⟨λh=>h.2,λh=>⟨h.lt hc,h⟩⟩
 have hLl:(zaY c.procs.length (RootP c)).length≤8:=Nat.le_trans za0 h8.1;generalize zaY c.procs.length (RootP c)=L at *;have hgw4:=H4.blk.lt;have hg4:=H4.mks.lt g (by simp);have hh4:=H4.mine.lt h (by simp);have hrl:(List.replicate n 0).length=n:=by simp
 have hr64:∀ x∈List.replicate n 0,x<64:=λx hx=>by rw [(List.mem_replicate.1 hx).2];omega
 have hset0:∀ i,i<n→(List.replicate n 0).set i (zax (List.replicate n 0) i ||| 0)=List.replicate n 0:=λi hi=>by rw [Nat.or_zero,zlU (by rw [hrl];exact hi)]
 have hmz:∀ i l,i<c.ins.length→(zax (List.replicate n 0) i).testBit l=true→MayP c i l:=λi l hi hb=>(hrep.snd i l hi hb).1;generalize List.replicate n 0=out at *;refine zam L.length (λk us w'=>∃ ms,us=[.int .i64 (k:Int)]∧k≤L.length∧LW w1 w' gw g h n kc ms out true∧OwnI w4.heap.size w5.heap.size w' v25 (zaI L)∧ms.length=n∧(∀ i,mkd ms i→MetP c i)∧∀ p∈L.take k,mkd ms (eN c p)) 0 (z0 _) ⟨_,rfl,z0 _,H5,ho5.toI,by simp,λi h=>absurd h zbv,by simp⟩ ?_;rintro k mk u6 w6 hkm ⟨ms,hu,hkl,H6,hO6,hl6,hsn6,hrt6⟩;try replace hu:=zbi hu
 rw [hu];refine zae u23 hO6.is ?_;rw [zaf];refine zag ?_;refine br (λhlt=>?_) (λhge=>?_)
 · have hk:k<L.length:=by omega
   have hxd:=zaj w6;have H7:=H6.step hxd;have hO7:=hO6.ext hxd;generalize World.drew1 w6=w7 at *;refine zab za6 ?_;refine zaa za4 (zap hA) H7.ext λv34 h34=>?_;refine zac u23 ty3 (i:=k) hO7.is (by rw [zaf];exact hk) λb2 o2 hA2=>?_;rw [zaP] at hA2;refine zad ty3 hA2 (Ext.refl _) λ_=>?_;have htk:=λx=>zbg hk (x:=x);have hrp:=(hL L[k]).1 (List.getElem_mem hk);generalize L[k]=p at *;have hpe:p<c.entry.length:=by rw [hc.2.1.1];exact hrp.lt hc
   obtain ⟨he1,he2,_⟩:=zfg hc hpe;refine zac u23 ty3 h34 hpe λb5 o5 hA5=>?_;rw [zbm hpe,he1] at hA5;refine zad ty3 hA5 H7.ext λ_=>?_;refine (zjW (i:=eN c p) (m:=0) H7 (by omega) hl6 hrl hr64 (by omega)).mono ?_;rintro _ w8 ⟨rfl,H8,hc8⟩;rw [hset0 _ (by omega)] at H8;refine zas ?_;refine ⟨mk-1,by omega,k+1,by omega,_,rfl,by omega,H8,hO7.chgF hc8 (by simp;omega),by simp [hl6],λi hi=>?_,λq hq=>?_⟩
   · rcases (zcp (by rw [hl6];omega)).1 hi with h | h
     · exact hsn6 i h
     rw [h];exact .root hrp
   rcases (htk q).1 hq with h | h
   · exact zeB (hrt6 q h)
   rw [h];exact (zcp (by rw [hl6];omega)).2 (.inr rfl)
 have hrt:∀ p,RootP c p→mkd ms (eN c p):=λp hp=>hrt6 p (by rw [List.take_of_length_le (by omega)];exact (hL p).2 hp);have hT:LP c ms out false ms out 0:=⟨by rw [hl6,hnn],by rw [hrl,hnn],hr64,hsn6,hmz,hrt,λe=>(by cases e),λ_=>⟨rfl,rfl,λi hi=>by omega⟩⟩;clear hu hkm hO6 hset0;refine LOOPI.mk (λm us w'=>∃ (ms:List Bool) (out:List Nat) (nw:Bool),us=[]∧m=(n*64-(zio ms+out.sum))+(if nw then 1 else 0)∧LW w1 w' gw g h n kc ms out nw∧LP c ms out false ms out 0∧(nw=false→ms=zfq c∧out=zmR c)) (n*64-(zio ms+out.sum)+1) ⟨ms,out,true,rfl,rfl,H6,hT,λe=>by cases e⟩ ?_;rintro m u9 w9 ⟨ms,out,nw,hu,hm,H9,hT9,hend⟩
 have hbnd:∀ {ms0 ms:List Bool} {out0 out:List Nat} {nw:Bool} {k:Nat},LP c ms0 out0 nw ms out k→zio ms+out.sum≤n*64:=λ{ms0 ms out0 out nw k} hP=>by
   have h1:=zfv ms;rw [hP.len,hnn] at h1;have h2:=sum_le (l:=out) (b:=63) λx hx=>by have:=hP.lt x hx;omega
   rw [hP.leno,hnn] at h2;omega
 refine NIL.mk rfl ?_;refine zab zk7 ?_;refine zaA ty4 H9.blk H9.c7 ?_;refine zbz (λhag=>?_) (λhag=>?_)
 case refine_2=>
   obtain ⟨hm1,hm2⟩:=hend hag;refine ⟨hx1.t H9.ext,gw,rfl,zeX H9.blk H9.c5 ?_,zeX H9.blk H9.c6 ?_⟩
   · rw [←hm1];exact H9.mks.is
   rw [←hm2];exact H9.mine.is
 rw [hag,if_pos rfl] at hm;have hb9:=hbnd hT9;refine NIL.mk rfl ?_;refine zab zk7 ?_;refine zdl (α:=Raw) (lo:=0) (hi:=0) ty4 rfl rfl H9.blk H9.l8 (zdo rfl) λw10 hc10 hB10=>?_;have H10:=H9.news hc10.one hB10;refine zam n (λk us w'=>∃ (ms':List Bool) (out':List Nat) (nw':Bool),us=[.int .i64 (k:Int)]∧k≤n∧LW w1 w' gw g h n kc ms' out' nw'∧LP c ms out nw' ms' out' k) 0 (z0 _) ⟨ms,out,false,rfl,z0 _,H10,hT9⟩ ?_;rintro k mk u11 w11 hkm ⟨ms11,out11,nw11,hu,hkl,H11,hT11⟩;try replace hu:=zbi hu
 rw [hu];refine zab zaD ?_;refine zaa zcu (zai hA) H11.ext λv51 h51=>?_;refine zae u30 h51 ?_;rw [hnn];refine zag ?_;refine br (λhlt=>?_) (λhge=>?_)
 case refine_2=>
   have hke:k=n:=by omega
   rw [hke] at hT11;have hb11:=hbnd hT11;refine ⟨(n*64-(zio ms11+out11.sum))+(if nw11 then 1 else 0),?_,ms11,out11,nw11,rfl,rfl,H11,hT11.again,λe=>?_⟩
   · cases nw11 with
     | true=>have:=hT11.yes rfl;simp;omega
     | false=>rw [(hT11.no rfl).1,(hT11.no rfl).2.1];simp;omega
   rw [e,←hnn] at hT11;exact hT11.fin hc
 have hk:k<n:=by omega
 have hkn:k<c.ins.length:=by omega
 have hl11:ms11.length=n:=by rw [hT11.len,hnn]
 have hlo11:out11.length=n:=by rw [hT11.leno,hnn]
 refine NIL.mk rfl ?_;refine zab zgl ?_;refine zaA zcd H11.blk H11.c5 ?_;refine zac zcy ty4 (i:=k) H11.mks.is (by rw [hl11];exact hk) λb4 o4 hA4=>?_;refine zay ty4 hA4 (Ext.refl _) ?_;refine zaX ?_;have hmk11:=zaQ (ms:=ms11) (i:=k) (by rw [hl11];exact hk);refine zbz (λhf=>?_) (λhf=>?_)
 · have hnm:¬mkd ms11 k:=by rw [hmk11];simpa using hf
   refine zas ?_;exact ⟨mk-1,by omega,k+1,by omega,ms11,out11,nw11,rfl,by omega,H11,hT11.skip hnm⟩
 have hym:mkd ms11 k:=by rw [hmk11];simpa using hf
 have hMk:=hT11.snd k hym;refine zab zaD ?_;refine zaa zcu (zai hA) H11.ext λv65 h65=>?_;refine zac u30 zaO h65 hkn λb3 o3 hA3=>?_;rw [zaz] at hA3;refine zaa zaO hA3 H11.ext λv32 h32=>?_;refine zb7 zfx rfl zaO rfl h32 H11.ext λw12 hx12' hAI hV12=>?_;have H12:=H11.step hx12';have hAB12:=zfA h32 hV12 rfl;refine NIL.mk rfl ?_;refine zab ze7 ?_;refine zaA za4 H12.blk H12.c6 ?_;refine zac u23 ty3 (i:=k) H12.mine.is (by rw [zaf,hlo11];exact hk) λb5 o5 hA5=>?_;rw [zaL] at hA5;refine zad ty3 hA5 (Ext.refl _) λ_=>?_;have hk64:=hT11.lt0 k;have hkz:nw11=false→zax out11 k=zax out k:=λe=>by rw [(hT11.no e).2.1]
 have hkm8:∀ l,l<6→(zax out11 k).testBit l=true→MayP c k l:=λl hl hb=>hT11.sndm k l hkn hb;generalize hh0:zax out11 k=h0 at *;refine JOIN.mk (λus w'=>∃ (m:Nat) (ms':List Bool) (out':List Nat) (nw':Bool),us=[.int .i64 (m:Int)]∧LW w1 w' gw g h n kc ms' out' nw'∧LP c ms out nw' ms' out' k∧m<64∧CR c out k h0 m nw'∧((zal c k).op=4→mkd ms' (eN c (agN c k))∧zf6 h0 (zax out' (eN c (agN c k))))∧(∀ l,l<6→m.testBit l=true→∀ j∈zaC c k,MayP c j l)∧∀ j∈zaC c k,MetP c j) ?_ ?_
 · have haf:aft c [] k h0=if (zal c k).op=6 then h0 ||| 2^agN c k else if (zal c k).op=7 then zir h0 (2^agN c k) else if (zal c k).op=4 then (h0 &&& (tbl [] (agN c k)).1) ||| (tbl [] (agN c k)).2 else h0:=rfl
   have hgo:¬(zal c k).op=4→∀ w',LW w1 w' gw g h n kc ms11 out11 nw11→aft c [] k h0<64→∃ (m:Nat) (ms':List Bool) (out':List Nat) (nw':Bool),[Value.int .i64 (aft c [] k h0:Nat)]=[.int .i64 (m:Int)]∧LW w1 w' gw g h n kc ms' out' nw'∧LP c ms out nw' ms' out' k∧m<64∧CR c out k h0 m nw'∧((zal c k).op=4→mkd ms' (eN c (agN c k))∧zf6 h0 (zax out' (eN c (agN c k))))∧(∀ l,l<6→m.testBit l=true→∀ j∈zaC c k,MayP c j l)∧∀ j∈zaC c k,MetP c j:=λh4 w' hW' hlt'=>
     ⟨_,ms11,out11,nw11,rfl,hW',hT11,hlt',λe=>⟨hkz e,λh=>absurd h h4,λ_=>by rw [hkz e]⟩,λh=>absurd h h4,λl hl hb j hj=>zss h4 hMk hj (hkm8 l hl) hb,λj hj=>.next hMk h4 hj⟩
   refine zab zaM ?_;refine zad ty3 (zav hAI) (Ext.refl _) λ_=>?_;refine zao ?_;refine br (λc6=>?_) (λc6=>?_)
   · obtain ⟨ha,_,hq⟩:=zcN hc hkn (.inl c6)
     have hp:=zeH hq;rw [if_pos c6] at haf;refine zab zaK ?_;refine zad ty3 (zat hAI) (Ext.refl _) λ_=>?_;rw [ha];refine (zei (by omega)).mono ?_;rintro _ w13 ⟨hx13,rfl⟩;refine ze3 (m:=h0) (n:=2^agN c k) (by omega) (by omega) ?_;have:=hgo (by omega) w13 (H12.step hx13) (by rw [haf];exact zkA hk64 hq);rw [haf] at this;exact this
   rw [if_neg c6] at haf;refine zao ?_;refine br (λc7=>?_) (λc7=>?_)
   · obtain ⟨ha,_,hq⟩:=zcN hc hkn (.inr c7)
     have hp:=zeH hq;rw [if_pos c7] at haf;refine zab zaK ?_;refine zad ty3 (zat hAI) (Ext.refl _) λ_=>?_;rw [ha];refine (zei (by omega)).mono ?_;rintro _ w13 ⟨hx13,rfl⟩;refine (zhV hk64 hp).mono ?_;rintro _ w14 ⟨hx14,rfl⟩;rw [zgz hk64 hp];have:=hgo (by omega) w14 ((H12.step hx13).step hx14) (by rw [haf];exact Nat.lt_of_le_of_lt (zgp _ _) hk64);rw [haf] at this;exact this
   rw [if_neg c7] at haf;refine zao ?_;refine br (λc4=>?_) (λc4=>?_)
   · obtain ⟨ha1,ha2⟩:=zbZ hc hkn (.inl c4)
     have hpe:agN c k<c.entry.length:=by rw [hc.2.1.1];exact ha2
     obtain ⟨he1,he2,_⟩:=zfg hc hpe;obtain ⟨hz1,hz2,hz3⟩:=zdY hc ha2;refine zab za6 ?_;refine zaa za4 (zap hA) H12.ext λv66 h66=>?_;refine zab zaK ?_;refine zad ty3 (zat hAI) (Ext.refl _) λ_=>?_;rw [ha1];refine zac u23 ty3 h66 hpe λb5 o5 hA5=>?_;rw [zbm hpe,he1] at hA5;refine zad ty3 hA5 H12.ext λ_=>?_;refine (zjW (i:=eN c (agN c k)) (m:=h0) H12 (by omega) hl11 hlo11 hT11.lt hk64).mono ?_;rintro _ w13 ⟨rfl,H13,hc13⟩;have hmE:MetP c (eN c (agN c k)):=.call hMk c4;have hT13:=hT11.put he2 hk64 hmE λl hl hb=>.call hMk c4 (hkm8 l hl hb);have hF1:=zif (out:=out11) (m:=h0) (i:=eN c (agN c k)) (by rw [hlo11];omega);have hF0:mkd (ms11.set (eN c (agN c k)) true) (eN c (agN c k)):=(zcp (by rw [hl11];omega)).2 (.inr rfl);have hz13:zs9 ms11 out11 nw11 (eN c (agN c k)) h0=false→nw11=false:=zsx;generalize zs9 ms11 out11 nw11 (eN c (agN c k)) h0=nw13 at *;generalize out11.set (eN c (agN c k)) (zax out11 (eN c (agN c k)) ||| h0)=out13 at *;generalize ms11.set (eN c (agN c k)) true=ms13 at *;have hgI:w11.heap.size<w12.heap.size:=hV12.lt;have hne:w11.heap.size∉[gw,g,h]:=by have h1:=H11.mks.lt g (by simp);have h2:=H11.mine.lt h (by simp);have h3:=H11.blk.lt;simp;omega
     have hAI13:=(hAB12.keep (hc13.block _ hgI hne)).at H13.ext;refine zaa zbq hA H13.ext λv76 h76=>?_;refine zab zaK ?_;refine zad ty3 (zat hAI13) (Ext.refl _) λ_=>?_;rw [ha1];refine (zeg h76 H13.ext (p:=(agN c k:Int)) (by omega) (by omega) hc.2.1.nonneg).mono ?_;rintro _ w14 ⟨hx14,rfl⟩;have H14:=H13.step hx14;rw [hz2];have hl13:ms13.length=n:=by rw [hT13.len,hnn]
     have hlo13:out13.length=n:=by rw [hT13.leno,hnn]
     refine NIL.mk rfl ?_;refine zab zgl ?_;refine zaA zcd H14.blk H14.c5 ?_;refine zac zcy ty4 (i:=zN c (agN c k)) H14.mks.is (by rw [hl13];omega) λb6 o6 hA6=>?_;refine zay ty4 hA6 (Ext.refl _) ?_;refine zaX ?_;have hmk13:=zaQ (ms:=ms13) (i:=zN c (agN c k)) (by rw [hl13];omega);refine zbz (λhf13=>?_) (λhf13=>?_)
     · have hnm:¬mkd ms13 (zN c (agN c k)):=by rw [hmk13];simpa using hf13
       refine zas ?_;refine ⟨mk-1,by omega,k+1,by omega,ms13,out13,nw13,rfl,by omega,H14,LP.close (h0:=h0) (m:=zax out (zN c (agN c k))) hT13 (λe=>⟨hkz (hz13 e),λ_=>rfl,λh=>absurd c4 h⟩) (λ_=>⟨hF0,hF1⟩) λh=>absurd (h c4) hnm⟩
     have hyz:mkd ms13 (zN c (agN c k)):=by rw [hmk13];simpa using hf13
     have hMz:=hT13.snd _ hyz;refine NIL.mk rfl ?_;refine zab ze7 ?_;refine zaA za4 H14.blk H14.c6 ?_;refine zac u23 ty3 (i:=zN c (agN c k)) H14.mine.is (by rw [zaf,hlo13];omega) λb7 o7 hA7=>?_;rw [zaL] at hA7;refine zad ty3 hA7 (Ext.refl _) λ_=>?_;exact ⟨zax out13 (zN c (agN c k)),ms13,out13,nw13,rfl,H14,hT13,hT13.lt0 _,λe=>⟨hkz (hz13 e),λ_=>by rw [(hT13.no e).2.1],λh=>absurd c4 h⟩,λ_=>⟨hF0,hF1⟩,λl hl hb j hj=>.back hMk c4 hMz (hT13.sndm _ l (by omega) hb) hj,λj hj=>.back hMk c4 hMz hj⟩
   rw [if_neg c4] at haf;have:=hgo c4 w12 H12 (by rw [haf];exact hk64);rw [haf] at this;exact this
 rintro us w14 ⟨m,ms14,out14,nw14,hus,H14,hT14,hm64,hC14,hF14,hmay,hnx⟩;try replace hus:=zbi hus
 rw [hus];refine zaa zbq hA H14.ext λv122 h122=>?_;refine (zhK h122 H14.ext hc hkn).mono ?_;rintro v86 w15 ⟨hx15,ho15⟩;have H15:=H14.step hx15;have hl2:=zeh c k;have hnl:=λ{j:Nat} (hj:j∈zaC c k)=>(zcJ hc hkn hj).1;have hclose:=λ{ms o:List Bool} {out0 out1:List Nat} {ag:Bool} (hP:LP c ms out0 ag o out1 k)=>LP.close (h0:=h0) (m:=m) hP;generalize hNx:zaC c k=N at *;refine zam N.length (λq us w'=>∃ (ms':List Bool) (out':List Nat) (nw':Bool),us=[.int .i64 (q:Int)]∧q≤N.length∧LW w1 w' gw g h n kc ms' out' nw'∧LP c ms out nw' ms' out' k∧CR c out k h0 m nw'∧((zal c k).op=4→mkd ms' (eN c (agN c k))∧zf6 h0 (zax out' (eN c (agN c k))))∧(∀ j∈N.take q,mkd ms' j∧zf6 m (zax out' j))∧OwnI w14.heap.size w15.heap.size w' v86 (zaI N)) 0 (z0 _) ⟨ms14,out14,nw14,rfl,z0 _,H15,hT14,hC14,hF14,by simp,ho15.toI⟩ ?_;rintro q mq u w16 hqm ⟨ms16,out16,nw16,hu,hql,H16,hT16,hC16,hF16,hq16,hO16⟩;try replace hu:=zbi hu
 rw [hu];refine zae u23 hO16.is ?_;rw [zaf];refine zag ?_;refine br (λhlt=>?_) (λhge=>?_)
 case refine_2=>refine zas ?_;rw [List.take_of_length_le (by omega)] at hq16;exact ⟨mk-1,by omega,k+1,by omega,ms16,out16,nw16,rfl,by omega,H16,hclose hT16 hC16 hF16 λ_=>hNx▸hq16⟩
 have hq:q<N.length:=by omega
 refine zac u23 ty3 (i:=q) hO16.is (by rw [zaf];exact hq) λb7 o7 hA7=>?_;rw [zaP] at hA7;refine zad ty3 hA7 (Ext.refl _) λ_=>?_;have htq:=λx=>zbg hq (x:=x);have hj:=List.getElem_mem hq;have hjl:=hnl hj;have hmj:=λl hl hb=>hmay l hl hb _ hj;have hmet:=hnx _ hj;generalize N[q]=j at *;have hl16:ms16.length=n:=by rw [hT16.len,hnn]
 have hlo16:out16.length=n:=by rw [hT16.leno,hnn]
 refine (zjW (i:=j) (m:=m) H16 (by omega) hl16 hlo16 hT16.lt hm64).mono ?_;rintro _ w17 ⟨rfl,H17,hc17⟩;refine zas ?_;have hg14:=H14.mks.lt g (by simp);have hh14:=H14.mine.lt h (by simp);have hgw14:=H14.blk.lt;have hjo:j<out16.length:=by omega
 refine ⟨mq-1,by omega,q+1,by omega,_,_,_,rfl,by omega,H17,hT16.put hjl hm64 hmet hmj,λe=>hC16 (zsx e),λh4=>⟨zeB (hF16 h4).1,zsy hjo (hF16 h4).2⟩,λi hi=>?_,hO16.chgF hc17 (by simp;omega)⟩;rcases (htq i).1 hi with h | h
 · exact ⟨zeB (hq16 i h).1,zsy hjo (hq16 i h).2⟩
 subst h;exact ⟨(zcp (by rw [hl16];omega)).2 (.inr rfl),zif hjo⟩
end Go.Proofs.YtifonhplnmpgaaaGreat
namespace Go.Sh
open Rep (rep)
theorem Blk.uniq {w:World} {g e:Nat} {cs cs':List Value} (h:Blk g e w cs) (h':Blk g e w cs'):cs'=cs:=by
 unfold Blk at h h';rw [h] at h';simp only [Option.some.injEq,Obj.cells.injEq] at h';have:=h'.1;simpa using this.symm
theorem zpF {w:World} {g e:Nat} {cs ds:List Value} (h:Blk g e w (cs++ds)):w.rangeAt g 0 cs:=(za1 h.range).1
end Go.Sh
namespace Go.Proofs.YtifonhplnmpgaaaGreat
open Go Go.Sh Go.Proofs
open Rep (rep)
structure WB (W0 w:World) (b e:Nat) (c:DCode) (kc:List Value) (m:Nat) (x6 x7 x8 x9 x10:Value):Prop where
 ext:Ext W0 w
 blk:Blk b e w (kc++[.slice (some ⟨m,0,none⟩) c.ins.length c.ins.length,x6,x7,x8,x9,x10])
 code:∃ F,rep F W0 kc c
 live:Mine [m] w (.slice (some ⟨m,0,none⟩) c.ins.length c.ins.length) (zby c.ins.length (zeI c))
 b0:W0.heap.size≤b
 m0:W0.heap.size≤m
 ne:b≠m
section
variable {W0 w w':World} {b e m:Nat} {c:DCode} {kc:List Value} {x6 x7 x8 x9 x10:Value}
theorem WB.k5 (h:WB W0 w b e c kc m x6 x7 x8 x9 x10):kc.length=5:=by obtain ⟨F,hr⟩:=h.code;exact Rep.len hr
theorem WB.cell (h:WB W0 w b e c kc m x6 x7 x8 x9 x10) (i:Nat):(kc++[Value.slice (some ⟨m,0,none⟩) c.ins.length c.ins.length,x6,x7,x8,x9,x10])[5+i]?=[Value.slice (some ⟨m,0,none⟩) c.ins.length c.ins.length,x6,x7,x8,x9,x10][i]?:=by
 rw [List.getElem?_append_right (by rw [h.k5];omega),h.k5,Nat.add_sub_cancel_left]
theorem WB.code_at (h:WB W0 w b e c kc m x6 x7 x8 x9 x10):At w b 0 c:=by
 obtain ⟨F,hr⟩:=h.code;exact ⟨F,kc,zb5 hr h.ext,zpF h.blk⟩
theorem WB.wl (h:WB W0 w b e c kc m x6 x7 x8 x9 x10):WL w b c:=⟨h.code_at,zeX h.blk (h.cell 0) h.live.is⟩
theorem WB.step (h:WB W0 w b e c kc m x6 x7 x8 x9 x10) (hx:Ext w w'):WB W0 w' b e c kc m x6 x7 x8 x9 x10:=⟨h.ext.trans hx,h.blk.ext hx,h.code,h.live.ext hx,h.b0,h.m0,h.ne⟩
theorem WB.chg {F:List Nat} (h:WB W0 w b e c kc m x6 x7 x8 x9 x10) (hc:Chg F w w') (hF:∀ x∈F,W0.heap.size≤x∧x≠b∧x≠m):WB W0 w' b e c kc m x6 x7 x8 x9 x10:=
 ⟨h.ext.chgF hc λx hx=>(hF x hx).1,h.blk.chgF hc λhb=>(hF b hb).2.1 rfl,h.code,h.live.keep λx hx=>by
   simp only [List.mem_cons,List.not_mem_nil,or_false] at hx;subst hx;exact hc.block x (h.live.lt x (by simp)) λhm=>(hF x hm).2.2 rfl,h.b0,h.m0,h.ne⟩
theorem WB.cells {y6 y7 y8 y9 y10:Value} (h:WB W0 w b e c kc m x6 x7 x8 x9 x10) (hc:ChgI b (b+1) w w') (hB:Blk b e w' (kc++[.slice (some ⟨m,0,none⟩) c.ins.length c.ins.length,y6,y7,y8,y9,y10])):WB W0 w' b e c kc m y6 y7 y8 y9 y10:=
 ⟨h.ext.chgI hc h.b0,hB,h.code,h.live.keep λx hx=>by
   simp only [List.mem_cons,List.not_mem_nil,or_false] at hx;subst hx;exact hc.block x (h.live.lt x (by simp)) (by have:=h.ne;omega),h.b0,h.m0,h.ne⟩
theorem WB.set (h:WB W0 w b e c kc m x6 x7 x8 x9 x10) (i:Nat) (v:Value):(kc++[Value.slice (some ⟨m,0,none⟩) c.ins.length c.ins.length,x6,x7,x8,x9,x10]).set (5+i) v=kc++[Value.slice (some ⟨m,0,none⟩) c.ins.length c.ins.length,x6,x7,x8,x9,x10].set i v:=by
 rw [List.set_append_right _ _ (by rw [h.k5];omega),h.k5,Nat.add_sub_cancel_left]
end
def CS (c:DCode) (out:List Nat) (D:Nat→Nat→Prop):Prop:=out.length=c.procs.length∧∀ q,q<c.procs.length→zax out q=zce (D q) c.procs.length
theorem CS.mono {c:DCode} {out:List Nat} {D D':Nat→Nat→Prop} (h:CS c out D) (hD:∀ q r,q<c.procs.length→r<c.procs.length→(D q r↔D' q r)):CS c out D':=⟨h.1,λq hq=>by rw [h.2 q hq];exact zbe λr hr=>hD q r hq hr⟩
theorem CS.set {c:DCode} {out:List Nat} {D D':Nat→Nat→Prop} (h:CS c out D) {p a:Nat} (hp:p<c.procs.length) (ha:a<c.procs.length) (hD:∀ q r,D' q r↔D q r∨(q=p∧r=a)):CS c (out.set p (zax out p ||| 2^a)) D':=by
 refine ⟨by simp [h.1],λq hq=>?_⟩;rw [zb3 (by rw [h.1];exact hp)];split
 · rename_i e
   subst e;rw [h.2 p hp];refine zdv λr=>?_;rw [Nat.testBit_or,Nat.testBit_two_pow,Bool.or_eq_true,zaT,decide_eq_true_eq,hD];constructor
   · rintro (⟨h1,h2⟩ | rfl)
     · exact ⟨h1,.inl h2⟩
     exact ⟨ha,.inr ⟨rfl,rfl⟩⟩
   rintro ⟨h1,h2 | ⟨_,h2⟩⟩
   · exact .inl ⟨h1,h2⟩
   exact .inr h2.symm
 rename_i e
 rw [h.2 q hq];exact zbe λr hr=>⟨λh=>(hD q r).2 (.inl h),λh=>((hD q r).1 h).resolve_right λh=>e h.1.symm⟩
theorem CS.lt0 {c:DCode} {out:List Nat} {D:Nat→Nat→Prop} (h:CS c out D) (h8:c.procs.length≤8) {q:Nat} (hq:q<c.procs.length):zax out q<256:=by rw [h.2 q hq];exact zba h8
theorem CS.zero {c:DCode} {D:Nat→Nat→Prop} (hD:∀ q r,¬D q r):CS c (List.replicate c.procs.length 0) D:=⟨by simp,λq hq=>by
 rw [←za3 (by simp;exact hq),List.getElem_replicate];exact zdv λr=>by simp [hD]⟩
theorem CS.eq_cls {c:DCode} {out:List Nat} {op:Int} (h:CS c out λq r=>zjq c q op r):out=cls c op:=by
 refine List.ext_getElem (by rw [h.1,zfN]) λi h1 h2=>?_;have hi:i<c.procs.length:=by rw [←h.1];exact h1
 rw [za3 h1,za3 h2,zuS hi,h.2 i hi]
def zqx (j:Nat):Nat:=if j=11 then 6 else if j=14 then 7 else 8
def zwa (j:Nat):Prop:=j=11∨j=14∨j=17
def fcB (W:World) (b e:Nat) (hd:List Value) (t9 t10:Value) (w:World):Prop:=ChgI b (b+1) W w∧∃ x6 x7 x8,Blk b e w (hd++[x6,x7,x8,t9,t10])
def fcR (b e:Nat) (j:Nat) (w w':World):Prop:=(zwa j∧ChgI b (b+1) w w'∧∀ cs,Blk b e w cs→∃ v,Blk b e w' (cs.set (zqx j) v))∨(¬zwa j∧Ext w w')
def fcQ (b e n:Nat):ParQ:=λi u T w=>match i with
 | 0=>u 17=.pointer (some ⟨b,0,none⟩)
 | 1=>u 18=.pointer (some ⟨b,0,none⟩)
 | 2=>u 19=.pointer (some ⟨b,0,none⟩)
 | 3=>u 20=.int .i64 (n:Int)
 | 4=>∃ g,u 21=.slice (some ⟨g,0,none⟩) n n∧(T 4).1≤g∧g<(T 4).2∧g≠b∧Mine [g] w (.slice (some ⟨g,0,none⟩) n n) (zaI (List.replicate n 0))
 | 5=>u 22=.int .i64 (n:Int)
 | 6=>∃ g,u 23=.slice (some ⟨g,0,none⟩) n n∧(T 6).1≤g∧g<(T 6).2∧g≠b∧Mine [g] w (.slice (some ⟨g,0,none⟩) n n) (zaI (List.replicate n 0))
 | 7=>u 24=.int .i64 (n:Int)
 | 8=>∃ g,u 25=.slice (some ⟨g,0,none⟩) n n∧(T 8).1≤g∧g<(T 8).2∧g≠b∧Mine [g] w (.slice (some ⟨g,0,none⟩) n n) (zaI (List.replicate n 0))
 | 9=>u 26=.pointer (some ⟨b,0,none⟩)
 | 10=>u 27=.pointer (some ⟨b,0+6,none⟩)
 | 11=>∃ cs,Blk b e w cs∧cs[6]?=some (u 21)
 | 12=>u 28=.pointer (some ⟨b,0,none⟩)
 | 13=>u 29=.pointer (some ⟨b,0+7,none⟩)
 | 14=>∃ cs,Blk b e w cs∧cs[7]?=some (u 23)
 | 15=>u 30=.pointer (some ⟨b,0,none⟩)
 | 16=>u 31=.pointer (some ⟨b,0+8,none⟩)
 | 17=>∃ cs,Blk b e w cs∧cs[8]?=some (u 25)
 | _=>True
section
variable {b e n:Nat} {w w':World}
theorem fcR.sz {j:Nat} (h:fcR b e j w w'):w.heap.size≤w'.heap.size:=by
 rcases h with ⟨_,h,_⟩ | ⟨_,h⟩
 · exact h.size
 exact h.size
theorem fcR.chg {j:Nat} (h:fcR b e j w w'):ChgI b (b+1) w w':=by
 rcases h with ⟨_,h,_⟩ | ⟨_,h⟩
 · exact h
 exact h.toI
theorem fcR.mine {j g:Nat} {l:List Int} {v:Value} (h:fcR b e j w w') (hg:g≠b) (hm:Mine [g] w v l):Mine [g] w' v l:=hm.keep λx hx=>by
 simp only [List.mem_cons,List.not_mem_nil,or_false] at hx;subst hx;exact h.chg.block x (hm.lt x (by simp)) (by omega)
theorem fcR.cell {j:Nat} {u:Value} {k:Nat} (h:fcR b e j w w') (hij:zwa j→zqx j≠k) (hc:∃ cs,Blk b e w cs∧cs[k]?=some u):∃ cs,Blk b e w' cs∧cs[k]?=some u:=by
 obtain ⟨cs,hB,hk⟩:=hc;rcases h with ⟨hs,_,h⟩ | ⟨_,h⟩
 · obtain ⟨v,hv⟩:=h cs hB
   exact ⟨_,hv,by rw [List.getElem?_set_ne (hij hs)];exact hk⟩
 exact ⟨cs,hB.ext h,hk⟩
theorem fcB.step {W:World} {hd:List Value} {t9 t10:Value} {j:Nat} (h6:hd.length=6) (h:fcB W b e hd t9 t10 w) (hR:fcR b e j w w'):fcB W b e hd t9 t10 w':=by
 obtain ⟨hc,x6,x7,x8,hB⟩:=h;refine ⟨hc.trans hR.chg,?_⟩;rcases hR with ⟨hs,_,hR⟩ | ⟨_,hR⟩
 · obtain ⟨v,hv⟩:=hR _ hB
   rcases hs with rfl | rfl | rfl
   · refine ⟨v,x7,x8,?_⟩
     rw [List.set_append_right _ _ (by rw [h6];decide),h6] at hv;exact hv
   · refine ⟨x6,v,x8,?_⟩
     rw [List.set_append_right _ _ (by rw [h6];decide),h6] at hv;exact hv
   refine ⟨x6,x7,v,?_⟩;rw [List.set_append_right _ _ (by rw [h6];decide),h6] at hv;exact hv
 exact ⟨x6,x7,x8,hB.ext hR⟩
theorem fcR.ext {j:Nat} (hj:¬zwa j) (hx:Ext w w'):fcR b e j w w':=.inr ⟨hj,hx⟩
end
theorem zlV {W:World} {b e n j:Nat} {hd:List Value} {t9 t10:Value} {w:World} {g:Nat} {K:World→Prop} (hs:zwa j) (h6:hd.length=6) (hB:fcB W b e hd t9 t10 w) (k:∀ w',fcR b e j w w'→(∃ cs,Blk b e w' cs∧cs[zqx j]?=some (.slice (some ⟨g,0,none⟩) n n))→K w') :
   OPU tp (Instr.storeAt 23 (.pointer (some ⟨b,0+zqx j,none⟩)) (.slice (some ⟨g,0,none⟩) n n)) w K:=by
 obtain ⟨hc,x6,x7,x8,hB⟩:=hB
 have hlt:zqx j<(hd++[x6,x7,x8,t9,t10]).length:=by
   rw [List.length_append,h6];show zqx j<11;rcases hs with rfl | rfl | rfl<;>decide
 rw [Nat.zero_add];refine zdl (α:=Raw) (lo:=0) (hi:=0) za4 rfl rfl hB hlt (zdo rfl) λw2 hc2 hB2=>?_
 have hR:fcR b e j w w2:=.inl ⟨hs,hc2,λcs hcs=>by
   have:=hB.uniq hcs;subst this;exact ⟨_,hB2⟩⟩
 exact k w2 hR ⟨_,hB2,by rw [List.getElem?_set_self hlt]⟩
theorem zvJ {sets:List Nat} {r:Nat} (l:List Int):(orL sets l).testBit r=true↔∃ x∈l,(zax sets x.toNat).testBit r=true:=by
 have key:∀ (l:List Int) (a:Nat),(l.foldl (λa i=>a ||| sets.getD i.toNat 0) a).testBit r=true↔a.testBit r=true∨∃ x∈l,(zax sets x.toNat).testBit r=true:=λl=>by
   induction l with
   | nil=>simp
   | cons i l ih=>
     intro a;rw [List.foldl_cons,ih,Nat.testBit_or,Bool.or_eq_true,or_assoc];refine or_congr Iff.rfl ?_;simp only [List.mem_cons,exists_eq_or_imp];exact Iff.rfl
 have:=key l 0;simpa [orL] using this
theorem zhk {sets:List Nat} {m n r:Nat} (hm:m<2^n) (hn:n≤62):(orL sets (zbn m)).testBit r=true↔∃ i,i<n∧m.testBit i=true∧(zax sets i).testBit r=true:=by
 rw [zvJ,zis hm (by omega)];constructor
 · rintro ⟨x,hx,h⟩
   obtain ⟨i,h1,rfl,h3⟩:=zc7.1 hx;exact ⟨i,h1,h3,by simpa using h⟩
 rintro ⟨i,h1,h2,h3⟩;exact ⟨(i:Int),zc7.2 ⟨i,h1,rfl,h2⟩,by simpa using h3⟩
theorem zok {m n:Nat} (h:∀ r,m.testBit r=true→r<n):m<2^n:=Nat.lt_pow_two_of_testBit _ λi hi=>by
 cases e:m.testBit i
 · rfl
 have:=h i e;omega
def F79 (a0:Value) (w:World) (R:VW):Prop:=
 NIL a0 <|
 rF 114 a0 0 w λx13=>
 rF 32 x13 2 w λx14=>
 rL 22 x14 w λx15=>
 rN 22 3 x15 w λx16=>
 (λw0=>GPAR w0 [[(0,17)],[(1,18)],[(2,19)],[(3,20)],[(4,21),(3,20),(3,20)],[(5,22)],[(6,23),(5,22),(5,22)],[(7,24)],[(8,25),(7,24),(7,24)],[(9,26),(0,17),(0,17),(3,20),(4,21)],[(10,27),(9,26),(0,17),(3,20),(4,21)],[(10,27),(4,21),(0,17),(3,20),(4,21)],[(12,28),(1,18),(0,17),(1,18),(3,20),(4,21),(5,22),(6,23),(9,26),(10,27)],[(13,29),(12,28),(0,17),(1,18),(3,20),(4,21),(5,22),(6,23),(9,26),(10,27)],[(13,29),(6,23),(0,17),(1,18),(3,20),(4,21),(5,22),(6,23),(9,26),(10,27)],[(15,30),(2,19),(0,17),(1,18),(2,19),(3,20),(4,21),(5,22),(6,23),(7,24),(8,25),(9,26),(10,27),(12,28),(13,29)],[(16,31),(15,30),(0,17),(1,18),(2,19),(3,20),(4,21),(5,22),(6,23),(7,24),(8,25),(9,26),(10,27),(12,28),(13,29)],[(16,31),(8,25),(0,17),(1,18),(2,19),(3,20),(4,21),(5,22),(6,23),(7,24),(8,25),(9,26),(10,27),(12,28),(13,29)]] (λB R Q=>
 (∀ (u1:Env) (T:Nat→Nat×Nat) (w:World),B w→w0.heap.size≤w.heap.size→zck [] w0.heap.size w.heap.size T→(True)→(λw1=>R 0 w1 w∧Q 0 (upd u1 17 a0) (zdZ T 0 (w1.heap.size,w.heap.size)) w) w) ∧
 (∀ (u1:Env) (T:Nat→Nat×Nat) (w:World),B w→w0.heap.size≤w.heap.size→zck [] w0.heap.size w.heap.size T→(True)→(λw1=>R 1 w1 w∧Q 1 (upd u1 18 a0) (zdZ T 1 (w1.heap.size,w.heap.size)) w) w) ∧
 (∀ (u1:Env) (T:Nat→Nat×Nat) (w:World),B w→w0.heap.size≤w.heap.size→zck [] w0.heap.size w.heap.size T→(True)→(λw1=>R 2 w1 w∧Q 2 (upd u1 19 a0) (zdZ T 2 (w1.heap.size,w.heap.size)) w) w) ∧
 (∀ (u1:Env) (T:Nat→Nat×Nat) (w:World),B w→w0.heap.size≤w.heap.size→zck [] w0.heap.size w.heap.size T→(True)→(λw1=>R 3 w1 w∧Q 3 (upd u1 20 x16) (zdZ T 3 (w1.heap.size,w.heap.size)) w) w) ∧
 (∀ (u1:Env) (T:Nat→Nat×Nat) (w:World),B w→w0.heap.size≤w.heap.size→zck [3,3] w0.heap.size w.heap.size T→(Q 3 u1 T w∧Q 3 u1 T w∧True)→(λw1=>oP (Instr.makeSlice 23 (u1 20) (u1 20)) w λx21 w=>
 R 4 w1 w∧Q 4 (upd u1 21 x21) (zdZ T 4 (w1.heap.size,w.heap.size)) w) w) ∧
 (∀ (u1:Env) (T:Nat→Nat×Nat) (w:World),B w→w0.heap.size≤w.heap.size→zck [] w0.heap.size w.heap.size T→(True)→(λw1=>R 5 w1 w∧Q 5 (upd u1 22 x16) (zdZ T 5 (w1.heap.size,w.heap.size)) w) w) ∧
 (∀ (u1:Env) (T:Nat→Nat×Nat) (w:World),B w→w0.heap.size≤w.heap.size→zck [5,5] w0.heap.size w.heap.size T→(Q 5 u1 T w∧Q 5 u1 T w∧True)→(λw1=>oP (Instr.makeSlice 23 (u1 22) (u1 22)) w λx23 w=>
 R 6 w1 w∧Q 6 (upd u1 23 x23) (zdZ T 6 (w1.heap.size,w.heap.size)) w) w) ∧
 (∀ (u1:Env) (T:Nat→Nat×Nat) (w:World),B w→w0.heap.size≤w.heap.size→zck [] w0.heap.size w.heap.size T→(True)→(λw1=>R 7 w1 w∧Q 7 (upd u1 24 x16) (zdZ T 7 (w1.heap.size,w.heap.size)) w) w) ∧
 (∀ (u1:Env) (T:Nat→Nat×Nat) (w:World),B w→w0.heap.size≤w.heap.size→zck [7,7] w0.heap.size w.heap.size T→(Q 7 u1 T w∧Q 7 u1 T w∧True)→(λw1=>oP (Instr.makeSlice 23 (u1 24) (u1 24)) w λx25 w=>
 R 8 w1 w∧Q 8 (upd u1 25 x25) (zdZ T 8 (w1.heap.size,w.heap.size)) w) w) ∧
 (∀ (u1:Env) (T:Nat→Nat×Nat) (w:World),B w→w0.heap.size≤w.heap.size→zck [0,0,3,4] w0.heap.size w.heap.size T→(Q 0 u1 T w∧Q 0 u1 T w∧Q 3 u1 T w∧Q 4 u1 T w∧True)→(λw1=>NIL (u1 17) <|
 R 9 w1 w∧Q 9 (upd u1 26 (u1 17)) (zdZ T 9 (w1.heap.size,w.heap.size)) w) w) ∧
 (∀ (u1:Env) (T:Nat→Nat×Nat) (w:World),B w→w0.heap.size≤w.heap.size→zck [9,0,3,4] w0.heap.size w.heap.size T→(Q 9 u1 T w∧Q 0 u1 T w∧Q 3 u1 T w∧Q 4 u1 T w∧True)→(λw1=>rF 114 (u1 26) 2 w λx27=>
 R 10 w1 w∧Q 10 (upd u1 27 x27) (zdZ T 10 (w1.heap.size,w.heap.size)) w) w) ∧
 (∀ (u1:Env) (T:Nat→Nat×Nat) (w:World),B w→w0.heap.size≤w.heap.size→zck [10,4,0,3,4] w0.heap.size w.heap.size T→(Q 10 u1 T w∧Q 4 u1 T w∧Q 0 u1 T w∧Q 3 u1 T w∧Q 4 u1 T w∧True)→(λw1=>oS 23 (u1 27) (u1 21) w λw=>
 R 11 w1 w∧Q 11 u1 (zdZ T 11 (w1.heap.size,w.heap.size)) w) w) ∧
 (∀ (u1:Env) (T:Nat→Nat×Nat) (w:World),B w→w0.heap.size≤w.heap.size→zck [1,0,1,3,4,5,6,9,10,11] w0.heap.size w.heap.size T→(Q 1 u1 T w∧Q 0 u1 T w∧Q 1 u1 T w∧Q 3 u1 T w∧Q 4 u1 T w∧Q 5 u1 T w∧Q 6 u1 T w∧Q 9 u1 T w∧Q 10 u1 T w∧Q 11 u1 T w∧True)→(λw1=>NIL (u1 18) <|
 R 12 w1 w∧Q 12 (upd u1 28 (u1 18)) (zdZ T 12 (w1.heap.size,w.heap.size)) w) w) ∧
 (∀ (u1:Env) (T:Nat→Nat×Nat) (w:World),B w→w0.heap.size≤w.heap.size→zck [12,0,1,3,4,5,6,9,10,11] w0.heap.size w.heap.size T→(Q 12 u1 T w∧Q 0 u1 T w∧Q 1 u1 T w∧Q 3 u1 T w∧Q 4 u1 T w∧Q 5 u1 T w∧Q 6 u1 T w∧Q 9 u1 T w∧Q 10 u1 T w∧Q 11 u1 T w∧True)→(λw1=>rF 114 (u1 28) 3 w λx29=>
 R 13 w1 w∧Q 13 (upd u1 29 x29) (zdZ T 13 (w1.heap.size,w.heap.size)) w) w) ∧
 (∀ (u1:Env) (T:Nat→Nat×Nat) (w:World),B w→w0.heap.size≤w.heap.size→zck [13,6,11,0,1,3,4,5,6,9,10,11] w0.heap.size w.heap.size T→(Q 13 u1 T w∧Q 6 u1 T w∧Q 11 u1 T w∧Q 0 u1 T w∧Q 1 u1 T w∧Q 3 u1 T w∧Q 4 u1 T w∧Q 5 u1 T w∧Q 6 u1 T w∧Q 9 u1 T w∧Q 10 u1 T w∧Q 11 u1 T w∧True)→(λw1=>oS 23 (u1 29) (u1 23) w λw=>
 R 14 w1 w∧Q 14 u1 (zdZ T 14 (w1.heap.size,w.heap.size)) w) w) ∧
 (∀ (u1:Env) (T:Nat→Nat×Nat) (w:World),B w→w0.heap.size≤w.heap.size→zck [2,0,1,2,3,4,5,6,7,8,9,10,11,12,13,14] w0.heap.size w.heap.size T→(Q 2 u1 T w∧Q 0 u1 T w∧Q 1 u1 T w∧Q 2 u1 T w∧Q 3 u1 T w∧Q 4 u1 T w∧Q 5 u1 T w∧Q 6 u1 T w∧Q 7 u1 T w∧Q 8 u1 T w∧Q 9 u1 T w∧Q 10 u1 T w∧Q 11 u1 T w∧Q 12 u1 T w∧Q 13 u1 T w∧Q 14 u1 T w∧True)→(λw1=>NIL (u1 19) <|
 R 15 w1 w∧Q 15 (upd u1 30 (u1 19)) (zdZ T 15 (w1.heap.size,w.heap.size)) w) w) ∧
 (∀ (u1:Env) (T:Nat→Nat×Nat) (w:World),B w→w0.heap.size≤w.heap.size→zck [15,0,1,2,3,4,5,6,7,8,9,10,11,12,13,14] w0.heap.size w.heap.size T→(Q 15 u1 T w∧Q 0 u1 T w∧Q 1 u1 T w∧Q 2 u1 T w∧Q 3 u1 T w∧Q 4 u1 T w∧Q 5 u1 T w∧Q 6 u1 T w∧Q 7 u1 T w∧Q 8 u1 T w∧Q 9 u1 T w∧Q 10 u1 T w∧Q 11 u1 T w∧Q 12 u1 T w∧Q 13 u1 T w∧Q 14 u1 T w∧True)→(λw1=>rF 114 (u1 30) 4 w λx31=>
 R 16 w1 w∧Q 16 (upd u1 31 x31) (zdZ T 16 (w1.heap.size,w.heap.size)) w) w) ∧
 (∀ (u1:Env) (T:Nat→Nat×Nat) (w:World),B w→w0.heap.size≤w.heap.size→zck [16,8,14,0,1,2,3,4,5,6,7,8,9,10,11,12,13,14] w0.heap.size w.heap.size T→(Q 16 u1 T w∧Q 8 u1 T w∧Q 14 u1 T w∧Q 0 u1 T w∧Q 1 u1 T w∧Q 2 u1 T w∧Q 3 u1 T w∧Q 4 u1 T w∧Q 5 u1 T w∧Q 6 u1 T w∧Q 7 u1 T w∧Q 8 u1 T w∧Q 9 u1 T w∧Q 10 u1 T w∧Q 11 u1 T w∧Q 12 u1 T w∧Q 13 u1 T w∧Q 14 u1 T w∧True)→(λw1=>oS 23 (u1 31) (u1 25) w λw=>
 R 17 w1 w∧Q 17 u1 (zdZ T 17 (w1.heap.size,w.heap.size)) w) w) ∧
 True)
 (λB Q=>∀ (u1:Env) (T:Nat→Nat×Nat) (w:World),B w→w0.heap.size≤w.heap.size→zck [0,1,2,3,4,5,6,7,8,9,10,11,12,13,14,15,16,17] w0.heap.size w.heap.size T→(Q 0 u1 T w∧Q 1 u1 T w∧Q 2 u1 T w∧Q 3 u1 T w∧Q 4 u1 T w∧Q 5 u1 T w∧Q 6 u1 T w∧Q 7 u1 T w∧Q 8 u1 T w∧Q 9 u1 T w∧Q 10 u1 T w∧Q 11 u1 T w∧Q 12 u1 T w∧Q 13 u1 T w∧Q 14 u1 T w∧Q 15 u1 T w∧Q 16 u1 T w∧Q 17 u1 T w∧True) →
 LOOPI [33] [(iV 0)] w λu3 w n3=>
 rC (u3 33) x16 w λx34=>
 BR x34
 (cL 137 [a0,(u3 33)] w λx38 w=>
 rN 23 3 x38 w λx39=>
 LOOPI [40] [(iV 0)] w λu6 w n6=>
 rC (u6 40) x39 w λx41=>
 BR x41
 (rX 23 x38 (u6 40) w λx42=>
 rL 3 x42 w λx43=>
 NIL a0 <|
 rF 114 a0 0 w λx46=>
 rF 32 x46 4 w λx47=>
 rL 30 x47 w λx48=>
 rX 30 x48 x43 w λx50=>
 rL 111 x50 w λx51=>
 oP (aL 111) w λx6 w=>
 oS 111 x6 x51 w λw=>
 JOIN [] (λJ11=>
 rF 111 x6 0 w λx52=>
 rL 3 x52 w λx53=>
 rQ x53 (iV 4) w λx54=>
 BR x54
 ((λw=>NIL a0 <|
 rF 114 a0 2 w λx57=>
 rL 23 x57 w λx58=>
 rX 23 x58 (u3 33) w λx60=>
 rL 3 x60 w λx61=>
 rF 111 x6 1 w λx62=>
 rL 3 x62 w λx63=>
 rD (convert 3 121 x63) w λx64=>
 rB .shl 3 U0 T0 (iV 1) x64 w λx65=>
 rB .or 3 T0 T0 x61 x65 w λx66=>
 rX 23 x58 (u3 33) w λx67=>
 oS 3 x67 x66 w λw=>
 J11 [] w) (World.drew1 w))
 (J11 [] w)) (λu11 w=>
 rF 111 x6 0 w λx68=>
 rL 3 x68 w λx69=>
 rQ x69 (iV 5) w λx70=>
 BR x70
 ((λw=>NIL a0 <|
 rF 114 a0 3 w λx73=>
 rL 23 x73 w λx74=>
 rX 23 x74 (u3 33) w λx76=>
 rL 3 x76 w λx77=>
 rF 111 x6 1 w λx78=>
 rL 3 x78 w λx79=>
 rD (convert 3 121 x79) w λx80=>
 rB .shl 3 U0 T0 (iV 1) x80 w λx81=>
 rB .or 3 T0 T0 x77 x81 w λx82=>
 rX 23 x74 (u3 33) w λx83=>
 oS 3 x83 x82 w λw=>
 rI (u6 40) w λx84=>
 n6 [x84] w) (World.drew1 w))
 (rI (u6 40) w λx84=>
 n6 [x84] w)))
 (rI (u3 33) w λx85=>
 n3 [x85] w))
 (LOOPI [87] [(iV 0)] w λu16 w n16=>
 rC (u16 87) x16 w λx88=>
 BR x88
 (rD (convert 3 121 (u16 87)) w λx91=>
 rB .shl 3 U0 T0 (iV 1) x91 w λx92=>
 LOOPI [8,9] [x92,vT] w λu20 w n20=>
 BR (u20 9)
 (NIL a0 <|
 rF 114 a0 2 w λx97=>
 rL 23 x97 w λx98=>
 cL 138 [x98,(u20 8)] w λx100 w=>
 rB .or 3 T0 T0 (u20 8) x100 w λx101=>
 rB .neq 3 T0 T0 x101 (u20 8) w λx104=>
 n20 [x101,x104] w)
 (NIL a0 <|
 rF 114 a0 4 w λx108=>
 rL 23 x108 w λx109=>
 rX 23 x109 (u16 87) w λx112=>
 oS 3 x112 (u20 8) w λw=>
 rI (u16 87) w λx113=>
 n16 [x113] w))
 (R (Value.tuple #[]) w)))) (World.drew1 w)
def cfg79:Cfg:={ ext:=extL,joins:=[(11,295143401579725455360,[])],loops:=[(3,77371252455336258591260776,[33]),(6,38685626227667034078969952,[40]),(16,20769187279396805603449450954491776,[87]),(20,81119734894292398653589812152064,[8,9])],draws:=[(10,[0,1,2,3,4,5,6,7,8,9,10,11,12,13],0),(12,[0,1,2,3,4,5,6,7,8,9,10,11,12,13],0)],pars:=[],gpars:=[(1,4294836224)] }
theorem F79_call {a0 w R} (h:F79 a0 w R):cL 79 [a0] w R:=co (g:=cfg79) Tryz.func79 h
open Rep (rep)
abbrev sl (g n:Nat):Value:=.slice (some ⟨g,0,none⟩) n n
structure FC (W0 w:World) (b e:Nat) (c:DCode) (kc:List Value) (m g6 g7 g8:Nat) (c6 c7 c8:List Nat) (x9 x10:Value):Prop where
 wb:WB W0 w b e c kc m (sl g6 c.procs.length) (sl g7 c.procs.length) (sl g8 c.procs.length) x9 x10
 m6:Mine [g6] w (sl g6 c.procs.length) (zaI c6)
 m7:Mine [g7] w (sl g7 c.procs.length) (zaI c7)
 m8:Mine [g8] w (sl g8 c.procs.length) (zaI c8)
 n6:W0.heap.size≤g6∧g6≠b∧g6≠m
 n7:W0.heap.size≤g7∧g7≠b∧g7≠m
 n8:W0.heap.size≤g8∧g8≠b∧g8≠m
 d67:g6≠g7
 d68:g6≠g8
 d78:g7≠g8
section
variable {W0 w w':World} {b e m g6 g7 g8:Nat} {c:DCode} {kc:List Value} {c6 c7 c8:List Nat} {x9 x10:Value}
theorem zd5 {F:List Nat} {g:Nat} {v:Value} {l:List Int} (hm:Mine [g] w v l) (hc:Chg F w w') (hg:g∉F):Mine [g] w' v l:=hm.keep λx hx=>by
 simp only [List.mem_cons,List.not_mem_nil,or_false] at hx;subst hx;exact hc.block x (hm.lt x (by simp)) hg
theorem FC.step (h:FC W0 w b e c kc m g6 g7 g8 c6 c7 c8 x9 x10) (hx:Ext w w'):FC W0 w' b e c kc m g6 g7 g8 c6 c7 c8 x9 x10:=⟨h.wb.step hx,h.m6.ext hx,h.m7.ext hx,h.m8.ext hx,h.n6,h.n7,h.n8,h.d67,h.d68,h.d78⟩
theorem FC.set6 {i v:Nat} (h:FC W0 w b e c kc m g6 g7 g8 c6 c7 c8 x9 x10) (hc:Chg [g6] w w') (hm:Mine [g6] w' (sl g6 c.procs.length) ((zaI c6).set i (v:Int))):FC W0 w' b e c kc m g6 g7 g8 (c6.set i v) c7 c8 x9 x10:=
 ⟨h.wb.chg hc (by simp [h.n6]),by rw [zff];exact hm,zd5 h.m7 hc (by simp [Ne.symm h.d67]),zd5 h.m8 hc (by simp [Ne.symm h.d68]),h.n6,h.n7,h.n8,h.d67,h.d68,h.d78⟩
theorem FC.set7 {i v:Nat} (h:FC W0 w b e c kc m g6 g7 g8 c6 c7 c8 x9 x10) (hc:Chg [g7] w w') (hm:Mine [g7] w' (sl g7 c.procs.length) ((zaI c7).set i (v:Int))):FC W0 w' b e c kc m g6 g7 g8 c6 (c7.set i v) c8 x9 x10:=
 ⟨h.wb.chg hc (by simp [h.n7]),zd5 h.m6 hc (by simp [h.d67]),by rw [zff];exact hm,zd5 h.m8 hc (by simp [Ne.symm h.d78]),h.n6,h.n7,h.n8,h.d67,h.d68,h.d78⟩
theorem FC.set8 {i v:Nat} (h:FC W0 w b e c kc m g6 g7 g8 c6 c7 c8 x9 x10) (hc:Chg [g8] w w') (hm:Mine [g8] w' (sl g8 c.procs.length) ((zaI c8).set i (v:Int))):FC W0 w' b e c kc m g6 g7 g8 c6 c7 (c8.set i v) x9 x10:=
 ⟨h.wb.chg hc (by simp [h.n8]),zd5 h.m6 hc (by simp [h.d68]),zd5 h.m7 hc (by simp [h.d78]),by rw [zff];exact hm,h.n6,h.n7,h.n8,h.d67,h.d68,h.d78⟩
end
theorem WB.ins {W0 w:World} {b e m:Nat} {c:DCode} {kc:List Value} {x6 x7 x8 x9 x10:Value} (h:WB W0 w b e c kc m x6 x7 x8 x9 x10):∃ v,(kc++[Value.slice (some ⟨m,0,none⟩) c.ins.length c.ins.length,x6,x7,x8,x9,x10])[0+0+4]?=some v∧Is W0 v c.ins:=by
 obtain ⟨F,hr⟩:=h.code;obtain ⟨F0,c0,F1,c1,F2,c2,F3,c3,F4,c4,rfl,rfl,⟨_,_,_,_,rfl,_⟩,⟨_,_,_,_,rfl,_⟩,⟨_,_,_,_,rfl,_⟩,⟨_,_,_,_,rfl,_⟩,hr4⟩:=zjc hr;have hr4':=hr4;obtain ⟨_,_,_,_,rfl,_⟩:=hr4;exact ⟨_,rfl,_,_,hr4',rfl⟩
def fcD (c:DCode) (op:Int) (p:Nat) (M:List Nat) (j:Nat):Nat→Nat→Prop:=λq r=>(q<p∧zjq c q op r)∨(q=p∧∃ i∈M.take j,(zal c i).op=op∧agN c i=r)
theorem zuX {c:DCode} {op:Int} {p:Nat} {M:List Nat} {j i:Nat} (htj:∀ x,x∈M.take (j+1)↔x∈M.take j∨x=i) (hn:¬(zal c i).op=op) (q r:Nat):fcD c op p M j q r↔fcD c op p M (j+1) q r:=by
 unfold fcD;refine or_congr Iff.rfl (and_congr Iff.rfl ?_);constructor
 · rintro ⟨x,hx,h⟩;exact ⟨x,(htj x).2 (.inl hx),h⟩
 rintro ⟨x,hx,h⟩;rcases (htj x).1 hx with hx | rfl
 · exact ⟨x,hx,h⟩
 exact absurd h.1 hn
theorem zsz {c:DCode} {op:Int} {p:Nat} {M:List Nat} {j i:Nat} (htj:∀ x,x∈M.take (j+1)↔x∈M.take j∨x=i) (hy:(zal c i).op=op) (q r:Nat):fcD c op p M (j+1) q r↔fcD c op p M j q r∨(q=p∧r=agN c i):=by
 unfold fcD;constructor
 · rintro (h | ⟨h1,x,hx,h⟩)
   · exact .inl (.inl h)
   rcases (htj x).1 hx with hx | rfl
   · exact .inl (.inr ⟨h1,x,hx,h⟩)
   exact .inr ⟨h1,h.2.symm⟩
 rintro ((h | ⟨h1,x,hx,h⟩) | ⟨h1,h2⟩)
 · exact .inl h
 · exact .inr ⟨h1,x,(htj x).2 (.inl hx),h⟩
 exact .inr ⟨h1,i,(htj i).2 (.inr rfl),hy,h2.symm⟩
theorem zsA {c:DCode} (hc:CodeR c) {op:Int} (hop:op=4∨op=5) {p:Nat} {M:List Nat} (hp:p<c.procs.length) (hM:∀ i,i∈M↔zaG c p i) (q r:Nat):fcD c op p M M.length q r↔fcD c op (p+1) [] 0 q r:=by
 have key:(∃ i∈M.take M.length,(zal c i).op=op∧agN c i=r)↔zjq c p op r:=by
   rw [List.take_length];constructor
   · rintro ⟨i,hi,h1,h2⟩
     have hl:=(hM i).1 hi;have hin:=(zbJ hc (by rw [hc.2.1.1];exact hp) hl).1;exact ⟨i,hin,hl,h1,by rw [(zbZ hc hin (by omega)).1,h2]⟩
   rintro ⟨i,hin,hl,h1,h2⟩;have:=(zbZ hc hin (by omega)).1;exact ⟨i,(hM i).2 hl,h1,by omega⟩
 unfold fcD;constructor
 · rintro (h | ⟨rfl,h⟩)
   · exact .inl ⟨by omega,h.2⟩
   exact .inl ⟨by omega,key.1 h⟩
 rintro (⟨h1,h2⟩ | ⟨_,x,hx,_⟩)
 · by_cases e:q=p
   · subst e;exact .inr ⟨rfl,key.2 h2⟩
   exact .inl ⟨by omega,h2⟩
 simp at hx
theorem zsB {c:DCode} {op:Int} {p:Nat} {M:List Nat} (q r:Nat):fcD c op p [] 0 q r↔fcD c op p M 0 q r:=by
 unfold fcD;simp
theorem CS.done {c:DCode} {op:Int} {out:List Nat} (h:CS c out (fcD c op c.procs.length [] 0)):out=cls c op:=
 CS.eq_cls (op:=op) (h.mono λq r hq hr=>by unfold fcD;simp [hq])
structure UM (c:DCode) (p m:Nat):Prop where
 lt:m<2^c.procs.length
 self:m.testBit p=true
 snd:∀ r,m.testBit r=true→FromP c p r
theorem UM.start {c:DCode} {p:Nat} (hp:p<c.procs.length):UM c p (2^p):=⟨Nat.pow_lt_pow_right (by omega) hp,by simp [Nat.testBit_two_pow],λr hr=>by simp [Nat.testBit_two_pow] at hr;exact .inl hr.symm⟩
theorem zh0 {c:DCode} {op:Int} {q r:Nat} (hq:q<c.procs.length):(zax (cls c op) q).testBit r=true↔r<c.procs.length∧zjq c q op r:=by rw [zuS hq,zaT]
theorem UM.more {c:DCode} (h8:c.procs.length≤8) {p m:Nat} (h:UM c p m):UM c p (m ||| orL (cls c 4) (zbn m)):=by
 have hb:∀ r,(orL (cls c 4) (zbn m)).testBit r=true→∃ i,i<c.procs.length∧m.testBit i=true∧r<c.procs.length∧zjq c i 4 r:=λr hr=>by
   obtain ⟨i,h1,h2,h3⟩:=(zhk h.lt (by omega)).1 hr;exact ⟨i,h1,h2,(zh0 h1).1 h3⟩
 refine ⟨Nat.or_lt_two_pow h.lt (zok λr hr=>by obtain ⟨i,_,_,h3,_⟩:=hb r hr;exact h3),by rw [Nat.testBit_or,h.self];rfl,λr hr=>?_⟩;rw [Nat.testBit_or,Bool.or_eq_true] at hr;rcases hr with hr | hr
 · exact h.snd r hr
 obtain ⟨i,h1,h2,h3,h4⟩:=hb r hr;exact (h.snd i h2).call h3 h4
theorem UM.fin {c:DCode} (h8:c.procs.length≤8) {p m:Nat} (h:UM c p m) (he:m ||| orL (cls c 4) (zbn m)=m):m=zce (FromP c p) c.procs.length:=by
 have hlt:∀ r,m.testBit r=true→r<c.procs.length:=λr hr=>Decidable.byContradiction λhn=>by
   have:=Nat.testBit_lt_two_pow (Nat.lt_of_lt_of_le h.lt (Nat.pow_le_pow_right (by omega) (by omega:c.procs.length≤r)));rw [this] at hr;cases hr
 refine zdv λr=>⟨λhr=>⟨hlt r hr,h.snd r hr⟩,λ⟨_,hf⟩=>?_⟩
 have step:∀ i j,m.testBit i=true→j∈zjs c i→m.testBit j=true:=λi j hi hj=>by
   obtain ⟨hj1,hj2⟩:=zaJ.1 hj;rw [←he,Nat.testBit_or,(zhk h.lt (by omega)).2 ⟨i,hlt i hi,hi,(zh0 (hlt i hi)).2 ⟨hj1,hj2⟩⟩];simp
 rcases hf with rfl | hf
 · exact h.self
 exact hf.keeps (p:=λi=>m.testBit i=true) h.self step
theorem zpG {c:DCode} (h8:c.procs.length≤8) (op:Int):∀ x∈cls c op,x<256:=λx hx=>by
 obtain ⟨q,_,rfl⟩:=List.mem_map.1 hx;exact zba h8
theorem zwE {c:DCode} (h8:c.procs.length≤8):∀ x∈frs c,x<256:=λx hx=>by
 obtain ⟨q,_,rfl⟩:=List.mem_map.1 hx;exact zba h8
theorem zne {w W0:World} {b e m:Nat} {c:DCode} {kc:List Value} {x6 x7 x8 x9 x10:Value} (H:WB W0 w b e c kc m x6 x7 x8 x9 x10) (hc:CodeR c) :
   CALL tp 79 [.pointer (some ⟨b,0,none⟩)] w λr w'=>r=.tuple #[]∧∃ g6 g7 g8,FC W0 w' b e c kc m g6 g7 g8 (cls c 4) (cls c 5) (frs c) x9 x10:=by
 refine F79_call ?_;unfold F79;have h8:=hc.1.procs8;have hil:=hc.f.ins;refine NIL.mk rfl ?_;refine zab zaZ ?_;refine zab zbf ?_;refine zaa zb1 (zau H.code_at) (Ext.refl _) λv15 h15=>?_;refine zae u22 h15 ?_;have hxd:=zaj w;have H1:=H.step hxd;have h6:(kc++[sl m c.ins.length]).length=6:=by rw [List.length_append,H.k5];rfl
 have hB0:fcB (World.drew1 w) b e (kc++[sl m c.ins.length]) x9 x10 (World.drew1 w):=⟨ChgI.refl _,x6,x7,x8,by rw [List.append_assoc];exact H1.blk⟩;have hbl:=H1.blk.lt;have hsd:(World.drew1 w).heap.size=w.heap.size:=rfl;refine GPAR.mk (fcB (World.drew1 w) b e (kc++[sl m c.ins.length]) x9 x10) (fcR b e) (fcQ b e c.procs.length) hB0 (λj w1 w2 h1 h2=>h1.step h6 h2) (λj w1 w2 h=>h.sz) ?_ ?_ ?_
 · intro i j u u' T T' wa wb hij hBa hR hd hq
   match i,hij,hd,hq with
   | 0,_,hd,hq=>exact (hd (0,17) (by decide)).1.trans hq
   | 1,_,hd,hq=>exact (hd (1,18) (by decide)).1.trans hq
   | 2,_,hd,hq=>exact (hd (2,19) (by decide)).1.trans hq
   | 3,_,hd,hq=>exact (hd (3,20) (by decide)).1.trans hq
   | 4,_,hd,⟨g,q1,q2,q3,q4,q5⟩=>
     obtain ⟨e1,e2⟩:=hd (4,21) (by decide);simp only at e1 e2;exact ⟨g,e1.trans q1,by rw [e2];exact q2,by rw [e2];exact q3,q4,hR.mine q4 q5⟩
   | 5,_,hd,hq=>exact (hd (5,22) (by decide)).1.trans hq
   | 6,_,hd,⟨g,q1,q2,q3,q4,q5⟩=>
     obtain ⟨e1,e2⟩:=hd (6,23) (by decide);simp only at e1 e2;exact ⟨g,e1.trans q1,by rw [e2];exact q2,by rw [e2];exact q3,q4,hR.mine q4 q5⟩
   | 7,_,hd,hq=>exact (hd (7,24) (by decide)).1.trans hq
   | 8,_,hd,⟨g,q1,q2,q3,q4,q5⟩=>
     obtain ⟨e1,e2⟩:=hd (8,25) (by decide);simp only at e1 e2;exact ⟨g,e1.trans q1,by rw [e2];exact q2,by rw [e2];exact q3,q4,hR.mine q4 q5⟩
   | 9,_,hd,hq=>exact (hd (9,26) (by decide)).1.trans hq
   | 10,_,hd,hq=>exact (hd (10,27) (by decide)).1.trans hq
   | 11,hij,hd,hq=>
     have e1:=(hd (4,21) (by decide)).1;simp only at e1;show ∃ cs,Blk b e wb cs∧cs[6]?=some (u' 21);rw [e1];exact hR.cell (λhs=>by rcases hs with rfl | rfl | rfl<;>first | exact absurd rfl hij | decide) hq
   | 12,_,hd,hq=>exact (hd (12,28) (by decide)).1.trans hq
   | 13,_,hd,hq=>exact (hd (13,29) (by decide)).1.trans hq
   | 14,hij,hd,hq=>
     have e1:=(hd (6,23) (by decide)).1;simp only at e1;show ∃ cs,Blk b e wb cs∧cs[7]?=some (u' 23);rw [e1];exact hR.cell (λhs=>by rcases hs with rfl | rfl | rfl<;>first | exact absurd rfl hij | decide) hq
   | 15,_,hd,hq=>exact (hd (15,30) (by decide)).1.trans hq
   | 16,_,hd,hq=>exact (hd (16,31) (by decide)).1.trans hq
   | 17,hij,hd,hq=>
     have e1:=(hd (8,25) (by decide)).1;simp only at e1;show ∃ cs,Blk b e wb cs∧cs[8]?=some (u' 25);rw [e1];exact hR.cell (λhs=>by rcases hs with rfl | rfl | rfl<;>first | exact absurd rfl hij | decide) hq
   | n+18,_,_,_=>trivial
 · have nf:∀ j,j≠11→j≠14→j≠17→¬zwa j:=λj a b d h=>by rcases h with h | h | h<;>contradiction
   refine ⟨?_,?_,?_,?_,?_,?_,?_,?_,?_,?_,?_,?_,?_,?_,?_,?_,?_,?_,trivial⟩
   · exact λu T w' hB hs _ _=>⟨.ext (nf _ (by decide) (by decide) (by decide)) (Ext.refl _),rfl⟩
   · exact λu T w' hB hs _ _=>⟨.ext (nf _ (by decide) (by decide) (by decide)) (Ext.refl _),rfl⟩
   · exact λu T w' hB hs _ _=>⟨.ext (nf _ (by decide) (by decide) (by decide)) (Ext.refl _),rfl⟩
   · exact λu T w' hB hs _ _=>⟨.ext (nf _ (by decide) (by decide) (by decide)) (Ext.refl _),rfl⟩
   · intro u T w' hB hs _ hp
     have q2:u 20=_:=hp.1;rw [q2];exact zdn h8.2 (by omega) λw4 hx4 r=>⟨.ext (nf _ (by decide) (by decide) (by decide)) hx4,_,rfl,lr _,r.lt _ (List.mem_singleton.2 rfl),by obtain ⟨_,_,_,_,hb⟩:=hB;have:=hb.lt;omega,r⟩
   · exact λu T w' hB hs _ _=>⟨.ext (nf _ (by decide) (by decide) (by decide)) (Ext.refl _),rfl⟩
   · intro u T w' hB hs _ hp
     have q2:u 22=_:=hp.1;rw [q2];exact zdn h8.2 (by omega) λw4 hx4 r=>⟨.ext (nf _ (by decide) (by decide) (by decide)) hx4,_,rfl,lr _,r.lt _ (List.mem_singleton.2 rfl),by obtain ⟨_,_,_,_,hb⟩:=hB;have:=hb.lt;omega,r⟩
   · exact λu T w' hB hs _ _=>⟨.ext (nf _ (by decide) (by decide) (by decide)) (Ext.refl _),rfl⟩
   · intro u T w' hB hs _ hp
     have q2:u 24=_:=hp.1;rw [q2];exact zdn h8.2 (by omega) λw4 hx4 r=>⟨.ext (nf _ (by decide) (by decide) (by decide)) hx4,_,rfl,lr _,r.lt _ (List.mem_singleton.2 rfl),by obtain ⟨_,_,_,_,hb⟩:=hB;have:=hb.lt;omega,r⟩
   · intro u T w' hB hs _ hp
     have q:u 17=_:=hp.1;rw [q];exact NIL.mk rfl ⟨.ext (nf _ (by decide) (by decide) (by decide)) (Ext.refl _),rfl⟩
   · intro u T w' hB hs _ hp
     have q:u 26=_:=hp.1;rw [q];exact zab zk6 ⟨.ext (nf _ (by decide) (by decide) (by decide)) (Ext.refl _),rfl⟩
   · intro u T w' hB hs _ hp
     have q:u 27=_:=hp.1;obtain ⟨g,q1,_⟩:=hp.2.1;rw [q,q1];refine zlV (j:=11) (.inl rfl) h6 hB λw2 hR hQ=>⟨hR,?_⟩;show ∃ cs,Blk b e w2 cs∧cs[6]?=some (u 21);rw [q1];exact hQ
   · intro u T w' hB hs _ hp
     have q:u 18=_:=hp.1;rw [q];exact NIL.mk rfl ⟨.ext (nf _ (by decide) (by decide) (by decide)) (Ext.refl _),rfl⟩
   · intro u T w' hB hs _ hp
     have q:u 28=_:=hp.1;rw [q];exact zab znJ ⟨.ext (nf _ (by decide) (by decide) (by decide)) (Ext.refl _),rfl⟩
   · intro u T w' hB hs _ hp
     have q:u 29=_:=hp.1;obtain ⟨g,q1,_⟩:=hp.2.1;rw [q,q1];refine zlV (j:=14) (.inr (.inl rfl)) h6 hB λw2 hR hQ=>⟨hR,?_⟩;show ∃ cs,Blk b e w2 cs∧cs[7]?=some (u 23);rw [q1];exact hQ
   · intro u T w' hB hs _ hp
     have q:u 19=_:=hp.1;rw [q];exact NIL.mk rfl ⟨.ext (nf _ (by decide) (by decide) (by decide)) (Ext.refl _),rfl⟩
   · intro u T w' hB hs _ hp
     have q:u 30=_:=hp.1;rw [q];exact zab ziV ⟨.ext (nf _ (by decide) (by decide) (by decide)) (Ext.refl _),rfl⟩
   intro u T w' hB hs _ hp;have q:u 31=_:=hp.1;obtain ⟨g,q1,_⟩:=hp.2.1;rw [q,q1];refine zlV (j:=17) (.inr (.inr rfl)) h6 hB λw2 hR hQ=>⟨hR,?_⟩;show ∃ cs,Blk b e w2 cs∧cs[8]?=some (u 25);rw [q1];exact hQ
 rintro u T w2 hB hs hap ⟨-,-,-,-,⟨g6,q21,ha6,hb6,hn6,hM6⟩,-,⟨g7,q23,ha7,hb7,hn7,hM7⟩,-,⟨g8,q25,ha8,hb8,hn8,hM8⟩,-,-,⟨cs6,hB6,hc6⟩,-,-,⟨cs7,hB7,hc7⟩,-,-,⟨cs8,hB8,hc8⟩,-⟩;have t4:=hap.1 4 (by decide);have t6:=hap.1 6 (by decide);have t8:=hap.1 8 (by decide);have d46:=hap.2 4 (by decide) 6 (by decide) (by decide);have d48:=hap.2 4 (by decide) 8 (by decide) (by decide);have d68:=hap.2 6 (by decide) 8 (by decide) (by decide);obtain ⟨hch,y6,y7,y8,hBB⟩:=hB;have u6:=hBB.uniq hB6;have u7:=hBB.uniq hB7;have u8:=hBB.uniq hB8;subst u6 u7 u8;rw [List.getElem?_append_right (by rw [h6];decide),h6,q21] at hc6;rw [List.getElem?_append_right (by rw [h6];decide),h6,q23] at hc7;rw [List.getElem?_append_right (by rw [h6];decide),h6,q25] at hc8;have e6:y6=sl g6 c.procs.length:=by simpa using hc6
 have e7:y7=sl g7 c.procs.length:=by simpa using hc7
 have e8:y8=sl g8 c.procs.length:=by simpa using hc8
 subst e6 e7 e8;rw [List.append_assoc] at hBB;have hW2:=H1.cells hch hBB;have hml:=H1.live.lt m (by simp);have hb0:=H.b0;have hF2:FC W0 w2 b e c kc m g6 g7 g8 (List.replicate c.procs.length 0) (List.replicate c.procs.length 0) (List.replicate c.procs.length 0) x9 x10:=⟨hW2,hM6,hM7,hM8,⟨by omega,hn6,by omega⟩,⟨by omega,hn7,by omega⟩,⟨by omega,hn8,by omega⟩,by omega,by omega,by omega⟩;clear hc6 hc7 hc8 hB6 hB7 hB8 hBB hW2 hch H1 hB0 hap d46 d48 d68 t4 t6 t8;have hz:∀ op,CS c (List.replicate c.procs.length 0) (fcD c op 0 [] 0):=λop=>CS.zero λq r h=>by unfold fcD at h;simp at h
 have hz4:=hz 4;have hz5:=hz 5;have hc8l:(List.replicate c.procs.length 0).length=c.procs.length:=by simp
 refine zam c.procs.length (λk us w'=>∃ c6 c7,us=[.int .i64 (k:Int)]∧k≤c.procs.length∧FC W0 w' b e c kc m g6 g7 g8 c6 c7 (List.replicate c.procs.length 0) x9 x10∧CS c c6 (fcD c 4 k [] 0)∧CS c c7 (fcD c 5 k [] 0)) 0 (z0 _) ⟨_,_,rfl,z0 _,hF2,hz4,hz5⟩ ?_;rintro p mk u3 w3 hkm ⟨c6,c7,hu,hkl,hF3,hC6,hC7⟩;try replace hu:=zbi hu
 rw [hu];refine zag ?_;refine br (λhlt=>?_) (λhge=>?_)
 · have hp:p<c.procs.length:=by omega
   have hpe:p<c.entry.length:=by rw [hc.2.1.1];exact hp
   refine (zfM hF3.wb.wl (Ext.refl _) hc hp).mono ?_;rintro v38 w4 ⟨hx4,ho4⟩;have hF4:=hF3.step hx4;have hM:∀ i,i∈zaY c.ins.length (zaG c p)↔zaG c p i:=λi=>by rw [zaJ];exact ⟨λh=>h.2,λh=>⟨(zbJ hc hpe h).1,h⟩⟩
   have hMl:(zaY c.ins.length (zaG c p)).length≤1500:=Nat.le_trans za0 hil;generalize zaY c.ins.length (zaG c p)=M at *;have hg6:=hF3.m6.lt g6 (by simp);have hg7:=hF3.m7.lt g7 (by simp);refine zae u23 ho4.is ?_;rw [zaf];refine zam M.length (λj us w'=>∃ c6 c7,us=[.int .i64 (j:Int)]∧j≤M.length∧FC W0 w' b e c kc m g6 g7 g8 c6 c7 (List.replicate c.procs.length 0) x9 x10∧CS c c6 (fcD c 4 p M j)∧CS c c7 (fcD c 5 p M j)∧OwnI w3.heap.size w4.heap.size w' v38 (zaI M)) 0 (z0 _) ⟨c6,c7,rfl,z0 _,hF4,hC6.mono λq r _ _=>zsB q r,hC7.mono λq r _ _=>zsB q r,ho4.toI⟩ ?_;rintro j mj u5 w5 hjm ⟨c65,c75,hu,hjl,hF5,hC65,hC75,hO5⟩;try replace hu:=zbi hu
   rw [hu];refine zag ?_;refine br (λhlt5=>?_) (λhge5=>?_)
   case refine_2=>
     have hje:j=M.length:=by omega
     rw [hje] at hC65 hC75;refine zas ?_;exact ⟨mk-1,by omega,p+1,by omega,c65,c75,rfl,by omega,hF5,hC65.mono λq r _ _=>zsA hc (.inl rfl) hp hM q r,hC75.mono λq r _ _=>zsA hc (.inr rfl) hp hM q r⟩
   have hj:j<M.length:=by omega
   refine zac u23 ty3 (i:=j) hO5.is (by rw [zaf];exact hj) λb2 o2 hA2=>?_;rw [zaP] at hA2;refine zad ty3 hA2 (Ext.refl _) λ_=>?_;have htj:=λx=>zbg hj (x:=x);have hiv:=(hM M[j]).1 (List.getElem_mem hj);generalize M[j]=i at *;have hin:=(zbJ hc hpe hiv).1;obtain ⟨v4,hv4,hi4⟩:=hF5.wb.ins;refine NIL.mk rfl ?_;refine zab zaZ ?_;refine zab zaD ?_;refine zaA zcu hF5.wb.blk hv4 ?_;refine zac u30 zaO hi4 hin λb3 o3 hA3=>?_;rw [zaz] at hA3;refine zaa zaO hA3 hF5.wb.ext λv51 h51=>?_;refine zb7 zfx rfl zaO rfl h51 hF5.wb.ext λw6 hx6 hAI hV6=>?_;have hF6:=hF5.step hx6;have hO6:=hO5.ext hx6;have hAB6:=zfA h51 hV6 rfl;have hgI:=hV6.lt;have hgI0:w5.heap.size≠g6:=by have:=hF5.m6.lt g6 (by simp);omega
   generalize w5.heap.size=gI at *;refine JOIN.mk (λus w'=>∃ c6',FC W0 w' b e c kc m g6 g7 g8 c6' c75 (List.replicate c.procs.length 0) x9 x10∧CS c c6' (fcD c 4 p M (j+1))∧OwnI w3.heap.size w4.heap.size w' v38 (zaI M)∧AtB W0 w' gI 0 (zal c i)) ?_ ?_
   · refine zab zaM ?_
     refine zad ty3 (zav hAI) (Ext.refl _) λ_=>?_;refine zao ?_;refine br (λc4=>?_) (λc4=>?_)
     · obtain ⟨ha1,ha2⟩:=zbZ hc hin (.inl c4)
       have hxd:=zaj w6;have hF7:=hF6.step hxd;have hO7:=hO6.ext hxd;have hAB7:=hAB6.ext hxd;have hgI7:gI<(World.drew1 w6).heap.size:=Nat.lt_of_lt_of_le hgI hxd.size;generalize World.drew1 w6=w7 at *;have hpl:p<c65.length:=by rw [hC65.1];exact hp
       refine NIL.mk rfl ?_;refine zab zk6 ?_;refine zaA za4 hF7.wb.blk (hF7.wb.cell 1) ?_;refine zac u23 ty3 (i:=p) hF7.m6.is (by rw [zaf];exact hpl) λb4 o4 hA4=>?_;rw [zaL] at hA4;refine zad ty3 hA4 (Ext.refl _) λ_=>?_;have h256:=hC65.lt0 h8.1 hp;refine zab zaK ?_;refine zad ty3 (zat hAI) hxd λ_=>?_;rw [ha1];have hpw:2^agN c i<256:=Nat.lt_of_lt_of_le (Nat.pow_lt_pow_right (by omega) ha2) (Nat.pow_le_pow_right (n:=2) (by omega) h8.1);refine zbI (by kernel_rfl) ziq (by omega) ?_;refine zds (by omega) ?_;refine ze3 (m:=zax c65 p) (n:=2^agN c i) (by omega) (by omega) ?_;have hor:zax c65 p ||| 2^agN c i<256:=Nat.or_lt_two_pow (n:=8) h256 hpw;refine zbE (α:=Int) rfl u23 ty3 hp ?_;refine za9 (α:=Int) rfl ty3 hF7.m6 (by rw [zaf,hC65.1]) hp (zbx (v:=zax c65 p ||| 2^agN c i) (by omega)) λw8 hc8 hm8=>?_;have hF8:=hF7.set6 (v:=zax c65 p ||| 2^agN c i) hc8 hm8;exact ⟨_,hF8,hC65.set hp ha2 λq r=>zsz htj c4 q r,hO7.chgF hc8 (by simp;omega),hAB7.keep (hc8.block gI hgI7 (by simp;exact hgI0))⟩
     exact ⟨c65,hF6,hC65.mono λq r _ _=>zuX htj c4 q r,hO6,hAB6⟩
   rintro u9 w9 ⟨c69,hF9,hC69,hO9,hAB9⟩;have hAI9:=hAB9.at hF9.wb.ext;refine zab zaM ?_;refine zad ty3 (zav hAI9) (Ext.refl _) λ_=>?_;refine zao ?_;refine br (λc5=>?_) (λc5=>?_)
   · obtain ⟨ha1,ha2⟩:=zbZ hc hin (.inr c5)
     have hxd:=zaj w9;have hF10:=hF9.step hxd;have hO10:=hO9.ext hxd;generalize World.drew1 w9=w10 at *;have hpl:p<c75.length:=by rw [hC75.1];exact hp
     refine NIL.mk rfl ?_;refine zab znJ ?_;refine zaA za4 hF10.wb.blk (hF10.wb.cell 2) ?_;refine zac u23 ty3 (i:=p) hF10.m7.is (by rw [zaf];exact hpl) λb4 o4 hA4=>?_;rw [zaL] at hA4;refine zad ty3 hA4 (Ext.refl _) λ_=>?_;have h256:=hC75.lt0 h8.1 hp;refine zab zaK ?_;refine zad ty3 (zat hAI9) hxd λ_=>?_;rw [ha1];have hpw:2^agN c i<256:=Nat.lt_of_lt_of_le (Nat.pow_lt_pow_right (by omega) ha2) (Nat.pow_le_pow_right (n:=2) (by omega) h8.1);refine zbI (by kernel_rfl) ziq (by omega) ?_;refine zds (by omega) ?_;refine ze3 (m:=zax c75 p) (n:=2^agN c i) (by omega) (by omega) ?_;have hor:zax c75 p ||| 2^agN c i<256:=Nat.or_lt_two_pow (n:=8) h256 hpw;refine zbE (α:=Int) rfl u23 ty3 hp ?_;refine za9 (α:=Int) rfl ty3 hF10.m7 (by rw [zaf,hC75.1]) hp (zbx (v:=zax c75 p ||| 2^agN c i) (by omega)) λw11 hc11 hm11=>?_;have hF11:=hF10.set7 (v:=zax c75 p ||| 2^agN c i) hc11 hm11;refine zas ?_;exact ⟨mj-1,by omega,j+1,by omega,c69,_,rfl,by omega,hF11,hC69,hC75.set hp ha2 λq r=>zsz htj c5 q r,hO10.chgF hc11 (by simp;omega)⟩
   refine zas ?_;exact ⟨mj-1,by omega,j+1,by omega,c69,c75,rfl,by omega,hF9,hC69,hC75.mono λq r _ _=>zuX htj c5 q r,hO9⟩
 have hke:p=c.procs.length:=by omega
 rw [hke] at hC6 hC7;rw [hC6.done,hC7.done] at hF3;clear hC6 hC7 hF2 hkm hu;have hCz:CS c (List.replicate c.procs.length 0) (λq r=>q<0∧FromP c q r):=CS.zero λq r h=>by omega
 generalize List.replicate c.procs.length 0=c8 at *;refine zam c.procs.length (λk us w'=>∃ c8,us=[.int .i64 (k:Int)]∧k≤c.procs.length∧FC W0 w' b e c kc m g6 g7 g8 (cls c 4) (cls c 5) c8 x9 x10∧CS c c8 (λq r=>q<k∧FromP c q r)) 0 (z0 _) ⟨_,rfl,z0 _,hF3,hCz⟩ ?_;rintro k mk u4 w4 hkm ⟨c84,hu,hkl,hF4,hC84⟩;try replace hu:=zbi hu
 rw [hu];refine zag ?_;refine br (λhlt4=>?_) (λhge4=>?_)
 case refine_2=>
   have hke:k=c.procs.length:=by omega
   rw [hke] at hC84
   have:c84=frs c:=by
     refine List.ext_getElem (by rw [hC84.1,zhY]) λi h1 h2=>?_;have hi:i<c.procs.length:=by rw [←hC84.1];exact h1
     rw [za3 h1,za3 h2,zpy hi,hC84.2 i hi];exact zbe λr _=>⟨λh=>h.2,λh=>⟨hi,h⟩⟩
   rw [this] at hF4;exact ⟨rfl,g6,g7,g8,hF4⟩
 have hk:k<c.procs.length:=by omega
 refine zbI (by kernel_rfl) ziq (by omega) ?_;refine zds (by omega) ?_;have hU:=UM.start (c:=c) hk;have h8':2^c.procs.length≤256:=Nat.pow_le_pow_right (n:=2) (by omega) h8.1;refine LOOPI.mk (λmm us w'=>∃ (s:Nat) (ag:Bool),us=[.int .i64 (s:Int),.bool ag]∧mm=(256-s)+(if ag then 1 else 0)∧FC W0 w' b e c kc m g6 g7 g8 (cls c 4) (cls c 5) c84 x9 x10∧UM c k s∧(ag=false→s=zce (FromP c k) c.procs.length)) (256-2^k+1) ⟨2^k,true,rfl,rfl,hF4,hU,λe=>by cases e⟩ ?_;rintro mm u5 w5 ⟨s,ag,hu,hm,hF5,hU5,hend⟩;obtain ⟨hu1,hu2⟩:=zbL hu;rw [hu1,hu2];have hs256:s<256:=Nat.lt_of_lt_of_le hU5.lt h8';refine zbz (λhag=>?_) (λhag=>?_)
 · rw [hag,if_pos rfl] at hm
   refine NIL.mk rfl ?_;refine zab zk6 ?_;refine zaA za4 hF5.wb.blk (hF5.wb.cell 1) ?_;refine (zfZ hF5.m6.is (Ext.refl _) (zpG h8.1 4) (by rw [zfN];exact h8.1) (m:=s) (by rw [zfN];exact hU5.lt)).mono ?_;rintro _ w6 ⟨hx6,rfl⟩;have hF6:=hF5.step hx6;have hor:=zph (zpG h8.1 4) (zbn s);have hU6:=hU5.more h8.1;have hfin:=hU5.fin h8.1;have hgt:=λh=>zt7 (m:=orL (cls c 4) (zbn s)) (n:=s) h;refine ze3 (m:=s) (n:=orL (cls c 4) (zbn s)) (by omega) (by omega) ?_;have hor2:s ||| orL (cls c 4) (zbn s)<256:=Nat.or_lt_two_pow (n:=8) hs256 hor;generalize s ||| orL (cls c 4) (zbn s)=t at *;refine zaB ?_;by_cases hts:t=s
   · refine ⟨256-t,by omega,t,_,rfl,?_,hF6,hU6,λ_=>by rw [hts];exact hfin hts⟩
     rw [hts];simp
   have hd:decide ((t:Int)≠(s:Int))=true:=decide_eq_true λh=>hts (Int.ofNat_inj.1 h);have:=hgt hts;rw [hd];exact ⟨256-t+1,by omega,t,true,rfl,rfl,hF6,hU6,λe=>by cases e⟩
 have hse:=hend hag;have hpl:k<c84.length:=by rw [hC84.1];exact hk
 refine NIL.mk rfl ?_;refine zab ziV ?_;refine zaA za4 hF5.wb.blk (hF5.wb.cell 3) ?_;refine zbE (α:=Int) rfl u23 ty3 hk ?_;refine za9 (α:=Int) rfl ty3 hF5.m8 (by rw [zaf,hC84.1]) hk (zbx (v:=s) (by omega)) λw6 hc6 hm6=>?_;have hF6:=hF5.set8 (v:=s) hc6 hm6;refine zas ?_;refine ⟨mk-1,by omega,k+1,by omega,_,rfl,by omega,hF6,by simp [hC84.1],λq hq=>?_⟩;rw [zb3 hpl];split
 · rename_i e
   subst e;rw [hse];exact zbe λr _=>⟨λh=>⟨by omega,h⟩,λh=>h.2⟩
 rename_i e
 rw [hC84.2 q hq];exact zbe λr _=>⟨λh=>⟨by omega,h.2⟩,λh=>⟨by omega,h.2⟩⟩
end Go.Proofs.YtifonhplnmpgaaaGreat
