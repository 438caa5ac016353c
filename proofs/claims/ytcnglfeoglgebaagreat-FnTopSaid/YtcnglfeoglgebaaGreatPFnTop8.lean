/-
  Parts of the proof, put together by program.
-/
import Derived.Test.YtcnglfeoglgebaaGreatPFnTop7
set_option maxRecDepth 20000
set_option linter.defProp false
set_option linter.unusedVariables false
set_option linter.unusedSimpArgs false
set_option linter.unusedSectionVars false
namespace Go.Proofs.YtcnglfeoglgebaaGreat
open Go Go.Sh Go.Proofs
open Rep (rep)
variable {W0 w w' wb:World} {b k q r:Nat} {c:DCode} {cs kc:List Value} {v0 x10 x9:Value} {x:Int}
def zCb {g e o:Nat} (hB:Blk g e w cs) (ho:cs[o]?=some (.int .i64 x)) (hx:I64 x):At w g o x:=by
 refine ⟨[],[.int .i64 x],⟨rfl,rfl,hx⟩,λi u hi=>?_⟩
 have:i=0:=by
   cases i with
   | zero=>rfl
   | succ i=>simp at hi
 subst this;simp only [List.getElem?_cons_zero,qak] at hi;subst hi;have:=hB.range o _ ho;rw [qa9] at this;exact this
section
variable {W0 w w':World} {b e m g6 g7 g8:Nat} {c:DCode} {kc:List Value} {c6 c7 c8:List Nat} {x9 x10 y9 y10:Value}
def FC.cells (h:FC W0 w b e c kc m g6 g7 g8 c6 c7 c8 x9 x10) (hc:ChgI b (b+1) w w') (hB:Blk b e w' (kc++[.slice (some ⟨m,0,none⟩) c.ins.length c.ins.length,sl g6 c.procs.length,sl g7 c.procs.length,sl g8 c.procs.length,y9,y10])):FC W0 w' b e c kc m g6 g7 g8 c6 c7 c8 y9 y10:=
 ⟨h.wb.cells hc hB,ze4 h.m6 hc.one (by simp [h.n6]),ze4 h.m7 hc.one (by simp [h.n7]),ze4 h.m8 hc.one (by simp [h.n8]),h.n6,h.n7,h.n8,h.d67,h.d68,h.d78⟩
def FC.store9 {x:Nat} {K:World->Prop} (h:FC W0 w b e c kc m g6 g7 g8 c6 c7 c8 x9 x10) (k:∀ w',FC W0 w' b e c kc m g6 g7 g8 c6 c7 c8 (.int .i64 (x:Int)) x10->K w'):OPU tp (Instr.storeAt 3 (.pointer (some ⟨b,0+9,none⟩)) (.int .i64 (x:Int))) w K:=by
 have hl:9<(kc++[Value.slice (some ⟨m,0,none⟩) c.ins.length c.ins.length,sl g6 c.procs.length,sl g7 c.procs.length,sl g8 c.procs.length,x9,x10]).length:=by rw [qag,h.wb.k5];simp
 refine zbW (α:=Raw) (lo:=0) (hi:=0) ty3 rfl rfl h.wb.blk hl (zdi rfl) λw2 g1 g0=>?_;have:=h.wb.set 4 (.int .i64 (x:Int));rw [show 5+4=0+9 by omega] at this;rw [this] at g0;exact k w2 (h.cells g1 g0)
def FC.store10 {x:Nat} {K:World->Prop} (h:FC W0 w b e c kc m g6 g7 g8 c6 c7 c8 x9 x10) (k:∀ w',FC W0 w' b e c kc m g6 g7 g8 c6 c7 c8 x9 (.int .i64 (x:Int))->K w'):OPU tp (Instr.storeAt 3 (.pointer (some ⟨b,0+10,none⟩)) (.int .i64 (x:Int))) w K:=by
 have hl:10<(kc++[Value.slice (some ⟨m,0,none⟩) c.ins.length c.ins.length,sl g6 c.procs.length,sl g7 c.procs.length,sl g8 c.procs.length,x9,x10]).length:=by rw [qag,h.wb.k5];simp
 refine zbW (α:=Raw) (lo:=0) (hi:=0) ty3 rfl rfl h.wb.blk hl (zdi rfl) λw2 g1 g0=>?_;have:=h.wb.set 5 (.int .i64 (x:Int));rw [show 5+5=0+10 by omega] at this;rw [this] at g0;exact k w2 (h.cells g1 g0)
end
def ziE (hA:At w b 0 c) (hc:CodeR c) :
   CALL tp 112 [.pointer (some ⟨b,0,none⟩)] w λr w'=>Ext w w'/\r=.int .i64 (zcm c:Nat):=by
 refine co (g:=kf [] [] []) Tryz.func112 ?_;refine NIL.mk rfl<|zab zbM<|zab zbG<|zaa zcv (zaC hA) (xrf _) λv15 g0=>?_;refine (zgI g0 (xrf _)).mono ?_;rintro _ w2 ⟨g1,rfl⟩;have:=(ze2 hc).1;unfold zh6 at this;rw [this];exact ⟨g1,rfl⟩
structure RM (c:DCode) (r:Nat):Prop where
 lt:r<2^c.procs.length
 self:r.testBit (zcm c)=true
 snd:∀ q,r.testBit q=true->RootP c q
noncomputable def usR (c:DCode) (r:Nat):Nat:=orL (frs c) (zbJ r)
def zsL (hq:q<c.procs.length):(zay (frs c) q).testBit r=true↔r<c.procs.length/\FromP c q r:=by rw [zt8 hq,za7]
def zpz (h8:c.procs.length<=8) {r p:Nat} (h:RM c r):(usR c r).testBit p=true↔∃ q,q<c.procs.length/\r.testBit q=true/\p<c.procs.length/\FromP c q p:=by
 unfold usR;rw [zjt h.lt oo];exact ⟨λ⟨i,h1,h2,h3⟩=>⟨i,h1,h2,(zsL h1).1 h3⟩,λ⟨i,h1,h2,h3⟩=>⟨i,h1,h2,(zsL h1).2 h3⟩⟩
def zCc (h8:c.procs.length<=8) {r:Nat} (h:RM c r):usR c r<2^c.procs.length:=zsK λp hp=>by
 obtain ⟨_,_,_,h3,_⟩:=(zpz h8 h).1 hp;exact h3
def RM.start (hc:CodeR c):RM c (2^zcm c):=⟨qaJ oo (ze2 hc).2,by simp [qaG],λq hq=>by simp [qaG] at hq;exact hq▸.main⟩
def RM.more_bit (h8:c.procs.length<=8) {r q:Nat} (h:RM c r):(orL (cls c 5) (zbJ (usR c r))).testBit q=true↔∃ p,p<c.procs.length/\(usR c r).testBit p=true/\q<c.procs.length/\zk0 c p 5 q:=by
 rw [zjt (zCc h8 h) oo];exact ⟨λ⟨i,h1,h2,h3⟩=>⟨i,h1,h2,(zkm h1).1 h3⟩,λ⟨i,h1,h2,h3⟩=>⟨i,h1,h2,(zkm h1).2 h3⟩⟩
def RM.more (h8:c.procs.length<=8) {r:Nat} (h:RM c r):RM c (r ||| orL (cls c 5) (zbJ (usR c r))):=by
 refine ⟨qaT h.lt (zsK λq hq=>by obtain ⟨_,_,_,h3,_⟩:=(h.more_bit h8).1 hq;exact h3),by rw [qaH,h.self];rfl,λq hq=>?_⟩;rw [qaH,qaK] at hq;rcases hq with hq | hq
 . exact h.snd q hq
 obtain ⟨p,h1,h2,h3,h4⟩:=(h.more_bit h8).1 hq;obtain ⟨s,h5,h6,_,h7⟩:=(zpz h8 h).1 h2;exact .spawn (h.snd s h6) h7 h4 h3
def RM.fin (hc:CodeR c) (h8:c.procs.length<=8) {r:Nat} (h:RM c r) (he:r ||| orL (cls c 5) (zbJ (usR c r))=r):r=zdh c/\usR c r=zeJ c:=by
 have g0:∀ q,RootP c q->r.testBit q=true:=λq hq=>by
   induction hq with
   | main=>exact h.self
   | @spawn s p q h0 h1 h2 hq ih=>
     have hs:=h0.lt hc;rw [<-he,qaH,(h.more_bit h8).2 ⟨p,h1.lt hs,(zpz h8 h).2 ⟨s,hs,ih,h1.lt hs,h1⟩,hq,h2⟩];simp
 refine ⟨zem λq=>⟨λhq=>⟨(h.snd q hq).lt hc,h.snd q hq⟩,λhq=>g0 q hq.2⟩,zem λp=>?_⟩;rw [zpz h8 h];constructor
 . rintro ⟨q,h1,h2,h3,h4⟩
   exact ⟨h3,q,h.snd q h2,h4⟩
 rintro ⟨h3,q,h1,h2⟩;exact ⟨q,h1.lt hc,g0 q h1,h3,h2⟩
def zrf {b e m g6 g7 g8:Nat} (H:FC W0 w b e c kc m g6 g7 g8 (cls c 4) (cls c 5) (frs c) x9 x10) (hc:CodeR c) :
   CALL tp 104 [.pointer (some ⟨b,0,none⟩)] w λr w'=>r=.tuple #[]/\FC W0 w' b e c kc m g6 g7 g8 (cls c 4) (cls c 5) (frs c) (.int .i64 (zdh c:Nat)) (.int .i64 (zeJ c:Nat)):=by
 refine co (g:=kf [] [(2,17179868700,[2,3])] [(4,[0,1,2,3,4,5,6,7,8,9,10,11],512)]) Tryz.func104 ?_;have h8:=hc.1.procs8;have hml:=(ze2 hc).2;refine (ziE H.wb.code_at hc).mono ?_;rintro _ w1 ⟨gd,rfl⟩;have H1:=H.step gd;refine zb0 kK zkA oo<|zdF oo ?_;have hR:=RM.start hc;have g4:2^c.procs.length<=256:=qat (n:=2) oo h8.1;refine LOOPI.mk (λmm us w'=>∃ (s:Nat) (ag:Bool) (y:Value),us=[.int .i64 (s:Int),.bool ag]/\mm=(256-s)+(if ag then 1 else 0)/\FC W0 w' b e c kc m g6 g7 g8 (cls c 4) (cls c 5) (frs c) x9 y/\RM c s/\(ag=false->s=zdh c/\y=.int .i64 (zeJ c:Nat))) (256-2^zcm c+1) ⟨2^zcm c,true,x10,rfl,rfl,H1,hR,λe=>by cases e⟩ ?_;rintro mm u2 w2 ⟨s,ag,y,hu,hm,H2,C,g2⟩;obtain ⟨gf,gg⟩:=zcB hu;rw [gf,gg];have g0:s<256:=qal C.lt g4;refine zbz (λg3=>?_) (λg3=>?_)
 . rw [g3,if_pos rfl] at hm
   refine NIL.mk rfl<|zab zqe<|zax za4 H2.wb.blk (H2.wb.cell 3) ?_;refine (zhT H2.m8.is (xrf _) (zEE h8.1) (by rw [zkd];exact h8.1) (m:=s) (by rw [zkd];exact C.lt)).mono ?_;rintro _ w3 ⟨gh,rfl⟩;have H3:=H2.step gh;have g5:=zCc h8.1 C;have g9:usR c s<256:=qal g5 g4;have gi:orL (frs c) (zbJ s)=usR c s:=rfl;rw [gi];refine NIL.mk rfl<|zab zlC<|H3.store10 λw4 H4=>?_;have gj:=zah w4;have H5:=H4.step gj;generalize World.drew1 w4=w5 at *;refine NIL.mk rfl<|zab zxe<|zax za4 H5.wb.blk (H5.wb.cell 2)<|NIL.mk rfl<|zab zlC<|zax ty3 H5.wb.blk (H5.wb.cell 5) ?_;refine (zhT H5.m7.is (xrf _) (zur h8.1 5) (by rw [zhs];exact h8.1) (m:=usR c s) (by rw [zhs];exact g5)).mono ?_;rintro _ w6 ⟨gb,rfl⟩;have H6:=H5.step gb;have gl:=zt5 (zur h8.1 5) (zbJ (usR c s));have gc:=C.more h8.1;have g1:=C.fin hc h8.1;have gp:=λh=>zAd (m:=orL (cls c 5) (zbJ (usR c s))) (n:=s) h;refine ⟨gb,?_⟩;refine zgz (m:=s) (n:=orL (cls c 5) (zbJ (usR c s))) oo oo ?_;have gq:s ||| orL (cls c 5) (zbJ (usR c s))<256:=qaT (n:=8) g0 gl;generalize s ||| orL (cls c 5) (zbJ (usR c s))=t at *;refine zaP ?_;by_cases hts:t=s
   . refine ⟨256-t,oo,t,_,_,rfl,?_,H6,gc,λ_=>?_⟩
     . rw [hts];simp
     rw [(g1 hts).2];exact ⟨by rw [hts];exact (g1 hts).1,rfl⟩
   have hd:decide ((t:Int)≠(s:Int))=true:=decide_eq_true λh=>hts (qaY.1 h);have:=gp hts;rw [hd];exact ⟨256-t+1,oo,t,true,_,rfl,rfl,H6,gc,λe=>by cases e⟩
 obtain ⟨gr,gs⟩:=g2 g3;rw [gs] at H2;refine NIL.mk rfl<|zab zlB<|H2.store9 λw3 H3=>?_;rw [gr] at H3;exact ⟨rfl,H3⟩
def FC.wat {b e m g6 g7 g8:Nat} (H:FC W0 w b e c kc m g6 g7 g8 (cls c 4) (cls c 5) (frs c) (.int .i64 (zdh c:Nat)) (.int .i64 (zeJ c:Nat))) (h8:c.procs.length<=8):WAt w b c:=by
 have h1:zdh c<256:=zbs h8;have h2:zeJ c<256:=zbs h8;exact ⟨H.wb.wl,zgp H.wb.blk (H.wb.cell 1) H.m6.is,zgp H.wb.blk (H.wb.cell 2) H.m7.is,zgp H.wb.blk (H.wb.cell 3) H.m8.is,zCb H.wb.blk (H.wb.cell 4) (by unfold I64;omega),zCb H.wb.blk (H.wb.cell 5) (by unfold I64;omega)⟩
def zh3 (h0:Is W0 v0 c) (e0:Ext W0 w) :
   CALL tp 46 [v0] w λr w'=>Ext w w'/\((¬CodeR c/\r=.tuple #[.pointer none,.bool false])\/(CodeR c/\∃ b,r=.tuple #[.pointer (some ⟨b,0,none⟩),.bool true]/\WAt w' b c)):=by
 refine co (g:=kf [] [(5,274876858432,[20])] [(3,[0,1,2,3,4,5,6,7],16)]) Tryz.func46 ?_;refine za9 h0 e0 λw1 gl hA=>zaa zbq hA (xrf _) λv7 h7=>?_;refine (zgK h7 (xrf _)).mono ?_;rintro _ w2 ⟨gp,rfl⟩;refine zav<|br (λhn=>?_) (λhy=>?_)
 . exact ⟨gl.t gp,.inl ⟨hn,rfl⟩⟩
 have hc:CodeR c:=qad.1 hy;have h8:=hc.1.procs8;have gq:=hc.f.ins;have hz0:=(zeE hc h8.2).2.2;have gH:=zah w2;have I:=gp.t gH;generalize World.drew1 w2=w3 at *;refine zaa zbq hA I λv10 gI=>zab zaM<|zaa zcQ (zak hA) I λv12 gJ=>zae u34 gJ<|ze1 oo oo λw4 gc gr=>?_;have hs4:=gc.size;have hm4:=gr.lt _ (qax.2 rfl);generalize hm:w3.heap.size=m at *;have g1:=gI.ext I;have g0:=zn6 g1;obtain ⟨F,kc,hr,gs⟩:=g1;obtain ⟨a0,a1,a2,a3,a4,n0,n1,n2,n3,n4,k0,k1,k2,k3,k4,g4⟩:=g0
 have gd:kc=[.slice a0 n0 k0,.slice a1 n1 k1,.slice a2 n2 k2,.slice a3 n3 k3,.slice a4 n4 k4]:=by
   rw [gs] at g4;have:(Value.agg kc.toArray)=.agg #[.slice a0 n0 k0,.slice a1 n1 k1,.slice a2 n2 k2,.slice a3 n3 k3,.slice a4 n4 k4]:=g4;simpa using this
 rw [g4];refine ⟨gc,?_⟩;refine zaX (cells:=#[.slice a0 n0 k0,.slice a1 n1 k1,.slice a2 n2 k2,.slice a3 n3 k3,.slice a4 n4 k4,sl m c.ins.length,.slice none 0 0,.slice none 0 0,.slice none 0 0,.int .i64 0,.int .i64 0]) kK<|zo0 λw5 gt gx=>?_;have gf:Blk w4.heap.size 92 w5 (kc++[sl m c.ins.length,.slice none 0 0,.slice none 0 0,.slice none 0 0,.int .i64 0,.int .i64 0]):=by rw [gd];exact gx
 have gy:kc.length=5:=Rep.len hr;clear gx g4 gs;have gz:=gr.ext gt;have g2:Ext w3 w5:=gc.t gt;generalize hb:w4.heap.size=b at *;refine zab zbi<|zaa za4 (zar hA) (I.t g2) λv18 g5=>?_;have g5:=g5.ext I;refine zae u33 g5 ?_;have gK:c.entry.length=c.procs.length:=hc.2.1.1;rw [gK];have g3:List.replicate c.ins.length false=zbZ c.ins.length (λi=>∃ p,p<0/\zaN c p i):=zdB _ λi ⟨p,h,_⟩=>oo
 rw [g3] at gz;have C:∀ {x1 x2 x3 x4 x5:Value},(kc++[sl m c.ins.length,x1,x2,x3,x4,x5])[0+5]?=some (sl m c.ins.length):=by intros;rw [List.getElem?_append_right (by rw [gy];omega),gy];rfl
 refine zao c.procs.length (λk us w'=>us=[.int .i64 (k:Int)]/\k<=c.procs.length/\Ext w3 w'/\Blk b 92 w' (kc++[sl m c.ins.length,.slice none 0 0,.slice none 0 0,.slice none 0 0,.int .i64 0,.int .i64 0])/\Mine [m] w' (sl m c.ins.length) (zbZ c.ins.length λi=>∃ p,p<k/\zaN c p i)) 0 (z0 _) ⟨rfl,z0 _,g2,gf,gz⟩ ?_;rintro k mk u w6 hkm ⟨hu,hkl,gg,gh,gi⟩;try replace hu:=zbt hu
 rw [hu];refine zag<|br (λhlt=>?_) (λhge=>?_)
 . have hk:k<c.procs.length:=oo
   have M:k<c.entry.length:=oo
   obtain ⟨gM,g9,he3⟩:=zfU hc M;refine zad u33 ty3 (i:=k) g5 M λb5 o5 gC=>?_;rw [zbx M,gM] at gC;refine zac ty3 gC gg λ_=>NIL.mk rfl<|zab ztv<|zax zgt gh C<|zb8 (α:=Bool) rfl u90 ty4 g9<|zbr (α:=Bool) rfl ty4 gi zan g9 zbU λw7 gD gN=>?_;have gb:=gh.chgF gD (by simp;omega);have gE:Ext w3 w7:=gg.chgF gD (by simp [hm])
   have D:∀ i,mkd ((zbZ c.ins.length λi=>∃ p,p<k/\zaN c p i).set (eN c k) true) i↔(i<c.ins.length/\∃ p,p<k/\zaN c p i)\/i=eN c k:=λi=>by
     rw [zde (by rw [zan];exact g9),zaU]
   have gO:((zbZ c.ins.length λi=>∃ p,p<k/\zaN c p i).set (eN c k) true).length=c.ins.length:=by rw [qaL,zan]
   generalize (zbZ c.ins.length λi=>∃ p,p<k/\zaN c p i).set (eN c k) true=ms7 at *;refine NIL.mk rfl<|zab ztv<|zax zgt gb C ?_;have gP:KAt w3 w7 b c:=⟨F,kc,hr,zuq gb,gb.lt⟩;refine (zqO gP gE hc rfl g9 gN gO oo oo ?_).mono ?_
   . intro i hi gQ j hj
     rcases (D i).1 hi with ⟨h1,p,h2,h3⟩ | h
     . have gq:=zcX hc h1 hj
       exact (D j).2 (.inl ⟨gq.1,p,h2,zx2 h3 hj⟩)
     exact absurd h gQ
   rintro _ w8 ⟨rfl,gF,gG⟩
   have gj:(zbZ c.ins.length λi=>mkd ms7 i\/RP (zaA c) (eN c k) i)=zbZ c.ins.length λi=>∃ p,p<k+1/\zaN c p i:=za0 λi hi=>by
     rw [D];constructor
     . rintro ((⟨_,p,h2,h3⟩ | h) | h)
       . exact ⟨p,oo,h3⟩
       . exact ⟨k,oo,.inl h⟩
       exact ⟨k,oo,.inr h⟩
     rintro ⟨p,h2,h3⟩;by_cases e:p=k
     . subst e
       rcases h3 with h3 | h3
       . exact .inl (.inr h3)
       exact .inr h3
     exact .inl (.inl ⟨hi,p,oo,h3⟩)
   rw [gj] at gG;refine zau<|⟨mk-1,oo,k+1,oo,rfl,oo,gE.chgI gF oo,gb.chgI gF oo,gG⟩
 have M:k=c.procs.length:=oo
 have gR:(zbZ c.ins.length λi=>∃ p,p<k/\zaN c p i)=zbZ c.ins.length (zfW c):=by rw [M];rfl
 rw [gR] at gi;have HW:WB w3 w6 b 92 c kc m (.slice none 0 0) (.slice none 0 0) (.slice none 0 0) (.int .i64 0) (.int .i64 0):=⟨gg,gh,⟨F,hr⟩,gi,oo,oo,oo⟩;refine (zre HW hc).mono ?_;rintro _ w7 ⟨rfl,g6,g7,g8,H7⟩;refine (zrf H7 hc).mono ?_;rintro _ w8 ⟨rfl,H8⟩;exact ⟨gl.t (I.t H8.wb.ext),.inr ⟨hc,b,rfl,H8.wat h8.1⟩⟩
def zCd {a b d:Int} (ha:I64 a) (hb:I64 b) (hd:I64 d):Is w (.agg #[.int .i64 a,.int .i64 b,.int .i64 d]) (⟨a,b,d⟩:DOrder):=
 ⟨[],_,⟨[],[],[.int .i64 a],_,rfl,rfl,⟨rfl,rfl,ha⟩,⟨[],[],[.int .i64 b],_,rfl,rfl,⟨rfl,rfl,hb⟩,⟨rfl,rfl,hd⟩⟩⟩,rfl⟩
structure OI (wb w:World) (out:Value) (L:List DOrder):Prop where
 ext:Ext wb w
 row:∃ lo hi,wb.heap.size<=lo/\hi<=w.heap.size/\RowI lo hi 222 w out L
def OI.step {out:Value} {L:List DOrder} (h:OI wb w out L) (hx:Ext w w'):OI wb w' out L:=by
 obtain ⟨lo,hi,h1,h2,hr⟩:=h.row;exact ⟨h.ext.trans hx,lo,hi,h1,qan h2 hx.size,hr.ext hx⟩
def OI.own {out:Value} {L:List DOrder} (h:OI wb w out L):Own wb.heap.size w out L:=by
 obtain ⟨lo,hi,h1,h2,hr⟩:=h.row;exact hr.own.own.mono oo
def zyJ (hW:WAt W0 b c) (e0:Ext W0 w) (hc:CodeR c) :
   CALL tp 133 [.pointer (some ⟨b,0,none⟩)] w λr w'=>Ext w w'/\Own w.heap.size w' r (ze3 c):=by
 refine co (g:=kf [] [(5,72057594035831520,[5,21]),(9,36024398972453408,[5,42])] []) Tryz.func133 ?_;have hil:=hc.f.ins;have g0:=hW.wl.code;refine (zyl hW e0 hc).mono ?_;rintro v11 w1 ⟨gl,gp⟩;refine (zB9 hW (e0.t gl) gp.is (xrf _) hc).mono ?_;rintro v14 w2 ⟨gq,gI⟩;have C:=gl.t gq;have gJ:=gp.is.ext gq;have gK:=gI.is;have gM:=C.size;refine NIL.mk rfl<|zab zbM<|zab zaM<|zaa zcQ (zak g0) (e0.t C) λv19 gr=>zae u34 gr ?_;have gs:(zg9 c).length=c.ins.length:=by unfold zg9;rw [zan]
 have gN:=zAo c;have gO:OI w2 w2 (.slice none 0 0) (zrJ c 0):=⟨xrf _,w2.heap.size,w2.heap.size,lr _,qas _,zb6 _ _ _ _⟩;refine zao c.ins.length (λk us w'=>∃ out,us=[out,.int .i64 (k:Int)]/\k<=c.ins.length/\OI w2 w' out (zrJ c k)) 0 (z0 _) ⟨_,rfl,z0 _,gO⟩ ?_;rintro k mk u w3 hkm ⟨out,hu,hkl,I⟩;obtain ⟨gP,gQ⟩:=zcB hu;rw [gP,gQ];have M:zrJ c (k+1)=zrJ c k++zwh c k:=zgo k;have gb:=gN k;refine zag<|br (λhlt=>?_) (λhge=>?_)
 case refine_2=>
   have gR:k=c.ins.length:=oo
   rw [gR] at I gb;obtain ⟨lo,hi,h1,h2,hr⟩:=I.row;refine (zAj hr.own oo).mono ?_;rintro _ w4 ⟨gS,gt⟩;rw [zyz hc] at gt;exact ⟨(C.t I.ext).chgI gS oo,gt.own.mono oo⟩
 have hk:k<c.ins.length:=oo
 refine zad u34 zcL gr hk λb3 o3 gx=>?_;rw [zaz] at gx;refine zaa zcL gx ((e0.t C).trans I.ext) λv25 gy=>zck zqd rfl zcL rfl gy ((e0.t C).trans I.ext) λw4 gz gU gC=>?_;have O:=I.step gz;have hgl:w3.heap.size<w4.heap.size:=gC.lt;have gc:=zgF gy gC rfl;have gV:=za5 (ms:=zg9 c) (i:=k) (by rw [gs];exact hk)
 have g1:(zg9 c)[k]=true↔MetP c k:=by
   rw [<-gV];unfold zg9;rw [zaU];exact ⟨λh=>h.2,λh=>⟨oo,h⟩⟩
 refine zab zbp<|zac ty3 (zaw gU) (xrf _) λ_=>zaP ?_
 have gD:¬(MetP c k/\(zam c k).op=6)->zrJ c (k+1)=zrJ c k:=λh=>by
   rw [M];unfold zwh;rw [if_neg h,qaC]
 refine br (λgW=>?_) (λgX=>?_)
 . refine zau ?_
   exact ⟨mk-1,oo,k+1,oo,out,rfl,oo,by rw [gD λh=>gW h.2];exact O⟩
 have h6:(zam c k).op=6:=qad.1 gX;refine zad u90 ty4 (i:=k) gJ (by rw [gs];exact hk) λb4 o4 gY=>zaG ty4 gY O.ext<|zaV<|zbz (λhf=>?_) (λhf=>?_)
 . have gZ:¬MetP c k:=λh=>by rw [g1.2 h] at hf;cases hf
   refine zau<|⟨mk-1,oo,k+1,oo,out,rfl,oo,by rw [gD λh=>gZ h.1];exact O⟩
 have h4:MetP c k:=g1.1 (by simpa using hf);have h5:=(zcY hc hk (.inl h6)).1;have hA:zwh c k=(zbJ (zay (zpl c) k)).map (zB7 c k):=by unfold zwh;rw [if_pos ⟨h4,h6⟩]
 rw [hA] at M;refine zad u33 ty3 (i:=k) gK (by rw [zaf,zjm];exact hk) λb5 o5 gE=>?_;rw [zaR] at gE;refine zac ty3 gE O.ext λ_=>?_;have g2:=zcZ (zsz c) k;generalize hmm:zay (zpl c) k=m at *;refine (zdr (m:=m) oo).mono ?_;rintro h8 w5 ⟨g4,gF⟩;have h9:=O.step g4;have ha:=zgg m 64;have hbL:(zbJ m).length<=64:=ha;refine zae u33 gF.is ?_;obtain ⟨Fb,gG,hd⟩:=gF;have hs5:=g4.size;have hlb:=gG.lt;refine zao (zbJ m).length (λj us w'=>∃ out',us=[out',.int .i64 (j:Int)]/\j<=(zbJ m).length/\Ext w2 w'/\w5.heap.size<=w'.heap.size/\Mine Fb w' h8 (zbJ m)/\AtB W0 w' w3.heap.size 0 (zam c k)/\∃ lo hi,w2.heap.size<=lo/\hi<=w'.heap.size/\RowI lo hi 222 w' out' (zrJ c k++((zbJ m).take j).map (zB7 c k))/\(w3.heap.size<lo\/hi<=w3.heap.size)/\∀ b∈Fb,b<lo\/hi<=b) 0 (z0 _) ⟨out,rfl,z0 _,h9.ext,lr _,gG,gc.ext g4,?_⟩ ?_
 . obtain ⟨lo,hi,h1,h2,hr⟩:=I.row
   refine ⟨lo,hi,h1,oo,by simpa using (hr.ext (gz.t g4)),.inr h2,λb hb=>.inr ?_⟩;have:=hd b hb;omega
 rintro j mj u6 w6 hjm ⟨gd,he,hjl,D,hg,g5,g3,lo,hi,h1,h2,gf,hh,gH⟩;obtain ⟨gg,gh⟩:=zcB he;rw [gg,gh];refine zag<|br (λhn=>?_) (λhq=>?_)
 case refine_2=>refine zau<|⟨mk-1,oo,k+1,oo,gd,rfl,oo,?_⟩;rw [M];rw [qaf oo] at gf;exact ⟨D,lo,hi,h1,h2,gf⟩
 have hj:j<(zbJ m).length:=oo
 refine zad u33 ty3 (i:=j) g5.is hj λb6 o6 hs=>zac ty3 hs (xrf _) λ_=>?_;have gi:=g3.at ((e0.t C).trans D);refine zab za8<|zac ty3 (zaq gi) (xrf _) λ_=>zaX (cells:=#[.int .i64 (zbJ m)[j],.int .i64 (zam c k).arg,.int .i64 (k:Int)]) kK ?_;obtain ⟨l,hl,gj⟩:=(zmH g2).1 (qab hj);have hl6:=zgS g2 gj;have hW:zB7 c k (zbJ m)[j]=⟨(zbJ m)[j],(zam c k).arg,k⟩:=by unfold zB7;rw [h5]
 have ht:=(zcY hc hk (.inl h6)).2.2
 have hv:(zrJ c k++((zbJ m).take j).map (zB7 c k)).length<=200000:=by
   simp only [qag,qav,qai];omega
 refine zdA (x:=(⟨(zbJ m)[j],(zam c k).arg,k⟩:DOrder)) zBH zqg zFg zEd qd gf (lo2:=0) (hi2:=0) (zfL (zCd (by unfold I64;omega) (by unfold I64;omega) (by unfold I64;omega))) (by rw [zal];omega) oo λv' w' hw hx g9 hy hd7=>?_;have hs7:=g9.size;have hz:=D.size;refine zau<|⟨mj-1,oo,j+1,oo,v',rfl,oo,D.chgI g9 h1,oo,g5.keep λb hb=>?_,g3.keep ?_,hw,hx,oo,oo,?_,oo,λb hb=>?_⟩
 . exact g9.block b (g5.lt b hb) (gH b hb)
 . exact g9.block _ oo hh
 . rw [tk hj,qa6,<-qar]
   simp only [qbC,qb4];rw [hW];exact hy
 have:=gH b hb;have:=g5.lt b hb;omega
def zyK (h0:Is W0 v0 c) (e0:Ext W0 w) (hc:CodeR c) :
   CALL tp 225 [v0] w λr w'=>Ext w w'/\Own w.heap.size w' r (ze3 c):=by
 refine co (g:=kf [] [(4,75557863725914323417320,[3,5]),(7,75557863725914323157192,[3,6]),(10,75557863725914289864840,[3,7])] []) Tryz.func225 ?_;have gt:=hc.f.ins;have gJ:=hc.1.locks6;refine za9 h0 e0 λw1 gK hA=>zaK (α:=DOrder) zBH zqg λa8 w2 gc hr2=>?_;have g0:=gK.t gc;refine zaa zbq hA gc λv9 h9=>?_;refine (zrd h9 gc hc).mono ?_;rintro _ w3 ⟨gx,gw,rfl,gg,gh⟩;have g1:=g0.t gx;have U:=gc.t gx;have hs2:=g0.size;have gy:(zg9 c).length=c.ins.length:=by unfold zg9;rw [zan]
 generalize hwb:w3=wb at *;have gM:OI wb wb (.slice (some a8) 0 0) ((List.range 0).flatMap (zjr c)):=⟨xrf _,wb.heap.size,wb.heap.size,lr _,qas _,zcx _ _ _ _ _⟩;refine zao c.locks.length (λk us w'=>∃ out,us=[out,.int .i64 (k:Int)]/\k<=c.locks.length/\OI wb w' out ((List.range k).flatMap (zjr c))) 0 (z0 _) ⟨_,rfl,z0 _,gM⟩ ?_;rintro fr mk u w4 hkm ⟨out,hu,hkl,V⟩;obtain ⟨gN,gO⟩:=zcB hu;rw [gN,gO];refine zab zd8<|zaa zcv (zbw hA) (U.t V.ext) λv13 gP=>zae u24 gP<|zag<|br (λhlt=>?_) (λhge=>?_)
 case refine_2=>
   have X:fr=c.locks.length:=oo
   rw [X] at V;exact ⟨g1.t V.ext,V.own.mono (by have:=g1.size;omega)⟩
 have hfr:fr<c.locks.length:=oo
 refine zao c.locks.length (λk us w'=>∃ out,us=[out,.int .i64 (k:Int)]/\k<=c.locks.length/\OI wb w' out ((List.range fr).flatMap (zjr c)++(List.range k).flatMap (zmG c fr))) 0 (z0 _) ⟨_,rfl,z0 _,by simpa using V⟩ ?_;rintro to gQ u7 w7 gR ⟨gi,gS,gU,gd⟩;obtain ⟨gj,gl⟩:=zcB gS;rw [gj,gl];refine zab zd8<|zaa zcv (zbw hA) (U.t gd.ext) λv20 gV=>zae u24 gV<|zag<|br (λgW=>?_) (λgX=>?_)
 case refine_2=>
   have X:to=c.locks.length:=oo
   rw [X] at gd;refine zau<|⟨mk-1,oo,fr+1,oo,gi,rfl,oo,by rw [zgo];exact gd⟩
 have hto:to<c.locks.length:=oo
 refine zao c.ins.length (λk us w'=>∃ out,us=[out,.int .i64 (k:Int)]/\k<=c.ins.length/\OI wb w' out ((List.range fr).flatMap (zjr c)++(List.range to).flatMap (zmG c fr)++(List.range k).flatMap (zg8 c fr to))) 0 (z0 _) ⟨_,rfl,z0 _,by simpa using gd⟩ ?_;rintro i M u10 w10 gz ⟨D,gp,gC,C⟩;obtain ⟨g2,g3⟩:=zcB gp;rw [g2,g3];have I:=U.t C.ext;refine zab zaM<|zaa zcQ (zak hA) I λv27 gY=>zae u34 gY<|zag<|br (λgD=>?_) (λgE=>?_)
 case refine_2=>
   have X:i=c.ins.length:=oo
   rw [X] at C;refine zau<|⟨gQ-1,oo,to+1,oo,D,rfl,oo,by rw [zgo,<-qar];exact C⟩
 have hi:i<c.ins.length:=oo
 have g4:(List.range fr).flatMap (zjr c)++(List.range to).flatMap (zmG c fr)++(List.range (i+1)).flatMap (zg8 c fr to)=(List.range fr).flatMap (zjr c)++(List.range to).flatMap (zmG c fr)++(List.range i).flatMap (zg8 c fr to)++zg8 c fr to i:=by
   rw [zgo,<-qar]
 have gZ:((List.range fr).flatMap (zjr c)++(List.range to).flatMap (zmG c fr)++(List.range i).flatMap (zg8 c fr to)).length<=100000:=by
   have h1:=zq6 gt gJ fr;have h2:=zq5 gt fr to;have h3:=zq4 c fr to i;simp only [qag];omega
 generalize (List.range fr).flatMap (zjr c)++(List.range to).flatMap (zmG c fr)=Lp at *
 have gf:¬OrdP c fr to i->Lp++(List.range (i+1)).flatMap (zg8 c fr to)=Lp++(List.range i).flatMap (zg8 c fr to):=λh=>by
   rw [g4];unfold zg8;rw [if_neg h,qaC]
 have gq:OrdP c fr to i->Lp++(List.range (i+1)).flatMap (zg8 c fr to)=Lp++(List.range i).flatMap (zg8 c fr to)++[mkO fr to i]:=λh=>by
   rw [g4];congr 1;unfold zg8;rw [if_pos h]
 refine NIL.mk rfl<|zab zik<|zaa zgt gg C.ext λv35 h4=>?_;have h5:=za5 (ms:=zg9 c) (i:=i) (by rw [gy];exact hi)
 have g5:(zg9 c)[i]=true↔MetP c i:=by
   rw [<-h5];unfold zg9;rw [zaU];exact ⟨λh=>h.2,λh=>⟨oo,h⟩⟩
 refine zad u90 ty4 (i:=i) h4 (by rw [gy];exact hi) λb4 o4 h8=>zaG ty4 h8 C.ext<|zbz (λht=>?_) (λhf=>?_)
 case refine_2=>
   have ha:¬MetP c i:=λh=>by rw [g5.2 h] at hf;cases hf
   refine zau<|⟨M-1,oo,i+1,oo,D,rfl,oo,by rw [gf λh=>ha h.1];exact C⟩
 have hM:=g5.1 ht;refine zab zaM<|zaa zcQ (zak hA) I λv41 hd=>zad u34 zcL hd hi λb3 o3 gF=>?_;rw [zaz] at gF;refine zab zbp<|zac ty3 (zaw gF) I λ_=>zai<|br (λh6=>?_) (λh6=>?_)
 case refine_2=>refine zau<|⟨M-1,oo,i+1,oo,D,rfl,oo,by rw [gf λh=>h6 h.2.1];exact C⟩
 obtain ⟨he,_,hg⟩:=zcY hc hi (.inl h6);refine zab zaM<|zaa zcQ (zak hA) I λv50 hh=>zad u34 zcL hh hi λb5 o5 gG=>?_;rw [zaz] at gG;refine zab za8<|zac ty3 (zaq gG) I λ_=>zai<|br (λg9=>?_) (λg9=>?_)
 case refine_2=>refine zau<|⟨M-1,oo,i+1,oo,D,rfl,oo,by rw [gf λh=>g9 (by rw [he,h.2.2.1])];exact C⟩
 refine NIL.mk rfl<|zab zgC<|zaa za4 gh C.ext λv62 hj=>zad u33 ty3 (i:=i) hj (by rw [zaf,zjm];exact hi) λb6 o6 gH=>?_;rw [zaR] at gH;refine zac ty3 gH C.ext λ_=>?_;have hk:=zcZ (zsz c) i;refine (zz6 (m:=zay (zpl c) i) (i:=fr) oo oo).mono ?_;rintro _ w11 ⟨gr,rfl⟩
 have gb:(zay (zpl c) i).testBit fr=true↔MayP c i fr:=by
   rw [zpm hi,zgj];exact ⟨λh=>h.2,λh=>⟨oo,h⟩⟩
 have O:=C.step gr;refine zbz (λhb=>?_) (λhb=>?_)
 case refine_2=>refine zau<|⟨M-1,oo,i+1,oo,D,rfl,oo,by rw [gf λh=>by rw [gb.2 h.2.2.2] at hb;cases hb];exact O⟩
 have hP:OrdP c fr to i:=⟨hM,h6,oo,gb.1 hb⟩;refine zaX (cells:=#[.int .i64 fr,.int .i64 to,.int .i64 i]) kK ?_;obtain ⟨lo,hi',h1,h2,hr⟩:=O.row;refine zdA (x:=(mkO fr to i:DOrder)) zBH zqg zFg zEd qd hr (lo2:=0) (hi2:=0) (zfL (zCd (by unfold I64;omega) (by unfold I64;omega) (by unfold I64;omega))) (by rw [zal];omega) oo λv' w' hl gs gI hn hd7=>?_;have hs7:=gI.size;have hq:=O.ext.size;refine zau<|⟨M-1,oo,i+1,oo,v',rfl,oo,O.ext.chgI gI h1,hl,gs,oo,oo,?_⟩;rw [gq hP];exact hn
def zju {l:List Int} {y:Int} (hk:k<l.length) (h:y∉l.take k) (c:¬l[k]=y):y∉l.take (k+1):=by
 rw [tk hk];simp only [qae,qaa,qac,or_false,not_or];exact ⟨h,λe=>c e.symm⟩
def zyL {l:(List Int)} {y:Int}  (h0:Is W0 v0 l) (e0:Ext W0 w)  :
   CALL tp 283 [v0,.int .i64 y] w λr w'=>Ext w w'/\(r=.bool (decide (y∈l))):=by
 refine co (g:=kf [] [(2,262128,[5])] []) Tryz.func283 ?_;refine zao (l.length) (λk us w'=>us=[.int .i64 (k:Int)]/\Ext w w'/\(y∉l.take k)) (0) oo ⟨sS,xrf w,sS⟩ ?_;rintro k m2 uu2 w1_ hk2 ⟨hu,y1,C⟩;try replace hu:=zbt hu
 try rw [hu]
 try clear hu
 have g0:=zaj h0;refine zae u33 h0<|zag<|br (λc1=>?_) (λc1=>?_)
 . refine zad u33 ty3 h0 oo λb14 o14 g1=>?_
   refine zac ty3 g1 (e0.t y1) λg2=>zai<|br (λc2=>?_) (λc2=>?_)
   . refine ⟨y1,?_⟩
     have:y∈l:=c2▸qab _;simp [this]
   refine zau<|⟨m2-1,oo,k+1,oo,sS,y1,?_⟩;exact zju oo C c2
 refine ⟨y1,?_⟩;rw [qaf oo] at C;simp [C]
def zsM {l:(List Int)} {y:Int}  (h0:Is W0 v0 l) (e0:Ext W0 w)  :
   CALL tp 156 [v0,.int .i64 y] w λr w'=>Ext w w'/\(∃ n:Int,r=.int .i64 n/\(0<=n↔y∈l)):=by
 refine co (g:=kf [] [(2,524080,[8])] []) Tryz.func156 ?_;have g0:=zaj h0;refine zae u33 h0<|zao (l.length) (λk us w'=>us=[.int .i64 (k:Int)]/\Ext w w'/\(y∉l.take k)) (0) oo ⟨sS,xrf w,sS⟩ ?_;rintro k m2 uu2 w1_ hk2 ⟨hu,y1,C⟩;try replace hu:=zbt hu
 try rw [hu]
 try clear hu
 refine zag<|br (λc1=>?_) (λc1=>?_)
 . refine zad u33 ty3 h0 oo λb14 o14 g1=>?_
   refine zac ty3 g1 (e0.t y1) λg2=>zai<|br (λc2=>?_) (λc2=>?_)
   . refine ⟨y1,?_⟩
     have:y∈l:=c2▸qab _;exact ⟨_,rfl,by simp [this]⟩
   refine zau<|⟨m2-1,oo,k+1,oo,sS,y1,?_⟩;exact zju oo C (λe=>c2 e.symm)
 refine ⟨y1,?_⟩;rw [qaf oo] at C;exact ⟨-1,rfl,by simp [C]⟩
def zni {l:(List Int)} {y:Int}  (h0:Is W0 v0 l) (e0:Ext W0 w)  :
   CALL tp 75 [v0,.int .i64 y] w λr w'=>Ext w w'/\(r=.bool (decide (y∈l))):=by
 refine co (g:=kf [] [] []) Tryz.func75 ?_;refine (zsM h0 e0).mono ?_;rintro _ w1_ ⟨y1,n7,rfl,g0⟩;refine zcb<|⟨y1,?_⟩;simp [g0]
def zyM {ms:List Bool} (h0:Is W0 v0 ms) (e0:Ext W0 w) (hn:ms.length<=2000000) :
   CALL tp 184 [v0] w λr w'=>Ext w w'/\Own w.heap.size w' r (zaT (zz4 ms ms.length)):=by
 refine co (g:=kf [] [(3,524088,[3,8])] []) Tryz.func184 ?_;refine zae u90 h0<|zao ms.length (λk us w'=>∃ (v:Value),us=[v,.int .i64 (k:Int)]/\k<=ms.length/\Ext w w'/\RowI w.heap.size w'.heap.size 3 w' v (zaT (zz4 ms k))) 0 (z0 _) ⟨_,rfl,z0 _,xrf _,zb6 _ _ _ _⟩ ?_;rintro k mk u w2 hkm ⟨v,hu,hkl,C,g0⟩;obtain ⟨g2,g3⟩:=zcB hu;rw [g2,g3];refine zag<|br (λhlt=>?_) (λhge=>?_)
 case refine_2=>
   have:k=ms.length:=oo
   rw [this] at g0;exact ⟨C,g0.own.own⟩
 have hk:k<ms.length:=oo
 have g1:=C.size;have hg:ms.getD k false=ms[k]:=by rw [List.getD_eq_getElem?_getD,List.getElem?_eq_getElem hk];rfl
 have hil:=zt0 ms k;refine zad u90 ty4 h0 hk λb2 o2 g4=>zaG ty4 g4 (e0.t C)<|zbz (λhf=>?_) (λhf=>?_)
 . refine zbO (lo2:=w2.heap.size) (hi2:=w2.heap.size) (x:=(k:Int)) u33 ty3 z3 zc3 qd g0 g1 (zc2 _ _ (by unfold I64;omega)) (lr _) g1 (by rw [zal,zaf];omega) (by rw [zaf];omega) λg5 w9 g9 gb=>?_
   refine zau<|⟨mk-1,oo,k+1,oo,g5,rfl,oo,C.chgI g9 (lr _),?_⟩;rw [zjf,hg,hf,if_pos rfl,zcF];exact gb
 refine zau<|⟨mk-1,oo,k+1,oo,v,rfl,oo,C,?_⟩;rw [zjf,hg,hf];simpa using g0
end Go.Proofs.YtcnglfeoglgebaaGreat
namespace Go.Sh
open Rep (rep)
instance:Rep Nat where
 size:=1
 agg:=false
 rep F _ cs x:=F=[]/\cs=[.int .u64 (x:Int)]/\x<18446744073709551616
 pos:=by decide
 sz _:=rfl
 len:=by rintro _ _ _ _ ⟨_,rfl,_⟩;rfl
 one:=by rintro _ _ _ _ ⟨_,rfl,_⟩ v hv;simp at hv;subst hv;rfl
 keep:=by rintro _ _ _ _ _ h _;exact h
 lt:=by rintro _ _ _ _ ⟨rfl,_⟩ b hb;cases hb
instance:Flat Nat:=⟨λh=>h.1⟩
instance:RepZ Nat:=⟨0,[.int .u64 0],λ_=>⟨rfl,rfl,by decide⟩⟩
section
variable {P:Program} {w w0:World} {K:Value->Prop} {t:TypeId} {x y:Operand}
def zAr {x:Nat} (h:x<18446744073709551616):Mine [] w (.int .u64 (x:Int)) x:=⟨⟨_,⟨rfl,rfl,h⟩,rfl⟩,qaq,Wr.nil w⟩
def zus {t by_ b o:Nat} {x:Nat} (ht:tyI P t=some (1,by_,false)) (h:At w0 b o x) (hx:Ext w0 w) (k:K (.int .u64 (x:Int))):RD P (Instr.loadAt t (.pointer (some ⟨b,o,none⟩))) w K:=
 zaa (α:=Nat) ht h hx λv hv=>by
   obtain ⟨F,cs,⟨_,rfl,_⟩,rfl⟩:=hv;exact k
def zAs {n:Nat} (h:n<18446744073709551616):IntKind.u64.wrap (n:Int)=(n:Int):=by simp [IntKind.wrap,IntKind.signed,IntKind.bits];omega
def zut {m n:Nat} (hm:m<4611686018427387904) (hn:n<4611686018427387904) (k:K (.int .u64 ((m ||| n:Nat):Int))):RD P (bin .or t x y (.int .u64 (m:Int)) (.int .u64 (n:Int))) w K:=by
 have hlt:m ||| n<2^62:=qaT hm hn;refine zbb (λw' _=>?_) k
 have e2:((BitVec.ofInt 64 (m:Int)) ||| (BitVec.ofInt 64 (n:Int))).toNat=m ||| n:=by
   simp only [BitVec.toNat_or,BitVec.ofInt_natCast,BitVec.toNat_ofNat];rw [qbn oo,qbn oo]
 show (do eqGuard .or t x y (.int .u64 (m:Int)) (.int .u64 (n:Int));binOp .or t (.int .u64 (m:Int)) (.int .u64 (n:Int)):Sem Value).run P w'=_;simp only [eqGuard,binOp,Op.intBits];show Result.ok (Value.int .u64 (IntKind.u64.wrap (((BitVec.ofInt 64 (m:Int)) ||| (BitVec.ofInt 64 (n:Int))).toNat:Nat))) w'=_;rw [e2,zAs oo]
def zkn {m n:Nat} (hm:m<4611686018427387904) (hn:n<4611686018427387904) (k:K (.int .u64 ((m &&& n:Nat):Int))):RD P (bin .and t x y (.int .u64 (m:Int)) (.int .u64 (n:Int))) w K:=by
 have hlt:m &&& n<=m:=qaX;refine zbb (λw' _=>?_) k
 have e2:((BitVec.ofInt 64 (m:Int)) &&& (BitVec.ofInt 64 (n:Int))).toNat=m &&& n:=by
   simp only [BitVec.toNat_and,BitVec.ofInt_natCast,BitVec.toNat_ofNat];rw [qbn oo,qbn oo]
 show (do eqGuard .and t x y (.int .u64 (m:Int)) (.int .u64 (n:Int));binOp .and t (.int .u64 (m:Int)) (.int .u64 (n:Int)):Sem Value).run P w'=_;simp only [eqGuard,binOp,Op.intBits];show Result.ok (Value.int .u64 (IntKind.u64.wrap (((BitVec.ofInt 64 (m:Int)) &&& (BitVec.ofInt 64 (n:Int))).toNat:Nat))) w'=_;rw [e2,zAs oo]
def zn7 {m n:Nat} (hm:m<4611686018427387904) (hn:n<4611686018427387904) (k:K (.int .u64 ((zlg m n:Nat):Int))):RD P (bin .andNot t x y (.int .u64 (m:Int)) (.int .u64 (n:Int))) w K:=by
 have hlt:zlg m n<=m:=ziv m n;refine zbb (λw' _=>?_) k
 have e2:((BitVec.ofInt 64 (m:Int)) &&& ~~~(BitVec.ofInt 64 (n:Int))).toNat=zlg m n:=by
   apply qbd;intro i;have g0:m<2^64:=oo
   have g1:n<2^64:=oo
   simp only [BitVec.testBit_toNat,BitVec.getLsbD_and,BitVec.getLsbD_not,BitVec.ofInt_natCast,BitVec.getLsbD_ofNat,zdg];by_cases hi:i<64
   . simp [hi]
   have:m.testBit i=false:=qbj (qal g0 (qat oo oo));simp [hi,this]
 show (do eqGuard .andNot t x y (.int .u64 (m:Int)) (.int .u64 (n:Int));binOp .andNot t (.int .u64 (m:Int)) (.int .u64 (n:Int)):Sem Value).run P w'=_;simp only [eqGuard,binOp,Op.intBits];show Result.ok (Value.int .u64 (IntKind.u64.wrap (((BitVec.ofInt 64 (m:Int)) &&& ~~~(BitVec.ofInt 64 (n:Int))).toNat:Nat))) w'=_;rw [e2,zAs oo]
def zko {m n:Nat} {ku:IntKind} (hm:m<4611686018427387904) (k:K (.int .u64 ((m >>> n:Nat):Int))):RD P (bin .shr t x y (.int .u64 (m:Int)) (.int ku (n:Int))) w K:=by
 refine zbb (λw' _=>?_) k;have e0:¬((n:Int)<0):=oo
 have e1:(m:Int).fdiv (2^(min n 64))=((m >>> n:Nat):Int):=by
   rw [qbm];have h2:((2:Int)^(min n 64))=((2^(min n 64):Nat):Int):=by simp
   rw [h2,qcB _ (Int.natCast_nonneg _),<-Int.natCast_ediv];by_cases h:n<=64
   . rw [qby h]
   rw [Nat.min_eq_right oo,qca oo,qca (qal (by omega:m<2^64) (qat oo oo))]
 show (do eqGuard .shr t x y (.int .u64 (m:Int)) (.int ku (n:Int));binOp .shr t (.int .u64 (m:Int)) (.int ku (n:Int)):Sem Value).run P w'=_;simp only [eqGuard,binOp,Op.shift,e0,if_false,qah];show Result.ok (Value.int .u64 ((m:Int).fdiv (2^(min n 64)))) w'=_;rw [e1]
def zsN {n:Nat} {ku:IntKind} (hn:n<62) (k:K (.int .u64 ((2^n:Nat):Int))):RD P (bin .shl t x y (.int .u64 1) (.int ku (n:Int))) w K:=by
 refine zbb (λw' _=>?_) k;have hp:(2^n:Nat)<4611686018427387904:=qaJ oo hn;have e1:IntKind.u64.wrap ((2^n:Nat):Int)=((2^n:Nat):Int):=zAs oo;have e0:¬((n:Int)<0):=oo
 have e2:min n 64=n:=oo
 show (do eqGuard .shl t x y (.int .u64 1) (.int ku (n:Int));binOp .shl t (.int .u64 1) (.int ku (n:Int)):Sem Value).run P w'=_;simp only [eqGuard,binOp,Op.shift,e0,if_false,qah];show Result.ok (Value.int .u64 (IntKind.u64.wrap ((1:Int)*2^(min n 64)))) w'=_;rw [e2,<-e1];simp
end
end Go.Sh
namespace Go.Proofs.YtcnglfeoglgebaaGreat
open Go Go.Sh Go.Proofs
open Rep (rep)
variable {F G L:List Nat} {K:Value->Prop} {P:Program} {W W0 W1 W2 w w1 w4 wT:World} {a d x:Int} {b by_ hi i j k l lo m n p q r t:Nat} {c:DCode} {s s1 s2:DState} {u v v0 v1 v2:Value}
section
variable {nx:Nat->List Nat} {n m i j k t:Nat} {A:List DArc} {p q:Nat->Prop}
def zDf:FWy nx (m+1) m j↔FWy nx m m j:=⟨FWy.old',.inl⟩
def zpA:zcR p n ||| zcR q n=zcR (λi=>p i\/q i) n:=zem λi=>by
 rw [qaH,qaK,za7,za7];exact ⟨λh=>h.elim (λh=>⟨h.1,.inl h.2⟩) λh=>⟨h.1,.inr h.2⟩,λ⟨h,h'⟩=>h'.elim (λh'=>.inl ⟨h,h'⟩) λh'=>.inr ⟨h,h'⟩⟩
def zpB (hi:i<n):2^i=zcR (λj=>j=i) n:=zem λj=>by
 rw [qaG,decide_eq_true_eq];exact ⟨λh=>⟨h▸hi,h.symm⟩,λh=>h.2.symm⟩
def zyN:0=zcR (λ_=>False) n:=zem λj=>by simp
def zeK (hn:n<=60):zcR p n<4611686018427387904:=qal zj6 (qan (qat (n:=2) oo hn) qd)
def zDg (hn:n<=60):zcR p n<18446744073709551616:=Nat.lt_trans (zeK hn) qd
noncomputable def zd7 (nx:Nat->List Nat) (n m k:Nat):List Nat:=(List.range n).map λi=>zcR (FWy nx (if i<k then m+1 else m) i) n
def zds:(zd7 nx n m k).length=n:=by simp [zd7]
def zd3 (h:i<(zd7 nx n m k).length):(zd7 nx n m k)[i]=zcR (FWy nx (if i<k then m+1 else m) i) n:=by simp [zd7]
def zvD (h:m<(zd7 nx n m k).length):(zd7 nx n m k)[m]=zcR (FWy nx m m) n:=by
 rw [zd3];refine zbC λj _=>?_;split
 . exact zDf
 exact .rfl
def zvE:zd7 nx n m n=zd7 nx n (m+1) 0:=qa3 λi hi=>by
 rw [if_pos (qaw.1 hi),if_neg oo]
def zvF (x:Nat) (hx:x=zcR (FWy nx (m+1) k) n) (hk:k<n):(zd7 nx n m k).set k x=zd7 nx n m (k+1):=by
 subst hx;refine qaO (by simp [zd7]) λi h1 h2=>?_;rw [qcc,zd3,zd3];by_cases h:k=i
 . subst h;rw [if_pos rfl,if_pos oo]
 rw [if_neg h];by_cases h3:i<k
 . rw [if_pos h3,if_pos oo]
 rw [if_neg h3,if_neg oo]
def zvG (h:¬FWy nx m k m):zd7 nx n m k=zd7 nx n m (k+1):=qa3 λi hi=>by
 by_cases h3:i<k
 . rw [if_pos h3,if_pos oo]
 rw [if_neg h3];by_cases h4:i<k+1
 . have:i=k:=oo
   subst this;rw [if_pos h4];exact zbC λj _=>⟨.inl,λh'=>h'.elim id λh'=>absurd h'.1 h⟩
 rw [if_neg h4]
def zFa (h:FWy nx m k m):zcR (FWy nx m k) n ||| zcR (FWy nx m m) n=zcR (FWy nx (m+1) k) n:=by
 rw [zpA];exact zbC λj _=>⟨λh'=>h'.elim .inl λh'=>.inr ⟨h,h'⟩,λh'=>h'.elim .inl λh'=>.inr h'.2⟩
noncomputable def zmP (nx:Nat->List Nat) (n:Nat):List Nat:=(List.range n).map λi=>zcR (RP nx i) n
def zrg:(zmP nx n).length=n:=by simp [zmP]
def zrh (h:i<(zmP nx n).length):(zmP nx n)[i]=zcR (RP nx i) n:=by simp [zmP]
def zyO (hn:∀ i j,j∈nx i->i<n/\j<n):zd7 nx n n 0=zmP nx n:=qa3 λi hi=>by
 rw [if_neg oo];exact zbC λj _=>FWy.iff hn
def zDh:nxA n []=λ_=>[]:=by
 funext i;unfold nxA zbd;rw [qcp];intro j _ h;simp at h
def zuu {a:DArc} (hf:a.fr=(i:Int)) (ht:a.to=(k:Int)) (hi:i<n) (hk:k<n) {x y:Nat}:y∈nxA n (A++[a]) x↔y∈nxA n A x\/(x=i/\y=k):=by
 unfold nxA;simp only [zaH,qae,qax,DArc.ext_iff,hf,ht];constructor
 . rintro ⟨h1,h2,h3 | ⟨h3,h4⟩⟩
   . exact .inl ⟨h1,h2,h3⟩
   exact .inr ⟨qaY.1 h3,qaY.1 h4⟩
 rintro (⟨h1,h2,h3⟩ | ⟨rfl,rfl⟩)
 . exact ⟨h1,h2,.inl h3⟩
 exact ⟨hk,hi,.inr ⟨rfl,rfl⟩⟩
def zyP:List.replicate n 0=zd7 (nxA n []) n 0 0:=by
 refine qaO (by simp [zd7]) λi h1 h2=>?_;rw [zd3,qb0];refine zem λj=>?_;rw [if_neg oo,zDh];simp [FWy]
def zvH {a:DArc} (hf:a.fr=(i:Int)) (ht:a.to=(k:Int)) (hi:i<n) (hk:k<n) (h:i<(zd7 (nxA n A) n 0 0).length) :
   (zd7 (nxA n A) n 0 0).set i ((zd7 (nxA n A) n 0 0)[i] ||| 2^k)=zd7 (nxA n (A++[a])) n 0 0:=by
 refine qaO (by simp [zd7]) λx h1 h2=>?_;rw [qcc];simp only [zd3,zpB hk,zpA];by_cases hx:i=x
 . subst hx
   rw [if_pos rfl,if_neg oo];refine zbC λj _=>?_;show _↔j∈nxA n (A++[a]) i;rw [zuu hf ht hi hk];exact ⟨λh=>h.elim .inl λh=>.inr ⟨rfl,h⟩,λh=>h.elim .inl λh=>.inr h.2⟩
 rw [if_neg hx,if_neg oo];refine zbC λj _=>?_;show j∈nxA n A x↔j∈nxA n (A++[a]) x;rw [zuu hf ht hi hk];exact ⟨.inl,λh=>h.elim id λh=>absurd h.1.symm hx⟩
end
section
variable {n i j f:Nat} {way:Nat->Nat->Prop} {told:Nat->Prop}
def znj (way:Nat->Nat->Prop) (i j x:Nat):Prop:=x=i\/(x<j/\way i x/\way x i)
def zvI (hi:i<n):2^i=zcR (znj way i 0) n:=by
 rw [zpB hi];exact zbC λj _=>⟨.inl,λh=>h.elim id λh=>oo⟩
def zyQ (hj:j<n) (h1:way i j) (h2:way j i):zcR (znj way i j) n ||| 2^j=zcR (znj way i (j+1)) n:=by
 rw [zpB hj,zpA];refine zbC λx _=>?_;unfold znj;constructor
 . rintro ((h | h) | rfl)
   . exact .inl h
   . exact .inr ⟨oo,h.2⟩
   exact .inr ⟨oo,h1,h2⟩
 rintro (h | ⟨h3,h4⟩)
 . exact .inl (.inl h)
 rcases qa2 (qbg.1 h3) with h5 | h5
 . exact .inl (.inr ⟨h5,h4⟩)
 exact .inr h5
def zuv (h:¬(way i j/\way j i)):zcR (znj way i j) n=zcR (znj way i (j+1)) n:=by
 refine zbC λx _=>?_;unfold znj;constructor
 . rintro (h1 | h1)
   . exact .inl h1
   exact .inr ⟨oo,h1.2⟩
 rintro (h1 | ⟨h3,h4⟩)
 . exact .inl h1
 rcases qa2 (qbg.1 h3) with h5 | h5
 . exact .inr ⟨h5,h4⟩
 subst h5;exact absurd h4 h
def zyR:zcR (znj way i n) n=zcR (zco way i) n:=zbC λx hx=>
 ⟨λh=>h.elim .inl λh=>.inr h.2,λh=>h.elim .inl λh=>.inr ⟨hx,h⟩⟩
def zAt (hi:i<n) (ht:¬told i):zlg (zlg (zcR (way i) n) (zcR (zco way i) n)) (zcR told n)=0↔OkC n way told i:=by
 constructor
 . intro h
   refine ⟨hi,ht,λj hj hw=>?_⟩;have h1:(zlg (zlg (zcR (way i) n) (zcR (zco way i) n)) (zcR told n)).testBit j=false:=by rw [h];simp
   rw [zdg,zdg] at h1;have h2:(zcR (way i) n).testBit j=true:=za7.2 ⟨hj,hw⟩;rw [h2] at h1;by_cases h3:(zcR told n).testBit j=true
   . exact .inr (za7.1 h3).2
   have h4:(zcR (zco way i) n).testBit j=true:=by
     cases e:(zcR (zco way i) n).testBit j
     . simp [e,h3] at h1
     rfl
   rcases (za7.1 h4).2 with rfl | h5
   . exact .inl hw
   exact .inl h5.2
 rintro ⟨_,_,h⟩;refine qbd λj=>?_;rw [zdg,zdg,qcb];cases e:(zcR (way i) n).testBit j
 . simp
 obtain ⟨hj,hw⟩:=za7.1 e;rcases h j hj hw with h1 | h1
 . have:(zcR (zco way i) n).testBit j=true:=za7.2 ⟨hj,.inr ⟨hw,h1⟩⟩
   simp [this]
 have:(zcR told n).testBit j=true:=za7.2 ⟨hj,h1⟩;simp [this]
def zDi (h:i<n):zcR told n ||| zcR (zco way i) n=zcR (ziA way told i) n:=zpA
end
def zFI:zcz tp 230=some [.int .u64 0]:=by kernel_rfl
structure RU (w0 w:World) (v:Value) (l:List Nat):Prop where
 ext:Ext w0 w
 own:Own w0.heap.size w v l
section
variable {w0 w w':World} {v:Value} {l:List Nat} {i m n:Nat}
def RU.step (h:RU w0 w v l) (hx:Ext w w'):RU w0 w' v l:=⟨h.ext.trans hx,h.own.ext hx⟩
def RU.get {K:Value->Prop} (h:RU w0 w v l) (hi:i<l.length) (k:K (.int .u64 (l[i]:Int))) :
   RD tp (Instr.indexAt 228 v (.int .i64 (i:Int))) w λa=>RD tp (Instr.loadAt 230 a) w K:=
 zad zDD zr5 h.own.is hi λb o hA=>zus zr5 hA (xrf _) k
def zpC {w1:World} {K:Value->Prop} (h:Is w1 v l) (hx:Ext w1 w) (hi:i<l.length) (k:K (.int .u64 (l[i]:Int))) :
   RD tp (Instr.indexAt 228 v (.int .i64 (i:Int))) w λa=>RD tp (Instr.loadAt 230 a) w K:=
 zad zDD zr5 h hi λb o hA=>zus zr5 hA hx k
def RU.set {K:World->Prop} (h:RU w0 w v l) (hi:i<l.length) (hm:m<18446744073709551616) (k:∀ w',RU w0 w' v (l.set i m)->K w') :
   RD tp (Instr.indexAt 228 v (.int .i64 (i:Int))) w λa=>OPU tp (Instr.storeAt 230 a (.int .u64 (m:Int))) w K:=by
 obtain ⟨F,hM,hF⟩:=h.own;refine zeZ zDD zr5 hM hi λb o G hL=>zdX (upd:=λy=>l.set i y) (y':=m) zr5 hL (zAr hm) λw2 F2 g0 g1 g2=>k w2 ⟨h.ext.chg_trans g0 hF,F2,g1,λb hb=>hF b (g2 b hb)⟩
def zAu {K:VW} (hn:n<=60) (k:∀ v w',RU w w' v (List.replicate n 0)->K v w'):OP tp (Instr.makeSlice 228 (.int .i64 (n:Int)) (.int .i64 (n:Int))) w K:=
 ze0 (α:=Nat) zDD zr5 rfl rfl zFI oo oo λw2 hx2 hr2=>k _ w2 ⟨hx2,hr2.own.own⟩
end
def zwi:(((m >>> i &&& 1:Nat):Int)=1)↔m.testBit i=true:=by
 have:=zxY m i;constructor
 . intro h;rw [<-this,decide_eq_true_eq];exact h
 intro h;rw [<-this,decide_eq_true_eq] at h;exact h
def zn8 {A:List DArc} (h1:Is W1 v1 A) (e1:Ext W1 w) (hn:n<=60) (hA:∀ a∈A,(0<=a.fr/\a.fr<n)/\0<=a.to/\a.to<n) (hl:A.length<=2000) :
   CALL tp 216 [.int .i64 (n:Int),v1] w λr w'=>Ext w w'/\Own w.heap.size w' r (zmP (nxA n A) n):=by
 refine co (g:=kf [] [(3,1073725568,[14]),(8,2305843004918727424,[32]),(11,1152921367167894016,[37])] [(5,[0,1,2,3,4,5,6,7,8,9,10,11],0),(14,[0,1,2,3,4,5,6,7,8,9,10],0)]) Tryz.func216 ?_;refine zAu hn λvr w1 gc=>zae znF h1<|zao A.length (λk us w'=>us=[.int .i64 (k:Int)]/\k<=A.length/\RU w w' vr (zd7 (nxA n (A.take k)) n 0 0)) 0 (z0 _) ⟨rfl,z0 _,by rw [qbW,<-zyP];exact gc⟩ ?_;rintro k mk u w2 hkm ⟨hu,hkl,D⟩;try replace hu:=zbt hu
 rw [hu];refine zag<|br (λhlt=>?_) (λhge=>?_)
 . have hk:k<A.length:=oo
   refine zad znF zeH h1 hk λb3 o3 gd=>zaa zeH gd (e1.trans D.ext) λv17 gf=>zck zzL rfl zeH rfl gf (e1.trans D.ext) λw3 gg g0 hV3=>?_;have M:=zah w3;generalize World.drew1 w3=w4 at *;have C:=(D.step gg).step M;obtain ⟨⟨hf0,hf1⟩,ht0,ht1⟩:=hA _ (qab hk);obtain ⟨i,hi⟩:∃ i:Nat,A[k].fr=(i:Int):=⟨A[k].fr.toNat,oo⟩;obtain ⟨j,hj⟩:∃ j:Nat,A[k].to=(j:Int):=⟨A[k].to.toNat,oo⟩;refine zab zlD<|zac ty3 (zhu g0) M λ_=>?_;rw [hi];refine C.get (by rw [zds];omega)<|zab zlE<|zac ty3 (zhv g0) M λ_=>?_;rw [hj];refine zb0 kK zkA oo<|zsN oo ?_;have g1:2^j<4611686018427387904:=qaF (qat (n:=2) oo (show j<=60 by omega)) qd;refine zut (by rw [zd3];exact zeK hn) g1 ?_;have hb:(zd7 (nxA n (A.take k)) n 0 0)[i]'(by rw [zds];omega) ||| 2^j<2^62:=qaT (by rw [zd3];exact zeK hn) g1;refine C.set (by rw [zds];omega) oo λw5 I=>?_;rw [zvH hi hj oo oo] at I;refine zau<|⟨mk-1,oo,k+1,oo,rfl,oo,?_⟩;rw [tk hk];exact I
 have gh:k=A.length:=oo
 rw [gh,qaD] at D;refine zae zDD D.own.is ?_;rw [zds];refine zao n (λm us w'=>us=[.int .i64 (m:Int)]/\m<=n/\RU w w' vr (zd7 (nxA n A) n m 0)) 0 (z0 _) ⟨rfl,z0 _,D⟩ ?_;rintro m mm q3 w3 hmm ⟨g2,hml,O⟩;try replace g2:=zbt g2
 rw [g2];refine zag<|br (λgi=>?_) (λgj=>?_)
 case refine_2=>
   have gl:m=n:=oo
   rw [gl,zyO zB8] at O;exact ⟨O.ext,O.own⟩
 have hm:m<n:=oo
 refine zae zDD O.own.is ?_;rw [zds];refine zao n (λk us w'=>us=[.int .i64 (k:Int)]/\k<=n/\RU w w' vr (zd7 (nxA n A) n m k)) 0 (z0 _) ⟨rfl,z0 _,O⟩ ?_;rintro i mi q4 w4 hmi ⟨g3,hil,C⟩;try replace g3:=zbt g3
 rw [g3];refine zag<|br (λgp=>?_) (λgq=>?_)
 case refine_2=>
   have gr:i=n:=oo
   rw [gr,zvE] at C;refine zau<|⟨mm-1,oo,m+1,oo,rfl,oo,C⟩
 have hi:i<n:=oo
 refine C.get (by rw [zds];omega)<|zb0 kK zkA oo<|zko (by rw [zd3];exact zeK hn) ?_;have g5:zcR (FWy (nxA n A) m i) n<4611686018427387904:=zeK hn;have U:(zd7 (nxA n A) n m i)[i]'(by rw [zds];omega)=zcR (FWy (nxA n A) m i) n:=by rw [zd3,if_neg oo]
 have g9:(zd7 (nxA n A) n m i)[m]'(by rw [zds];omega)=zcR (FWy (nxA n A) m m) n:=zvD _;refine zkn (n:=1) (qaF (by rw [qbm];exact Nat.div_le_self _ _) (show _<_ by rw [U];exact g5)) oo<|zai<|br (λhb=>?_) (λhb=>?_)
 . have g4:FWy (nxA n A) m i m:=by
     rw [zwi,U,za7] at hb;exact hb.2
   have M:=zah w4;generalize World.drew1 w4=w5 at *;have I:=C.step M;refine I.get (by rw [zds];omega)<|I.get (by rw [zds];omega)<|zut (by rw [U];exact g5) (by rw [g9];exact zeK hn) ?_;rw [U,g9,zFa g4];refine I.set (by rw [zds];omega) (zDg hn) λw6 gb=>?_;rw [zvF _ rfl hi] at gb;refine zau<|⟨mi-1,oo,i+1,oo,rfl,oo,gb⟩
 have g4:¬FWy (nxA n A) m i m:=λh=>hb (by rw [zwi,U,za7];exact ⟨hm,h⟩);rw [zvG g4] at C;refine zau<|⟨mi-1,oo,i+1,oo,rfl,oo,C⟩
def zri (m i:Nat):m >>> i<=m:=by rw [qbm];exact Nat.div_le_self _ _
def zsO {A:List DArc} (h1:Is W1 v1 A) (e1:Ext W1 w) (hn:n<=60) (hA:∀ a∈A,(0<=a.fr/\a.fr<n)/\0<=a.to/\a.to<n) (hl:A.length<=2000) :
   CALL tp 134 [.int .i64 (n:Int),v1] w λr w'=>Ext w w'/\Own w.heap.size w' r ((zq8 n (RP (nxA n A))).map zaT):=by
 refine co (g:=kf [(19,37778931862957161582336,[8,9])] [(4,1267650600228229401496703090640,[6,7]),(7,37778931862957161582336,[8,9,10]),(12,36893488078699629056,[9,36]),(23,9902915851373234884605652992,[12,79])] []) Tryz.func134 ?_;refine (zn8 h1 e1 hn hA hl).mono ?_;rintro v16 w1 ⟨gD,gI⟩;have Z:=gI.is;have hWl:(zmP (nxA n A) n).length=n:=zrg;have gj:∀ i (h:i<(zmP (nxA n A) n).length),(zmP (nxA n A) n)[i]=zcR (RP (nxA n A) i) n:=λi h=>zrh h;generalize zmP (nxA n A) n=ws at *;generalize RP (nxA n A)=way at *;have hs1:=gD.size;refine zao n (λk us w'=>∃ out f told L,us=[out,.int .u64 ((zcR told n:Nat):Int)]/\f+k=n/\zd6 n told<=f/\zq8 n way=L++zeb n way f told/\L.length=k/\Ext w1 w'/\∃ lo hi,w1.heap.size<=lo/\lo<=w'.heap.size/\hi<=w'.heap.size/\RowI lo hi 33 w' out (L.map zaT)) 0 (z0 _) ⟨_,n,λ_=>False,[],by rw [<-zyN];rfl,rfl,zlm,rfl,rfl,xrf _,w1.heap.size,w1.heap.size,lr _,qas _,lr _,zb6 _ _ _ _⟩ ?_;rintro k mk u w2 hkm ⟨out,f,told,L,hu,hfk,gJ,gl,gK,g1,lo,hi,gE,gM,gN,gF⟩;obtain ⟨gO,gP⟩:=zcB hu;rw [gO,gP];have O:zcR told n<4611686018427387904:=zeK hn;refine JOIN.mk (λus w'=>w'=w2/\((zgX n way told=none/\∃ p,us=[.int .i64 (-1),.int .u64 p])\/∃ i:Nat,zgX n way told=some i/\us=[.int .i64 (i:Int),.int .u64 ((zcR (zco way i) n:Nat):Int)])) ?_ ?_
 . refine zao n (λi us w'=>w'=w2/\i<=n/\∃ fd p,us=[.int .i64 fd,.int .u64 p,.int .i64 (i:Int)]/\((fd=-1/\∀ j,j<i->¬OkC n way told j)\/∃ i0:Nat,fd=(i0:Int)/\OkC n way told i0/\(∀ j,j<i0->¬OkC n way told j)/\p=((zcR (zco way i0) n:Nat):Int))) 0 (z0 _) ⟨rfl,z0 _,-1,0,rfl,.inl ⟨rfl,λj hj=>oo⟩⟩ ?_
   rintro i mi q7 w3 hmi ⟨rfl,hil,fd,p,gQ,D⟩;obtain ⟨gp,gq,gr⟩:=zEN gQ;rw [gp,gq,gr];refine zag<|br (λgR=>?_) (λgS=>?_)
   case refine_2=>
     have hie:i=n:=oo
     refine ⟨rfl,?_⟩;rcases D with ⟨rfl,X⟩ | ⟨i0,rfl,U,g0,rfl⟩
     . exact .inl ⟨zh0.2 λj hj=>X j (by have:=hj.1;omega) hj,_,rfl⟩
     exact .inr ⟨i0,zkj U g0,rfl⟩
   have gc:i<n:=oo
   refine zag<|br (λgG=>?_) (λgG=>?_)
   case refine_2=>
     refine ⟨rfl,?_⟩;rcases D with ⟨rfl,X⟩ | ⟨i0,rfl,U,g0,rfl⟩
     . exact absurd qd gG
     exact .inr ⟨i0,zkj U g0,rfl⟩
   have X:fd=-1/\∀ j,j<i->¬OkC n way told j:=by
     rcases D with h | ⟨i0,rfl,_⟩
     . exact h
     omega
   obtain ⟨rfl,X⟩:=X;refine zb0 kK zkA oo<|zko O<|zkn (n:=1) (qaF (zri _ _) O) oo<|zai<|br (λhb=>?_) (λhb=>?_)
   . rw [zwi,za7] at hb
     refine zau<|⟨mi-1,oo,i+1,oo,rfl,oo,-1,p,rfl,.inl ⟨rfl,λj hj=>?_⟩⟩;rcases qa2 (qbg.1 hj) with h | rfl
     . exact X j h
     exact λh=>h.2.1 hb.2
   have gU:¬told i:=λh=>hb (by rw [zwi,za7];exact ⟨gc,h⟩);refine zb0 kK zkA oo<|zsN oo ?_;rw [zvI (way:=way) gc];refine zao n (λj us w'=>w'=w3/\j<=n/\us=[.int .u64 ((zcR (znj way i j) n:Nat):Int),.int .i64 (j:Int)]) 0 (z0 _) ⟨rfl,z0 _,rfl⟩ ?_;rintro j mj q12 w4 gV ⟨rfl,gW,gs⟩;obtain ⟨g2,g3⟩:=zcB gs;rw [g2,g3];have I:∀ j,zcR (znj way i j) n<4611686018427387904:=λj=>zeK hn;have C:∀ j,zcR (way j) n<4611686018427387904:=λj=>zeK hn;refine zag<|br (λgX=>?_) (λgY=>?_)
   . have hj:j<n:=oo
     refine zpC (i:=i) Z g1 oo ?_;rw [gj];refine zb0 kK zkA oo<|zko (C _)<|zkn (n:=1) (qaF (zri _ _) (C _)) oo<|zai<|br (λgd=>?_) (λgd=>?_)
     . rw [zwi,za7] at gd
       refine zpC (i:=j) Z g1 oo ?_;rw [gj];refine zb0 kK zkA oo<|zko (C _)<|zkn (n:=1) (qaF (zri _ _) (C _)) oo<|zai<|br (λgf=>?_) (λgf=>?_)
       . rw [zwi,za7] at gf
         refine zb0 kK zkA oo<|zsN oo<|zut (I _) (qaF (qat (n:=2) oo (show j<=60 by omega)) qd) ?_;rw [zyQ hj gd.2 gf.2];refine zau<|⟨mj-1,oo,j+1,oo,rfl,oo,rfl⟩
       rw [zuv (n:=n) (j:=j) λh=>gf (by rw [zwi,za7];exact ⟨gc,h.2⟩)];refine zau<|⟨mj-1,oo,j+1,oo,rfl,oo,rfl⟩
     rw [zuv (n:=n) (j:=j) λh=>gd (by rw [zwi,za7];exact ⟨hj,h.1⟩)];refine zau<|⟨mj-1,oo,j+1,oo,rfl,oo,rfl⟩
   have gt:j=n:=oo
   rw [gt,zyR];refine zpC (i:=i) Z g1 oo ?_;rw [gj];refine zn7 (C _) (zeK hn)<|zn7 (qaF (ziv _ _) (C _)) O<|zai ?_;have g4:=zAt (way:=way) gc gU;refine br (λhb=>?_) (λhb=>?_)
   . have U:OkC n way told i:=g4.1 oo
     refine zau<|⟨mi-1,oo,i+1,oo,rfl,oo,_,_,rfl,.inr ⟨i,rfl,U,X,rfl⟩⟩
   have U:¬OkC n way told i:=λh=>hb (by rw [g4.2 h];rfl);refine zau<|⟨mi-1,oo,i+1,oo,rfl,oo,-1,_,rfl,.inl ⟨rfl,λj hj=>?_⟩⟩;rcases qa2 (qbg.1 hj) with h | rfl
   . exact X j h
   exact U
 rintro q19 w3 ⟨rfl,hJ⟩;rcases hJ with ⟨gg,p,V⟩ | ⟨i,gg,V⟩
 . obtain ⟨M,Y⟩:=zcB V;clear V
   rw [M];refine zag<|br (λ_=>?_) (λh=>absurd qd h);rw [ziB gg,qaC] at gl;rw [gl];exact ⟨gD.t g1,gF.own.own.mono oo⟩
 obtain ⟨M,Y⟩:=zcB V;rw [M,Y];refine zag<|br (λh=>oo) (λ_=>?_);have U:=zh1 gg;obtain ⟨f',gZ,gx,hff⟩:=ziC gJ gg;refine zao n (λj us w'=>∃ lv,us=[lv,.int .i64 (j:Int)]/\j<=n/\Ext w3 w'/\RowI w3.heap.size w'.heap.size 3 w' lv (zaT (zbd j (zco way i)))) 0 (z0 _) ⟨_,rfl,z0 _,xrf _,zb6 _ _ _ _⟩ ?_;rintro j mj q23 w4 gV ⟨lv,gy,gW,g5,gh⟩;obtain ⟨g9,gb⟩:=zcB gy;rw [g9,gb];have gH:=g5.size;have I:zcR (zco way i) n<4611686018427387904:=zeK hn;have hsl:(zbd j (zco way i)).length<=j:=zbg;refine zag<|br (λgR=>?_) (λgS=>?_)
 . have hj:j<n:=oo
   refine zb0 kK zkA oo<|zko I<|zkn (n:=1) (qaF (zri _ _) I) oo<|zai<|br (λhb=>?_) (λhb=>?_)
   . rw [zwi,za7] at hb
     refine zbO (lo2:=w4.heap.size) (hi2:=w4.heap.size) (x:=(j:Int)) u33 ty3 z3 zc3 qd gh gH (ownI_int (by unfold I64;omega)) (lr _) gH (by rw [zal,zaf];omega) (by rw [zaf];omega) λgz w9 gi gC=>zau<|⟨mj-1,oo,j+1,oo,gz,rfl,oo,g5.chgI gi (lr _),?_⟩;rw [zdf hb.2,zcF];exact gC
   refine zau<|⟨mj-1,oo,j+1,oo,lv,rfl,oo,g5,?_⟩;rw [zdw λh=>hb (by rw [zwi,za7];exact ⟨hj,h⟩)];exact gh
 have gt:j=n:=oo
 rw [gt] at gh;refine zbO (lo2:=w3.heap.size) (hi2:=w4.heap.size) (x:=zaT (zbd n (zco way i))) u44 za4 z33 zBG qd (gF.ext g5) oo gh.own gN oo (by rw [zal,qav];omega) (by rw [qav];omega) λgz w9 gi gC=>zut O I ?_;rw [zDi (n:=n) U.1];have hs9:=gi.size;refine ⟨mk-1,oo,k+1,oo,gz,f',ziA way told i,L++[zbd n (zco way i)],rfl,oo,gx,by rw [gl,gZ,qar];rfl,by simp [gK],(g1.t g5).chgI gi gE,lo,w9.heap.size,gE,oo,lr _,?_⟩;rw [qa6];exact gC
section
variable {nx:Nat->List Nat} {n m i j k t:Nat} {A:List DArc} {p q:Nat->Prop}
noncomputable def zcO (nx:Nat->List Nat) (n m k j:Nat):List (List Bool):=(List.range n).map λi=>zbZ n λx=>FWy nx (if i<k\/(i=k/\x<j) then m+1 else m) i x
def zrj:(zcO nx n m k j).length=n:=by simp [zcO]
def zcP (h:i<(zcO nx n m k j).length):(zcO nx n m k j)[i]=zbZ n λx=>FWy nx (if i<k\/(i=k/\x<j) then m+1 else m) i x:=by simp [zcO]
def zuw (h:i<(zcO nx n m k j).length) {x:Nat} (hx:x<((zcO nx n m k j)[i]).length):((zcO nx n m k j)[i])[x]=true↔FWy nx (if i<k\/(i=k/\x<j) then m+1 else m) i x:=by
 rw [<-za5 hx,zcP,zaU];rw [zcP,zan] at hx;exact ⟨λh=>h.2,λh=>⟨hx,h⟩⟩
def zpD:FWy nx 0 i j↔j∈nx i:=.rfl
def zAv:FWy nx (m+1) k m↔FWy nx m k m:=⟨FWy.old,.inl⟩
def zAw:FWy nx (m+1) m j↔FWy nx m m j:=⟨FWy.old',.inl⟩
def zyS:zcO nx n m k n=zcO nx n m (k+1) 0:=qa3 λi _=>za0 λx hx=>by
 have:(i<k\/(i=k/\x<n))↔(i<k+1\/(i=k+1/\x<0)):=oo
 simp only [this]
def zvJ:zcO nx n m n 0=zcO nx n (m+1) 0 0:=qa3 λi hi=>za0 λx hx=>by
 have hi:=qaw.1 hi;rw [if_pos (.inl hi),if_neg oo]
def zvK (h:¬FWy nx m k m):zcO nx n m k 0=zcO nx n m (k+1) 0:=qa3 λi hi=>za0 λx hx=>by
 by_cases h3:i<k
 . rw [if_pos (.inl h3),if_pos oo]
 rw [if_neg oo];by_cases h4:i=k
 . subst h4
   rw [if_pos oo];exact ⟨.inl,λh'=>h'.elim id λh'=>absurd h'.1 h⟩
 rw [if_neg oo]
def zAx (h:¬FWy nx m m j):zcO nx n m k j=zcO nx n m k (j+1):=qa3 λi hi=>za0 λx hx=>by
 by_cases h1:i<k\/(i=k/\x<j)
 . rw [if_pos h1,if_pos oo]
 rw [if_neg h1];by_cases h2:i=k/\x=j
 . obtain ⟨rfl,rfl⟩:=h2
   rw [if_pos oo];exact ⟨.inl,λh'=>h'.elim id λh'=>absurd h'.2 h⟩
 rw [if_neg oo]
def zpE {p:Nat->Prop} (hj:j<n):(zbZ n p).set j true=zbZ n λx=>p x\/x=j:=by
 refine zcu (by rw [qaL,zan]) λi hi=>?_;rw [zde (by rw [zan];exact hj),zaU];exact ⟨λh=>h.elim (λh=>.inl h.2) .inr,λh=>h.elim (λh=>.inl ⟨hi,h⟩) .inr⟩
def zyT (hk:k<n) (hj:j<n) (h1:FWy nx m k m) (h2:FWy nx m m j) (h:k<(zcO nx n m k j).length) :
   (zcO nx n m k j).set k ((zcO nx n m k j)[k].set j true)=zcO nx n m k (j+1):=by
 refine qaO (by simp [zcO]) λi h3 h4=>?_;rw [qcc];by_cases hi:k=i
 . subst hi
   rw [if_pos rfl,zcP,zcP,zpE hj];refine za0 λx hx=>?_;by_cases hxj:x=j
   . subst hxj
     have e1:(if k<k\/(k=k/\x<x+1) then m+1 else m)=m+1:=if_pos (.inr ⟨rfl,oo⟩);rw [e1];exact ⟨λ_=>.inr ⟨h1,h2⟩,λ_=>.inr rfl⟩
   by_cases hl:x<j
   . rw [if_pos (.inr ⟨rfl,hl⟩),if_pos (.inr ⟨rfl,oo⟩)]
     exact ⟨λh=>h.elim id λh=>absurd h hxj,.inl⟩
   rw [if_neg oo,if_neg oo];exact ⟨λh=>h.elim id λh=>absurd h hxj,.inl⟩
 rw [if_neg hi,zcP,zcP];refine za0 λx hx=>?_;by_cases h5:i<k\/(i=k/\x<j)
 . rw [if_pos h5,if_pos oo]
 rw [if_neg h5,if_neg oo]
noncomputable def zgY (nx:Nat->List Nat) (n:Nat):List (List Bool):=(List.range n).map λi=>zbZ n (RP nx i)
def zrk:(zgY nx n).length=n:=by simp [zgY]
def zjv (h:i<(zgY nx n).length):(zgY nx n)[i]=zbZ n (RP nx i):=by simp [zgY]
def zux (h:i<(zgY nx n).length) {x:Nat} (hx:x<((zgY nx n)[i]).length):((zgY nx n)[i])[x]=true↔RP nx i x:=by
 rw [<-za5 hx,zjv,zaU];rw [zjv,zan] at hx;exact ⟨λh=>h.2,λh=>⟨hx,h⟩⟩
def zyU (hn:∀ i j,j∈nx i->i<n/\j<n):zcO nx n n 0 0=zgY nx n:=qa3 λi hi=>za0 λx hx=>by
 rw [if_neg oo];exact FWy.iff hn
def zAy:nxA n []=λ_=>[]:=by
 funext i;unfold nxA zbd;rw [qcp];intro j _ h;simp at h
def zrl {a:DArc} (hf:a.fr=(i:Int)) (ht:a.to=(k:Int)) (hi:i<n) (hk:k<n) {x y:Nat}:y∈nxA n (A++[a]) x↔y∈nxA n A x\/(x=i/\y=k):=by
 unfold nxA;simp only [zaH,qae,qax,DArc.ext_iff,hf,ht];constructor
 . rintro ⟨h1,h2,h3 | ⟨h3,h4⟩⟩
   . exact .inl ⟨h1,h2,h3⟩
   exact .inr ⟨qaY.1 h3,qaY.1 h4⟩
 rintro (⟨h1,h2,h3⟩ | ⟨rfl,rfl⟩)
 . exact ⟨h1,h2,.inl h3⟩
 exact ⟨hk,hi,.inr ⟨rfl,rfl⟩⟩
def zvL:List.replicate n (List.replicate n false)=zcO (nxA n []) n 0 0 0:=by
 refine qaO (by simp [zcO]) λi h1 h2=>?_;rw [zcP,qb0];refine zcu sS λj _=>?_;rw [if_neg oo,zAy];simp [FWy,zbX]
def zsP {a:DArc} (hf:a.fr=(i:Int)) (ht:a.to=(k:Int)) (hi:i<n) (hk:k<n) (h:i<(zcO (nxA n A) n 0 0 0).length) :
   (zcO (nxA n A) n 0 0 0).set i ((zcO (nxA n A) n 0 0 0)[i].set k true)=zcO (nxA n (A++[a])) n 0 0 0:=by
 refine qaO (by simp [zcO]) λx h1 h2=>?_;rw [qcc];by_cases hx:i=x
 . subst hx
   rw [if_pos rfl,zcP,zcP,zpE hk];refine za0 λj _=>?_;rw [if_neg oo];rw [zpD,zpD,zrl hf ht hi hk];exact ⟨λh=>h.elim .inl λh=>.inr ⟨rfl,h⟩,λh=>h.elim .inl λh=>.inr h.2⟩
 rw [if_neg hx,zcP,zcP];refine za0 λj _=>?_;rw [if_neg oo];rw [zpD,zpD,zrl hf ht hi hk];exact ⟨.inl,λh=>h.elim id λh=>absurd h.1.symm hx⟩
end
section
variable {n i j f:Nat} {way:Nat->Nat->Prop} {told:Nat->Prop}
def OkK (way:Nat->Nat->Prop) (told:Nat->Prop) (i j:Nat):Prop:=¬told i/\∀ x,x<j->way i x->way x i\/told x
def zyV (hi:i<n):OkK way told i n↔OkC n way told i:=⟨λh=>⟨hi,h⟩,λh=>h.2⟩
def zAz:OkK way told i (j+1)↔OkK way told i j/\(way i j->way j i\/told j):=by
 constructor
 . rintro ⟨h1,h2⟩;exact ⟨⟨h1,λx hx=>h2 x oo⟩,h2 j oo⟩
 rintro ⟨⟨h1,h2⟩,h3⟩;refine ⟨h1,λx hx=>?_⟩;rcases qa2 (qbg.1 hx) with h | rfl
 . exact h2 x h
 exact h3
def zmQ (way:Nat->Nat->Prop) (told:Nat->Prop) (i j x:Nat):Prop:=told x\/(x<j/\zco way i x)
def zvM:zbZ n told=zbZ n (zmQ way told i 0):=za0 λx _=>⟨.inl,λh=>h.elim id λh=>oo⟩
def zyW:zbZ n (zmQ way told i n)=zbZ n (ziA way told i):=za0 λx hx=>⟨λh=>h.elim .inl λh=>.inr h.2,λh=>h.elim .inl λh=>.inr ⟨hx,h⟩⟩
def zrm (hj:j<n) (h:zco way i j):(zbZ n (zmQ way told i j)).set j true=zbZ n (zmQ way told i (j+1)):=by
 rw [zpE hj];refine za0 λx _=>?_;unfold zmQ;constructor
 . rintro ((h1 | h1) | rfl)
   . exact .inl h1
   . exact .inr ⟨oo,h1.2⟩
   exact .inr ⟨oo,h⟩
 rintro (h1 | ⟨h1,h2⟩)
 . exact .inl (.inl h1)
 rcases qa2 (qbg.1 h1) with h3 | h3
 . exact .inl (.inr ⟨h3,h2⟩)
 exact .inr h3
def zAA (h:¬zco way i j):zbZ n (zmQ way told i j)=zbZ n (zmQ way told i (j+1)):=by
 refine za0 λx _=>?_;unfold zmQ;constructor
 . rintro (h1 | h1)
   . exact .inl h1
   exact .inr ⟨oo,h1.2⟩
 rintro (h1 | ⟨h1,h2⟩)
 . exact .inl h1
 rcases qa2 (qbg.1 h1) with h3 | h3
 . exact .inr ⟨h3,h2⟩
 subst h3;exact absurd h2 h
end
def zFn:zcz tp 4=some [.bool false]:=by kernel_rfl
structure RB (w0 w:World) (v:Value) (l:List (List Bool)):Prop where
 ext:Ext w0 w
 own:Own w0.heap.size w v l
section
variable {w0 w w' w1:World} {v:Value} {l:List (List Bool)} {i j m n:Nat}
def RB.step (h:RB w0 w v l) (hx:Ext w w'):RB w0 w' v l:=⟨h.ext.trans hx,h.own.ext hx⟩
def zkp {K:Value->Prop} (h:Is w1 v l) (hx:Ext w1 w) (hi:i<l.length) (hj:j<l[i].length) (k:K (.bool l[i][j])) :
   RD tp (Instr.indexAt 166 v (.int .i64 (i:Int))) w λa=>RD tp (Instr.loadAt 90 a) w λb=>RD tp (Instr.indexAt 90 b (.int .i64 (j:Int))) w λc=>RD tp (Instr.loadAt 4 c) w K:=
 zad zuX zgt h hi λb o hA=>zaa zgt hA hx λv2 h2=>zad u90 ty4 h2 hj λb2 o2 hA2=>zaG ty4 hA2 hx k
def RB.set {K:World->Prop} (h:RB w0 w v l) (hi:i<l.length) (hj:j<l[i].length) (k:∀ w',RB w0 w' v (l.set i (l[i].set j true))->K w') :
   RD tp (Instr.indexAt 166 v (.int .i64 (i:Int))) w λa=>RD tp (Instr.loadAt 90 a) w λb=>RD tp (Instr.indexAt 90 b (.int .i64 (j:Int))) w λc=>OPU tp (Instr.storeAt 4 c (.bool true)) w K:=by
 obtain ⟨F,hM,hF⟩:=h.own;refine zeZ zuX zgt hM hi λb o G hL=>zlY zgt hL λb3 g3 g0 g4=>zeZ u90 ty4 g3 hj λb4 o4 G4 g5=>zdX (upd:=λy=>l[i].set j y) (y':=true) ty4 g5 zlZ λw2 F2 g1 g9 g2=>?_;obtain ⟨F5,gb,gc⟩:=g4 w2 F2 _ g1 g9 λc hc=>.inl (g2 c hc);refine k w2 ⟨h.ext.chg_trans (g1.mono g0) hF,F5,gb,λc hc=>?_⟩;rcases gc c hc with h6 | h6
 . exact hF c h6
 exact hF c (g0 c (g2 c h6))
end
def zmR {A:List DArc} (h1:Is W1 v1 A) (e1:Ext W1 w) (hn:n<=60) (hA:∀ a∈A,(0<=a.fr/\a.fr<n)/\0<=a.to/\a.to<n) (hl:A.length<=2000) :
   CALL tp 227 [.int .i64 (n:Int),v1] w λr w'=>Ext w w'/\Own w.heap.size w' r (zgY (nxA n A) n):=by
 refine co (g:=kf [] [(3,4190304,[5,6]),(7,4398042316928,[7]),(11,604462909802916540843776,[8]),(14,604462909666577098999296,[9]),(17,604462905303714959983616,[10])] [(9,[0,1,2,3,4,5,6,7,8,9,10,11,12,13,14],0)]) Tryz.func227 ?_;refine zaK (α:=List Bool) zuX zgt λa8 w1 gs hr1=>zao n (λk us w'=>∃ out,us=[out,.int .i64 (k:Int)]/\k<=n/\Ext w w'/\RowI w.heap.size w'.heap.size 90 w' out (List.replicate k (List.replicate n false))) 0 (z0 _) ⟨_,rfl,z0 _,gs,zcx _ _ _ _ _⟩ ?_;rintro k mk q w2 gt ⟨out,hq,gx,g2,g0⟩;obtain ⟨gy,gz⟩:=zcB hq;clear hq;rw [gy,gz];have hs2:=g2.size;refine zag<|br (λgC=>?_) (λgD=>?_)
 . refine ze0 (α:=Bool) u90 ty4 rfl rfl zFn oo oo λw3 g3 gE=>?_
   have hs3:=g3.size;refine zbO (x:=List.replicate n false) zuX zgt z90 zEX qd (g0.ext g3) oo gE.own (lr _) oo (by rw [zal,qbD];omega) (by rw [qbD];omega) λgF w9 gG gH=>zau<|⟨mk-1,oo,k+1,oo,gF,rfl,oo,(g2.t g3).chgI gG (lr _),?_⟩;rw [qcx];exact gH
 have g4:k=n:=oo
 rw [g4,zvL] at g0;have gI:RB w w2 out (zcO (nxA n []) n 0 0 0):=⟨g2,g0.own.own⟩;clear g0;refine zao A.length (λk us w'=>us=[.int .i64 (k:Int)]/\k<=A.length/\RB w w' out (zcO (nxA n (A.take k)) n 0 0 0)) 0 (z0 _) ⟨rfl,z0 _,by rw [qbW];exact gI⟩ ?_;rintro k mk q w3 gt ⟨hq,gx,g5⟩;try replace hq:=zbt hq
 rw [hq];refine zae znF h1<|zag<|br (λgC=>?_) (λgD=>?_)
 . have hk:k<A.length:=oo
   have gJ:=zah w3;generalize World.drew1 w3=w4 at *;have D:=g5.step gJ;obtain ⟨⟨hf0,hf1⟩,ht0,ht1⟩:=hA _ (qab hk);obtain ⟨i,hi⟩:∃ i:Nat,A[k].fr=(i:Int):=⟨A[k].fr.toNat,oo⟩;obtain ⟨j,hj⟩:∃ j:Nat,A[k].to=(j:Int):=⟨A[k].to.toNat,oo⟩;refine zad znF zeH h1 hk λb3 o3 gK=>zab zlD<|zac ty3 (zhu gK) (e1.trans D.ext) λ_=>?_;rw [hi];obtain ⟨F,hM,hF⟩:=D.own;have gi:i<(zcO (nxA n (A.take k)) n 0 0 0).length:=by rw [zrj];omega
   refine zeZ zuX zgt hM gi λb o G hL=>zlY zgt hL λb5 gM gj gN=>zad znF zeH h1 hk λb6 o6 gO=>zab zlE<|zac ty3 (zhv gO) (e1.trans D.ext) λ_=>?_;rw [hj];refine zeZ u90 ty4 gM (k:=j) (by rw [zcP,zan];omega) λb7 o7 G7 gP=>zdX (upd:=λy=>(zcO (nxA n (A.take k)) n 0 0 0)[i].set j y) (y':=true) ty4 gP zlZ λw5 F5 gl gQ gp=>?_;obtain ⟨F6,gR,gS⟩:=gN w5 F5 _ gl gQ λc hc=>.inl (gp c hc)
   have C:RB w w5 out ((zcO (nxA n (A.take k)) n 0 0 0).set i ((zcO (nxA n (A.take k)) n 0 0 0)[i].set j true)):=⟨D.ext.chg_trans (gl.mono gj) hF,F6,gR,λc hc=>by
     rcases gS c hc with h6 | h6
     . exact hF c h6
     exact hF c (gj c (gp c h6))⟩
   rw [zsP hi hj oo oo] at C;refine zau<|⟨mk-1,oo,k+1,oo,rfl,oo,?_⟩;rw [tk hk];exact C
 have g4:k=A.length:=oo
 rw [g4,qaD] at g5;refine zao n (λm us w'=>us=[.int .i64 (m:Int)]/\m<=n/\RB w w' out (zcO (nxA n A) n m 0 0)) 0 (z0 _) ⟨rfl,z0 _,g5⟩ ?_;rintro m mm q3 w4 hmm ⟨g9,hml,D⟩;try replace g9:=zbt g9
 rw [g9];refine zag<|br (λgU=>?_) (λgV=>?_)
 case refine_2=>
   have gW:m=n:=oo
   rw [gW,zyU zB8] at D;exact ⟨D.ext,D.own⟩
 have hm:m<n:=oo
 refine zao n (λk us w'=>us=[.int .i64 (k:Int)]/\k<=n/\RB w w' out (zcO (nxA n A) n m k 0)) 0 (z0 _) ⟨rfl,z0 _,D⟩ ?_;rintro i mi q4 w5 hmi ⟨gb,gi,gc⟩;try replace gb:=zbt gb
 rw [gb];refine zag<|br (λgX=>?_) (λgY=>?_)
 case refine_2=>
   have gZ:i=n:=oo
   rw [gZ,zvJ] at gc;refine zau<|⟨mm-1,oo,m+1,oo,rfl,oo,gc⟩
 have hi:i<n:=oo
 refine zao n (λj us w'=>us=[.int .i64 (j:Int)]/\j<=n/\(0<j->FWy (nxA n A) m i m)/\RB w w' out (zcO (nxA n A) n m i j)) 0 (z0 _) ⟨rfl,z0 _,λh=>absurd h oo,gc⟩ ?_;rintro j mj q5 w6 hmj ⟨gd,hjl,gf,C⟩;try replace gd:=zbt gd
 rw [gd];refine zag<|br (λh2=>?_) (λh4=>?_)
 case refine_2=>
   have h5:j=n:=oo
   rw [h5,zyS] at C;refine zau<|⟨mi-1,oo,i+1,oo,rfl,oo,C⟩
 have hj:j<n:=oo
 have hL6:(zcO (nxA n A) n m i j).length=n:=zrj;have O:∀ x (hx:x<(zcO (nxA n A) n m i j).length),((zcO (nxA n A) n m i j)[x]).length=n:=λx hx=>by rw [zcP,zan]
 refine zkp (i:=i) (j:=m) C.own.is (xrf _) oo (by rw [O];omega) ?_;have gg:=zuw (nx:=nxA n A) (n:=n) (m:=m) (k:=i) (j:=j) (i:=i) oo (x:=m) (by rw [O];omega)
 have h8:FWy (nxA n A) (if i<i\/(i=i/\m<j) then m+1 else m) i m↔FWy (nxA n A) m i m:=by
   split
   . exact zAv
   exact .rfl
 rw [h8] at gg;refine zbz (λhb=>?_) (λhb=>?_)
 case refine_2=>
   have gq:¬FWy (nxA n A) m i m:=λh=>by rw [gg.2 h] at hb;cases hb
   have h9:j=0:=by
     rcases qbx j with h | h
     . exact h
     exact absurd (gf h) gq
   subst h9;rw [zvK gq] at C;refine zau<|⟨mi-1,oo,i+1,oo,rfl,oo,C⟩
 have I:=gg.1 hb;refine zkp (i:=m) (j:=j) C.own.is (xrf _) oo (by rw [O];omega) ?_;have M:=zuw (nx:=nxA n A) (n:=n) (m:=m) (k:=i) (j:=j) (i:=m) oo (x:=j) (by rw [O];omega)
 have gh:FWy (nxA n A) (if m<i\/(m=i/\j<j) then m+1 else m) m j↔FWy (nxA n A) m m j:=by
   split
   . exact zAw
   exact .rfl
 rw [gh] at M;refine zbz (λg1=>?_) (λg1=>?_)
 . have ha:=M.1 g1
   refine C.set (i:=i) (j:=j) oo (by rw [O];omega) λw7 gr=>?_;rw [zyT hi hj I ha] at gr;refine zau<|⟨mj-1,oo,j+1,oo,rfl,oo,λ_=>I,gr⟩
 have hd:¬FWy (nxA n A) m m j:=λh=>by rw [M.2 h] at g1;cases g1
 rw [zAx hd] at C;refine zau<|⟨mj-1,oo,j+1,oo,rfl,oo,λ_=>I,C⟩
def zn9 {x:DArc}:Is w v x↔v=.agg #[.int .i64 x.fr,.int .i64 x.to]/\I64 x.fr/\I64 x.to:=by
 constructor
 . rintro ⟨F,cs,⟨F1,F2,c1,c2,rfl,rfl,⟨rfl,rfl,h1⟩,⟨rfl,rfl,h2⟩⟩,rfl⟩
   exact ⟨rfl,h1,h2⟩
 rintro ⟨rfl,h1,h2⟩;exact ⟨[],_,⟨[],[],[.int .i64 x.fr],[.int .i64 x.to],rfl,rfl,⟨rfl,rfl,h1⟩,⟨rfl,rfl,h2⟩⟩,rfl⟩
set_option maxRecDepth 20000 in
theorem zvN {w w0 w1:World} {K:Value->Prop} {x y:Operand} {v1 v2:Value} {a b:DArc} (h1:Is w0 v1 a) (h2:Is w1 v2 b) (k:K (.bool (decide (a=b)))):RD tp (bin .eql 224 x y v1 v2) w K:=by
  obtain ⟨rfl,_⟩:=zn9.1 h1;obtain ⟨rfl,_⟩:=zn9.1 h2;refine zbb (λw' _=>?_) k;have hg:tp.eqGuardType tp.depth 224=false:=by kernel_rfl
  have e0:∀ xs ys w,(eqGuard .eql 224 x y (.agg xs) (.agg ys)).run tp w=.ok () w:=λxs ys w=>run_eqGuard_agg (P:=tp) w .eql 224 x y xs ys hg;have e1:∀ xs ys w,(Op.equalIn 10000 224 (.agg xs) (.agg ys)).run tp w=(Op.eqFields 9999 xs ys (tp.fieldsOf 224).toList).run tp w:=λxs ys w=>run_equalIn_struct w 9999 224 xs ys kK kK;have e2:(tp.fieldsOf 224).toList.map (λf=>(f.name,f.type,f.offset))=[("From", 3,0),("To", 3,1)]:=by kernel_rfl
  have e3:∀ (c d:Int) (w:World),(Op.equalIn 9999 3 (.int .i64 c) (.int .i64 d)).run tp w=.ok (c == d) w:=λc d w=>run_equalIn_int w 9998 3 .i64 .i64 c d u3;have hd:(a=b)↔(a.fr=b.fr/\a.to=b.to):=DArc.ext_iff;generalize hF:(tp.fieldsOf 224).toList=fs at e1 e2
  match fs,e2 with
  | [f0,f1],e2=>
    simp only [qbC,qb4,qbf,qb6,and_true] at e2;obtain ⟨⟨n0,t0,o0⟩,⟨n1,t1,o1⟩⟩:=e2;have p0:∀ (a b:Value) (w:World),(part 3 #[a,b] 0).run tp w=.ok a w:=λa b w=>by simp [part,zcc ty3]
    have p1:∀ (a b:Value) (w:World),(part 3 #[a,b] 1).run tp w=.ok b w:=λa b w=>by simp [part,zcc ty3]
    simp only [bin,Sem.run_bind,e0,Result.andThen_ok,run_eql_struct,e1,Op.eqFields,n0,n1,t0,t1,o0,o1];simp only [ne_eq,String.reduceEq,not_false_eq_true,if_true,Sem.run_bind,p0,p1,Result.andThen_ok,e3,Sem.run_ite,Sem.run_pure,hd];by_cases x0:a.fr=b.fr<;>by_cases x1:a.to=b.to<;>simp [x0,x1]
set_option maxRecDepth 20000 in
theorem zvO {w w0 w1:World} {K:Value->Prop} {x y:Operand} {v1 v2:Value} {a b:DArc} (h1:Is w0 v1 a) (h2:Is w1 v2 b) (k:K (.bool (decide (a≠b)))):RD tp (bin .neq 224 x y v1 v2) w K:=by
  obtain ⟨rfl,_⟩:=zn9.1 h1;obtain ⟨rfl,_⟩:=zn9.1 h2;refine zbb (λw' _=>?_) k;have hg:tp.eqGuardType tp.depth 224=false:=by kernel_rfl
  have e0:∀ xs ys w,(eqGuard .neq 224 x y (.agg xs) (.agg ys)).run tp w=.ok () w:=λxs ys w=>run_eqGuard_agg (P:=tp) w .neq 224 x y xs ys hg;have e1:∀ xs ys w,(Op.equalIn 10000 224 (.agg xs) (.agg ys)).run tp w=(Op.eqFields 9999 xs ys (tp.fieldsOf 224).toList).run tp w:=λxs ys w=>run_equalIn_struct w 9999 224 xs ys kK kK;have e2:(tp.fieldsOf 224).toList.map (λf=>(f.name,f.type,f.offset))=[("From", 3,0),("To", 3,1)]:=by kernel_rfl
  have e3:∀ (c d:Int) (w:World),(Op.equalIn 9999 3 (.int .i64 c) (.int .i64 d)).run tp w=.ok (c == d) w:=λc d w=>run_equalIn_int w 9998 3 .i64 .i64 c d u3;have hd:(a=b)↔(a.fr=b.fr/\a.to=b.to):=DArc.ext_iff;generalize hF:(tp.fieldsOf 224).toList=fs at e1 e2
  match fs,e2 with
  | [f0,f1],e2=>
    simp only [qbC,qb4,qbf,qb6,and_true] at e2;obtain ⟨⟨n0,t0,o0⟩,⟨n1,t1,o1⟩⟩:=e2;have p0:∀ (a b:Value) (w:World),(part 3 #[a,b] 0).run tp w=.ok a w:=λa b w=>by simp [part,zcc ty3]
    have p1:∀ (a b:Value) (w:World),(part 3 #[a,b] 1).run tp w=.ok b w:=λa b w=>by simp [part,zcc ty3]
    simp only [bin,Sem.run_bind,e0,Result.andThen_ok,run_neq_struct,e1,Op.eqFields,n0,n1,t0,t1,o0,o1];simp only [ne_eq,String.reduceEq,not_false_eq_true,if_true,Sem.run_bind,p0,p1,Result.andThen_ok,e3,Sem.run_ite,Sem.run_pure,ne_eq,hd];by_cases x0:a.fr=b.fr<;>by_cases x1:a.to=b.to<;>simp [x0,x1]
def znk {l:List DArc} {y:DArc} (hk:k<l.length) (h:y∉l.take k) (c:¬l[k]=y):y∉l.take (k+1):=by
 rw [tk hk];simp only [qae,qaa,qac,or_false,not_or];exact ⟨h,λe=>c e.symm⟩
def zsQ {l:(List DArc)} {y:DArc}  (h0:Is W0 v0 l) (e0:Ext W0 w) (h1:Is W1 v1 y) (e1:Ext W1 w)  :
   CALL tp 259 [v0,v1] w λr w'=>Ext w w'/\(∃ n:Int,r=.int .i64 n/\(0<=n↔y∈l)):=by
 refine co (g:=kf [] [(2,524080,[8])] [(4,[0,1,2,3,4,5],0)]) Tryz.func259 ?_;refine zat zeH rfl h1 e1 λg0 y1 hA3 g1=>?_;have g2:=zaj h0;refine zae znF h0<|zao (l.length) (λk us w'=>us=[.int .i64 (k:Int)]/\Ext g0 w'/\(y∉l.take k)) (0) oo ⟨sS,xrf g0,sS⟩ ?_;rintro k m2 uu2 g3 hk2 ⟨hu,y2,C⟩;try replace hu:=zbt hu
 try rw [hu]
 try clear hu
 refine zag<|br (λc1=>?_) (λc1=>?_)
 . have y3:=zah g3
   refine zaF g1 (y2.t y3)<|zad znF zeH h0 oo λb14 o14 g4=>zaa zeH g4 (e0.t (y1.t (y2.t y3))) λv15 g5=>zvN h1 g5<|br (λc2=>?_) (λc2=>?_)
   . refine ⟨(y1.t (y2.t y3)),?_⟩
     have:y∈l:=c2▸qab _;exact ⟨_,rfl,by simp [this]⟩
   refine zau<|⟨m2-1,oo,k+1,oo,sS,(y2.t y3),?_⟩;exact znk oo C (λe=>c2 e.symm)
 refine ⟨(y1.t y2),?_⟩;rw [qaf oo] at C;exact ⟨-1,rfl,by simp [C]⟩
def znl {l:(List DArc)} {y:DArc}  (h0:Is W0 v0 l) (e0:Ext W0 w) (h1:Is W1 v1 y) (e1:Ext W1 w)  :
   CALL tp 212 [v0,v1] w λr w'=>Ext w w'/\(r=.bool (decide (y∈l))):=by
 refine co (g:=kf [] [] []) Tryz.func212 ?_;refine zat zeH rfl h1 e1 λg0 y1 hA3 g1=>zaF g1 (xrf g0) ?_;refine (zsQ h0 (e0.t y1) h1 (e1.trans y1)).mono ?_;rintro _ w2_ ⟨y2,n7,rfl,g2⟩;refine zcb<|⟨(y1.t y2),?_⟩;simp [g2]
def zig {A:List DArc} (h1:Is W1 v1 A) (e1:Ext W1 w) (hn:n<=60) (hA:∀ a∈A,(0<=a.fr/\a.fr<n)/\0<=a.to/\a.to<n) (hl:A.length<=2000) :
   CALL tp 226 [.int .i64 (n:Int),v1] w λr w'=>Ext w w'/\r=.bool true:=by
 refine co (g:=kf [] [(4,1099511611440,[5])] []) Tryz.func226 ?_;refine l01In_ok.mono ?_;rintro _ w1 ⟨g2,rfl⟩;refine zav<|br (λh=>absurd ⟨oo,oo⟩ h) (λ_=>?_);refine zae znF h1<|zcK<|br (λh=>oo) (λ_=>?_);refine zao A.length (λk us w'=>us=[.int .i64 (k:Int)]/\k<=A.length/\Ext w w') 0 (z0 _) ⟨rfl,z0 _,g2⟩ ?_;rintro k mk q w3 hkm ⟨hq,hkl,g0⟩;try replace hq:=zbt hq
 rw [hq];refine zae znF h1<|zag<|br (λhlt=>?_) (λhge=>?_)
 case refine_2=>exact ⟨g0,rfl⟩
 have hk:k<A.length:=oo
 obtain ⟨⟨hf0,hf1⟩,ht0,ht1⟩:=hA _ (qab hk);refine zad znF zeH h1 hk λb3 o3 g3=>zab zlD<|zac ty3 (zhu g3) (e1.trans g0) λ_=>zbc (by unfold I64;omega)<|l01In_ok.mono ?_;rintro _ w4 ⟨g1,rfl⟩;refine zav<|br (λh=>absurd ⟨oo,oo⟩ h) (λ_=>?_);refine zad znF zeH h1 hk λb5 o5 g4=>zab zlE<|zac ty3 (zhv g4) ((e1.trans g0).trans g1) λ_=>zbc (by unfold I64;omega)<|l01In_ok.mono ?_;rintro _ w6 ⟨g5,rfl⟩;refine zav<|br (λh=>absurd ⟨oo,oo⟩ h) (λ_=>?_);refine zau<|⟨mk-1,oo,k+1,oo,rfl,oo,(g0.t g1).trans g5⟩
structure CI (w1 wT w4 w:World) (tv out lv:Value) (T:List Bool) (lo hi:Nat) (L:List (List Int)) (P:List Int):Prop where
 ext:Ext w1 w
 told:OwnI w1.heap.size wT.heap.size w tv T
 s1:w1.heap.size<=wT.heap.size
 s2:wT.heap.size<=lo
 s3:hi<=w4.heap.size
 s4:w4.heap.size<=w.heap.size
 s5:wT.heap.size<=w4.heap.size
 out:RowI lo hi 33 w out L
 row:RowI w4.heap.size w.heap.size 3 w lv P
def CI.push {tv out lv:Value} {T:List Bool} {L:List (List Int)} {P:List Int} {K:VW} (h:CI w1 wT w4 w tv out lv T lo hi L P) (hj:j<T.length) (gi:j<=60) (hP:P.length<=60)
   (k:∀ v' w',CI w1 wT w4 w' tv out v' (T.set j true) lo hi L (P++[(j:Int)])->K v' w') :
   OP tp (Instr.buildSlice 33 1 #[(0,.int .i64 (j:Int))]) w λs w=>OP tp (Builtin.append_ #[33,33] 33 [lv,s].toArray) w λx w=>RD tp (Instr.indexAt 90 tv (.int .i64 (j:Int))) w λa=>OPU tp (Instr.storeAt 4 a (.bool true)) w λw=>K x w:=by
 have g4:=h.s1;have g5:=h.s2;have g9:=h.s3;have g3:=h.s4;have gb:=h.s5;refine zbO (lo2:=w.heap.size) (hi2:=w.heap.size) (x:=(j:Int)) u33 ty3 z3 zc3 qd h.row g3 (zc2 _ _ (by unfold I64;omega)) (lr _) g3 (by rw [zal];omega) oo λv5 w5 g0 gc=>?_;have gd:=g0.size;obtain ⟨F,hM,hF⟩:=h.told.chg g0 oo;refine zeZ u90 ty4 hM hj λb o G hL=>zdX (upd:=λy=>T.set j y) (y':=true) ty4 hL zlZ λw6 F6 gf gg gh=>?_;have g1:=gf.toI hF;have g2:=g1.size;refine k v5 w6 ⟨(h.ext.chgI g0 oo).chgI g1 (lr _),⟨F6,gg,λb hb=>hF b (gh b hb)⟩,g4,g5,g9,oo,gb,(h.out.chg g0 oo).chg g1 oo,(gc.chg g1 oo).mono (lr _) g2⟩
def zAB {way:Nat->Nat->Prop} {told:Nat->Prop} (h:OkK way told i m) (hj:j<=m):OkK way told i j:=⟨h.1,λx hx=>h.2 x oo⟩
def zvP {A:List DArc} (h1:Is W1 v1 A) (e1:Ext W1 w) (hn:n<=60) (hA:∀ a∈A,(0<=a.fr/\a.fr<n)/\0<=a.to/\a.to<n) (hl:A.length<=2000) :
   CALL tp 142 [.int .i64 (n:Int),v1] w λr w'=>Ext w w'/\Own w.heap.size w' r ((zq8 n (RP (nxA n A))).map zaT):=by
 refine co (g:=kf [(16,590295810083827747840,[10])] [(7,10384593717069655257060992591347488,[5,8]),(9,10384593717069655257060992390020896,[5,8,9]),(13,590295810083827747840,[10,11]),(19,40564819202580974365024857370624,[12,13])] []) Tryz.func142 ?_;refine zaK (α:=List Int) u44 za4 λa8 wa gf hra=>?_;refine (zig h1 (e1.trans gf) hn hA hl).mono ?_;rintro _ wb ⟨gH,rfl⟩;refine zaV<|zbz (λh=>by cases h) (λ_=>?_);refine (zmR h1 ((e1.trans gf).trans gH) hn hA hl).mono ?_;rintro v22 w1 ⟨gX,gY⟩;have I:=gY.is;have hWl:(zgY (nxA n A) n).length=n:=zrk;have M:∀ i (h:i<(zgY (nxA n A) n).length),((zgY (nxA n A) n)[i]).length=n:=λi h=>by rw [zjv,zan]
 have gb:∀ i (h:i<(zgY (nxA n A) n).length) x (hx:x<((zgY (nxA n A) n)[i]).length),((zgY (nxA n A) n)[i])[x]=true↔RP (nxA n A) i x:=λi h x hx=>zux h hx;have gI:∀ i j k,RP (nxA n A) i j->RP (nxA n A) j k->RP (nxA n A) i k:=λ_ _ _=>RP.trans;generalize zgY (nxA n A) n=ws at *;generalize RP (nxA n A)=way at *;have g0:=(gf.t gH).trans gX;have gZ:=g0.size;refine ze0 (α:=Bool) u90 ty4 rfl rfl zFn oo oo λwT gJ h2=>?_;have h4:=gJ.size;generalize htv:(Value.slice (some ⟨w1.heap.size,0,none⟩) n n)=tv at *;have gK:=h2.own;rw [show List.replicate n (RepZ.zv:Bool)=zbZ n λ_=>False from zdB n λ_=>id] at gK
 have h5:zd6 n (λ_=>False)=n:=by
   unfold zd6 zbd;rw [List.filter_eq_self.2 (λa _=>by simp),qbr]
 refine zao n (λk us w'=>∃ out f told L lo hi,us=[out,.int .i64 ((zd6 n told:Nat):Int)]/\f+k=n/\zd6 n told<=f/\zq8 n way=L++zeb n way f told/\L.length=k/\Whole way told/\Ext w1 w'/\OwnI w1.heap.size wT.heap.size w' tv (zbZ n told)/\wT.heap.size<=lo/\lo<=w'.heap.size/\hi<=w'.heap.size/\RowI lo hi 33 w' out (L.map zaT)) 0 (z0 _) ⟨.slice (some a8) 0 0,n,λ_=>False,[],wT.heap.size,wT.heap.size,by rw [h5],rfl,zlm,rfl,rfl,Whole.start,gJ,gK,lr _,qas _,lr _,zcx _ _ _ _ _⟩ ?_;rintro k mk q w2 hkm ⟨out,f,told,L,lo,hi,hq,hfk,h6,gg,h8,gM,V,gh,gN,h9,hhi,gO⟩;obtain ⟨ha,hc⟩:=zcB hq;rw [ha,hc];have hs2:=V.size;have hll:zd6 n told<=n:=zlm;refine zcK<|br (λhd=>?_) (λgP=>?_)
 case refine_2=>rw [ziB (zvA oo),qaC] at gg;rw [gg];exact ⟨g0.t V,gO.own.own.mono oo⟩
 obtain ⟨i1,he⟩:=zn3 (told:=told) gI (show 0<zd6 n told by omega);refine zao n (λi us w'=>w'=w2/\i<=n/\us=[out,.int .i64 ((zd6 n told:Nat):Int),.int .i64 (i:Int)]/\∀ j,j<i->¬OkC n way told j) 0 (z0 _) ⟨rfl,z0 _,rfl,λj hj=>oo⟩ ?_;rintro i mi q9 w3 hmi ⟨rfl,hil,hg,gi⟩;obtain ⟨gj,gl,gp⟩:=zEN hg;rw [gj,gl,gp];refine zag<|br (λhlt=>?_) (λhge=>?_)
 case refine_2=>have h:=zh1 he;exact absurd h (gi i1 (by have:=h.1;omega))
 have gQ:i<n:=oo
 have hTl:(zbZ n told).length=n:=zan
 have gR:∀ x (hx:x<(zbZ n told).length),(zbZ n told)[x]=true↔told x:=λx hx=>by
   rw [<-za5 hx,zaU];exact ⟨λh=>h.2,λh=>⟨oo,h⟩⟩
 refine zad (i:=i) u90 ty4 gh.is oo λb4 o4 hh=>zaG ty4 hh (xrf _)<|zaV<|JOIN.mk (λus w'=>w'=w3/\∃ b,us=[.bool b]/\(b=true↔OkC n way told i)) ?_ ?_
 . refine zao n (λj us w'=>w'=w3/\j<=n/\∃ b,us=[.bool b,.int .i64 (j:Int)]/\(b=true↔OkK way told i j)) 0 (z0 _) ⟨rfl,z0 _,_,rfl,?_⟩ ?_
   . rw [qaR,<-qb9,gR]
     exact ⟨λh=>⟨h,λx hx=>oo⟩,λh=>h.1⟩
   rintro j mj q13 w4 hk ⟨rfl,hr,b,gq,hb⟩;obtain ⟨g1,g2⟩:=zcB gq;rw [g1,g2];refine zag<|br (λgr=>?_) (λgs=>?_)
   case refine_2=>
     have gt:j=n:=oo
     rw [gt] at hb;exact ⟨rfl,b,rfl,hb.trans (zyV gQ)⟩
   have hj:j<n:=oo
   refine zbz (λht=>?_) (λhf=>?_)
   case refine_2=>refine ⟨rfl,b,rfl,?_⟩;rw [hf];refine ⟨(λh=>by cases h),λh=>?_⟩;have:=hb.2 (zAB ((zyV gQ).2 h) oo);rw [hf] at this;cases this
   have hK:=hb.1 ht;have D:=zAz (way:=way) (told:=told) (i:=i) (j:=j);refine zkp (i:=i) (j:=j) I V oo (by rw [M];omega) ?_;have X:=gb i oo j (by rw [M];omega);refine zaV<|zbz (λY=>?_) (λgc=>?_)
   . rw [qaR,<-qb9,X] at Y
     refine zau<|⟨mj-1,oo,j+1,oo,rfl,oo,true,rfl,⟨λ_=>D.2 ⟨hK,λh=>absurd h Y⟩,λ_=>rfl⟩⟩
   rw [qb2,X] at gc;refine zkp (i:=j) (j:=i) I V oo (by rw [M];omega) ?_;have Z:=gb j oo i (by rw [M];omega);refine zbz (λgx=>?_) (λg3=>?_)
   . refine zau ?_
     exact ⟨mj-1,oo,j+1,oo,rfl,oo,true,rfl,⟨λ_=>D.2 ⟨hK,λ_=>.inl (Z.1 gx)⟩,λ_=>rfl⟩⟩
   have gy:¬way j i:=λh=>by rw [Z.2 h] at g3;cases g3
   refine zad (i:=j) u90 ty4 gh.is oo λb5 o5 hs=>zaG ty4 hs (xrf _)<|zau<|⟨mj-1,oo,j+1,oo,rfl,oo,_,rfl,?_⟩;rw [gR,D];exact ⟨λh=>⟨hK,λ_=>.inr h⟩,λh=>(h.2 gc).resolve_left gy⟩
 rintro q16 w4 ⟨rfl,b,U,hb⟩;try replace U:=zbt U
 rw [U];refine zaV<|zbz (λgS=>?_) (λhu=>?_)
 . have gz:¬OkC n way told i:=λh=>by rw [hb.2 h] at gS;cases gS
   refine zau<|⟨mi-1,oo,i+1,oo,rfl,oo,rfl,λj hj=>?_⟩;rcases qa2 (qbg.1 hj) with h | rfl
   . exact gi j h
   exact gz
 have gU:OkC n way told i:=hb.1 (by simpa using hu);have gC:=zkj gU gi;obtain ⟨f',hv,gD,hff⟩:=ziC h6 gC;have gV:=zun (n:=n) gM gU.2.1;refine zaK (α:=Int) u33 ty3 λa9 w5 gd hr5=>?_;have hs5:=gd.size
 have gE:CI w1 wT w5 w5 tv out (.slice (some a9) 0 0) (zbZ n (zmQ way told i 0)) lo hi (L.map zaT) (zaT (zbd 0 (zco way i))):=
   ⟨V.t gd,by rw [<-zvM];exact gh.ext gd,h4,gN,oo,lr _,oo,gO.ext gd,zcx _ _ _ _ _⟩
 refine zao n (λj us w'=>∃ lv,us=[lv,.int .i64 (j:Int)]/\j<=n/\CI w1 wT w5 w' tv out lv (zbZ n (zmQ way told i j)) lo hi (L.map zaT) (zaT (zbd j (zco way i)))) 0 (z0 _) ⟨_,rfl,z0 _,gE⟩ ?_;rintro j mj q19 w6 hk ⟨lv,gF,hr,C⟩;obtain ⟨g4,g5⟩:=zcB gF;rw [g4,g5];have hsl:(zbd j (zco way i)).length<=j:=zbg;refine zag<|br (λgr=>?_) (λgs=>?_)
 . have hj:j<n:=oo
   refine zai<|br (λheq=>?_) (λgW=>?_)
   . have hp:zco way i j:=.inl oo
     refine C.push (by rw [zan];exact hj) oo (by rw [zaf];omega) λv' w' g9=>?_;rw [zrm hj hp,show zaT (zbd j (zco way i))++[(j:Int)]=zaT (zbd (j+1) (zco way i)) by rw [zdf hp,zcF];rfl] at g9;refine zau<|⟨mj-1,oo,j+1,oo,v',rfl,oo,g9⟩
   have O:¬zco way i j->∃ m',m'<mj/\∃ k',k'+m'=n/\∃ lv',[lv,Value.int .i64 ((j+1:Nat):Int)]=[lv',.int .i64 (k':Int)]/\k'<=n/\CI w1 wT w5 w6 tv out lv' (zbZ n (zmQ way told i k')) lo hi (L.map zaT) (zaT (zbd k' (zco way i))):=λhp=>by
     rw [zAA hp,<-zdw hp] at C;exact ⟨mj-1,oo,j+1,oo,lv,rfl,oo,C⟩
   refine zkp (i:=i) (j:=j) I C.ext oo (by rw [M];omega) ?_;have X:=gb i oo j (by rw [M];omega);refine zzz (λgc=>?_) (λY=>?_)
   . refine zkp (i:=j) (j:=i) I C.ext oo (by rw [M];omega) ?_
     have Z:=gb j oo i (by rw [M];omega);refine zbz (λgx=>?_) (λg3=>?_)
     . have hp:zco way i j:=.inr ⟨X.1 gc,Z.1 gx⟩
       refine C.push (by rw [zan];exact hj) oo (by rw [zaf];omega) λv' w' g9=>?_;rw [zrm hj hp,show zaT (zbd j (zco way i))++[(j:Int)]=zaT (zbd (j+1) (zco way i)) by rw [zdf hp,zcF];rfl] at g9;refine zau<|⟨mj-1,oo,j+1,oo,v',rfl,oo,g9⟩
     refine zau<|O λhp=>?_;rcases hp with h | h
     . exact gW oo
     rw [Z.2 h.2] at g3;cases g3
   refine zau<|O λhp=>?_;rcases hp with h | h
   . exact gW oo
   rw [X.2 h.1] at Y;cases Y
 have gt:j=n:=oo
 rw [gt,zyW] at C;have hsn:(zbd n (zco way i)).length<=n:=zbg;have hc4:=C.s4;refine zae u33 C.row.is<|zbc (by rw [zaf];unfold I64;omega)<|zbO (lo2:=w5.heap.size) (hi2:=w6.heap.size) (x:=zaT (zbd n (zco way i))) u44 za4 z33 zBG qd C.out oo C.row.own oo oo (by rw [zal,qav];omega) (by rw [qav];omega) λhw w9 gG hy=>?_;have hs9:=gG.size;refine ⟨mk-1,oo,k+1,oo,hw,f',ziA way told i,L++[zbd n (zco way i)],lo,w9.heap.size,?_,oo,gD,by rw [gg,hv,qar];rfl,by simp [h8],gM.more gI,C.ext.chgI gG oo,C.told.chg gG oo,gN,oo,lr _,?_⟩
 . have:((zd6 n told:Nat):Int)-(((zaT (zbd n (zco way i))).length:Nat):Int)=((zd6 n (ziA way told i):Nat):Int):=by rw [zaf];omega
   rw [this]
 rw [qa6];exact hy
def znm {A:List DArc} (h1:Is W1 v1 A) (e1:Ext W1 w) (hn:n<=60) (hA:∀ a∈A,(0<=a.fr/\a.fr<n)/\0<=a.to/\a.to<n) (hl:A.length<=2000) :
   CALL tp 217 [.int .i64 (n:Int),v1] w λr w'=>Ext w w'/\r=.bool true:=by
 refine co (g:=kf [] [(4,35184371040336,[20])] []) Tryz.func217 ?_;refine zag<|br (λh=>oo) (λ_=>?_);refine zcK<|br (λh=>oo) (λ_=>?_);refine zae znF h1<|zcK<|br (λh=>oo) (λ_=>?_);refine zae znF h1<|zao A.length (λk us w'=>us=[.int .i64 (k:Int)]/\k<=A.length/\Ext w w') 0 (z0 _) ⟨rfl,z0 _,xrf _⟩ ?_;rintro k mk q w3 hkm ⟨hq,hkl,g0⟩;try replace hq:=zbt hq
 rw [hq];refine zag<|br (λhlt=>?_) (λhge=>?_)
 case refine_2=>exact ⟨g0,rfl⟩
 have hk:k<A.length:=oo
 obtain ⟨⟨hf0,hf1⟩,ht0,ht1⟩:=hA _ (qab hk);refine zad znF zeH h1 hk λb3 o3 g2=>zaa zeH g2 (e1.trans g0) λv17 g3=>zck zzL rfl zeH rfl g3 (e1.trans g0) λw4 g4 g1 hV4=>zab zlD<|zac ty3 (zhu g1) (xrf _) λ_=>zag<|br (λh=>oo) (λ_=>?_);refine zab zlD<|zac ty3 (zhu g1) (xrf _) λ_=>zcb<|br (λh=>oo) (λ_=>?_);refine zab zlE<|zac ty3 (zhv g1) (xrf _) λ_=>zag<|br (λh=>oo) (λ_=>?_);refine zab zlE<|zac ty3 (zhv g1) (xrf _) λ_=>zcb<|br (λh=>oo) (λ_=>?_);refine zau<|⟨mk-1,oo,k+1,oo,rfl,oo,g0.t g4⟩
def zpF {A:List DArc} {p:List Nat} (h1:Is W1 v1 A) (e1:Ext W1 w) (h2:Is W2 v2 (zaT p)) (e2:Ext W2 w) (hn:n<=60) (hA:∀ a∈A,(0<=a.fr/\a.fr<n)/\0<=a.to/\a.to<n) (hl:A.length<=2000) (hp:∀ x∈p,x<n) (hpl:p.length<=60) :
   CALL tp 135 [.int .i64 (n:Int),v1,v2] w λr w'=>Ext w w'/\∃ b,r=.bool b/\(b=true↔zuo (nxA n A) p):=by
 refine co (g:=kf [] [(5,4398045987392,[19])] []) Tryz.func135 ?_;refine (znm h1 e1 hn hA hl).mono ?_;rintro _ w1 ⟨g0,rfl⟩;refine zaV<|zbz (λh=>by cases h) (λ_=>?_);refine (zn8 h1 (e1.trans g0) hn hA hl).mono ?_;rintro v16 w2 ⟨g1,gb⟩;have g2:=gb.is;refine zae u33 h2 ?_;rw [zaf];refine zao p.length (λk us w'=>us=[.int .i64 (k:Int)]/\k<=p.length/\Ext w2 w'/\∀ x∈p.take k,¬RP (nxA n A) x x) 0 (z0 _) ⟨rfl,z0 _,xrf _,sS⟩ ?_;rintro k mk q w3 hkm ⟨hq,hkl,C,g3⟩;try replace hq:=zbt hq
 rw [hq];refine zag<|br (λhlt=>?_) (λhge=>?_)
 case refine_2=>
   have gc:k=p.length:=oo
   rw [gc,qaD] at g3;exact ⟨(g0.t g1).trans C,false,rfl,(λh=>by cases h),λ⟨x,hx,hr⟩=>absurd hr (g3 x hx)⟩
 have hk:k<p.length:=oo
 have g4:=hp _ (qab hk);refine zad (i:=k) u33 ty3 h2 (by rw [zaf];exact hk) λb3 o3 g5=>?_;rw [za3] at g5;refine zac ty3 g5 (((e2.trans g0).trans g1).trans C) λ_=>zcb<|br (λ_=>?_) (λh=>oo);refine zag<|br (λ_=>?_) (λh=>oo);refine zpC (i:=p[k]) g2 C (by rw [zrg];exact g4) ?_;rw [zrh];have g9:zcR (RP (nxA n A) p[k]) n<4611686018427387904:=zeK hn;refine zb0 kK zkA oo<|zko g9<|zkn (n:=1) (qaF (zri _ _) g9) oo<|zai<|br (λhb=>?_) (λhb=>?_)
 . rw [zwi,za7] at hb
   exact ⟨(g0.t g1).trans C,true,rfl,λ_=>⟨_,qab hk,hb.2⟩,λ_=>rfl⟩
 refine zau<|⟨mk-1,oo,k+1,oo,rfl,oo,C,λx hx=>?_⟩;rw [tk hk] at hx;rcases qae.1 hx with hx | hx
 . exact g3 x hx
 simp only [qax] at hx;subst hx;exact λh=>hb (by rw [zwi,za7];exact ⟨g4,h⟩)
def zpG {A:List DArc} {p:List Nat} (h1:Is W1 v1 A) (e1:Ext W1 w) (h2:Is W2 v2 (zaT p)) (e2:Ext W2 w) (hn:n<=60) (hA:∀ a∈A,(0<=a.fr/\a.fr<n)/\0<=a.to/\a.to<n) (hl:A.length<=2000) (hp:∀ x∈p,x<n) (hpl:p.length<=60) :
   CALL tp 143 [.int .i64 (n:Int),v1,v2] w λr w'=>Ext w w'/\∃ b,r=.bool b/\(b=true↔zuo (nxA n A) p):=by
 refine co (g:=kf [] [(5,17592185979200,[8])] [(7,[0,1,2,3,4,5,6,7,8,9,10,11,12,13,14,15,16,17,18,19,20,21],0)]) Tryz.func143 ?_;refine (zig h1 e1 hn hA hl).mono ?_;rintro _ w1 ⟨g0,rfl⟩;refine zaV<|zbz (λh=>by cases h) (λ_=>?_);refine (zmR h1 (e1.trans g0) hn hA hl).mono ?_;rintro v16 w2 ⟨g1,gf⟩;have g2:=gf.is;refine zao p.length (λk us w'=>us=[.int .i64 (k:Int)]/\k<=p.length/\Ext w2 w'/\∀ x∈p.take k,¬RP (nxA n A) x x) 0 (z0 _) ⟨rfl,z0 _,xrf _,sS⟩ ?_;rintro k mk q w3 hkm ⟨hq,hkl,g4,g3⟩;try replace hq:=zbt hq
 rw [hq];refine zae u33 h2 ?_;rw [zaf];refine zag<|br (λhlt=>?_) (λhge=>?_)
 case refine_2=>
   have gg:k=p.length:=oo
   rw [gg,qaD] at g3;exact ⟨(g0.t g1).trans g4,false,rfl,(λh=>by cases h),λ⟨x,hx,hr⟩=>absurd hr (g3 x hx)⟩
 have hk:k<p.length:=oo
 have g5:=hp _ (qab hk);have gh:=zah w3;generalize World.drew1 w3=w4 at *;have D:=g4.t gh;have e4:=((e2.trans g0).trans g1).trans D;refine zad (i:=k) u33 ty3 h2 (by rw [zaf];exact hk) λb3 o3 g9=>?_;rw [za3] at g9;refine zac ty3 g9 e4 λ_=>zbc (by unfold I64;omega)<|l01In_ok.mono ?_;rintro _ w5 ⟨C,rfl⟩;refine br (λ_=>?_) (λh=>absurd ⟨oo,oo⟩ h);refine zad (i:=k) u33 ty3 h2 (by rw [zaf];exact hk) λb6 o6 gb=>?_;rw [za3] at gb;refine zac ty3 gb (e4.trans C) λ_=>?_;have hi:p[k]<(zgY (nxA n A) n).length:=by rw [zrk];exact g5
 refine zad (i:=p[k]) zuX zgt g2 hi λb7 o7 gi=>zaa zgt gi (D.t C) λv7 h7=>zad (i:=k) u33 ty3 h2 (by rw [zaf];exact hk) λb8 o8 gc=>?_;rw [za3] at gc;refine zac ty3 gc (e4.trans C) λ_=>?_;have hj:p[k]<((zgY (nxA n A) n)[p[k]]).length:=by rw [zjv,zan];exact g5
 refine zad (i:=p[k]) u90 ty4 h7 hj λb9 o9 gj=>zaG ty4 gj (D.t C) ?_;have gd:=zux hi hj;refine zbz (λhb=>?_) (λhb=>?_)
 . exact ⟨((g0.t g1).trans D).trans C,true,rfl,λ_=>⟨_,qab hk,gd.1 hb⟩,λ_=>rfl⟩
 refine zau<|⟨mk-1,oo,k+1,oo,rfl,oo,D.t C,λx hx=>?_⟩;rw [tk hk] at hx;rcases qae.1 hx with hx | hx
 . exact g3 x hx
 simp only [qax] at hx;subst hx;exact λh=>by rw [gd.2 h] at hb;cases hb
def zsR (h1:Is W1 v1 (ze3 c)) (e1:Ext W1 w) (hc:CodeR c) :
   CALL tp 132 [v1] w λr w'=>Ext w w'/\∃ A,AInv (ze3 c) A/\Own w.heap.size w' r A:=by
 refine co (g:=kf [] [(3,134217320,[3,9])] []) Tryz.func132 ?_;have hol:=zul hc;have gb:=hc.1.locks6;refine zae zBH h1<|zao (ze3 c).length (λk us w'=>∃ out A,us=[out,.int .i64 (k:Int)]/\k<=(ze3 c).length/\Ext w w'/\RowI w.heap.size w'.heap.size 224 w' out A/\AInv ((ze3 c).take k) A) 0 (z0 _) ⟨_,[],rfl,z0 _,xrf _,zb6 _ _ _ _,by rw [qbW];exact AInv.start⟩ ?_;rintro k mk q w2 hkm ⟨out,A,hq,hkl,I,g3,hI⟩;obtain ⟨gc,gd⟩:=zcB hq;rw [gc,gd];have hs2:=I.size;refine zag<|br (λhlt=>?_) (λhge=>?_)
 case refine_2=>
   have gf:k=(ze3 c).length:=oo
   rw [gf,qaD] at hI;exact ⟨I,A,hI,g3.own.own⟩
 have hk:k<(ze3 c).length:=oo
 have gg:((ze3 c).take k++[(ze3 c)[k]]).Pairwise ltO:=by
   rw [<-tk hk];exact (zsI c).sublist (qcq _ _)
 have g4:=zpv gb hI.pw (hI.rng hc);refine zad zBH zqg h1 hk λb3 o3 gh=>zaa zqg gh (e1.trans I) λv12 gi=>zck zEY rfl zqg rfl gi (e1.trans I) λw3 g5 g0 hV3=>zab zoF<|zac ty3 (zmy g0) (xrf _) λgj=>zab zoG<|zac ty3 (zmz g0) (xrf _) λgl=>zaX (cells:=#[.int .i64 (ze3 c)[k].fr,.int .i64 (ze3 c)[k].to]) kK ?_;have gp:Is w3 (.agg #[.int .i64 (ze3 c)[k].fr,.int .i64 (ze3 c)[k].to]) (zh8 (ze3 c)[k]):=zn9.2 ⟨rfl,gj,gl⟩;refine zck zzL rfl zeH rfl gp (xrf _) λw4 g9 g1 hV4=>zaa zeH g1 (xrf _) λv19 gq=>?_;have g2:=(g3.ext g5).ext g9;refine (znl g2.is (xrf _) gq (xrf _)).mono ?_;rintro _ w5 ⟨M,rfl⟩;have C:=(g5.t g9).trans M;refine zav<|br (λgr=>?_) (λD=>?_)
 . refine zaa zeH g1 M λv23 gs=>?_
   have gt:=C.size;refine zbO (lo2:=w5.heap.size) (hi2:=w5.heap.size) (x:=zh8 (ze3 c)[k]) znF zeH zFh zEe qd (g2.ext M) oo (zfL (gs.ext M)) oo oo (by rw [zal];omega) oo λv' w9 gx gy=>zau<|⟨mk-1,oo,k+1,oo,v',A++[zh8 (ze3 c)[k]],rfl,oo,(I.t C).chgI gx (lr _),gy,?_⟩;rw [tk hk];exact hI.new gg gr
 have D:=qad.1 D;refine zau<|⟨mk-1,oo,k+1,oo,out,A,rfl,oo,I.t C,(g2.ext M).mono (lr _) C.size,?_⟩;rw [tk hk];exact hI.old D
def zuy (hc:CodeR c) {A:List DArc} (h:AInv (ze3 c) A):(∀ a∈A,(0<=a.fr/\a.fr<c.locks.length)/\0<=a.to/\a.to<c.locks.length)/\A.length<=2000:=by
 have h1:AInv ((ze3 c).take (ze3 c).length) A:=by rw [qaD];exact h
 have h2:=h1.rng hc;have:=zpv hc.1.locks6 h.pw h2;exact ⟨h2,oo⟩
open Classical in
noncomputable def zsS (c:DCode) (k:Nat):List (List Nat):=((zb4 c).take k).filter λp=>decide (zuo (nxL c) p)
def zAC (hk:k<(zb4 c).length) (h:zuo (nxL c) (zb4 c)[k]):zsS c (k+1)=zsS c k++[(zb4 c)[k]]:=by
 unfold zsS;rw [tk hk,qa7];simp [h]
def zDj (hk:k<(zb4 c).length) (h:¬zuo (nxL c) (zb4 c)[k]):zsS c (k+1)=zsS c k:=by
 unfold zsS;rw [tk hk,qa7];simp [h]
def zuz (c:DCode) (k:Nat):(zsS c k).length<=k:=qan (qbt _ _) (by rw [qai];omega)
def zsT {cs:List (List Int)} (hp:cs.Perm ((zsS c (zb4 c).length).map zaT)) (hs:cs.Pairwise λa b=>hd0 a<hd0 b):cs=(zg5 c).map zaT:=by
 refine zmL hs (by rw [qbB];exact zyB c) λx=>?_;rw [hp.mem_iff];simp only [qaZ,zn5];unfold zsS;rw [qaD];simp only [qbQ,decide_eq_true_eq]
def zAD {α:Type} {f:α->List Nat} {Z:List α} {z:α} (hz:z∈Z) (h:(Z.flatMap f).Nodup):(f z).Nodup:=by
 obtain ⟨l1,l2,rfl⟩:=qch hz;rw [qa4,qao] at h;have h2:=h.2.1;rw [qbs,qao] at h2;exact h2.1
def zyX {l:List (List Int)} (hM:Mine F w v l):∃ Z:List (List Nat×Value×List Int),l=Z.map (·.2.2)/\(∀ z∈Z,Mine z.1 w z.2.1 z.2.2)/\(Z.flatMap (·.1)).Nodup/\(∀ c∈Z.flatMap (·.1),c∈F) /\
   (Z≠[]->∃ b o cap,v=.slice (some ⟨b,o,none⟩) l.length cap/\b∈F/\b∉Z.flatMap (·.1)/\w.rangeAt b o (Z.map (·.2.1))):=by
 obtain ⟨⟨c0,⟨a,cap,Fi,xs,rfl,h1,h2,hc,h4⟩,rfl⟩,g0,hw⟩:=hM;obtain ⟨Z,rfl,rfl,rfl,hZ⟩:=ziD hc;rcases h4 with ⟨h4,rfl⟩ | ⟨b,o,rfl,rfl,hr,hbl⟩
 . have:Z=[]:=by simpa using h4
   subst this;exact ⟨[],rfl,sS,sS,sS,λh=>absurd rfl h⟩
 rw [qaM] at g0;have g1:∀ z∈Z,∀ c∈z.1,c∈Z.flatMap (·.1):=λz hz c hc=>qaE.2 ⟨z,hz,hc⟩;refine ⟨Z,rfl,λz hz=>⟨⟨_,hZ z hz,rfl⟩,?_,hw.sub λc hc=>qbN _ (g1 z hz c hc)⟩,g0.2,λc hc=>qbN _ hc,λ_=>⟨b,o,cap,rfl,sS,g0.1,hr⟩⟩;exact zAD (f:=(·.1)) hz g0.2
def zrn {α β:Type} {f:α->List β} {l:List α} {x:β} (h:x∈(l.take k).flatMap f):x∈l.flatMap f:=by
 obtain ⟨z,hz,hx⟩:=qaE.1 h;exact qaE.2 ⟨z,qbc hz,hx⟩
def zvQ {α:Type} {f:α->List Nat} {l:List α} (hk:k<l.length) (hn:(l.flatMap f).Nodup):∀ c∈f l[k],c∉(l.take k).flatMap f:=λc hc h=>by
 have e:l=l.take k++l[k] :: l.drop (k+1):=by rw [<-qau hk,qct]
 rw [e,qa4,qao] at hn;exact hn.2.2 c h c (by rw [qbs];exact qaQ _ hc) rfl
def zet {α β:Type} {f:α->List β} {l:List α} (hk:k<l.length):(l.take (k+1)).flatMap f=(l.take k).flatMap f++f l[k]:=by
 rw [tk hk,qa4];simp
def zro (hW:WAt W0 b c) (e0:Ext W0 w) (hc:CodeR c) :
   CALL tp 62 [.pointer (some ⟨b,0,none⟩)] w λr w'=>Ext w w'/\Own w.heap.size w' r ((zg5 c).map zaT):=by
 refine co (g:=kf [] [(4,17177772192,[5,21])] [(1,[0,1,2,3,4,5,6,7,8,9,10],384)]) Tryz.func62 ?_;have h6l:=hc.1.locks6;have g0:=hW.wl.code;have g4:=zah w;generalize World.drew1 w=w1 at *;refine NIL.mk rfl<|zab zbM<|zab zd8<|zaa zcv (zbw g0) (e0.t g4) λv12 gG=>zae u24 gG ?_;refine (zyJ hW (e0.t g4) hc).mono ?_;rintro v15 w2 ⟨gh,gH⟩;refine ⟨gh,?_⟩;refine (zsR gH.is (xrf _) hc).mono ?_;rintro v16 w3 ⟨gi,A,g5,gj⟩;refine ⟨gi,?_⟩;obtain ⟨gl,gp⟩:=zuy hc g5;refine (zsO gj.is (xrf _) oo gl gp).mono ?_;rintro gI w4 ⟨gq,gr⟩;rw [zln hc g5] at gr;have g1:=(g4.t gh).trans gi;have gs:=g1.size;have hs4:=gq.size;obtain ⟨F,hM,hF⟩:=gr;change Mine F w4 gI ((zb4 c).map zaT) at hM;have hll:=zmN c;refine zae u44 hM.is ?_;rw [qav];obtain ⟨Z,gt,hZ,gJ,gK,gM⟩:=zyX hM;have gx:Z.length=(zb4 c).length:=by have:=congrArg List.length gt;simpa using this.symm
 refine zao (zb4 c).length (λk us w'=>∃ out FO,us=[out,.int .i64 (k:Int)]/\k<=(zb4 c).length/\Ext w3 w'/\w4.heap.size<=w'.heap.size/\RowG FO 33 w' out ((zsS c k).map zaT)/\FO.Nodup/\(∀ x∈FO,x∈(Z.take k).flatMap (·.1)\/w4.heap.size<=x)/\∀ x,x<w4.heap.size->x∉(Z.take k).flatMap (·.1)->w'.heap[x]?=w4.heap[x]?) 0 (z0 _) ⟨_,[],rfl,z0 _,gq,lr _,.inl ⟨none,rfl,by simp [zsS],rfl⟩,qaq,sS,λ_ _ _=>rfl⟩ ?_;rintro k mk q w5 hkm ⟨out,FO,hq,hkl,g2,hs5,U,g9,X,C⟩;obtain ⟨gN,gO⟩:=zcB hq;rw [gN,gO];have hcl:=zuz c k
 have M:∀ x∈FO,w3.heap.size<=x:=λx hx=>by
   rcases X x hx with h | h
   . exact hF x (gK x (zrn h))
   omega
 refine zag<|br (λhlt=>?_) (λhge=>?_)
 case refine_2=>
   have gP:k=(zb4 c).length:=oo
   rw [gP] at U;have gb:OwnI w3.heap.size w5.heap.size w5 out ((zsS c (zb4 c).length).map zaT):=⟨FO,⟨U.own,g9,U.wr⟩,λx hx=>⟨M x hx,U.lt x hx⟩⟩
   have gy:∀ p∈zsS c (zb4 c).length,p∈zb4 c:=λp hp=>by
     unfold zsS at hp;exact qbc (qbQ.1 hp).1
   refine (zAp gb (by rw [qav];have:=zuz c (zb4 c).length;omega) (λx hx=>?_) (λx hx=>?_) ?_).mono ?_
   . obtain ⟨p,hp,rfl⟩:=qaZ.1 hx
     obtain ⟨n,_,h2,_⟩:=zh2 (gy p hp);intro e;have h3:p=[]:=qam (by rw [<-zaf,e];rfl);rw [h3] at h2;cases h2
   . obtain ⟨p,hp,rfl⟩:=qaZ.1 hx
     obtain ⟨n,h1,_,h2⟩:=zh2 (gy p hp);rw [zfM h1];omega
   . rw [qbB]
     unfold zsS;exact ((zrc c).sublist (qcq _ _)).filter _
   rintro _ w6 ⟨gQ,cs',gz,gR,gC⟩;rw [zsT gR gC] at gz;exact ⟨(g1.t g2).chgI gQ gs,gz.own.mono gs⟩
 have hk:k<(zb4 c).length:=oo
 have O:k<Z.length:=oo
 obtain ⟨b9,o9,cap,rfl,gS,gU,gV⟩:=gM (qcK oo);have gc:=hZ _ (qab O)
 have gW:Z[k].2.2=zaT (zb4 c)[k]:=by
   have h1:((zb4 c).map zaT)[k]?=(Z.map (·.2.2))[k]?:=by rw [gt]
   rw [List.getElem?_map,List.getElem?_map,List.getElem?_eq_getElem hk,List.getElem?_eq_getElem O] at h1;simpa using h1.symm
 have gD:=zvQ (f:=(·.1)) O gJ;have I:Mine Z[k].1 w5 Z[k].2.1 Z[k].2.2:=gc.keep λx hx=>C x (gc.lt x hx) (gD x hx);have gX:w5.heap[b9]?=w4.heap[b9]?:=C b9 (hM.lt b9 gS) λh=>gU (zrn h)
 have gY:w5.rangeAt b9 (o9+k*1) [Z[k].2.1]:=λj v hj=>by
   cases j with
   | zero=>
     simp only [List.getElem?_cons_zero,qak] at hj;subst hj;rw [World.cell?_of_block (w:=w4) gX,qcs,qcf];exact gV k _ (by rw [List.getElem?_map,List.getElem?_eq_getElem O];rfl)
   | succ j=>simp at hj
 refine zbb (v:=.pointer (some ⟨b9,o9+k*1,none⟩)) (λw' _=>by rw [zch u44 za4 oo (by rw [qav];omega)];simp) ?_
 refine zzA (α:=List Int) za4 (by
   obtain ⟨cs,hr,hv⟩:=I.own;obtain ⟨v,rfl⟩:∃ v,cs=[v]:=qbe.1 (Rep.len hr);have:Z[k].2.1=v:=hv;rw [this];exact hr) gY ?_
 change CALL tp _ [_,_,Z[k].2.1] w5 _;rw [gW] at I;refine (zpF gj.is g2 I.is (xrf _) oo gl gp (zkl (qab hk)).2 (by have:=(zkl (qab hk)).1;omega)).mono ?_;rintro _ w6 ⟨V,bb,rfl,gd⟩;rw [zln hc g5] at gd;have gC:=V.size;have gE:=U.keep λx hx=>V.heap (U.lt x hx);have D:∀ x,x<w4.heap.size->x∉(Z.take k).flatMap (·.1)->w6.heap[x]?=w4.heap[x]?:=λx hx hn=>(V.heap oo).trans (C x hx hn);refine zbz (λhy=>?_) (λhn=>?_)
 . have gf:=gd.1 hy
   refine zdD (K:=λw1 r w2=>_) u44 za4 z33 zBG qd gE g9 (I.ext V) (λx hx gZ=>?_) (by rw [qav,zal];omega) (by rw [qav];omega) (λw7 v' w8 G' g3 gg h4 h5 h6=>?_) λs w7 _ h=>h
   . rcases X x gZ with h | h
     . exact gD x hx h
     have:=gc.lt x hx;omega
   refine zau<|⟨mk-1,oo,k+1,oo,v',G',rfl,oo,((g2.t V).trans g3).chg_trans gg M,?_,?_,h5,λx hx=>?_,λx hx hn=>?_⟩
   . have:=g3.size;have:=gg.size;omega
   . rw [zAC hk gf,qa6];exact h4
   . rw [zet O]
     rcases h6 x hx with h | h | h
     . rcases X x h with h | h
       . exact .inl (qaQ _ h)
       exact .inr h
     . exact .inl (qa8 _ h)
     exact .inr oo
   rw [zet O] at hn;have gF:x∉(Z.take k).flatMap (·.1):=λh=>hn (qaQ _ h)
   have h8:x∉FO:=λh=>by
     rcases X x h with h | h
     . exact gF h
     omega
   have h7:=g3.size;rw [gg.block x oo h8,g3.heap oo];exact D x hx gF
 have gf:¬zuo (nxL c) (zb4 c)[k]:=λh=>by rw [gd.2 h] at hn;cases hn
 refine zau<|⟨mk-1,oo,k+1,oo,out,FO,rfl,oo,g2.t V,oo,by rw [zDj hk gf];exact gE,g9,λx hx=>?_,λx hx hn=>?_⟩
 . rw [zet O]
   rcases X x hx with h | h
   . exact .inl (qaQ _ h)
   exact .inr h
 rw [zet O] at hn;exact D x hx λh=>hn (qaQ _ h)
open Classical in
noncomputable def zhw (c:DCode):List (List Int):=if CodeR c then (zg5 c).map zaT else []
def zmS (h0:Is W0 v0 c) (e0:Ext W0 w) :
   CALL tp 22 [v0] w λr w'=>Ext w w'/\Own w.heap.size w' r (zhw c):=by
 refine co (g:=kf [] [] []) Tryz.func22 ?_;refine za9 h0 e0 λw1 g0 hA=>zaa zbq hA (xrf _) λv6 h6=>?_;refine (zh3 h6 (xrf _)).mono ?_;rintro r7 w2 ⟨g1,hr⟩;have hs1:=g0.size;have hs2:=g1.size;rcases hr with ⟨hn,rfl⟩ | ⟨hc,b,rfl,hW⟩
 . refine zaY rfl ?_
   refine zaY rfl<|zaV<|zbz (λ_=>?_) (λh=>by cases h);refine ⟨g0.t g1,?_⟩;unfold zhw;rw [if_neg hn];exact zfP rfl
 refine zaY rfl<|zaY rfl<|zaV<|zbz (λh=>by cases h) (λ_=>?_);refine (zro hW (xrf _) hc).mono ?_;rintro v13 w3 ⟨g2,g3⟩;refine ⟨g0.t (g1.t g2),?_⟩;unfold zhw;rw [if_pos hc];exact g3.mono oo
theorem zrp {n:Nat} {way:Nat->Nat->Prop} (ht:∀ i j k,way i j->way j k->way i k):∀ (f:Nat) (told:Nat->Prop),Whole way told->zd6 n told<=f ->
   (zeb n way f told).flatten.length=zd6 n told/\∀ i,i<n->¬told i->i∈(zeb n way f told).flatten
 | 0,told,hw,hf=>by
   refine ⟨by simp [zeb];omega,λi hi hti=>?_⟩;have:=zjs (p:=λi=>¬told i) hi hti;unfold zd6 at hf;omega
 | f+1,told,hw,hf=>by
   cases e:zgX n way told with
   | none=>
     have h0:zd6 n told=0:=by
       rcases qbx (zd6 n told) with h | h
       . exact h
       obtain ⟨i,hi⟩:=zn3 ht h;rw [e] at hi;cases hi
     refine ⟨by rw [ziB e];simp [h0],λi hi hti=>?_⟩;have:=zjs (p:=λi=>¬told i) hi hti;unfold zd6 at h0;omega
   | some a=>
     have ho:=zh1 e;obtain ⟨f',h1,h2,h3⟩:=ziC hf e;obtain rfl:f=f':=oo
     obtain ⟨i1,i2⟩:=zrp ht f (ziA way told a) (hw.more ht) h2;rw [h1];refine ⟨by rw [List.flatten_cons,qag,i1,zun hw ho.2.1];omega,λi hi hti=>?_⟩;rw [List.flatten_cons,qae];by_cases hp:zco way a i
     . exact .inl (zaH.2 ⟨hi,hp⟩)
     exact .inr (i2 i hi λh=>by
       rcases h with h | h
       . exact hti h
       exact hp h)
def zAE (hi:i<c.locks.length):i∈zED c:=
 (zrp (n:=c.locks.length) (way:=RP (nxL c)) (λ_ _ _=>RP.trans) c.locks.length (λ_=>False) Whole.start zlm).2 i hi id
def zEF {bs:(List UInt8)}  (h0:Is W0 v0 bs) (e0:Ext W0 w)  :
   CALL tp 7 [v0] w λr w'=>Ext w w'/\(r=.bool (decide ((1048576:Int)<bs.length))):=by
 refine co (g:=kf [] [] []) Tryz.func7 ?_;have g0:=zaj h0;refine zae u22 h0<|zcK<|⟨xrf w,?_⟩;rfl
def zhx {l1:(List Int)} {l2:(List Int)}  (h0:Is W0 v0 l1) (e0:Ext W0 w) (h1:Is W1 v1 l2) (e1:Ext W1 w)  :
   CALL tp 18 [v0,v1] w λr w'=>Ext w w'/\(r=.bool (decide (l1=l2))):=by
 refine co (g:=kf [] [(4,67106864,[5])] [(6,[0,1,2,3,4,5,6,7,8],0)]) Tryz.func18 ?_;have hl1:=zaj h0;have g1:=zaj h0;refine zae u33 h0 ?_;have g2:=zaj h1;refine zae u33 h1<|zaP<|br (λc1=>?_) (λc1=>?_)
 . refine ⟨xrf w,?_⟩
   have:l1≠l2:=λe=>c1 (by rw [e]);simp [this]
 refine zao (l1.length) (λk us w'=>us=[.int .i64 (k:Int)]/\Ext w w'/\(l1.take k=l2.take k)) (0) oo ⟨sS,xrf w,sS⟩ ?_;rintro k m4 uu4 g3 hk4 ⟨hu,y1,C⟩;try replace hu:=zbt hu
 try rw [hu]
 try clear hu
 have g0:=zaj h0;refine zae u33 h0<|zag<|br (λc2=>?_) (λc2=>?_)
 . have y2:=zah g3
   refine zad u33 ty3 h0 oo λb19 o19 g4=>zac ty3 g4 (e0.t (y1.t y2)) λg5=>zad u33 ty3 h1 oo λb23 o23 g9=>zac ty3 g9 (e1.trans (y1.t y2)) λgb=>zaP<|br (λc3=>?_) (λc3=>?_)
   . refine ⟨(y1.t y2),?_⟩
     have:l1≠l2:=λe=>c3 (by subst e;rfl);simp [this]
   refine zau<|⟨m4-1,oo,k+1,oo,sS,(y1.t y2),?_⟩;rw [tk oo,tk oo,C,qad.1 c3]
 refine ⟨y1,?_⟩;rw [qaf oo,qaf oo] at C;simp [C]
def zkS {l1:(List (List Int))} {l2:(List (List Int))}  (h0:Is W0 v0 l1) (e0:Ext W0 w) (h1:Is W1 v1 l2) (e1:Ext W1 w)  :
   CALL tp 25 [v0,v1] w λr w'=>Ext w w'/\(r=.bool (decide (l1=l2))):=by
 refine co (g:=kf [] [(4,134215728,[5])] [(6,[0,1,2,3,4,5,6,7,8,9],0)]) Tryz.func25 ?_;have hl1:=zaj h0;have g1:=zaj h0;refine zae u44 h0 ?_;have g2:=zaj h1;refine zae u44 h1<|zaP<|br (λc1=>?_) (λc1=>?_)
 . refine ⟨xrf w,?_⟩
   have:l1≠l2:=λe=>c1 (by rw [e]);simp [this]
 refine zao (l1.length) (λk us w'=>us=[.int .i64 (k:Int)]/\Ext w w'/\(l1.take k=l2.take k)) (0) oo ⟨sS,xrf w,sS⟩ ?_;rintro k m4 uu4 g3 hk4 ⟨hu,y1,C⟩;try replace hu:=zbt hu
 try rw [hu]
 try clear hu
 have g0:=zaj h0;refine zae u44 h0<|zag<|br (λc2=>?_) (λc2=>?_)
 . have y2:=zah g3
   refine zad u44 za4 h0 oo λb19 o19 g4=>zaa za4 g4 (e0.t (y1.t y2)) λv20 g5=>zad u44 za4 h1 oo λb23 o23 g9=>zaa za4 g9 (e1.trans (y1.t y2)) λv24 gb=>?_;refine (zhx g5 (e0.t (y1.t y2)) gb (e1.trans (y1.t y2))).mono ?_;rintro _ w3_ ⟨y3,rfl⟩;refine zav<|br (λc3=>?_) (λc3=>?_)
   . refine ⟨(y1.t (y2.t y3)),?_⟩
     have:l1≠l2:=λe=>c3 (by subst e;rfl);simp [this]
   refine zau<|⟨m4-1,oo,k+1,oo,sS,(y1.t (y2.t y3)),?_⟩;rw [tk oo,tk oo,C,qad.1 c3]
 refine ⟨y1,?_⟩;rw [qaf oo,qaf oo] at C;simp [C]
def zrq {l1:(List DRace)} {l2:(List DRace)}  (h0:Is W0 v0 l1) (e0:Ext W0 w) (h1:Is W1 v1 l2) (e1:Ext W1 w)  :
   CALL tp 23 [v0,v1] w λr w'=>Ext w w'/\(r=.bool (decide (l1=l2))):=by
 refine co (g:=kf [] [(4,67106864,[5])] [(6,[0,1,2,3,4,5,6,7,8],0)]) Tryz.func23 ?_;have hl1:=zaj h0;have g1:=zaj h0;refine zae u39 h0 ?_;have g2:=zaj h1;refine zae u39 h1<|zaP<|br (λc1=>?_) (λc1=>?_)
 . refine ⟨xrf w,?_⟩
   have:l1≠l2:=λe=>c1 (by rw [e]);simp [this]
 refine zao (l1.length) (λk us w'=>us=[.int .i64 (k:Int)]/\Ext w w'/\(l1.take k=l2.take k)) (0) oo ⟨sS,xrf w,sS⟩ ?_;rintro k m4 uu4 g3 hk4 ⟨hu,y1,C⟩;try replace hu:=zbt hu
 try rw [hu]
 try clear hu
 have g0:=zaj h0;refine zae u39 h0<|zag<|br (λc2=>?_) (λc2=>?_)
 . have y2:=zah g3
   refine zad u39 zd9 h0 oo λb19 o19 g4=>zaa zd9 g4 (e0.t (y1.t y2)) λv20 g5=>zad u39 zd9 h1 oo λb23 o23 g9=>zaa zd9 g9 (e1.trans (y1.t y2)) λv24 gb=>zl9 g5 gb<|br (λc3=>?_) (λc3=>?_)
   . refine ⟨(y1.t y2),?_⟩
     have:l1≠l2:=λe=>c3 (by subst e;rfl);simp [this]
   refine zau<|⟨m4-1,oo,k+1,oo,sS,(y1.t y2),?_⟩;rw [tk oo,tk oo,C,qad.1 c3]
 refine ⟨y1,?_⟩;rw [qaf oo,qaf oo] at C;simp [C]
def zrr  (h0:Is W0 v0 s1) (e0:Ext W0 w) (h1:Is W1 v1 s2) (e1:Ext W1 w)  :
   CALL tp 17 [v0,v1] w λr w'=>Ext w w'/\(r=.bool (decide (s1=s2))):=by
 refine co (g:=kf [] [] []) Tryz.func17 ?_;refine zat zc0 rfl h0 e0 λw1_ y1 g0 hV2=>zat zc0 rfl h1 (e1.trans y1) λg2 y2 g1 hV3=>zab zfh<|zaa za4 (zbQ g0) y2 λv6 h6=>zab zfh<|zaa za4 (zbQ g1) (xrf g2) λv8 h8=>?_;refine (zhx h6 y2 h8 (xrf g2)).mono ?_;rintro _ w3_ ⟨y3,rfl⟩;refine br (λc1=>?_) (λc1=>?_)
 . refine zab zdy ?_
   refine zaa za4 (zbR g0) (y2.t y3) λv12 g3=>zab zdy<|zaa za4 (zbR g1) y3 λv14 g4=>?_;refine (zhx g3 (y2.t y3) g4 y3).mono ?_;rintro _ w4_ ⟨y4,rfl⟩;refine br (λc2=>?_) (λc2=>?_)
   . refine zab zbj ?_
     refine zaa zeN (zaJ g0) (y2.t (y3.t y4)) λv19 g5=>zab zbj<|zaa zeN (zaJ g1) (y3.t y4) λv21 g9=>?_;refine (zkS g5 (y2.t (y3.t y4)) g9 (y3.t y4)).mono ?_;rintro _ w5_ ⟨y5,rfl⟩;refine ⟨(y1.t (y2.t (y3.t (y4.t y5)))),?_⟩;cases s1;cases s2;simp_all
   refine ⟨(y1.t (y2.t (y3.t y4))),?_⟩;cases s1;cases s2;simp_all
 refine ⟨(y1.t (y2.t y3)),?_⟩;cases s1;cases s2;simp_all
def zDk {t e:TypeId} {l:List Int} (ht:P.underlying t=some (.slice e)) (he:tyI P e=some (1,by_,false)) (hm:Mine G w u l) (hk:k<=l.length) (g4:l≠[])
   (kk:∀ b a cap v G',u=.slice (some ⟨b,a,none⟩) l.length cap->Mine G' w v (l.take k)->(∀ c∈G',c∈G)->(0<k->v=.slice (some ⟨b,a,none⟩) k cap)->K v):RD P (Instr.sliceAt t u none (some (.int .i64 (k:Int))) none) w K:=by
 obtain ⟨⟨cs,⟨a,cap,Fi,xs,rfl,h1,h2,hc,h4⟩,rfl⟩,hn,hw⟩:=hm;rcases h4 with ⟨h4,_⟩ | ⟨b,o,rfl,rfl,hr,hb⟩
 . exact absurd h4 g4
 have g5:=Cells.flat (xs:=xs) hc;subst g5
 have g9:∀ w',(Instr.sliceBounds true l.length cap none (some (.int .i64 (k:Int))) none).run P w'=.ok (0,k,cap) w':=λw'=>by
   have h5:(k:Int)<=(cap:Int):=oo
   simp [Instr.sliceBounds,Instr.sliceBound,asIntOf,h5];intro h6;omega
 have e0:l=l.take k++l.drop k:=by simp
 have g2:=hc;rw [e0] at g2;obtain ⟨F1,F2,x1,x2,gb,rfl,c1,c2⟩:=Cells.split g2;obtain ⟨rfl,rfl⟩:=qbK.1 gb.symm;have g3:(l.take k).length=k:=by simp;omega
 have g0:∃ v:Value,(∀ w',(Instr.sliceAt t (.slice (some ⟨b,o,none⟩) l.length cap) none (some (.int .i64 (k:Int))) none).run P w'=.ok v w')/\v=.slice (some ⟨b,o,none⟩) k cap:=by
   refine ⟨_,λw'=>?_,rfl⟩;simp only [Instr.sliceAt,Instr.slice,Sem.run_bind,run_underlying ht,Result.andThen_ok,g9,zaS he];simp [Addr.add_mid]
 obtain ⟨v,g1,rfl⟩:=g0;refine zbb (λw' _=>g1 w') ?_;by_cases h0:k=0
 . subst h0
   refine kk b o cap _ [] rfl ?_ sS (λh=>oo);have:l.take 0=[]:=by simp
   rw [this];exact ⟨⟨_,⟨some ⟨b,o,none⟩,cap,[],[],rfl,z0 _,h2,⟨rfl,rfl⟩,.inl ⟨rfl,rfl⟩⟩,rfl⟩,qaq,Wr.nil w⟩
 refine kk b o cap _ [b] rfl ?_ sS (λ_=>rfl);refine ⟨⟨_,⟨some ⟨b,o,none⟩,cap,[],x1,rfl,by rw [g3];omega,h2,c1,.inr ⟨b,o,rfl,rfl,(zaO hr).1,hb⟩⟩,by rw [g3];rfl⟩,sS,hw.sub sS⟩
def zvR {t:Int} (h0:Is W0 v0 c) (e0:Ext W0 w) (h1:Is W1 v1 s) (e1:Ext W1 w) (hc:CodeR c) (hs:zaE c s) (j3:GoR c s t) :
   CALL tp 59 [v0,v1,.int .i64 t] w λr w'=>Ext w w'/\Own w.heap.size w' r (zba c s t):=by
 obtain ⟨tn,rfl,gJ,jO,hl8,d9⟩:=zfF hs j3.1;have h8:=zh7 hs tn;have gf:0<=zbu s tn:=j3.1;have da:=qaN.2 jO;refine co (g:=⟨extL,[(30,91343852333181432387730302044767688659776309248,[11])],[],[(8,[0,1,2,3,4,5,6,7,8,9,10,11,12],1024),(15,[0,1,2,3,4,5,6,7,8,9,10,11,12,13,14,15,16,17],49152),(19,[0,1,2,3,4,5,6,7,8,9,10,11,12],768),(26,[0,1,2,3,4,5,6,7,8,9,10,11],0)],[],[15],[]⟩) Tryz.func59 ?_;refine za9 h0 e0 λw1 j9 h9=>za9 h1 (e1.trans j9) λw2 ha ja=>zb5 zxL λw3 gS jP=>?_;have hg3:=jP.lt;have hs1:=j9.size;have hs2:=ha.size;refine zaa zc0 ja gS λv12 db=>?_;refine (znP db gS (zpb hc hs)).mono ?_;rintro r13 w4 ⟨jQ,z,dc,hz⟩;have hs4:=jQ.size;refine zee (α:=DStV) zxL λw5 jb jR=>?_;have hs5:=jb.size;have hg5:=jR.lt;refine zbn zc0 jR (dc.ext jb) oo λw6 jS hb=>?_;have hs6:=jS.size;have gU:Ext w3 w6:=Ext.chgI (jQ.t jb) jS oo;have gh:z.stacks.l.map RV.l=s.stacks:=congrArg DState.stacks hz;have gx:tn<z.stacks.l.length:=by have:=congrArg List.length gh;simp at this;omega
 refine zab zbj<|zaa (α:=RIntss) zeN (zfq hb.at) (xrf w6) λv15 dd=>?_;obtain ⟨rfl,jT⟩:=znb dd;refine zad (α:=RInts) u44 za4 jT gx λb17 o17 jc=>zaa (α:=RInts) za4 jc (xrf w6) λv18 de=>?_;obtain ⟨rfl,jd⟩:=znb de;obtain ⟨x,hx⟩:∃ x,x=z.stacks.l[tn]:=⟨_,rfl⟩
 have gc:x.l=stk s tn:=by
   have e1:(z.stacks.l.map RV.l)[tn]?=s.stacks[tn]?:=by rw [gh]
   rw [List.getElem?_map,List.getElem?_eq_getElem gx,List.getElem?_eq_getElem gJ] at e1;have e2:=qaW e1;rw [hx,e2];exact zdZ (t:=(tn:Int)) (by simpa using gJ)
 rw [<-hx] at jd ⊢;refine zae u33 jd<|zbc (by unfold I64;rw [gc];omega) ?_;obtain ⟨top,hd⟩:∃ top:Nat,(x.l.length:Int)-1=top:=⟨x.l.length-1,by rw [gc];omega⟩;have je:top<x.l.length:=oo
 rw [hd];have jf:=xrf w6;have hs7:=jf.size;have g1:Ext w1 w6:=ha.t (gS.t gU);have gy:Ext w2 w6:=gS.t gU;refine zab zbj<|zla zeN (zfq hb.at) (xrf w6)<|zad (α:=RInts) u44 za4 jT gx λb24 o24 hf=>?_;rw [<-hx] at hf;refine zla za4 hf (xrf w6)<|zad u33 ty3 jd je λb26 o26 hh=>?_
 have jg:x.l[top]=zbu s tn:=by
   rw [zfE,d9,gc];congr 1;rw [gc] at hd;omega
 rw [jg] at hh;refine zac ty3 hh jf λdf=>zab zaM<|zaa zcQ (zak h9) g1 λv23 dg=>zaL u34 zcL dg j3.1 oo λb28 o28 hj=>?_;rw [zaz] at hj;refine zaa zcL hj g1 λv29 dh=>zck zqd rfl zcL rfl dh g1 λw8 jU X di=>?_;have hs8:=jU.size;have dj:=hc.f.ins;refine zc1 (by unfold I64;omega) ?_;have hR:=zi8 hc hs j3.1;obtain ⟨I,hI⟩:∃ I,I=atI c s tn:=⟨_,rfl⟩;have X:At w8 w6.heap.size 0 I:=by rw [hI];exact X
 have U:=jf.t jU;have g9:VarI w3.heap.size w8.heap.size w8 w4.heap.size z:=(hb.ext U).mono (lr _) oo;have Y:Ext w3 w8:=gU.t U
 have gz:∀ (zz:DState) (w9:World),Ext w3 w9->VarI w3.heap.size w9.heap.size w9 w4.heap.size zz->zz=zba c s tn ->
     RD tp (Instr.loadAt 46 (.pointer (some ⟨w4.heap.size,0,none⟩))) w9 λjh=>OPU tp (Instr.storeAt 46 (.pointer (some ⟨w2.heap.size,0,none⟩)) jh) w9 λw'=>
       RD tp (zfN 46 (.pointer (some ⟨w2.heap.size,0,none⟩))) w' λr6=>Ext w w'/\Own w.heap.size w' r6 (zba c s tn):=by
   intro zz w9 D j4 he;have hk:=D.size;refine zdb zc0 j4 (xrf w9) λdk gV=>?_;obtain ⟨a,b,c',rfl⟩:=zEt gV;refine zcg (α:=DState) zc0 rfl (jP.ext D) rfl gV λg0 gi ji=>zeI ji zc0<|⟨Ext.chgI (j9.t (ha.t (gS.t D))) gi oo,?_⟩;have:=gV.chg gi oo;rw [he] at this;exact this.own.mono oo
 refine JOIN.mk (λus w'=>us=[.int .i64 (zcy c s tn)]/\Ext w3 w'/\∃ z':DStV,VarI w3.heap.size w'.heap.size w' w4.heap.size z'/\z'.vars=(zaQ c s tn).vars/\z'.owner=(zaQ c s tn).owner/\z'.stacks.l.map RV.l=(zaQ c s tn).stacks/\z'.stacks.l[tn]?=some x/\(I.op≠4/\I.op≠9)) ?_ ?_
 . refine zab zbp ?_
   refine zac ty3 (zaw X) (xrf w8) λ_=>?_;have gC:z.vars=s.vars:=congrArg DState.vars hz;have gj:z.owner=s.owner:=congrArg DState.owner hz;have gW:z.stacks.l[tn]?=some x:=by rw [List.getElem?_eq_getElem gx,hx]
   have gD:∀ w9,Ext w8 w9->(I.op≠1/\I.op≠4/\I.op≠5/\I.op≠6/\I.op≠7/\I.op≠9)->∃ z':DStV,VarI w3.heap.size w9.heap.size w9 w4.heap.size z'/\z'.vars=(zaQ c s tn).vars/\z'.owner=(zaQ c s tn).owner/\z'.stacks.l.map RV.l=(zaQ c s tn).stacks/\z'.stacks.l[tn]?=some x/\(I.op≠4/\I.op≠9):=by
     rintro w9 D ⟨q1,q4,q5,q6,q7,q9⟩;have he:zaQ c s tn=s:=by unfold zaQ;rw [<-hI,if_neg q1,if_neg q5,if_neg q6,if_neg q7]
     rw [he];exact ⟨z,(g9.ext D).mono (lr _) D.size,gC,gj,gh,gW,q4,q9⟩
   have gK:I.op≠2->I.op≠3->zcy c s tn=zbu s tn+1:=λq2 q3=>by unfold zcy;rw [<-hI,if_neg q2,if_neg q3]
   refine zai<|br (λq1=>?_) (λq1=>?_)
   . have D:=zah w8
     have hk:=D.size;have gM:=g9.lt;obtain ⟨g2,g3⟩:=zxV hc hs gf (hI▸q1);rw [<-hI] at g2 g3;obtain ⟨ar,g5⟩:∃ ar:Nat,I.arg=ar:=⟨I.arg.toNat,oo⟩;have Z:ar<z.vars.length:=by rw [gC];omega
     obtain ⟨u,b,a,cap,hr,jj,hu,hl⟩:=ztX (g9.ext D) oo Z;refine zab zfh<|zcD za4 hr<|zab za8<|zac ty3 (zaq X) D λ_=>zab zeP<|zaa zdj (zcd X) D λdl jk=>zab zdI<|zaa zcv (zbm h9) (g1.t (U.t D)) λdm jl=>zab zfh<|zaa za4 (zbQ ja) (gy.t (U.t D)) λdn jm=>?_
     have jn:zbk 6 I.term=true:=by
       have:=hR.2.2.1;rw [<-hI,if_pos (.inl q1)] at this;exact this.1
     refine (zjb jk D jl (g1.t (U.t D)) jm (gy.t (U.t D)) jn).mono ?_;rintro _ g0 ⟨V,rfl⟩;refine ⟨V,?_⟩;have gE:=V.size;rw [g5];refine zdd u33 ty3 hu Z ?_;have hwr:=zdG c.globals s.vars 6 I.term;refine hl g0 V _ (by unfold I64;omega) _ λgF O gb=>?_;have gl:=O.size;have C:zaQ c s tn=⟨s.vars.set I.arg.toNat (workT c.globals s.vars 6 I.term),s.owner,s.stacks⟩:=by unfold zaQ;rw [<-hI,if_pos q1]
     refine ⟨by rw [gK oo oo],Ext.chgI ((Y.t D).trans V) O oo,_,gb.mono (lr _) oo,?_,?_,?_,gW,oo,oo⟩
     . rw [C,gC,g5];rfl
     . rw [C];exact gj
     rw [C];exact gh
   refine zai<|br (λq2=>?_) (λq2=>?_)
   . refine zab zeP ?_
     refine zaa zdj (zcd X) (xrf w8) λdl jk=>zab zdI<|zaa zcv (zbm h9) (g1.t U) λdm jl=>zab zfh<|zaa za4 (zbQ ja) (gy.t U) λdn jm=>?_
     have jn:zbk 6 I.term=true:=by
       have:=hR.2.2.1;rw [<-hI,if_pos (.inr q2)] at this;exact this.1
     refine (zjb jk (xrf w8) jl (g1.t U) jm (gy.t U) jn).mono ?_;rintro _ w9 ⟨D,rfl⟩;refine zai<|br (λq=>?_) (λq=>?_)
     . refine zab zea ?_
       refine zac ty3 (zb3 X) D λ_=>⟨by unfold zcy;rw [<-hI,if_pos q2,if_pos q],Y.t D,gD w9 D oo⟩
     exact ⟨by unfold zcy;rw [<-hI,if_pos q2,if_neg q],Y.t D,gD w9 D oo⟩
   refine zai<|br (λq3=>?_) (λq3=>?_)
   . refine zab zea ?_
     refine zac ty3 (zb3 X) (xrf w8) λ_=>⟨by unfold zcy;rw [<-hI,if_neg q2,if_pos q3],Y,gD w8 (xrf w8) oo⟩
   have hn:=gK q2 q3;refine zai<|br (λq4=>?_) (λq4=>?_)
   . have D:=zah w8
     have hk:=D.size;have gM:=g9.lt;obtain ⟨g2,g3⟩:=zhQ hc hs gf (.inl (hI▸q4));rw [<-hI] at g2 g3;obtain ⟨ar,g5⟩:∃ ar:Nat,I.arg=ar:=⟨I.arg.toNat,oo⟩;obtain ⟨F,hO,hF⟩:=hb.ext (U.t D);have h5:=hO.lts;obtain ⟨G1,gg⟩:=zdn (Lens.var hO);obtain ⟨b2,a2,hq,G2,j5,jo,gd⟩:=gg.elemV gx;rw [<-hx] at gd;obtain ⟨jV,⟨rfl,_⟩,gt,_,_,dp,_⟩:=gg.here;obtain ⟨cs,⟨rfl,gX⟩,jp,jq,_,dq,_⟩:=gd.here
     have jr:∀ c∈G2,c∈F:=λc M=>by
       rcases qaa.1 (gd.sub c (by simp [M])) with rfl | h
       . exact absurd (jo _ (by simp [M])) dp
       exact h
     have ht:∀ c∈G2,w3.heap.size<=c/\c<w4.heap.size:=λc M=>hF c (jr c M);have hv:∀ c,c∈G2->w3.heap.size<=c:=λc M=>(ht c M).1;have g4:=Y.t D;refine XR.mk (λc=>c∈G2)<|zfp zbj<|zfD zeN gt (λh=>by have:=ht _ h;omega)<|zfp zbj<|zfD zeN gt (λh=>by have:=ht _ h;omega)<|zdY (w0:=w3) hv g4<|zdd u44 za4 j5 gx<|zfD za4 jp dq<|zfp zbi<|zdY (w0:=w3) hv g4<|zaa za4 (zar h9) (ha.t gS) λv74 dr=>zfp za8<|zfD ty3 (zbI (zxx (zaq X)) D) (λh=>by have:=ht _ h;omega) ?_;rw [g5];refine zdY (w0:=w3) hv g4<|zad u33 ty3 dr oo λb77 o77 hw=>?_;rw [zbx] at hw;refine zdY (w0:=w3) hv g4<|zac ty3 hw (ha.t gS) λjs=>zdD (β:=Int) (G:=G2) u33 ty3 z3 zc3 qd gX jq (zbA js) sS (by rw [zal,gc];omega) (by rw [gc];omega) (λg0 v80 gF G' V O jt ju gl=>?_) λsv g0 V jv=>⟨V.toX,jv⟩;refine ⟨O.toX (λc h=>h),?_⟩;have gE:=V.size;have jW:=O.size;have gN:Chg G2 (World.drew1 w8) gF:=(V.chg G2).trans O;have hy:Ext w3 gF:=Ext.chgI g4 (gN.toI (lo:=w3.heap.size) (hi:=w4.heap.size) ht) (lr _);refine zdY (w0:=w3) hv hy<|zdd u44 za4 j5 gx<|zhN za4 gd h5 gN jt ju (λc M=>?_) λj6 gG ⟨F',gp,hB⟩=>?_
     . rcases gl c M with h | h | h
       . exact .inl h
       . simp at h
       exact .inr h
     have hC:=gG.size
     have hD:ChgI w3.heap.size w8.heap.size (World.drew1 w8) j6:=gG.toI λc M=>by
       have:=gd.sub c M;rcases qaa.1 this with rfl | h
       . exact ⟨oo,gM⟩
       have:=hF c h;omega
     refine gz _ j6 (Ext.chgI g4 hD (lr _)) (zpc ⟨F',gp,λc M=>?_⟩) ?_
     . have h1:=gp.lts c (by simp [M])
       rcases hB c M with h | h
       . rcases qaa.1 h with rfl | h
         . obtain ⟨_,_,_,_,_,hG,_⟩:=gp;exact absurd M hG
         have:=hF c h;omega
       omega
     unfold zba DStV.er;have e1:((tn:Int)).toNat=tn:=oo
     rw [<-hI,if_pos q4];simp only [DState.mk.injEq,gC,gj,true_and];rw [qcg,gh,gc,e1,g5,qah]
   refine zai<|br (λq5=>?_) (λq5=>?_)
   . have gM:=g9.lt
     obtain ⟨g2,g3⟩:=zhQ hc hs gf (.inr (hI▸q5));rw [<-hI] at g2 g3;obtain ⟨ar,g5⟩:∃ ar:Nat,I.arg=ar:=⟨I.arg.toNat,oo⟩;have gq:z.stacks.l.length=s.stacks.length:=by have:=congrArg List.length gh;simpa using this
     refine zab zbj<|zaa (α:=RIntss) zeN (zfq g9.at) (xrf w8) λv86 ds=>?_;obtain ⟨rfl,dt⟩:=znb ds;refine zae u44 dt ?_;rw [gq];refine zag<|br (λqq=>?_) (λqq=>?_)
     . have D:=zah w8
       have hk:=D.size;obtain ⟨F,hO,hF⟩:=g9.ext D;have h5:=hO.lts;obtain ⟨G1,gg⟩:=zdn (Lens.var hO);refine zab zbj<|zla zeN (zfq g9.at) D<|zab zbi<|zaa za4 (zar h9) (g1.t (U.t D)) λv92 du=>zab za8<|zac ty3 (zaq X) D λ_=>?_;rw [g5];refine zad u33 ty3 du oo λb95 o95 hH=>?_;rw [zbx] at hH;refine zac ty3 hH (g1.t (U.t D)) λjw=>zb7 (β:=Int) u33 ty3 z3 qd (zbA jw) λv97 g0 V dv=>⟨V,?_⟩;have gE:=V.size;obtain ⟨GX,dw,jX⟩:=zjY dv;obtain ⟨cs,⟨rfl,gX⟩,_,jq,_⟩:=gg.here;have hJ:∀ c∈G1,c<(World.drew1 w8).heap.size:=λc M=>h5 c (gg.sub c (by simp [M]));refine zdD (β:=RInts) (G:=G1) (w:=g0) u44 za4 z33 zBG qd (gX.keep λc M=>V.heap (hJ c M)) jq dw (λc M hg=>by have:=jX c M;have:=hJ c hg;omega) (by rw [zal,gq];omega) (by rw [gq];omega) (λgF v99 j6 G' gY hK jx jy hC=>?_) λsv gF gY jv=>⟨gY,jv⟩;have gG:Chg G1 g0 j6:=(gY.chg G1).trans hK;refine zab zbj<|zhN zeN gg h5 ((V.chg G1).trans gG) jx jy (λc M=>?_) λdx hL ⟨F',gp,hB⟩=>?_
       . rcases hC c M with h | h | h
         . exact .inl h
         . exact .inr (jX c h).1
         exact .inr oo
       have dz:=hL.size
       have hD:ChgI w3.heap.size w8.heap.size (World.drew1 w8) dx:=hL.toI λc M=>by
         have:=gg.sub c M;rcases qaa.1 this with rfl | h
         . exact ⟨oo,gM⟩
         exact hF c h
       have C:zaQ c s tn=⟨s.vars,s.owner,s.stacks++[[en c I.arg.toNat]]⟩:=by unfold zaQ;rw [<-hI,if_neg q1,if_pos q5,if_pos oo]
       refine ⟨by rw [hn],Ext.chgI (Y.t D) hD (lr _),_,⟨F',gp,λc M=>?_⟩,?_,?_,?_,?_,oo,oo⟩
       . have h1:=gp.lts c (by simp [M])
         rcases hB c M with h | h
         . rcases qaa.1 h with rfl | h
           . obtain ⟨_,_,_,_,_,hG,_⟩:=gp;exact absurd M hG
           have:=hF c h;omega
         omega
       . rw [C];exact gC
       . rw [C];exact gj
       . rw [C]
         simp only [qa6,qbC,qb4,gh,g5,qah]
       show (z.stacks.l++_)[tn]?=some x;rw [List.getElem?_append_left gx];exact gW
     have C:zaQ c s tn=s:=by unfold zaQ;rw [<-hI,if_neg q1,if_pos q5,if_neg oo]
     refine ⟨by rw [hn],Y,z,g9,?_,?_,?_,gW,oo,oo⟩
     . rw [C];exact gC
     . rw [C];exact gj
     rw [C];exact gh
   refine zai<|br (λq6=>?_) (λq6=>?_)
   . have gM:=g9.lt
     obtain ⟨g2,g3⟩:=zdv hc hs gf (.inl (hI▸q6));rw [<-hI] at g2 g3;obtain ⟨ar,g5⟩:∃ ar:Nat,I.arg=ar:=⟨I.arg.toNat,oo⟩;have Z:ar<z.owner.length:=by rw [gj];omega
     obtain ⟨u,b,a,cap,hr,jj,hu,hl⟩:=zjc g9 oo Z;refine zab zdy<|zcD za4 hr<|zab za8<|zac ty3 (zaq X) (xrf w8) λ_=>?_;rw [g5];refine zdd u33 ty3 hu Z ?_;have jY:=hs.2.2.1;refine hl w8 (xrf w8) _ (by unfold I64;omega) _ λgF O gb=>?_;have gl:=O.size;have C:zaQ c s tn=⟨s.vars,s.owner.set I.arg.toNat tn,s.stacks⟩:=by unfold zaQ;rw [<-hI,if_neg q1,if_neg q5,if_pos q6]
     refine ⟨by rw [hn],Ext.chgI Y O oo,_,gb.mono (lr _) oo,?_,?_,?_,gW,oo,oo⟩
     . rw [C];exact gC
     . rw [C,gj,g5];rfl
     rw [C];exact gh
   refine zai<|br (λq7=>?_) (λq7=>?_)
   . have gM:=g9.lt
     obtain ⟨g2,g3⟩:=zdv hc hs gf (.inr (hI▸q7));rw [<-hI] at g2 g3;obtain ⟨ar,g5⟩:∃ ar:Nat,I.arg=ar:=⟨I.arg.toNat,oo⟩;have Z:ar<z.owner.length:=by rw [gj];omega
     obtain ⟨u,b,a,cap,hr,jj,hu,hl⟩:=zjc g9 oo Z;refine zab zdy<|zcD za4 hr<|zab za8<|zac ty3 (zaq X) (xrf w8) λ_=>?_;rw [g5];refine zad u33 ty3 jj Z λdA dB hM=>zac ty3 hM (xrf w8) λ_=>?_
     have dC:z.owner[ar]=ow s I.arg:=by
       have:ar<s.owner.length:=by rw [<-gj];exact Z
       rw [g5,<-zqI this];congr 1
     rw [dC];refine zai<|br (λqq=>?_) (λqq=>?_)
     . refine zab zdy ?_
       refine zcD za4 hr<|zab za8<|zac ty3 (zaq X) (xrf w8) λ_=>?_;rw [g5];refine zdd u33 ty3 hu Z<|hl w8 (xrf w8) _ (by unfold I64;omega) _ λgF O gb=>?_;have gl:=O.size;have C:zaQ c s tn=⟨s.vars,s.owner.set I.arg.toNat (-1),s.stacks⟩:=by unfold zaQ;rw [<-hI,if_neg q1,if_neg q5,if_neg q6,if_pos q7,if_pos qq]
       refine ⟨by rw [hn],Ext.chgI Y O oo,_,gb.mono (lr _) oo,?_,?_,?_,gW,oo,oo⟩
       . rw [C];exact gC
       . rw [C,gj,g5];rfl
       rw [C];exact gh
     have C:zaQ c s tn=s:=by unfold zaQ;rw [<-hI,if_neg q1,if_neg q5,if_neg q6,if_pos q7,if_neg qq]
     refine ⟨by rw [hn],Y,z,g9,?_,?_,?_,gW,oo,oo⟩
     . rw [C];exact gC
     . rw [C];exact gj
     rw [C];exact gh
   refine zai<|br (λq9=>?_) (λq9=>?_)
   . have D:=zah w8
     have hk:=D.size;have gM:=g9.lt;have g4:=Y.t D;obtain ⟨F,hO,hF⟩:=hb.ext (U.t D);have h5:=hO.lts;obtain ⟨G1v,hN⟩:=zdn (Lens.var hO);obtain ⟨dD,dE,jZ,G2v,jz,hP,hQ⟩:=hN.elemV gx;rw [<-hx] at hQ;obtain ⟨jV,⟨rfl,_⟩,jA,_,_,jB,_⟩:=hN.here;obtain ⟨dF,⟨rfl,hS⟩,gZ,_,_,_,hV⟩:=hQ.here;have dG:OAt F (World.drew1 w8) w4.heap.size 0 s:=by have:=zxU hO;rwa [hz] at this
     obtain ⟨G1,gg⟩:=zeU (Lens.var dG);obtain ⟨_,_,_,_,_,dH,_⟩:=gg.here;obtain ⟨u1,b2,a2,hq,G2,gt,dI,gO,gd⟩:=gg.elem gJ;have hu:u1=z.stacks.v:=zdo gt jA;refine zab zbj<|zcD zeN gt<|zab zbj<|zcD zeN gt<|zdd u44 za4 gO gJ ?_
     have dJ:b2=dD/\a2=dE:=by
       rw [hu,jz] at gO;simp only [Value.slice.injEq,qak,Addr.mk.injEq] at gO;exact ⟨gO.1.1.symm,gO.1.2.1.symm⟩
     obtain ⟨rfl,rfl⟩:=dJ;obtain ⟨ux,d0,dK,dL,_⟩:=gd.row;obtain ⟨_,_,_,_,_,hW,_⟩:=gd.here;have dM:ux=x.v:=zdo dK gZ;have d1:s.stacks[tn]=x.l:=by rw [gc];exact zdZ (t:=(tn:Int)) (by simpa using gJ)
     rw [dM,d1] at d0;refine zcD za4 gZ<|zDk u33 ty3 d0 oo (by rw [gc];exact jO) λbx ax dN gH G' hxv j7 jC dO=>zdd u44 za4 gO gJ ?_;have gP:b2∉G':=λh=>hW (jC _ h);have jD:b2≠w4.heap.size:=λe=>jB (e▸hP b2 sS);have gQ:=zb2 rfl j7.own;have hX:gH.oneCell'=true:=Rep.one gQ gH sS;refine zlb za4 hV gZ hS.one hX λg0 h6 h4=>?_;have gr:∀ c∈G',g0.heap[c]?=(World.drew1 w8).heap[c]?:=λc M=>h6.chg.block c (j7.lt c M) (by simp;exact λe=>gP (e▸M));obtain ⟨cb,eb,dP⟩:=hV;obtain ⟨dQ,jE,_⟩:=h6.cell cb eb dP;have dR:OAt G' g0 b2 (a2+tn*Rep.size (List Int)) (x.l.take top):=⟨[gH],Rep.keep gQ gr,h4,j7.nodup,j7.wr.keep gr,gP,dQ,eb,jE⟩;have hY:g0.heap[w4.heap.size]?=(World.drew1 w8).heap[w4.heap.size]?:=h6.chg.block _ (h5 _ sS) (by simp;exact λe=>jD e.symm);obtain ⟨F',gp,hB⟩:=gd.back g0 G' (x.l.take top) (h6.mono (lr _) (lr _) sS) dR (λc M=>.inl (jC c M));have gE:=h6.chg.size
     have d2:∀ c∈F',w3.heap.size<=c/\c<w4.heap.size:=λc M=>by
       have dT:c∈w4.heap.size :: F:=by
         rcases hB c M with h | h
         . exact h
         exact dL c (jC c h)
       rcases qaa.1 dT with rfl | h
       . obtain ⟨_,_,_,_,_,hG,_⟩:=gp;exact absurd M hG
       exact hF c h
     have jF:b2∈w4.heap.size :: F:=gd.sub b2 sS
     have hD:ChgI w3.heap.size w8.heap.size (World.drew1 w8) g0:=h6.chg.toI λc M=>by
       simp only [qaa,qac,or_false] at M;subst M;rcases qaa.1 jF with h | h
       . rw [h];exact ⟨oo,gM⟩
       have:=hF _ h;omega
     have gR:Ext w3 g0:=Ext.chgI g4 hD (lr _);have e1:((tn:Int)).toNat=tn:=oo
     have hZ:x.l.length=top+1:=oo
     have d3:top<8:=by have h:=je;rw [gc] at h;omega
     refine zcK<|br (λhp=>?_) (λhp=>?_)
     . refine zab zbj ?_
       refine zcD zeN (zbo gt hY)<|zdd u44 za4 gO gJ<|zcD za4 h4<|zbc (by unfold I64;omega) ?_;obtain ⟨tp,dU⟩:∃ tp:Nat,(top:Int)-1=tp:=⟨top-1,oo⟩;rw [dU];obtain ⟨G1',jG⟩:=zeU (Lens.var gp);have j0:tn<(s.stacks.set tn (x.l.take top)).length:=by simpa using gJ
       obtain ⟨dV,dW,dX,d4,G2',jH,_,gI,j1⟩:=jG.elem j0;have dY:dV=u1:=zdo jH (zbo gt hY)
       have jI:dW=b2/\dX=a2:=by
         rw [dY,gO] at gI;simp only [Value.slice.injEq,qak,Addr.mk.injEq] at gI;exact ⟨gI.1.1.symm,gI.1.2.1.symm⟩
       obtain ⟨rfl,rfl⟩:=jI;have dZ:(s.stacks.set tn (x.l.take top))[tn]'j0=x.l.take top:=qcw ..;simp only [dZ] at j1;obtain ⟨uy,z1,z6,d5,G3',z7,z8,j8,j2⟩:=j1.elem (k:=tp) (by simp;omega);have jJ:uy=gH:=zdo z7 h4;have gs:=dO oo
       have za:z1=bx/\z6=ax:=by
         rw [jJ,gs] at j8;simp only [Value.slice.injEq,qak,Addr.mk.injEq] at j8;exact ⟨j8.1.1.symm,j8.1.2.1.symm⟩
       obtain ⟨rfl,rfl⟩:=za;refine zdd u33 ty3 gs (k:=tp) oo ?_
       have jK:(x.l.take top)[tp]'(by simp;omega)=st x.l tp:=by
         rw [qcr,zfE]
       refine zac ty3 j2.here.at (xrf g0) λd6=>?_;rw [jK]
       have zb:0<=st x.l tp/\st x.l tp<c.ins.length:=by
         have jL:=hs.2.2.2.2.2 x.l (by rw [<-d1];exact qab _);exact jL.2.1 tp oo
       refine zc1 (by unfold I64;omega)<|zdd u33 ty3 gs (k:=tp) oo ?_;have d7:w4.heap.size<g0.heap.size:=oo
       refine zhM (α:=DState) (lo:=w3.heap.size) (hi:=g0.heap.size) ty3 j2 (λc M=>by have:=d2 c M;omega) oo (zbA (x:=st x.l tp+1) (by unfold I64;omega)) λgF O gb=>?_;have gl:=O.size;refine gz _ gF (Ext.chgI gR O (lr _)) (gb.mono (lr _) oo) ?_;unfold zba;rw [<-hI,if_neg q4,if_pos q9];simp only [DState.mk.injEq,true_and,e1,qda];congr 1;unfold zeR;rw [<-gc,hZ,if_neg oo,show top+1-1=top by omega,show top+1-2=tp by omega]
     refine gz _ g0 gR ⟨F',gp,λc M=>by have:=d2 c M;omega⟩ ?_;unfold zba;rw [<-hI,if_neg q4,if_pos q9];simp only [DState.mk.injEq,true_and,e1];congr 1;unfold zeR;have zc:top=0:=oo
     subst zc;rw [<-gc,hZ];simp
   exact ⟨by rw [hn],Y,gD w8 (xrf w8) oo⟩
 rintro uj w9 ⟨hu,D,z',j4,zd,ze,zf,zg,zh,zi⟩;try replace hu:=zbt hu
 rw [hu];have hk:=D.size;obtain ⟨j0,zj⟩:=List.getElem?_eq_some_iff.1 zg;have hg9:=j4.lt;obtain ⟨F,hO,hF⟩:=j4;obtain ⟨G1,gg⟩:=zdn (Lens.var hO);obtain ⟨b2,a2,hq,G2,j5,_,gd⟩:=gg.elemV j0;rw [zj] at gd;obtain ⟨jV,⟨rfl,_⟩,gt,_⟩:=gg.here;obtain ⟨dF,⟨rfl,_⟩,jp,_⟩:=gd.here;refine zab zbj<|zcD zeN gt<|zdd u44 za4 j5 j0<|zcD za4 jp<|ztK (e:=3) u33 ty3 gd je λb3 o3 G3 zk=>?_
 have jM:I64 (zcy c s tn):=by
   have d8:I.op=2\/I.op=3->I64 I.to:=λh=>by
     have:=hR.2.2.2;rw [<-hI,if_pos h] at this;obtain ⟨i,hi,_,_,zl⟩:=hc.f.find hc.1.procs8.2 gf h8.2;have h1:=hc.f.nonneg hi;have h2:=(hc.f.lt i hi).2;rw [zl,zdU,qah] at this;unfold I64;omega
   unfold zcy;rw [<-hI];split
   . split
     . exact d8 (.inl aA)
     unfold I64;omega
   split
   . exact d8 (.inr aA)
   unfold I64;omega
 refine zhM ty3 zk hF oo (zbA jM) λg0 gi jN=>?_;have gE:=gi.size;refine gz _ g0 (Ext.chgI D gi (lr _)) (zpc (jN.mono (lr _) oo)) ?_;unfold zba DStV.er;rw [<-hI,if_neg zh,if_neg zi];simp only [DState.mk.injEq,zd,ze,true_and];have e1:((tn:Int)).toNat=tn:=oo
 have e2:(stk s tn).length-1=top:=by rw [<-gc];omega
 rw [qcg,zf,gc,e1,e2]
def zjw (h:Is W v s) (e:Ext W w) (hsz:zCV s) :
   CALL tp 77 [v] w λr w'=>Ext w w'/\Own w.heap.size w' r s:=
 (zkH h e hsz).mono λr w' ⟨hx,z,ho,hz⟩=>⟨hx,hz▸(zxT ho).own⟩
def zsU (h:Is W v s) (e:Ext W w) (hsz:zCV s) :
   CALL tp 79 [v] w λr w'=>Ext w w'/\Own w.heap.size w' r s:=
 (znP h e hsz).mono λr w' ⟨hx,z,ho,hz⟩=>⟨hx,hz▸(zxT ho).own⟩
def zjx (c:DCode) (s:DState) (t:Int):DState:=if (CodeR c/\zaE c s)/\GoR c s t then zba c s t else s
def zpH {t:Int}  (h0:Is W0 v0 c) (e0:Ext W0 w) (h1:Is W1 v1 s) (e1:Ext W1 w) (hz:zCV s) :
   CALL tp 35 [v0,v1,.int .i64 t] w λr w'=>Ext w w'/\(∃ a,r=.tuple #[a,.bool (decide ((CodeR c/\zaE c s)/\GoR c s t))]/\Own w.heap.size w' a (zjx c s t)):=by
 refine co (g:=kf [] [] []) Tryz.func35 ?_;have σe0:=e0.size;have σe1:=e1.size;refine zat zbq rfl h0 e0 λw1_ y1 hA3 g5=>?_;have σ1:=y1.size;refine zat zc0 rfl h1 (e1.trans y1) λw2_ y2 hA4 U=>?_;have σ2:=y2.size;refine zee (α:=DState) zFf λw3_ y3 g2=>?_;have hg6:=g2.lt;have σ3:=y3.size;refine zaF g5 (y2.t y3)<|zaF U y3 ?_;refine (zer h0 (e0.t (y1.t (y2.t y3))) h1 (e1.trans (y1.t (y2.t y3)))).mono ?_;rintro _ w4_ ⟨y4,rfl⟩;have σ4:=y4.size;refine zav<|br (λc1=>?_) (λc1=>?_)
 . refine zaF U (y3.t y4) ?_
   refine (zjw h1 (e1.trans (y1.t (y2.t (y3.t y4)))) aA).mono ?_;rintro gl gc ⟨y5,I⟩;have I:=I.toI;have σ5:=y5.size;refine zbn zc0 (g2.ext (y4.t y5)) (I.ext (xrf gc)) oo λgd M hv6_s6=>?_;have gf:=M.size;have o20_c6:=(I.ext (xrf gc)).chg M oo;refine zce zc0 hv6_s6 (xrf gd) λr6 C=>?_
   replace C:=C.ext (xrf gd)
   refine ⟨(Ext.chgI ((((y1.t y2).trans y3).trans y4).trans y5) M oo),?_⟩;rw [decide_eq_false λh=>c1 h.1,show zjx c s t=s from if_neg λh=>c1 h.1];exact ⟨_,rfl,C.own.mono oo⟩
 have g3:=qad.1 c1;have hc:=g3.1;have hs:=g3.2;refine zaF g5 (y2.t (y3.t y4))<|zaF U (y3.t y4) ?_;refine (zxQ h0 (e0.t (y1.t (y2.t (y3.t y4)))) h1 (e1.trans (y1.t (y2.t (y3.t y4)))) aA aA).mono ?_;rintro _ w7_ ⟨y7,rfl⟩;have σ7:=y7.size;refine zav<|br (λc2=>?_) (λc2=>?_)
 . refine zaF U (y3.t (y4.t y7)) ?_
   refine (zjw h1 (e1.trans (y1.t (y2.t (y3.t (y4.t y7))))) aA).mono ?_;rintro gl gg ⟨y8,I⟩;have I:=I.toI;have σ8:=y8.size;refine zbn zc0 (g2.ext (y4.t (y7.t y8))) (I.ext (xrf gg)) oo λgh O hv6_s9=>?_;have gi:=O.size;have o20_c9:=(I.ext (xrf gg)).chg O oo;refine zce zc0 hv6_s9 (xrf gh) λr6 C=>?_
   replace C:=C.ext (xrf gh)
   refine ⟨(Ext.chgI (((((y1.t y2).trans y3).trans y4).trans y7).trans y8) O oo),?_⟩;rw [decide_eq_false λh=>c2 h.2,show zjx c s t=s from if_neg λh=>c2 h.2];exact ⟨_,rfl,C.own.mono oo⟩
 have gj:=qad.1 c2;refine zaF g5 (y2.t (y3.t (y4.t y7)))<|zaF U (y3.t (y4.t y7)) ?_;refine (zvi h0 (e0.t (y1.t (y2.t (y3.t (y4.t y7))))) h1 (e1.trans (y1.t (y2.t (y3.t (y4.t y7))))) aA aA aA).mono ?_;rintro r24 g0 ⟨g9,g4⟩;have g4:=g4.toI;have σ10:=g9.size;refine zbn zc0 (g2.ext (y4.t (y7.t g9))) (g4.ext (xrf g0)) oo λg1 D hv6_s11=>?_;have gb:=D.size;have o24_c11:=(g4.ext (xrf g0)).chg D oo;refine zce zc0 hv6_s11 (xrf g1) λr6 C=>?_
 replace C:=C.ext (xrf g1)
 refine ⟨(Ext.chgI (((((y1.t y2).trans y3).trans y4).trans y7).trans g9) D oo),?_⟩;rw [decide_eq_true ⟨g3,gj⟩,show zjx c s t=zba c s t from if_pos ⟨g3,gj⟩];exact ⟨_,rfl,C.own.mono oo⟩
def zpI {t:Int}  (h0:Is W0 v0 c) (e0:Ext W0 w) (h1:Is W1 v1 s) (e1:Ext W1 w) (hz:zCV s) :
   CALL tp 36 [v0,v1,.int .i64 t] w λr w'=>Ext w w'/\(∃ a,r=.tuple #[a,.bool (decide ((CodeR c/\zaE c s)/\GoR c s t))]/\Own w.heap.size w' a (zjx c s t)):=by
 refine co (g:=kf [] [] []) Tryz.func36 ?_;have σe0:=e0.size;have σe1:=e1.size;refine zat zbq rfl h0 e0 λw1_ y1 hA3 g4=>?_;have σ1:=y1.size;refine zat zc0 rfl h1 (e1.trans y1) λw2_ y2 hA4 g2=>?_;have σ2:=y2.size;refine zee (α:=DState) zFf λw3_ y3 g3=>?_;have hg6:=g3.lt;have σ3:=y3.size;refine zaF g4 (y2.t y3)<|zaF g2 y3 ?_;refine (zqJ h0 (e0.t (y1.t (y2.t y3))) h1 (e1.trans (y1.t (y2.t y3)))).mono ?_;rintro _ w4_ ⟨y4,rfl⟩;have σ4:=y4.size;refine zav<|br (λc1=>?_) (λc1=>?_)
 . refine zaF g2 (y3.t y4) ?_
   refine (zsU h1 (e1.trans (y1.t (y2.t (y3.t y4)))) aA).mono ?_;rintro r14 g5 ⟨y5,g0⟩;have g0:=g0.toI;have σ5:=y5.size;refine zbn zc0 (g3.ext (y4.t y5)) (g0.ext (xrf g5)) oo λg9 C hv6_s6=>?_;have gb:=C.size;have o14_c6:=(g0.ext (xrf g5)).chg C oo;refine zce zc0 hv6_s6 (xrf g9) λr6 D=>?_
   replace D:=D.ext (xrf g9)
   refine ⟨(Ext.chgI ((((y1.t y2).trans y3).trans y4).trans y5) C oo),?_⟩;rw [decide_eq_false c1,show zjx c s t=s from if_neg c1];exact ⟨_,rfl,D.own.mono oo⟩
 have M:=qad.1 c1;have hc:=M.1.1;have hs:=M.1.2;have hgo:=M.2;refine zaF g4 (y2.t (y3.t y4))<|zaF g2 (y3.t y4) ?_;refine (zvR h0 (e0.t (y1.t (y2.t (y3.t y4)))) h1 (e1.trans (y1.t (y2.t (y3.t y4)))) aA aA aA).mono ?_;rintro r18 gc ⟨y7,g1⟩;have g1:=g1.toI;have σ7:=y7.size;refine zbn zc0 (g3.ext (y4.t y7)) (g1.ext (xrf gc)) oo λgd I hv6_s8=>?_;have gf:=I.size;have o18_c8:=(g1.ext (xrf gc)).chg I oo;refine zce zc0 hv6_s8 (xrf gd) λr6 D=>?_
 replace D:=D.ext (xrf gd)
 refine ⟨(Ext.chgI ((((y1.t y2).trans y3).trans y4).trans y7) I oo),?_⟩;rw [decide_eq_true M,show zjx c s t=zba c s t from if_pos M];exact ⟨_,rfl,D.own.mono oo⟩
theorem zmT {c:DCode} {s:DState} {t:Int}:∀ {k:Nat},t∈zfr c s k->GoR c s t
 | 0,h=>by simp [zfr] at h
 | k+1,h=>by
   rw [zfr] at h;split at h
   . rcases qae.1 h with h | h
     . exact zmT h
     simp only [qaa,qac,or_false] at h;subst h;assumption
   exact zmT h
def zeS (l:List Int) (t:Int):Nat->Nat
 | 0=>0
 | k+1=>if k<6/\l[k]?=some t then zeS l t k ||| 2^k else zeS l t k
theorem zrs (l:List Int) (t:Int) (k:Nat):zeS l t k<64:=by
 induction k with
 | zero=>simp [zeS]
 | succ k ih=>
   unfold zeS;split
   . rename_i h
     have h1:2^k<2^6:=qaJ oo h.1;exact qaT (n:=6) ih h1
   exact ih
def zg6 (s:DState) (t:Int):Nat:=if t<0 then 0 else zeS s.owner t s.owner.length
def zpJ {t:Int}  (h0:Is W0 v0 s) (e0:Ext W0 w)  :
   CALL tp 72 [v0,.int .i64 t] w λr w'=>Ext w w'/\(r=.int .i64 (zg6 s t:Int)):=by
 refine co (g:=kf [] [(5,2147475680,[5,13])] []) Tryz.func72 ?_;refine zat zc0 rfl h0 e0 λg0 y1 g5 hV2=>zag<|br (λc1=>?_) (λc1=>?_)
 . refine ⟨y1,?_⟩
   unfold zg6;rw [if_pos c1];rfl
 refine zab zdy<|zaa za4 (zbR g5) (xrf g0) λv11 g1=>?_;have g2:=zaj g1;refine zae u33 g1<|zao (s.owner.length) (λk us w'=>us=[.int .i64 (zeS s.owner t k:Int),.int .i64 (k:Int)]/\Ext g0 w'/\(True)) (0) oo ⟨by simp [zeS],xrf g0,trivial⟩ ?_;rintro k m5 uu5 w2_ hk5 ⟨hu,y2,g9⟩;obtain ⟨g3,g4⟩:=zcB hu;try rw [g3]
 try rw [g4]
 try clear g3 g4
 have hlt:=zrs s.owner t k;refine zag<|br (λc2=>?_) (λc2=>?_)
 . refine zad u33 ty3 g1 oo λb16 o16 gb=>?_
   refine zac ty3 gb y2 λgc=>zag<|br (λc3=>?_) (λc3=>?_)
   . refine zai ?_
     refine br (λc4=>?_) (λc4=>?_)
     . refine zb0 kK zkA oo ?_
       refine zdF oo<|zgz oo (by have:2^k<2^6:=qaJ oo oo;omega)<|zau<|⟨m5-1,oo,k+1,oo,by rw [zeS,if_pos ⟨oo,by rw [List.getElem?_eq_getElem oo,c4]⟩],y2,?_⟩;trivial
     refine zau<|⟨m5-1,oo,k+1,oo,by rw [zeS,if_neg (by rw [List.getElem?_eq_getElem oo];simp only [qak];exact λh=>c4 h.2)],y2,?_⟩;trivial
   refine zau<|⟨m5-1,oo,k+1,oo,by rw [zeS,if_neg oo],y2,?_⟩;trivial
 refine ⟨(y1.t y2),?_⟩;unfold zg6;rw [if_neg oo,show k=s.owner.length by omega]
def zgZ (c:DCode) (s:DState) (t:Int):s.stacks.length<=(zaQ c s t).stacks.length/\∀ u:Nat,u<s.stacks.length->(zaQ c s t).stacks[u]?=s.stacks[u]?:=by
 unfold zaQ;split
 . exact ⟨qas _,λ_ _=>rfl⟩
 split
 . split
   . exact ⟨sS,λu hu=>by rw [List.getElem?_append_left hu]⟩
   exact ⟨qas _,λ_ _=>rfl⟩
 split
 . exact ⟨qas _,λ_ _=>rfl⟩
 split
 . split
   . exact ⟨qas _,λ_ _=>rfl⟩
   exact ⟨qas _,λ_ _=>rfl⟩
 exact ⟨qas _,λ_ _=>rfl⟩
def zmU {α:Type} {l:List α} {t:Int} {x:α} {u:Nat} (ht:0<=t) (hne:(u:Int)≠t):(l.set t.toNat x)[u]?=l[u]?:=by
 rw [List.getElem?_set,if_neg oo]
def zmV {t:Int} (ht:0<=t):s.stacks.length<=(zba c s t).stacks.length/\∀ u:Nat,(u:Int)≠t->u<s.stacks.length->(zba c s t).stacks[u]?=s.stacks[u]?:=by
 have hr:=zgZ c s t;unfold zba;split
 . exact ⟨sS,λu r _=>zmU ht r⟩
 split
 . exact ⟨sS,λu r _=>zmU ht r⟩
 exact ⟨by simpa using hr.1,λu r hu=>by rw [zmU ht r];exact hr.2 u hu⟩
def zDl {t:Int} {u:Nat} (ht:0<=t) (hu:u<s.stacks.length) (g0:(u:Int)≠t):zbu (zba c s t) u=zbu s u:=by
 obtain ⟨h1,h2⟩:=zmV (c:=c) (s:=s) ht;have h3:=h2 u g0 hu;unfold zbu;rw [dif_pos ⟨oo,by rw [qah];omega⟩,dif_pos ⟨oo,by rw [qah];omega⟩];simp only [qah];rw [List.getElem?_eq_getElem hu,List.getElem?_eq_getElem oo] at h3;rw [qaW h3]
def zpK (h:zaN c p i) (hj:j∈zaA c i):zaN c p j:=by
 rcases h with rfl | h
 . exact .inr (.one hj)
 exact .inr (h.trans (.one hj))
theorem zAF (hc:CodeR c) {i:Nat} (h:MetP c i):∃ p,UsedP c p/\zaN c p i:=by
 induction h with
 | root h=>exact ⟨_,h.used,.inl rfl⟩
 | call h ho ih=>
   obtain ⟨p,hu,hl⟩:=ih;have hg:=zby hc (h.lt hc) (.inl ho);exact ⟨_,hu.call hg.2 ⟨_,h.lt hc,hl,ho,hg.1⟩,.inl rfl⟩
 | next _ _ hj ih=>obtain ⟨p,hu,hl⟩:=ih;exact ⟨p,hu,zpK hl hj⟩
 | back _ _ _ hj ih _=>obtain ⟨p,hu,hl⟩:=ih;exact ⟨p,hu,zpK hl hj⟩
def zyY (hc:CodeR c) {i:Nat} (h:MetP c i) (ho:(zam c i).op=5):RootP c (agN c i):=by
 obtain ⟨p,⟨r,hr,hf⟩,hl⟩:=zAF hc h;have hg:=zby hc (h.lt hc) (.inr ho);exact hr.spawn hf ⟨i,h.lt hc,hl,ho,hg.1⟩ hg.2
structure RunI (c:DCode) (s:DState):Prop where
 met:∀ l∈s.stacks,∀ x∈l,MetP c x.toNat
 may:∀ t l:Nat,l<s.owner.length->ow s l=t->0<=zbu s t->MayP c (zbu s t).toNat l
def zpL {v o:List Int} {ss:List (List Int)} {L:List Int} (h:t<ss.length):zbu ⟨v,o,ss.set t L⟩ t=L.getLastD (-1):=by
 unfold zbu;rw [dif_pos ⟨oo,by simpa using h⟩];simp
def zCe {l:List Int} (h:i<l.length):st l i∈l:=by rw [<-zfE h];exact qab h
def RunI.at (h:RunI c s) {t:Nat} (ha:0<=zbu s t):MetP c (zbu s t).toNat:=by
 obtain ⟨h0,h1⟩:=zd0 ha;rw [zgQ h0 h1] at ha ⊢;have g0:stk s t≠[]:=λe=>by rw [e] at ha;simp [List.getLastD] at ha
 rw [zo9 g0];have hl:=qaN.2 g0;exact h.met (stk s t) (by rw [<-zdZ h1];exact qab _) _ (zCe oo)
def zyZ (hc:CodeR c):RunI c (zdp c) where
 met l hl x hx:=by
   simp only [zdp,qaa,qac,or_false] at hl;subst hl;simp only [qaa,qac,or_false] at hx;subst hx;exact MetP.root RootP.main
 may t l hl ho _:=by
   exfalso
   have:ow (zdp c) l=-1:=by
     rw [<-zqI hl];simp [zdp]
   omega
def zuA {t:Int} (ha:0<=zbu s t) (h4:¬(atI c s t).op=4) (h9:¬(atI c s t).op=9) (g0:(atI c s t).op=2\/(atI c s t).op=3->0<=(atI c s t).to):(zcy c s t).toNat∈zaA c (zbu s t).toNat:=by
 have e1:(zbu s t+1).toNat=(zbu s t).toNat+1:=oo
 have e2:((zbu s t).toNat:Int)=zbu s t:=qaz ha;unfold zcy zaA;unfold atI at *;rw [if_neg h9,e2];by_cases h2:(zam c (zbu s t).toNat).op=2
 . have ht:=g0 (.inl h2)
   rw [if_pos h2,if_neg oo];by_cases hne:(zam c (zbu s t).toNat).to=zbu s t+1
   . rw [if_neg (λh=>h.2 hne)]
     split
     . rw [hne,e1];simp
     rw [e1];simp
   rw [if_pos ⟨h2,hne⟩];split
   . simp
   rw [e1];simp
 rw [if_neg h2];by_cases h3:(zam c (zbu s t).toNat).op=3
 . rw [if_pos h3,if_pos h3];simp
 rw [if_neg h3,if_neg h3,if_neg (λh=>h2 h.1),e1];simp
def zmW (h:(zam c i).op=4):i+1∈zaA c i:=by
 unfold zaA;rw [if_neg oo,if_neg oo,if_neg oo];simp
def zCf (hc:CodeR c) {i p:Nat} (hi:i<c.ins.length) (ho:(zam c i).op=9) (hp:zas c i=(p:Int)) (g0:p<c.procs.length):i=zN c p:=by
 have h5:=(hc.2.1.2.2.2 i hi).1 ho;rw [hp] at h5;have:=(zeE hc g0).2.1;omega
def zmX {l:List Int}:(l++[x]).getLastD d=x:=by simp [List.getLastD_eq_getLast?]
def zhy {l:List Int} (h:l≠[]):(l.set (l.length-1) x).getLastD d=x:=by
 have hl:=qaN.2 h;rw [List.getLastD_eq_getLast?,List.getLast?_eq_getElem?,qaL,List.getElem?_set,if_pos rfl,if_pos oo];rfl
def zrt {o:List Int} {v:List Int} {ss:List (List Int)} {a l:Nat} (ha:a<o.length):ow ⟨v,o.set a x,ss⟩ l=if l=a then x else o.getD l 0:=by
 unfold ow;simp only [qah];rw [List.getD_eq_getElem?_getD,List.getElem?_set];by_cases h:a=l
 . subst h;rw [if_pos rfl,if_pos rfl,if_pos ha];rfl
 rw [if_neg h,if_neg (λe=>h e.symm),List.getD_eq_getElem?_getD]
def zoa {t:Int} (hc:CodeR c) (hs:zaE c s) (g0:GoR c s t) {l u:Nat} (hl:l<s.owner.length) (h:ow (zba c s t) l=u) :
   (ow s l=u/\¬((atI c s t).op=7/\(atI c s t).arg=l/\(u:Int)=t))\/((atI c s t).op=6/\(atI c s t).arg=l/\(u:Int)=t):=by
 have r:ow s l=u->¬(atI c s t).op=7->(ow s l=u/\¬((atI c s t).op=7/\(atI c s t).arg=l/\(u:Int)=t))\/((atI c s t).op=6/\(atI c s t).arg=l/\(u:Int)=t):=λh1 h2=>.inl ⟨h1,λh3=>h2 h3.1⟩;unfold zba at h;split at h
 . rename_i h4;exact r h oo
 split at h
 . rename_i h9;exact r h oo
 have h:ow (zaQ c s t) l=u:=h;unfold zaQ at h;split at h
 . rename_i h1;exact r h oo
 split at h
 . rename_i h5
   split at h
   . exact r h oo
   exact r h oo
 split at h
 . rename_i h6
   have hg:=zdv hc hs g0.1 (.inl h6);rw [zrt hg.2] at h;split at h
   . rename_i e
     exact .inr ⟨h6,oo,h.symm⟩
   exact r (by unfold ow;rw [qah];exact h) oo
 split at h
 . rename_i h7
   have hg:=zdv hc hs g0.1 (.inr h7);split at h
   . rename_i hot
     rw [zrt hg.2] at h;split at h
     . omega
     rename_i hne
     exact .inl ⟨by unfold ow;rw [qah];exact h,λh3=>hne oo⟩
   rename_i hot
   refine .inl ⟨h,λh3=>hot ?_⟩;have:ow s (atI c s t).arg=u:=by rw [h3.2.1];exact h
   omega
 rename_i h1 h5 h6 h7
 exact r h h7
def zAG {t:Int} (hc:CodeR c) (hs:zaE c s) (U:GoR c s t) (hI:RunI c s):RunI c (zba c s t):=by
 obtain ⟨tn,rfl,g1,g4,hl8,gc⟩:=zfF hs U.1;have gd:=qaN.2 g4;have hk:=hs.2.2.2.2.2 (stk s tn) (by rw [<-zdZ oo];exact qab _);have gf:=zh7 hs tn;have C:=U.1;have r:=hI.at C;have D:stk s tn∈s.stacks:=by rw [<-zdZ (t:=(tn:Int)) (by simpa using g1)];exact qab _
 have g2:(zbu s tn).toNat<c.ins.length:=oo
 have I:(zba c s tn).owner.length=s.owner.length:=by rw [(znU hc hs U).2.1,hs.2.1]
 have M:∀ (u l:Nat),u≠tn->l<s.owner.length->ow (zba c s tn) l=u->0<=zbu (zba c s tn) u->MayP c (zbu (zba c s tn) u).toNat l:=λu l hu hl ho ha=>by
   rcases zoa hc hs U hl ho with ⟨h1,_⟩ | ⟨_,_,h3⟩
   . have gg:u<s.stacks.length:=by
       have:=(zpa hs (i:=(l:Int)) oo (by simpa using hl)).2;omega
     rw [zDl oo gg oo] at ha ⊢;exact hI.may u l hl h1 ha
   omega
 by_cases h4:(atI c s tn).op=4
 . have e:zba c s tn=⟨s.vars,s.owner,s.stacks.set tn (stk s tn++[en c (atI c s tn).arg.toNat])⟩:=by unfold zba;rw [if_pos h4,qah]
   have g5:(en c (atI c s tn).arg.toNat).toNat=eN c (agN c (zbu s tn).toNat):=rfl;refine ⟨λl hl x hx=>?_,λu l hl ho ha=>?_⟩
   . rw [e] at hl
     rcases zdq hl with rfl | hl
     . rcases qae.1 hx with hx | hx
       . exact hI.met _ D x hx
       simp only [qaa,qac,or_false] at hx;rw [hx,g5];exact .call r h4
     exact hI.met l hl x hx
   rw [I] at hl;by_cases hu:u=tn
   . subst hu
     have g3:ow s l=u:=by rw [e] at ho;exact ho
     have:=hI.may u l hl g3 C;rw [e,zpL g1,zmX,g5];exact .call r h4 this
   exact M u l hu hl ho ha
 by_cases h9:(atI c s tn).op=9
 . have e:zba c s tn=⟨s.vars,s.owner,s.stacks.set tn (zeR (stk s tn))⟩:=by unfold zba;rw [if_neg h4,if_pos h9,qah]
   by_cases h1:(stk s tn).length-1=0
   . have ep:zeR (stk s tn)=[]:=by unfold zeR;rw [if_pos h1]
     rw [ep] at e;refine ⟨λl hl x hx=>?_,λu l hl ho ha=>?_⟩
     . rw [e] at hl
       rcases zdq hl with rfl | hl
       . cases hx
       exact hI.met l hl x hx
     rw [I] at hl;by_cases hu:u=tn
     . subst hu
       rw [e,zpL g1] at ha;simp [List.getLastD] at ha
     exact M u l hu hl ho ha
   have ep:zeR (stk s tn)=((stk s tn).take ((stk s tn).length-1)).set ((stk s tn).length-2) (st (stk s tn) ((stk s tn).length-2)+1):=by unfold zeR;rw [if_neg h1]
   have h2:=hk.2.2 ((stk s tn).length-2) oo;have h3:=hk.2.1 ((stk s tn).length-2) oo;have V:MetP c (st (stk s tn) ((stk s tn).length-2)).toNat:=hI.met _ D _ (zCe oo);obtain ⟨b,hb⟩:∃ b:Nat,st (stk s tn) ((stk s tn).length-2)=b:=⟨_,(qaz h3.1).symm⟩;rw [hb] at ep h2 h3 V;simp only [qah] at h2 V;have hg:=zby hc (V.lt hc) (.inl h2.1)
   have hz:(zbu s tn).toNat=zN c (agN c b):=by
     refine zCf hc g2 h9 ?_ hg.2;have h5:=h2.2;rw [show (stk s tn).length-2+1=(stk s tn).length-1 by omega,<-gc,hg.1] at h5;rw [qaz C];exact h5
   have g0:(zeR (stk s tn)).getLastD (-1)=(b:Int)+1:=by
     rw [ep];have g9:((stk s tn).take ((stk s tn).length-1)).length=(stk s tn).length-1:=by rw [qai];omega
     have h6:(stk s tn).length-2=((stk s tn).take ((stk s tn).length-1)).length-1:=oo
     rw [h6];exact zhy (λe=>by rw [e] at g9;simp at g9;omega)
   have gb:((b:Int)+1).toNat=b+1:=oo
   have O:=zmW (c:=c) h2.1;refine ⟨λl hl x hx=>?_,λu l hl ho ha=>?_⟩
   . rw [e] at hl
     rcases zdq hl with rfl | hl
     . rw [ep] at hx
       rcases zdq hx with rfl | hx
       . rw [gb]
         exact .back V h2.1 (hz▸r) O
       exact hI.met _ D x (qbc hx)
     exact hI.met l hl x hx
   rw [I] at hl;by_cases hu:u=tn
   . subst hu
     have g3:ow s l=u:=by rw [e] at ho;exact ho
     have:=hI.may u l hl g3 C;rw [e,zpL g1,g0,gb];rw [hz] at this r;exact .back V h2.1 r this O
   exact M u l hu hl ho ha
 have e:zba c s tn=⟨(zaQ c s tn).vars,(zaQ c s tn).owner,(zaQ c s tn).stacks.set tn ((stk s tn).set ((stk s tn).length-1) (zcy c s tn))⟩:=by unfold zba;rw [if_neg h4,if_neg h9,qah]
 have O:=zuA (c:=c) C h4 h9 λh=>(ziu hc C gf.2 h).1;have hrl:=(zgZ c s tn).1;refine ⟨λl hl x hx=>?_,λu l hl ho ha=>?_⟩
 . rw [e] at hl
   rcases zdq hl with rfl | hl
   . rcases zdq hx with rfl | hx
     . exact .next r h4 O
     exact hI.met _ D x hx
   by_cases h5:(atI c s tn).op=5/\s.stacks.length<6
   . have er:(zaQ c s tn).stacks=s.stacks++[[en c (atI c s tn).arg.toNat]]:=by
       unfold zaQ;rw [if_neg oo,if_pos h5.1,if_pos h5.2]
     rw [er] at hl;rcases qae.1 hl with hl | hl
     . exact hI.met l hl x hx
     simp only [qaa,qac,or_false] at hl;subst hl;simp only [qaa,qac,or_false] at hx;subst hx;exact .root (zyY hc r h5.1)
   have er:(zaQ c s tn).stacks=s.stacks:=by
     unfold zaQ;split
     . rfl
     split
     . rename_i h6
       rw [if_neg (λh7=>h5 ⟨h6,h7⟩)]
     split
     . rfl
     split
     . split<;>rfl
     rfl
   rw [er] at hl;exact hI.met l hl x hx
 rw [I] at hl;by_cases hu:u=tn
 . subst hu
   have gh:zbu (zba c s u) u=zcy c s u:=by
     rw [e,zpL oo];exact zhy g4
   rw [gh];rcases zoa hc hs U hl ho with ⟨h1,h2⟩ | ⟨h1,h2,_⟩
   . refine .pass r h4 (λh7=>h2 ⟨h7.1,?_,rfl⟩) (hI.may u l hl h1 C) O
     have:=zcY hc g2 (.inr h7.1);have h8:(atI c s u).arg=(agN c (zbu s u).toNat:Int):=this.1;omega
   refine .lock r h1 ?_ O;have:=zcY hc g2 (.inl h1);have h8:(atI c s u).arg=(agN c (zbu s u).toNat:Int):=this.1;omega
 exact M u l hu hl ho ha
def zjy (hc:CodeR c) (hs:zaE c s) (hI:RunI c s) {h:Nat} (hh:h<s.owner.length) {u:Int} (ho:ow s h=u) (hw:0<=za1 c s u):(za1 c s u).toNat∈nxL c h:=by
 have hw0:=hw;unfold za1 at hw;split at hw
 . rename_i h1
   have e:za1 c s u=(atI c s u).arg:=by unfold za1;rw [if_pos h1]
   obtain ⟨hu0,_⟩:=zd0 h1.1;obtain ⟨un,rfl⟩:∃ n:Nat,u=n:=⟨u.toNat,oo⟩;have hm:=hI.at h1.1;have g0:=hI.may un h hh ho h1.1;have hg:=zcY hc (hm.lt hc) (.inl h1.2.1);have g1:(atI c s un).arg=(agN c (zbu s un).toNat:Int):=hg.1;rw [e,g1,qah];exact zaH.2 ⟨hg.2.1,(zbu s un).toNat,hm,h1.2.1,rfl,g0⟩
 omega
theorem zkq {c:DCode} {s:DState} (hc:CodeR c) (hs:zaE c s) (hI:RunI c s) (t:Int):∀ (n m:Nat) (u:Int),zjh c s t n m u≠0->0<=za1 c s u/\∃ x:Nat,(x=(za1 c s u).toNat\/RP (nxL c) (za1 c s u).toNat x)/\x<s.owner.length/\ow s x=t
 | 0,m,u,h=>absurd rfl h
 | n+1,m,u,h=>by
   rw [zjh] at h;split at h
   . exact absurd rfl h
   rename_i hw
   have hw:0<=za1 c s u:=oo
   have g1:=(zjg hc hs u).2.2 hw;refine ⟨hw,?_⟩;have g2:∀ x:Int,0<=x->ow s (x.toNat:Int)=ow s x:=λx hx=>by rw [qaz hx]
   split at h
   . rename_i h2
     exact ⟨_,.inl rfl,g1.1,by rw [g2 _ hw];exact h2⟩
   obtain ⟨g3,x,hx,g4,g5⟩:=zkq hc hs hI t n _ _ h;have g0:=zjy hc hs hI g1.1 (g2 _ hw) g3;refine ⟨x,.inr ?_,g4,g5⟩;rcases hx with rfl | hx
   . exact .one g0
   exact (RP.one g0).trans hx
theorem zkr {l:List Int} {t:Int} {i:Nat}:∀ {k:Nat},(zeS l t k).testBit i=true->l[i]?=some t
 | 0,h=>by simp [zeS] at h
 | k+1,h=>by
   rw [zeS] at h;split at h
   . rename_i hk
     rw [qaH,qaK,qaG] at h;rcases h with h | h
     . exact zkr h
     have:k=i:=by simpa using h
     subst this;exact hk.2
   exact zkr h
structure Cnd (c:DCode) (r p a:Nat) (H:Nat->Prop):Prop where
 used:UsedP c p
 from_:FromP c r p
 live:zaN c p a
 lostM:∀ l,¬H l->LostM c (tK (zdk c)) (tG (zdk c)) p (some a) l
 lostE:∀ l,¬H l->LostE c p a l
inductive Frm (c:DCode) (r:Nat):List Nat->(Nat->Prop)->Prop
 | one {a:Nat} {H:Nat->Prop} (hr:RootP c r) (hC:Cnd c r r a H):Frm c r [a] H
 | push {a b:Nat} {rest:List Nat} {H0 H:Nat->Prop} (h:Frm c r (b :: rest) H0) (h4:(zam c b).op=4) (hC:Cnd c r (agN c b) a H) (hk:∀ l,(zd5 c (agN c b)).testBit l=true->H0 l->H l):Frm c r (a :: b :: rest) H
theorem Frm.root {H:Nat->Prop} (h:Frm c r L H):RootP c r:=by
 induction h with
 | one hr _=>exact hr
 | push _ _ _ _ ih=>exact ih
theorem Frm.top {r a:Nat} {H:Nat->Prop} (h:Frm c r (a :: L) H):∃ p,Cnd c r p a H:=by
 cases h with
 | one _ hC=>exact ⟨_,hC⟩
 | push _ _ hC _=>exact ⟨_,hC⟩
def Cnd.congr {r p a:Nat} {H H':Nat->Prop} (h:Cnd c r p a H) (e:∀ l,H l↔H' l):Cnd c r p a H':=by
 have:H=H':=funext λl=>propext (e l);subst this;exact h
def Frm.congr {H H':Nat->Prop} (h:Frm c r L H) (e:∀ l,H l↔H' l):Frm c r L H':=by
 have:H=H':=funext λl=>propext (e l);subst this;exact h
def zca (hc:CodeR c) {p i:Nat} (hp:p<c.procs.length) (h:zaN c p i):i<c.ins.length/\zas c i=(p:Int):=zbV hc (by rw [hc.2.1.1];exact hp) h
def zDm (hp:p<c.procs.length) (hl:zaN c p i) (hk:(zd5 c p).testBit l=true):¬((zam c i).op=7/\agN c i=l):=λh=>
 (zgj.1 hk).2 ⟨p,i,hp,.inl rfl,hl,h.1,h.2⟩
def zy0 (hf:FromP c p q) (hk:(zd5 c p).testBit l=true):(zd5 c q).testBit l=true:=by
 obtain ⟨h6,h⟩:=zgj.1 hk;exact zgj.2 ⟨h6,λ⟨q',i,h1,h2,h3⟩=>h ⟨q',i,h1,hf.trans h2,h3⟩⟩
def Cnd.next {r p a j:Nat} {H H':Nat->Prop} (h:Cnd c r p a H) (h4:¬(zam c a).op=4) (hj:j∈zaA c a)
   (hH:∀ l,¬H' l->((zam c a).op=7/\agN c a=l)\/(¬H l/\¬((zam c a).op=6/\agN c a=l))):Cnd c r p j H' where
 used:=h.used
 from_:=h.from_
 live:=zpK h.live hj
 lostM l hl:=by
   rcases hH l hl with h7 | ⟨h1,h6⟩
   . exact .gen h.live hj (.inl h7)
   exact .pass h.live hj (h.lostM l h1) ⟨h6,λe=>h4 e.1⟩
 lostE l hl:=by
   rcases hH l hl with h7 | ⟨h1,h6⟩
   . exact .unl h.live hj h7.1 h7.2
   exact .pass h.live hj h6 h4 (h.lostE l h1)
theorem Frm.next (hc:CodeR c) {r a j:Nat} {L:List Nat} {H H':Nat->Prop} (h:Frm c r (a :: L) H) (h4:¬(zam c a).op=4) (hj:j∈zaA c a)
   (hH:∀ l,¬H' l->((zam c a).op=7/\agN c a=l)\/(¬H l/\¬((zam c a).op=6/\agN c a=l))):Frm c r (j :: L) H':=by
 cases h with
 | one hr hC=>exact .one hr (hC.next h4 hj hH)
 | push h0 hb hC hk=>
   refine .push h0 hb (hC.next h4 hj hH) λl g0 hl=>qaV λhn=>?_;rcases hH l hn with h7 | ⟨h1,_⟩
   . exact zDm (hC.used.lt hc) hC.live g0 h7
   exact h1 (hk l g0 hl)
def Frm.call (hc:CodeR c) {r a:Nat} {L:List Nat} {H:Nat->Prop} (h:Frm c r (a :: L) H) (h4:(zam c a).op=4):Frm c r (eN c (agN c a) :: a :: L) H:=by
 obtain ⟨p,hC⟩:=h.top;have hi:=(zca hc (hC.used.lt hc) hC.live).1;have hg:=zby hc hi (.inl h4);have g0:zk0 c p 4 (agN c a):=⟨a,hi,hC.live,h4,hg.1⟩;exact .push h h4 ⟨hC.used.call hg.2 g0,hC.from_.call hg.2 g0,.inl rfl,λl hl=>.ent (.call hC.used hC.live h4 (hC.lostM l hl)),λl _=>.ent⟩ λl _ hl=>hl
def Cnd.back (hc:CodeR c) {r p b:Nat} {H0 H:Nat->Prop} (h:Cnd c r p b H0) (h4:(zam c b).op=4) (hz:Cnd c r (agN c b) (zN c (agN c b)) H) (hk:∀ l,(zd5 c (agN c b)).testBit l=true->H0 l->H l):Cnd c r p (b+1) H:=by
 have hi:=(zca hc (h.used.lt hc) h.live).1;have hg:=zby hc hi (.inl h4);have hj:=zmW (c:=c) h4
 have hG:∀ l,¬H l->¬tG (zdk c) (agN c b) l:=λl hl ht=>by
   unfold tG at ht;rw [zpj hg.2] at ht;exact (zgj.1 ht).2 (hz.lostE l hl)
 have hK:∀ l,¬H l->(zd5 c (agN c b)).testBit l=true->¬H0 l:=λl hl C h0=>hl (hk l C h0);refine ⟨h.used,h.from_,zpK h.live hj,λl hl=>?_,λl hl=>?_⟩
 . by_cases C:(zd5 c (agN c b)).testBit l=true
   . exact .pass h.live hj (h.lostM l (hK l hl C)) ⟨λe=>oo,λe=>hG l hl e.2⟩
   refine .gen h.live hj (.inr ⟨h4,λe=>C ?_,hG l hl⟩);unfold tK at e;rw [zpj hg.2] at e;exact e
 by_cases C:(zd5 c (agN c b)).testBit l=true
 . exact .bck h.live hj h4 (h.lostE l (hK l hl C)) (hz.lostE l hl)
 exact .cal h.live hj h4 (by simpa using C) (hz.lostE l hl)
theorem Frm.back (hc:CodeR c) {r b:Nat} {L:List Nat} {H:Nat->Prop} (h:Frm c r (zN c (agN c b) :: b :: L) H):Frm c r ((b+1) :: L) H:=by
 cases h with
 | push h0 h4 hC hk=>
   cases h0 with
   | one hr hB=>exact .one hr (hB.back hc h4 hC hk)
   | push h1 hb4 hB hkb=>
     refine .push h1 hb4 (hB.back hc h4 hC hk) λl g0 g1=>?_;have hi:=(zca hc (hB.used.lt hc) hB.live).1;have hg:=zby hc hi (.inl h4);have hf:FromP c _ (agN c b):=.inr (.one (zaH.2 ⟨hg.2,b,hi,hB.live,h4,hg.1⟩));exact hk l (zy0 hf g0) (hkb l g0 g1)
def zjz (c:DCode):Nat:=2^c.locks.length-1
def zmY (c:DCode) (s:DState) (t:Nat):Prop:=0<=zbu s t->zha (zay (zeD c) (zbu s t).toNat &&& zjz c) (zg6 s t)/\zha (zg6 s t) (zay (zpl c) (zbu s t).toNat)
def zd4 (c:DCode) (s:DState):Prop:=(CodeR c/\zaE c s)/\∀ t,t<s.stacks.length->zmY c s t
noncomputable instance (c:DCode) (s:DState):Decidable (zd4 c s):=Classical.propDecidable _
def zAH (hc:CodeR c):zjz c<64/\2^c.locks.length<=64/\0<2^c.locks.length:=by
 have h6:=hc.1.locks6;have h1:2^c.locks.length<=2^6:=qat oo h6;have h2:0<2^c.locks.length:=Nat.pow_pos oo;unfold zjz;omega
def zy1 (s:DState) (t:Int):zg6 s t<64:=by
 unfold zg6;split
 . omega
 exact zrs _ _ _
def zk1 (h0:Is W0 v0 c) (e0:Ext W0 w) (h1:Is W1 v1 s) (e1:Ext W1 w) :
   CALL tp 29 [v0,v1] w λr w'=>Ext w w'/\r=.bool (decide (zd4 c s)):=by
 refine co (g:=kf [] [(7,2361183239235799358480,[41])] []) Tryz.func29 ?_;refine za9 h0 e0 λw1 gf hA=>za9 h1 (e1.trans gf) λw2 g0 hB=>?_;have D:=gf.t g0;refine zaa zbq hA g0 λv14 gl=>?_;refine (zh3 gl g0).mono ?_;rintro r13 w3 ⟨Y,hr⟩;rcases hr with ⟨hn,rfl⟩ | ⟨hc,b,rfl,hW⟩
 . refine zaY rfl ?_
   refine zaY rfl<|zaV<|zbz (λ_=>?_) (λh=>by cases h);have:¬zd4 c s:=λh=>hn h.1.1;exact ⟨D.t Y,by rw [decide_eq_false this]⟩
 refine zaY rfl<|zaY rfl<|zaV<|zbz (λh=>by cases h) (λ_=>?_);refine zaa zbq hA (g0.t Y) λv21 gp=>zaa zc0 hB Y λv22 gq=>?_;refine (zgP gp (g0.t Y) gq Y hc).mono ?_;rintro _ w4 ⟨g1,rfl⟩;refine zav<|br (λhn=>?_) (λhy=>?_)
 . have:¬zd4 c s:=λh=>hn h.1.2
   exact ⟨D.t (Y.t g1),by rw [decide_eq_false this]⟩
 have hs:zaE c s:=qad.1 hy;refine (zyg hW g1 hc).mono ?_;rintro v27 w5 ⟨g5,gr⟩;refine (zyl hW (g1.t g5) hc).mono ?_;rintro v30 w6 ⟨g9,gs⟩;refine (zB9 hW (g1.t (g5.t g9)) gs.is (xrf _) hc).mono ?_;rintro v31 w7 ⟨gg,gt⟩;have gb:=g1.t (g5.t (g9.t gg));have Z:=Y.t gb;have gx:=gr.is.ext (g9.t gg);have gy:=gt.is;obtain ⟨hth,h2a,h2b⟩:=zAH hc;have h6:=hc.1.locks6;refine zab zd8<|zaa zcv (zbw hA) (g0.t Z) λv33 gz=>zae u24 gz<|zb0 kK zkA oo<|zdF oo<|zbc (by unfold I64;omega) ?_;rw [show ((2^c.locks.length:Nat):Int)-1=(zjz c:Int) by unfold zjz;omega];refine zab zbj<|zaa zeN (zaJ hB) Z λv39 gC=>zae u44 gC ?_;have hn6:=hs.2.2.1;refine zao s.stacks.length (λk us w'=>us=[.int .i64 (k:Int)]/\k<=s.stacks.length/\Ext w7 w'/\∀ t,t<k->zmY c s t) 0 (z0 _) ⟨rfl,z0 _,xrf _,λt h=>oo⟩ ?_;rintro k mk u w8 hkm ⟨hu,hkl,g3,hD⟩;try replace hu:=zbt hu
 rw [hu];have M:=Z.t g3;refine zag<|br (λhlt=>?_) (λhge=>?_)
 case refine_2=>have:zd4 c s:=⟨⟨hc,hs⟩,λt ht=>hD t oo⟩;exact ⟨D.t M,by rw [decide_eq_true this]⟩
 refine zaa zc0 hB M λv44 gD=>?_;refine (zgD gD M).mono ?_;rintro _ w9 ⟨g4,rfl⟩;have hat:=zh7 hs k;have O:=M.t g4
 have C:zmY c s k->∀ t,t<k+1->zmY c s t:=λh t ht=>by
   by_cases e:t=k
   . subst e;exact h
   exact hD t oo
 refine zag<|br (λgE=>?_) (λgF=>?_)
 . refine zau ?_
   exact ⟨mk-1,oo,k+1,oo,rfl,oo,g3.t g4,C λh=>oo⟩
 obtain ⟨a,ha⟩:∃ a:Nat,zbu s k=(a:Int):=⟨(zbu s k).toNat,oo⟩;have gh:a<c.ins.length:=oo
 have I:¬zmY c s k->¬zd4 c s:=λh h2=>h (h2.2 k oo);unfold zmY at I C;rw [ha] at I C ⊢;simp only [qah] at I C;refine zaa zc0 hB O λv49 gG=>?_;refine (zpJ gG O).mono ?_;rintro _ w10 ⟨U,rfl⟩;have V:=zy1 s k;have X:=g3.t (g4.t U);refine zad u33 ty3 (i:=a) gx (by rw [zaf,zhq];exact gh) λb1 o1 gi=>?_;rw [zaR] at gi;refine zac ty3 gi X λ_=>?_;have gH:=zcZ (zhV c) a;have g2:=zcZ (zsz c) a;have hle:=qaX (n:=zay (zeD c) a) (m:=zjz c);refine zeA (m:=zay (zeD c) a) (n:=zjz c) oo oo<|zft (m:=zay (zeD c) a &&& zjz c) (n:=zg6 s k) oo oo<|zaP<|br (λgc=>?_) (λgd=>?_)
 . have:¬zd4 c s:=I λh=>gc (by rw [(zgm oo V).2 (h oo).1];rfl)
   exact ⟨D.t (O.t U),by rw [decide_eq_false this]⟩
 have gI:=(zgm (m:=zay (zeD c) a &&& zjz c) (n:=zg6 s k) oo V).1 (qaY.1 (qad.1 gd));refine zad u33 ty3 (i:=a) gy (by rw [zaf,zjm];exact gh) λb2 o2 gj=>?_;rw [zaR] at gj;refine zac ty3 gj X λ_=>zft (m:=zg6 s k) (n:=zay (zpl c) a) oo oo<|zaP<|br (λgc=>?_) (λgd=>?_)
 . have:¬zd4 c s:=I λh=>gc (by rw [(zgm V g2).2 (h oo).2];rfl)
   exact ⟨D.t (O.t U),by rw [decide_eq_false this]⟩
 have gJ:=(zgm V g2).1 (qaY.1 (qad.1 gd));refine zau ?_
 exact ⟨mk-1,oo,k+1,oo,rfl,oo,g3.t (g4.t U),λt ht=>by
   by_cases e:t=k
   . subst e;unfold zmY;rw [ha];simp only [qah];exact λ_=>⟨gI,gJ⟩
   exact hD t oo⟩
def zcH (s:DState) (t:Nat):List Nat:=((stk s t).map Int.toNat).reverse
def zjA (s:DState) (t:Nat) (l:Nat):Prop:=s.owner[l]?=some (t:Int)
def zvS (c:DCode) (s:DState):Prop:=∀ t:Nat,t<s.stacks.length->stk s t≠[]->∃ r,Frm c r (zcH s t) (zjA s t)
def zlo {v o:List Int} {ss:List (List Int)} {L:List Int} (h:t<ss.length):stk ⟨v,o,ss.set t L⟩ t=L:=by
 unfold stk;rw [List.getD_eq_getElem?_getD,qah,List.getElem?_set,if_pos rfl,if_pos h];rfl
def zy2 {t:Int} {u:Nat} (ht:0<=t) (g0:(u:Int)≠t) (hu:u<s.stacks.length):stk (zba c s t) u=stk s u:=by
 have:=(zmV (c:=c) (s:=s) ht).2 u g0 hu;unfold stk;rw [List.getD_eq_getElem?_getD,List.getD_eq_getElem?_getD,qah,this]
def zuB {a:Nat} (h:a<s.owner.length) (e:ow s a=x):s.owner[a]?=some x:=by
 rw [List.getElem?_eq_getElem h,zqI h,e]
def zob (c:DCode) (s:DState) (t:Int):(zaQ c s t).owner=if (atI c s t).op=6 then s.owner.set (atI c s t).arg.toNat t else if (atI c s t).op=7/\ow s (atI c s t).arg=t then s.owner.set (atI c s t).arg.toNat (-1) else s.owner:=by
 unfold zaQ;split
 . rename_i h;rw [if_neg oo,if_neg oo]
 split
 . rename_i h
   rw [if_neg (show ¬(atI c s t).op=6 by omega),if_neg (show ¬((atI c s t).op=7/\ow s (atI c s t).arg=t) from λh'=>oo)];split<;>rfl
 split
 . rfl
 split
 . rename_i h6 h7
   split
   . rename_i h8;rw [if_pos ⟨h7,h8⟩]
   rename_i h8;rw [if_neg (λh=>h8 h.2)]
 rename_i h7;rw [if_neg (λh=>h7 h.1)]
def zsV {t:Int}:(zba c s t).owner=s.owner\/(¬(atI c s t).op=4/\¬(atI c s t).op=9/\(zba c s t).owner=(zaQ c s t).owner):=by
 unfold zba;split
 . exact .inl rfl
 split
 . exact .inl rfl
 rename_i h4 h9;exact .inr ⟨h4,h9,rfl⟩
def zAI {t:Int} (hc:CodeR c) (hs:zaE c s) (g0:GoR c s t) {u:Nat} (hu:(u:Int)≠t) (l:Nat):zjA (zba c s t) u l↔zjA s u l:=by
 unfold zjA;rcases zsV (c:=c) (s:=s) (t:=t) with e | ⟨_,_,e⟩
 . rw [e]
 rw [e,zob]
 have g1:∀ (a:Nat) (x:Int),x≠u->s.owner[a]?≠some (u:Int)->((s.owner.set a x)[l]?=some (u:Int)↔s.owner[l]?=some (u:Int)):=λa x h1 h2=>by
   rw [List.getElem?_set];by_cases h:a=l
   . subst h
     rw [if_pos rfl];constructor
     . intro h;split at h
       . exact absurd (qaW h) h1
       cases h
     intro h;exact absurd h h2
   rw [if_neg h]
 split
 . rename_i h6
   have hg:=zdv hc hs g0.1 (.inl h6);refine g1 _ _ (λh=>hu h.symm) λh=>?_;rw [zuB hg.2 (x:=-1) (by rw [qaz hg.1];exact g0.2.1 h6)] at h;have:=qaW h;omega
 split
 . rename_i h6 h7
   have hg:=zdv hc hs g0.1 (.inr h7.1);refine g1 _ _ oo λh=>?_;rw [zuB hg.2 (x:=t) (by rw [qaz hg.1];exact h7.2)] at h;exact hu (qaW h).symm
 exact .rfl
def zAJ (hc:CodeR c) (hs:zaE c s) (g1:GoR c s t) (h4:¬(atI c s t).op=4) (h9:¬(atI c s t).op=9) (l:Nat) (h:¬zjA (zba c s t) t l) :
   ((atI c s t).op=7/\agN c (zbu s t).toNat=l)\/(¬zjA s t l/\¬((atI c s t).op=6/\agN c (zbu s t).toNat=l)):=by
 have e:(zba c s t).owner=(zaQ c s t).owner:=by unfold zba;rw [if_neg h4,if_neg h9]
 have g0:agN c (zbu s t).toNat=(atI c s t).arg.toNat:=rfl;rw [g0];unfold zjA at h ⊢;rw [e,zob] at h;by_cases h7:(atI c s t).op=7/\(atI c s t).arg.toNat=l
 . exact .inl h7
 right;split at h
 . rename_i h6
   have hg:=zdv hc hs g1.1 (.inl h6);rw [List.getElem?_set] at h;by_cases e:(atI c s t).arg.toNat=l
   . rw [if_pos e,if_pos hg.2] at h;exact absurd rfl h
   rw [if_neg e] at h;exact ⟨h,λh8=>e h8.2⟩
 rename_i h6
 refine ⟨?_,λh8=>h6 h8.1⟩;split at h
 . rename_i h8
   rw [List.getElem?_set,if_neg (λe=>h7 ⟨h8.1,e⟩)] at h;exact h
 exact h
def zh4 {l:List Int} (h:l≠[]):∃ L,l=L++[l.getLastD (-1)]:=by
 refine ⟨l.dropLast,?_⟩;rw [List.getLastD_eq_getLast?,List.getLast?_eq_some_getLast h];exact (List.dropLast_concat_getLast h).symm
def zuC {L:List Int}:(L++[a]).set L.length x=L++[x]:=by
 rw [qba _ _ (lr _)];simp
def zdt {L:List Int}:((L++[a]).map Int.toNat).reverse=a.toNat :: (L.map Int.toNat).reverse:=by simp
def zsW {L:List Int} {a b:Int}:zeR (L++[b]++[a])=L++[b+1]:=by
 unfold zeR;have h1:(L++[b]++[a]).length=L.length+2:=by simp
 rw [h1,if_neg oo]
 have e1:(L++[b]++[a]).take (L.length+2-1)=L++[b]:=by
   rw [List.take_append_of_le_length sS];rw [qaf sS]
 have e2:st (L++[b]++[a]) (L.length+2-2)=b:=by
   unfold st;rw [List.getD_eq_getElem?_getD,qar,List.getElem?_append_right oo];simp
 rw [e1,e2,show L.length+2-2=L.length by omega];exact zuC
def zru (hc:CodeR c):zvS c (zdp c):=by
 intro t ht hne;have g0:t=0:=by simp [zdp] at ht;omega
 subst g0;have e:zcH (zdp c) 0=[eN c (zcm c)]:=rfl;refine ⟨zcm c,?_⟩;rw [e];exact .one .main ⟨RootP.main.used,.inl rfl,.inl rfl,λl _=>.ent (.root .main),λl _=>.ent⟩
def zg0 (hc:CodeR c) (hs:zaE c s) (g4:GoR c s t):∃ rest,zcH s t=(zbu s t).toNat :: rest/\t<s.stacks.length/\stk s t≠[] /\
   (((atI c s t).op=4/\zcH (zba c s t) t=eN c (agN c (zbu s t).toNat) :: (zbu s t).toNat :: rest/\(zba c s t).owner=s.owner) \/
    ((atI c s t).op=9/\rest=[]/\stk (zba c s t) t=[]) \/
    ((atI c s t).op=9/\(∃ b rest',rest=b :: rest'/\(zam c b).op=4/\(zbu s t).toNat=zN c (agN c b)/\zcH (zba c s t) t=(b+1) :: rest')/\(zba c s t).owner=s.owner) \/
    (¬(atI c s t).op=4/\¬(atI c s t).op=9/\∃ j,j∈zaA c (zbu s t).toNat/\zcH (zba c s t) t=j :: rest)):=by
 obtain ⟨tn,g2,C,g0,hl8,g3⟩:=zfF hs g4.1;have g2:t=tn:=oo
 subst g2;have r:=g4.1;have hk:=hs.2.2.2.2.2 (stk s t) (by rw [<-zdZ (t:=(t:Int)) (by simpa using C)];exact qab _);have g9:=zh7 hs t;obtain ⟨L,hL⟩:=zh4 g0;have g1:(stk s t).getLastD (-1)=zbu s t:=by rw [g3,<-zo9 g0]
 rw [g1] at hL;have gb:zcH s t=(zbu s t).toNat :: (L.map Int.toNat).reverse:=by unfold zcH;rw [hL];exact zdt
 have gc:(zbu s t).toNat<c.ins.length:=oo
 refine ⟨(L.map Int.toNat).reverse,gb,C,g0,?_⟩;by_cases h4:(atI c s t).op=4
 . have e:zba c s t=⟨s.vars,s.owner,s.stacks.set t (stk s t++[en c (atI c s t).arg.toNat])⟩:=by unfold zba;rw [if_pos h4,qah]
   refine .inl ⟨h4,?_,by rw [e]⟩;unfold zcH;rw [e,zlo C,zdt,hL,zdt];rfl
 by_cases h9:(atI c s t).op=9
 . have e:zba c s t=⟨s.vars,s.owner,s.stacks.set t (zeR (stk s t))⟩:=by unfold zba;rw [if_neg h4,if_pos h9,qah]
   by_cases hLn:L=[]
   . refine .inr (.inl ⟨h9,by rw [hLn];rfl,?_⟩)
     rw [e,zlo C,hL,hLn];rfl
   obtain ⟨L1,g5⟩:=zh4 hLn;generalize L.getLastD (-1)=b at g5;subst g5;have gd:(stk s t).length=L1.length+2:=by rw [hL];simp
   have hb:st (stk s t) L1.length=b:=by
     rw [hL];unfold st;rw [List.getD_eq_getElem?_getD,qar,List.getElem?_append_right oo];simp
   have gf:=(hk.2.1 L1.length oo);have h2:=hk.2.2 L1.length oo;rw [hb] at gf h2;have gg:b.toNat<c.ins.length:=oo
   have hg:=zby hc gg (.inl h2.1)
   have hz:(zbu s t).toNat=zN c (agN c b.toNat):=by
     refine zCf hc gc h9 ?_ hg.2;have h5:=h2.2;rw [show L1.length+1=(stk s t).length-1 by omega,<-g3,hg.1] at h5;rw [qaz r];exact h5
   have hf:zcH (zba c s t) t=(b.toNat+1) :: (L1.map Int.toNat).reverse:=by
     unfold zcH;rw [e,zlo C,hL,zsW,zdt,show (b+1).toNat=b.toNat+1 by omega]
   exact .inr (.inr (.inl ⟨h9,⟨b.toNat,(L1.map Int.toNat).reverse,zdt,h2.1,hz,hf⟩,by rw [e]⟩))
 have e:zba c s t=⟨(zaQ c s t).vars,(zaQ c s t).owner,(zaQ c s t).stacks.set t ((stk s t).set ((stk s t).length-1) (zcy c s t))⟩:=by unfold zba;rw [if_neg h4,if_neg h9,qah]
 have gh:=zuA (c:=c) r h4 h9 λh=>(ziu hc r g9.2 h).1;have hrl:=(zgZ c s t).1;refine .inr (.inr (.inr ⟨h4,h9,_,gh,?_⟩));unfold zcH;rw [e,zlo oo]
 have:(stk s t).set ((stk s t).length-1) (zcy c s t)=L++[zcy c s t]:=by
   rw [hL,qag,qaj,qay,show L.length+(0+1)-1=L.length by omega];exact zuC
 rw [this,zdt]
def zoc {t u:Nat} (hc:CodeR c) (hs:zaE c s) (g3:GoR c s t) (hu:u<(zba c s t).stacks.length) (hul:s.stacks.length<=u) :
   (atI c s t).op=5/\u=s.stacks.length/\zcH (zba c s t) u=[eN c (agN c (zbu s t).toNat)]:=by
 obtain ⟨tn,g1,htn,hne,hl8,hat⟩:=zfF hs g3.1;have g1:t=tn:=oo
 subst g1
 have h4:¬(atI c s t).op=4:=λh4=>by
   have e:(zba c s t).stacks.length=s.stacks.length:=by unfold zba;rw [if_pos h4];simp
   omega
 have h9:¬(atI c s t).op=9:=λh9=>by
   have e:(zba c s t).stacks.length=s.stacks.length:=by unfold zba;rw [if_neg h4,if_pos h9];simp
   omega
 have e:(zba c s t).stacks=(zaQ c s t).stacks.set t ((stk s t).set ((stk s t).length-1) (zcy c s t)):=by unfold zba;rw [if_neg h4,if_neg h9,qah]
 have g0:u<(zaQ c s t).stacks.length:=by rw [e,qaL] at hu;exact hu
 by_cases h5:(atI c s t).op=5/\s.stacks.length<6
 . have er:(zaQ c s t).stacks=s.stacks++[[en c (atI c s t).arg.toNat]]:=by
     unfold zaQ;rw [if_neg oo,if_pos h5.1,if_pos h5.2]
   rw [er,qag,qaj,qay] at g0;have g2:u=s.stacks.length:=oo
   refine ⟨h5.1,g2,?_⟩
   have g4:stk (zba c s t) u=[en c (atI c s t).arg.toNat]:=by
     unfold stk;rw [List.getD_eq_getElem?_getD,qah,e,er,List.getElem?_set,if_neg oo,List.getElem?_append_right oo,g2];simp
   unfold zcH;rw [g4];rfl
 exfalso
 have er:(zaQ c s t).stacks=s.stacks:=by
   unfold zaQ;split
   . rfl
   split
   . rename_i h6
     rw [if_neg (λh7=>h5 ⟨h6,h7⟩)]
   split
   . rfl
   split
   . split<;>rfl
   rfl
 rw [er] at g0;omega
def zks {t:Int} {u:Nat} (ht:0<=t) (g0:(u:Int)≠t) (hu:u<s.stacks.length):zcH (zba c s t) u=zcH s u:=by
 unfold zcH;rw [zy2 ht g0 hu]
def zAK {t:Int} (hc:CodeR c) (hs:zaE c s) (D:GoR c s t) (hI:zvS c s):zvS c (zba c s t):=by
 obtain ⟨tn,rfl,g4,g5,hl8,hat⟩:=zfF hs D.1;obtain ⟨g9,gb,-,-,g0⟩:=zg0 hc hs D;have hlt:=zh7 hs tn;have g2:(zbu s tn).toNat<c.ins.length:=by have:=D.1;omega
 obtain ⟨r,hF⟩:=hI tn g4 g5;rw [gb] at hF;intro u hu C;by_cases hut:u=tn
 . subst hut
   rcases g0 with ⟨h4,hf,ho⟩ | ⟨h9,h0,hn⟩ | ⟨h9,⟨b,g3,rfl,hb4,hz,hf⟩,ho⟩ | ⟨h4,h9,j,hj,hf⟩
   . refine ⟨r,?_⟩
     rw [hf];refine (hF.call hc h4).congr λl=>?_;unfold zjA;rw [ho]
   . exact absurd hn C
   . refine ⟨r,?_⟩
     rw [hz] at hF;rw [hf];refine (Frm.back hc hF).congr λl=>?_;unfold zjA;rw [ho]
   refine ⟨r,?_⟩;rw [hf];exact hF.next hc h4 hj λl hl=>zAJ hc hs D h4 h9 l hl
 have g1:(u:Int)≠(tn:Int):=λe=>hut oo;rcases qaA u s.stacks.length with I | I
 . rw [zy2 oo g1 I] at C
   obtain ⟨r',gc⟩:=hI u I C;refine ⟨r',?_⟩;rw [zks oo g1 I];exact gc.congr λl=>(zAI hc hs D g1 l).symm
 obtain ⟨h5,hue,hf⟩:=zoc hc hs D hu I;obtain ⟨p,hC⟩:=hF.top;have hg:=zby hc g2 (.inr h5);have hR:RootP c (agN c (zbu s tn).toNat):=hF.root.spawn hC.from_ ⟨_,g2,hC.live,h5,hg.1⟩ hg.2;refine ⟨agN c (zbu s tn).toNat,?_⟩;rw [hf];exact .one hR ⟨hR.used,.inl rfl,.inl rfl,λl _=>.ent (.root hR),λl _=>.ent⟩
theorem zDn {K G:Nat->Nat->Prop} (hb:∀ l,LostM c K G p none l->¬(zqQ c p).testBit l=true) (h:LostM c K G p (some i) l):LostP c K G p (λl=>(zqQ c p).testBit l=true) i l:=by
 generalize ho:some i=o at h
 induction h generalizing i with
 | root _=>cases ho
 | call _ _ _ _=>cases ho
 | ent h _=>cases ho;exact .ent (hb _ h)
 | gen h0 hj h1=>cases ho;exact .gen h0 hj h1
 | pass h0 hj _ h2 ih=>cases ho;exact .pass h0 hj (ih hb rfl) h2
def zmZ (hc:CodeR c) {r p a:Nat} {H:Nat->Prop} (h:Cnd c r p a H) {l:Nat} (hb:(zay (zeD c) a).testBit l=true):H l:=by
 refine qaV λhn=>?_;have hp:=h.used.lt hc;obtain ⟨hi,g1⟩:=zca hc hp h.live;rw [zt7 hi,ziw g1 h.used,zji hi] at hb;refine (zgj.1 hb).2 (zDn (λl hl g0=>?_) (h.lostM l hn));unfold zqQ at g0;exact (zgj.1 g0).2 hl
theorem zod {l:List Int} {t:Int} {i:Nat} (h6:i<6) (h:l[i]?=some t):∀ {k:Nat},i<k->(zeS l t k).testBit i=true
 | 0,hk=>oo
 | k+1,hk=>by
   rw [zeS];by_cases e:i=k
   . subst e
     rw [if_pos ⟨h6,h⟩,qaH,Nat.testBit_two_pow_self];simp
   have:=zod h6 h (k:=k) oo;split
   . rw [qaH,this];rfl
   exact this
def zoe (h6:s.owner.length<=6):(zg6 s t).testBit l=true↔zjA s t l:=by
 unfold zg6;rw [if_neg oo];constructor
 . exact zkr
 intro h
 have hl:l<s.owner.length:=by
   rcases qaA l s.owner.length with h1 | h1
   . exact h1
   unfold zjA at h;rw [List.getElem?_eq_none h1] at h;cases h
 exact zod oo h hl
def zsX (hI:zvS c s) {t:Nat} (ha:0<=zbu s t):∃ r p,RootP c r/\Cnd c r p (zbu s t).toNat (zjA s t):=by
 obtain ⟨h0,h1⟩:=zd0 ha;have h1:t<s.stacks.length:=by simpa using h1
 have g0:stk s t≠[]:=λe=>by rw [zgQ h0 (by simpa using h1),e] at ha;simp [List.getLastD] at ha
 obtain ⟨r,hF⟩:=hI t h1 g0;obtain ⟨L,hL⟩:=zh4 g0;rw [<-zgQ h0 (by simpa using h1)] at hL;have g1:zcH s t=(zbu s t).toNat :: (L.map Int.toNat).reverse:=by unfold zcH;rw [hL];exact zdt
 rw [g1] at hF;obtain ⟨p,hC⟩:=hF.top;exact ⟨r,p,hF.root,hC⟩
def zvT (hc:CodeR c) (hs:zaE c s) (hI:RunI c s) (hF:zvS c s):zd4 c s:=by
 refine ⟨⟨hc,hs⟩,λt ht ha=>?_⟩;have h6:=hc.1.locks6;have hol:=hs.2.1;obtain ⟨r,p,_,hC⟩:=zsX hF ha;refine ⟨λl _ hb=>?_,λl _ hb=>?_⟩
 . rw [qaP,qap] at hb
   exact (zoe oo).2 (zmZ hc hC hb.1)
 have hh:=(zoe (t:=t) oo).1 hb
 have hl:l<s.owner.length:=by
   rcases qaA l s.owner.length with h1 | h1
   . exact h1
   unfold zjA at hh;rw [List.getElem?_eq_none h1] at hh;cases hh
 have ho:ow s l=t:=by
   unfold zjA at hh;rw [List.getElem?_eq_getElem hl,zqI hl] at hh;exact qaW hh
 have g0:(zbu s t).toNat<c.ins.length:=by have:=zh7 hs t;omega
 rw [zpm g0];exact zgj.2 ⟨oo,hI.may t l hl ho ha⟩
end Go.Proofs.YtcnglfeoglgebaaGreat
