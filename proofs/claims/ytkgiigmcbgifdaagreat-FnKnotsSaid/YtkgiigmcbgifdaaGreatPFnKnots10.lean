/-
  The law FnKnots of the given program returns true for every input, and its arguments read afterwards as before: the given statement Rows.FnKnotsSaid.
-/
import Derived.Test.YtkgiigmcbgifdaaGreatPFnKnots9
set_option maxRecDepth 20000
set_option linter.defProp false
set_option linter.unusedVariables false
set_option linter.unusedSimpArgs false
set_option linter.unusedSectionVars false
open Go renaming Value→vL,World→wD,Program→pG
namespace Go.Proofs.YtkgiigmcbgifdaaGreat
open Go Go.Sh Go.Proofs
open Rep (rep)
variable {P:pG} {W W0 W1 w:wD} {c:DCode} {v v0 v1:vL}
def zGW {bs:(List UInt8)}  (h0:Is W0 v0 bs) (e0:Ext W0 w)  :
   CALL tp 4 [v0] w λr w'=>Ext w w'/\(r=.bool (decide ((1048576:Int)<bs.length))):=by
 refine co (g:=kf [] [] []) Tryz.func4 ?_;have:=zak h0;refine zae u22 h0<|zcO<|⟨xrf w,?_⟩;rfl
def zsJ {l1:(List Int)} {l2:(List Int)}  (h0:Is W0 v0 l1) (e0:Ext W0 w) (h1:Is W1 v1 l2) (e1:Ext W1 w)  :
   CALL tp 29 [v0,v1] w λr w'=>Ext w w'/\(r=.bool (decide (l1=l2))):=by
 refine co (g:=kf [] [(4,67106864,[5])] [(6,[0,1,2,3,4,5,6,7,8],0)]) Tryz.func29 ?_;have hl1:=zak h0;have g1:=zak h0;refine zae u25 h0 ?_;have g2:=zak h1;refine zae u25 h1<|zaT<|br (λc1=>?_) (λc1=>?_)
 . refine ⟨xrf w,?_⟩;have:l1≠l2:=λe=>c1 (by rw [e]);simp [this]
 refine zap (l1.length) (λk us w'=>us=[.int .i64 (k:Int)]/\Ext w w'/\(l1.take k=l2.take k)) (0) oo ⟨sS,xrf w,sS⟩ ?_;rintro k m4 _ g3 _ ⟨hu,y1,C⟩;try replace hu:=zbv hu
 try rw [hu]
 try clear hu
 have g0:=zak h0;refine zae u25 h0<|zaf<|br (λc2=>?_) (λc2=>?_)
 . have y2:=zag g3;refine zad u25 ty3 h0 oo λ_ _ g4=>zac ty3 g4 (e0.t (y1.t y2)) λ_=>zad u25 ty3 h1 oo λ_ _ g5=>zac ty3 g5 (e1.trans (y1.t y2)) λ_=>zaT<|br (λc3=>?_) (λc3=>?_)
   . refine ⟨(y1.t y2),?_⟩;have:l1≠l2:=λe=>c3 (by subst e;rfl);simp [this]
   refine zau<|⟨m4-1,oo,k+1,oo,sS,(y1.t y2),?_⟩;rw [tk oo,tk oo,C,qai.1 c3]
 refine ⟨y1,?_⟩;rw [qaf oo,qaf oo] at C;simp [C]
def zhQ {l1:(List (List Int))} {l2:(List (List Int))}  (h0:Is W0 v0 l1) (e0:Ext W0 w) (h1:Is W1 v1 l2) (e1:Ext W1 w)  :
   CALL tp 9 [v0,v1] w λr w'=>Ext w w'/\(r=.bool (decide (l1=l2))):=by
 refine co (g:=kf [] [(4,134215728,[5])] [(6,[0,1,2,3,4,5,6,7,8,9],0)]) Tryz.func9 ?_;have hl1:=zak h0;have g1:=zak h0;refine zae u31 h0 ?_;have g2:=zak h1;refine zae u31 h1<|zaT<|br (λc1=>?_) (λc1=>?_)
 . refine ⟨xrf w,?_⟩;have:l1≠l2:=λe=>c1 (by rw [e]);simp [this]
 refine zap (l1.length) (λk us w'=>us=[.int .i64 (k:Int)]/\Ext w w'/\(l1.take k=l2.take k)) (0) oo ⟨sS,xrf w,sS⟩ ?_;rintro k m4 _ g3 _ ⟨hu,y1,C⟩;try replace hu:=zbv hu
 try rw [hu]
 try clear hu
 have g0:=zak h0;refine zae u31 h0<|zaf<|br (λc2=>?_) (λc2=>?_)
 . have y2:=zag g3;refine zad u31 zaS h0 oo λ_ _ g4=>zab zaS g4 (e0.t (y1.t y2)) λ_ g5=>zad u31 zaS h1 oo λ_ _ g9=>zab zaS g9 (e1.trans (y1.t y2)) λ_ gb=>?_;refine (zsJ g5 (e0.t (y1.t y2)) gb (e1.trans (y1.t y2))).mono ?_;rintro _ _ ⟨y3,rfl⟩;refine zav<|br (λc3=>?_) (λc3=>?_)
   . refine ⟨(y1.t (y2.t y3)),?_⟩;have:l1≠l2:=λe=>c3 (by subst e;rfl);simp [this]
   refine zau<|⟨m4-1,oo,k+1,oo,sS,(y1.t (y2.t y3)),?_⟩;rw [tk oo,tk oo,C,qai.1 c3]
 refine ⟨y1,?_⟩;rw [qaf oo,qaf oo] at C;simp [C]
def zsK {l1:(List DRace)} {l2:(List DRace)}  (h0:Is W0 v0 l1) (e0:Ext W0 w) (h1:Is W1 v1 l2) (e1:Ext W1 w)  :
   CALL tp 8 [v0,v1] w λr w'=>Ext w w'/\(r=.bool (decide (l1=l2))):=by
 refine co (g:=kf [] [(4,67106864,[5])] [(6,[0,1,2,3,4,5,6,7,8],0)]) Tryz.func8 ?_;have hl1:=zak h0;have g1:=zak h0;refine zae u30 h0 ?_;have g2:=zak h1;refine zae u30 h1<|zaT<|br (λc1=>?_) (λc1=>?_)
 . refine ⟨xrf w,?_⟩;have:l1≠l2:=λe=>c1 (by rw [e]);simp [this]
 refine zap (l1.length) (λk us w'=>us=[.int .i64 (k:Int)]/\Ext w w'/\(l1.take k=l2.take k)) (0) oo ⟨sS,xrf w,sS⟩ ?_;rintro k m4 _ g3 _ ⟨hu,y1,C⟩;try replace hu:=zbv hu
 try rw [hu]
 try clear hu
 have g0:=zak h0;refine zae u30 h0<|zaf<|br (λc2=>?_) (λc2=>?_)
 . have y2:=zag g3;refine zad u30 zdG h0 oo λ_ _ g4=>zab zdG g4 (e0.t (y1.t y2)) λ_ g5=>zad u30 zdG h1 oo λ_ _ g9=>zab zdG g9 (e1.trans (y1.t y2)) λ_ gb=>zmG g5 gb<|br (λc3=>?_) (λc3=>?_)
   . refine ⟨(y1.t y2),?_⟩;have:l1≠l2:=λe=>c3 (by subst e;rfl);simp [this]
   refine zau<|⟨m4-1,oo,k+1,oo,sS,(y1.t y2),?_⟩;rw [tk oo,tk oo,C,qai.1 c3]
 refine ⟨y1,?_⟩;rw [qaf oo,qaf oo] at C;simp [C]
def zAN {p:List Int->Prop} {S:List (List Int)} {m:List Int} (h:∀ x∈S,x≠[]/\p x) (hm:p m):∀ x∈zz1 S m,x≠[]/\p x:=by
 unfold zz1;split
 . exact h
 rename_i hn;intro x hx;rcases qae.1 hx with hx | hx
 . exact h x hx
 simp only [qaa,qad,qaq] at hx;subst hx;exact ⟨λe=>hn (.inl e),hm⟩
theorem zo2 {c:DCode} {s:DState} {p:List Int->Prop} {S:List (List Int)} (h:∀ x∈S,x≠[]/\p x) (hm:∀ t:Int,p (zby (ze9 c s t))):∀ n,∀ x∈zj3 c s S n,x≠[]/\p x
 | 0=>by simpa [zj3] using h
 | n+1=>by
   rw [zij];exact zAN (zo2 h hm n) (hm _)
theorem zo3 {c:DCode} {p:List Int->Prop}:∀ (sts:List DState) (S:List (List Int)),(∀ x∈S,x≠[]/\p x)->(∀ s∈sts,∀ t:Int,p (zby (ze9 c s t)))->∀ x∈sts.foldl (λS s=>zj3 c s S s.stacks.length) S,x≠[]/\p x
 | [],S,h,_=>h
 | s :: sts,S,h,hm=>by
   rw [qbt];exact zo3 sts _ (zo2 h (hm s sS) _) λz hz=>hm z (by simp [hz])
theorem zD4 {c:DCode} {f:Tr} (hc:CodeR c) (hL:zvw c f) (hr:∀ s∈f.states,zaV c s):∀ n k,k<=n->k<f.states.length->RunI c (zdM f k)/\zxv c (zdM f k)/\RootI c (zdM f k)
 | 0,k,hk,hl=>by
   obtain rfl:k=0:=oo;rw [hL.1];exact ⟨zsv hc,znw hc,zo1 hc⟩
 | n+1,k,hk,hl=>by
   by_cases h0:k=0
   . subst h0;rw [hL.1];exact ⟨zsv hc,znw hc,zo1 hc⟩
   obtain ⟨i,_,_,_,_,g0,he⟩:=hL.2 k oo hl;obtain ⟨h1,h2,h3⟩:=zD4 hc hL hr n i oo oo
   have hs:zaV c (zdM f i):=by
     have:=hr _ (qac (show i<f.states.length by omega));rwa [zdV] at this
   rw [he];exact ⟨zCj hc hs g0 h1,zCm hc hs g0 h2,zAM hc hs h2 h3 g0⟩
def zxk {m:Int} (hc:CodeR c) (hM:1<=zgk m) (hT:TrOk c (zgk m) (zgj c (zgk m))):∀ s∈zbx c m,zaV c s/\RunI c s/\zxv c s/\RootI c s:=by
 intro s hs;unfold zbx at hs;rw [qah hc] at hs;obtain ⟨k,hk,rfl⟩:=qbY hs;have h:=zD4 hc (zz5 (c:=c) hM).1.ln hT.right k k (lr _) hk;rw [zdV hk];refine ⟨?_,h⟩;have:=hT.right _ (qac hk);rwa [zdV hk] at this
def znV {bs:List UInt8} (h:Is W v bs) (e:Ext W w) (hl:bs.length<=1048576) :
   CALL tp 5 [v] w λr w'=>Ext w w'/\Is w' r (znI bs):=by
 refine co (g:=kf [] [] []) Tryz.func5 ?_;refine zaL zxm λ_ g0 g3=>?_;have:=g0.size;have:=g3.lt;refine (ztF h (e.trans g0) hl).mono ?_;rintro _ _ ⟨g1,_,_,_,_,_,_,rfl,oa,ob,_,_,_,_,-⟩;have:=g1.size;refine zaN rfl<|zaN rfl ?_;obtain ⟨_,rfl,g4⟩:=zeq rfl oa;obtain ⟨_,rfl,_⟩:=zeq rfl ob;refine zaL zxm λ_ I g5=>?_;have:=I.size;have:=g5.lt;refine zaL zl5 λ_ C g9=>?_;have:=C.size;have:=g9.lt;have gb:=oa.ext (I.t C);have gf:=ob.ext (I.t C);refine zaz zbY rfl (g5.ext C) rfl gb λ_ D gg=>?_;have:=D.size;refine zaz zch rfl (g9.chgI D oo) rfl (gf.chg D oo) λ_ O _=>?_;have:=O.size;refine zck (gg.chgI O oo) (by rw [g4];exact zbY) ?_;have gc:=(gb.chg D oo).chg O oo;have g2:=((g3.ext (g1.t (I.t C))).chgI D oo).chgI O oo;refine zaz zbY rfl g2 rfl gc λ_ gd gh=>zcl gh (by rw [g4];exact zbY)<|⟨Ext.chgI (Ext.chgI (Ext.chgI (g0.t (g1.t (I.t C))) D oo) O oo) gd oo,(gc.chg gd oo).is⟩
def zlL:¬ze2 [] [(0:Int)]/\ze2 [] []:=⟨λh=>by rcases h with h | ⟨r,hr,_⟩<;>simp at *,.inl rfl⟩
set_option maxRecDepth 20000 in
theorem zCx {bs:List UInt8} (h0:Is W v0 bs) (e0:Ext W w):CALL tp 3 [v0] w λr w'=>Ext w w'/\(r=.bool true):=by
  refine co (g:=kf [] [(11,9006099743114244,[10]),(16,147564945390421673988,[11])] [(18,[0,2,3,4,5,1,6,7],2)]) Tryz.func3 ?_;refine (zGW h0 e0).mono ?_;rintro _ _ ⟨gr,rfl⟩;refine br (λ_=>⟨gr,rfl⟩) (λ_=>?_);have gs:bs.length<=1048576:=oo;obtain ⟨hc,-,hw,-⟩:=zoC bs;have hd:=λ{w2:wD} (hx:Ext w w2)=>znV h0 (e0.t hx) gs;generalize znI bs=c at *;have gN:zha c=(zf5 c).map za5:=by unfold zha;rw [qah hc]
  have gX:zsI c=rcs c:=by unfold zsI rcs;rw [qah hc]
  refine (hd gr).mono ?_;rintro _ w2 ⟨gY,gZ⟩;refine zcP zxm rfl zbY rfl gZ (xrf _) λ_ h4 gt _=>?_;have gc:=gr.t (gY.t h4);refine (hd gc).mono ?_;rintro _ _ ⟨h5,h6⟩;refine zcP zxm rfl zbY rfl h6 (xrf _) λ_ h8 gx _=>?_;have g0:=h5.t h8;refine zab zbY gt g0 λ_ h9=>?_;refine (znL (m:=100) h9 g0 hw).mono ?_;rintro _ _ ⟨gi,_,_,_,_,_,_,rfl,gj,gl,-,-,-,-,-⟩;refine zaN rfl<|zaN rfl<|zab zbY gx gi λ_ ha=>?_;refine (znM (m:=100) ha gi hw).mono ?_;rintro _ _ ⟨gy,_,_,rfl,hb,gO,hT⟩;have g1:=zxk hc qd (hT hc);have gP:∀ x∈zfS c (zbx c 100),x≠[]/\ze2 ((zf5 c).map za5) x:=zo3 _ _ sS λs hs t=>zxj hc (g1 s hs).1 (g1 s hs).2.1 t
  have he:∀ x∈zcX (zc1 c (zbx c 100)),x∈rcs c:=λx hx=>by
    rw [zgE] at hx;unfold zc1 at hx;obtain ⟨s,hs,hx⟩:=qaJ.1 hx;obtain ⟨a1,a2,a3,a4⟩:=g1 s hs;exact zxi hc a1 a2 a3 a4 x hx
  have:(zcX (zc1 c (zbx c 100))).length<=9223372036854775807:=zak gj.is;have:(zfS c (zbx c 100)).length<=9223372036854775807:=zak gl.is;generalize zfS c (zbx c 100)=K at *;generalize zcX (zc1 c (zbx c 100))=A at *;refine zaN rfl<|zaN rfl ?_;refine (zsK gj.is gy hb.is (xrf _)).mono ?_;rintro _ _ ⟨gp,rfl⟩;refine zav<|br (λh=>absurd rfl h) (λ_=>?_);refine (zhQ gl.is (gy.t gp) gO.is gp).mono ?_;rintro _ _ ⟨gQ,rfl⟩;refine zav<|br (λh=>absurd rfl h) (λ_=>?_);have gd:=gy.t (gp.t gQ);have gz:=gi.t gd;have g2:=g0.t gz;refine zab zbY gt g2 λ_ hf=>?_;refine (znt hf g2).mono ?_;rintro _ hg ⟨g3,hh⟩;have gq:=hh.is;have g4:=gd.t g3;have gC:=g2.t g3;refine zap K.length (λt us w'=>us=[.int .i64 (t:Int)]/\t<=K.length/\Ext hg w') 0 (z0 _) ⟨rfl,z0 _,xrf _⟩ ?_;rintro t m2 _ hj gD ⟨gE,gR,D⟩;try replace gE:=zbv gE
  rw [gE];refine zae u31 gl.is<|zaf<|br (λhk=>?_) (λgS=>?_)
  . have ht:t<K.length:=oo;refine zad u31 zaS gl.is ht λ_ _ gF=>zab zaS gF (g4.t D) λ_ hl=>?_;refine (zdC gq D hl (g4.t D)).mono ?_;rintro _ gU ⟨U,rfl⟩;refine zav<|br (λh=>absurd (by rw [gN];exact (gP _ (qac ht)).2) h) (λ_=>?_);refine zau<|⟨m2-1,oo,t+1,oo,rfl,oo,D.t U⟩
  clear gD gR gS;refine zap A.length (λt us w'=>us=[.int .i64 (t:Int)]/\t<=A.length/\Ext hj w') 0 (z0 _) ⟨rfl,z0 _,xrf _⟩ ?_;rintro t3 m3 _ gU _ ⟨gG,gR,U⟩;try replace gG:=zbv gG
  rw [gG];have V:=g4.t (D.t U);have X:=gC.t (D.t U);refine zae u30 gj.is<|zaf<|br (λhk=>?_) (λgS=>?_)
  . have ht:t3<A.length:=oo;have gf:=zag gU;refine zab zbY gt (X.t gf) λ_ hn=>zad u30 zdG gj.is ht λ_ _ gH=>zab zdG gH (V.t gf) λ_ hq=>?_;refine (znU hn (X.t gf)).mono ?_;rintro _ gV ⟨C,hu⟩;refine ⟨C,?_⟩;refine (znA hu.is (xrf _) hq ((V.t gf).trans C)).mono ?_;rintro _ gW ⟨Y,rfl⟩;refine zav<|br (λh=>absurd (by rw [gX];exact he _ (qac ht)) h) (λ_=>?_);refine zau<|⟨m3-1,oo,t3+1,oo,rfl,oo,U.t (gf.t (C.trans Y))⟩
  have I:=gi.t V;have Z:=gc.t X;have O:=D.t U;refine zae u31 (gq.ext O)<|zcO ?_
  have gg:¬((zha c).length:Int)>0->K=[]:=λh=>by
    refine qbJ.2 λx hx=>?_;obtain ⟨h1,h2⟩:=gP x hx;have h3:(zf5 c).map za5=[]:=by rw [<-gN];exact qan oo
    rw [h3] at h2;rcases h2 with h2 | ⟨r,hr,_⟩
    . exact h1 h2
    cases hr
  refine br (λ_=>?_) (λhz=>?_)
  rotate_left
  . refine zae u31 ((gO.is.ext (gp.t (gQ.t g3))).ext O) ?_;rw [gg hz];refine zai<|br (λ_=>?_) (λh=>absurd rfl h);refine zab zbY gx I λhv gI=>?_;refine (zhP gI I).mono ?_;rintro hy gV ⟨C,gJ⟩;refine (zhQ gq (O.t C) gJ.is (xrf _)).mono ?_;rintro _ gW ⟨Y,rfl⟩;refine zbX (λ_=>?_) (λh=>by simp at h);refine zfK (vs:=[.int .i64 0]) (l:=[(0:Int)]) u25 ty3 zBl qd kK rfl (λw=>zgv (l:=[(0:Int)]) (λx hx=>by simp only [qaa,qad,qaq] at hx;subst hx;unfold I64;omega)) λhB gK g5 gM=>?_;refine (zdC (rounds:=[]) (zlS (w:=gK) rfl) (xrf _) gM.is (xrf _)).mono ?_;rintro _ gh ⟨g9,rfl⟩;refine zav<|br (λ_=>?_) (λh=>absurd zlL.1 h);refine (zdC (rounds:=[]) (locks:=[]) (zlS (w:=gh) rfl) (xrf _) (zlS (w:=gh) rfl) (xrf _)).mono ?_;rintro _ hC ⟨gb,rfl⟩;exact ⟨Z.t (C.trans (Y.t (g5.t (g9.t gb)))),by rw [decide_eq_true zlL.2]⟩
  skip
  refine zab zbY gx I λhv gI=>?_;refine (zhP gI I).mono ?_;rintro hy gV ⟨C,gJ⟩;refine (zhQ gq (O.t C) gJ.is (xrf _)).mono ?_;rintro _ gW ⟨Y,rfl⟩;refine zbX (λ_=>?_) (λh=>by simp at h);refine zfK (vs:=[.int .i64 0]) (l:=[(0:Int)]) u25 ty3 zBl qd kK rfl (λw=>zgv (l:=[(0:Int)]) (λx hx=>by simp only [qaa,qad,qaq] at hx;subst hx;unfold I64;omega)) λhB gK g5 gM=>?_;refine (zdC (rounds:=[]) (zlS (w:=gK) rfl) (xrf _) gM.is (xrf _)).mono ?_;rintro _ gh ⟨g9,rfl⟩;refine zav<|br (λ_=>?_) (λh=>absurd zlL.1 h);refine (zdC (rounds:=[]) (locks:=[]) (zlS (w:=gh) rfl) (xrf _) (zlS (w:=gh) rfl) (xrf _)).mono ?_;rintro _ hC ⟨gb,rfl⟩;exact ⟨Z.t (C.trans (Y.t (g5.t (g9.t gb)))),by rw [decide_eq_true zlL.2]⟩
def zCy {t:TypeId} (ht:P.underlying t=some (.int .u8)) (n:Nat):zqP P t UInt8 n:=by
 intro _ _ _ _ _ _ _ h;obtain ⟨m,rfl,_,hw⟩:=DataW.trod_int ht h;have hm:0<=m/\m<=255:=by simpa [Lit.wf,IntKind.min,IntKind.max,IntKind.signed,IntKind.bits] using hw
 refine ⟨[],UInt8.ofNat m.toNat,rfl,?_⟩
 have:((UInt8.ofNat m.toNat).toNat:Int)=m:=by
   have:(UInt8.ofNat m.toNat).toNat=m.toNat:=by simp;omega
   omega
 rw [this]
def zFy:∀ n,zqP tp 22 (List UInt8) n:=zlU u22 kK (zCy u5)
def zcB {a b:Bool} (h:a=true) (k:b=true):(a&&b)=true:=by rw [h,k];rfl
def zFz:laidOutB tp=true:=by kernel_rfl
def zFA:mapsRowed tp=true:=by kernel_rfl
def zCz:(Rows.fnKnotsRow.plainKeys == tp.plainKeys)=true:=by kernel_rfl
def zCA:tp.stopsHeard=true:=by kernel_rfl
def zGX:tp.mayEnter=true:=by kernel_rfl
def zFB:(Rows.fnKnotsRow.lifted == tp.liftsFinal)=true:=by kernel_rfl
def zFC:(tp.make == some Rows.fnKnotsRow.make)=true:=by kernel_rfl
end Go.Proofs.YtkgiigmcbgifdaaGreat
namespace Go.Proofs.YtkgiigmcbgifdaaGreat.fnKnots
open Go.ChangeShapes Go.WideShapes Go.ChangeAt Go.RowKit Go.Sh
def own:ownKnob tp.godebug=none:=by kernel_rfl
def zFD:laidOutB tp=true:=by kernel_rfl
set_option maxRecDepth 100000 in
theorem lifted (os:Os) (r:os.Started) (H:Type) (enc:TypeId×vL->H) :
    ReturnsInHanded {} Tryz.checked os 3 .any (Rows.fnKnotsSpec.pre6 enc tp Tryz.f3 Rows.fnKnotsRow.domain false) (Rows.fnKnotsSpec.post enc tp Tryz.f3 false true false false):=by
  refine returnsInHanded_of_change (C:=Tryz.checked) own r kK Tryz.func3
    (ChangeSpec.witness6 (enc:=enc) (C:=Tryz.checked) false ⟨#[],#[.slice none 0 0],[]⟩ 8 kK kK kK kK) ?_
  intro W base args ds _ _ D hW _ _;have g0:∀ (j:Nat) t v,Tryz.f3.params[j]?=some t->args[j]?=some v->Value.okWide tp W .any base t v:=D;have g4:=hW;obtain ⟨p,_,g2,hV,rfl,_,_⟩:=hW;have hA:DataW.TrodAll enc tp W 0 (λ_=>true) true Tryz.f3.params.toList args.toList ds p:=g2;rw [Tryz.params3] at hA g0;obtain ⟨v0,_,_,_,p0,_,_,rfl,rfl,h0,r0⟩:=trodAll_cons hA;obtain ⟨rfl,rfl,rfl⟩:=trodAll_nil r0;obtain rfl:args=#[v0]:=by cases args;simp_all
  obtain ⟨rfl,rfl⟩:=trodVars_none hV;have lt0:∀ x∈p0,x.block<W.heap.size:=by obtain ⟨m,hm⟩:=h0;exact DataW.trod_lt m _ _ _ hm
  obtain ⟨_,i0⟩:=zs0 (α:=UInt8) u22 zFy (g0 0 22 v0 rfl rfl) h0;clear g2 D;obtain ⟨g1⟩:=zCx i0 (xrf W);refine g1.mono λ_ _ ⟨v,he,g3,hv⟩=>?_;subst he hv;exact ⟨_,rfl,_,_,_,[],_,[],g4,trodAll_mk1 (shut_bool Tryz.underlying4 _),(trodAll_cons_mk (Below.trod zFD kK (of_decide_eq_true kK) h0 g3 lt0) trodAll_mk0),rfl,g3.frame _,λh=>by cases h⟩
def zAO:(Rows.fnKnotsRow.inPlace == tp.inPlace 3)=true:=by kernel_rfl
def zsL:(Rows.fnKnotsRow.unfollowed == tp.unfollowed 3)=true:=by kernel_rfl
def zxl:(Rows.fnKnotsRow.recurses == tp.recurses 3)=true:=by kernel_rfl
def zFE:(Rows.fnKnotsRow.named == tp.varsNamed 3)=true:=by kernel_rfl
def closed:joinedFacts tp 3 Tryz.f3 Rows.fnKnotsSpec Rows.fnKnotsRow=true:=by
 unfold joinedFacts;exact (zcB (zcB (zcB (zcB (zcB (zcB (zcB (zcB (zcB (zcB (zcB (zcB (zcB (zcB (zcB (zcB (zcB (zcB (zcB (zcB (zcB (zcB (zcB (zcB (zcB (zcB (zcB (zcB (zcB (zcB (zcB kK zFz) zFA) kK) kK) kK) kK) kK) kK) zAO) zsL) zxl) zFE) kK) kK) kK) kK) kK) kK) kK) kK) kK) zCz) kK) zCA) zGX) zFB) zFC) kK) kK) kK) kK)
def over:Rows.fnKnotsRow.holds Tryz.pinned (OpenSpec.ofChange Rows.fnKnotsSpec):=
 OpenClaim.holds_of_wide 3 Tryz.f3 rfl rfl rfl rfl rfl rfl rfl ⟨rfl,rfl,rfl,rfl,rfl⟩ rfl rfl rfl rfl rfl kK Tryz.func3 closed
   (of_decide_eq_true kK) (by unfold Func.isWrapper;first | (rw [qah (by decide +kernel)];kernel_rfl) | (rw [qab (by decide +kernel)];exact ⟨rfl,rfl⟩))
   (λos started H enc _=>lifted os started H enc)
theorem proved:Rows.FnKnotsSaid:=over
end Go.Proofs.YtkgiigmcbgifdaaGreat.fnKnots
