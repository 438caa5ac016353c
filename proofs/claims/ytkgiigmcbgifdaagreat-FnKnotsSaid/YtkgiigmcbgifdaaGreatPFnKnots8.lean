/-
  Parts of the proof, put together by program.
-/
import Derived.Test.YtkgiigmcbgifdaaGreatPFnKnots7
set_option maxRecDepth 20000
set_option linter.defProp false
set_option linter.unusedVariables false
set_option linter.unusedSimpArgs false
set_option linter.unusedSectionVars false
open Go renaming Value→vL,World→wD,Program→pG
namespace Go.Proofs.YtkgiigmcbgifdaaGreat
open Go Go.Sh Go.Proofs
open Rep (rep)
variable {P:pG} {W0 W1 w:wD} {b h0 i k m:Nat} {c:DCode} {g0 out:List Nat} {v v0 v1:vL}
def slQ (c:DCode) (z:DTrail) (g:Nat) (i t:Nat) (w0:wD):ParQ:=λj u T w=>match j with
 | 0=>Is w0 (u 51) c
 | 1=>u 52=.pointer (some ⟨g,0,none⟩)
 | 2=>u 53=.pointer (some ⟨g,0,none⟩)
 | 3=>u 54=.pointer (some ⟨g,0+0,none⟩)
 | 4=>u 55=z.states.v
 | 5=>u 56=.int .i64 (i:Int)
 | 6=>∃ b o,u 57=.pointer (some ⟨b,o,none⟩)/\At w0 b o (zdM z.er i)
 | 7=>Is w0 (u 58) (zdM z.er i)
 | 8=>u 59=.int .i64 (t:Int)
 | 9=>OwnI (T 9).1 (T 9).2 w (u 60) (za1 c (zdM z.er i) t)
 | 10=>∃ gg,u 8=.pointer (some ⟨gg,0,none⟩)/\(T 10).1<=gg/\gg<(T 10).2/\Blk gg 43 w [.slice none 0 0,.slice none 0 0,.slice none 0 0]
 | _=>True
def zzW {m:Int} (h0:Is W0 v0 c) (e0:Ext W0 w) (hw:zjq c<=1048576) (hc:CodeR c) :
   CALL tp 63 [v0,.int .i64 m] w λr w'=>Ext w w'/\∃ (g:Nat) (z:DTrail),r=.pointer (some ⟨g,0,none⟩)/\w.heap.size<=g/\VarI w.heap.size w'.heap.size w' g z/\z.er=zgj c (zbN m 1 150).toNat/\TrOk c (zbN m 1 150).toNat z.er:=by
 refine co (g:=⟨extL,[],[(4,649037107316853453566312040890832,[6]),(7,649037107316853453566311906935184,[7])],[(9,[0,1,2,3,4,5,6,7,8,9,10],0),(11,[0,1,2,3,4,5,6],0),(15,[0,1,2,3,4,5,6,7,8,9,10],192)],[(10,2303591209400008960,11)],[15],[]⟩) Tryz.func63 ?_;refine zbp h0 e0 λ_ gW hA=>?_;have hs1:=gW.size;refine specBrought_ok.mono ?_;rintro _ w3 ⟨g3,rfl⟩;have hs3:=g3.size;have hMi:=zkP m;obtain ⟨M,hM,hX,_⟩:∃ M:Nat,zbN m 1 150=(M:Int)/\1<=M/\M<=150:=⟨(zbN m 1 150).toNat,oo,oo,oo⟩;rw [hM];have hY:((M:Nat):Int).toNat=M:=oo;rw [hY];refine zab zbY hA g3 λ_ hZ=>?_;refine (zgf hZ g3 hw).mono ?_;rintro _ _ ⟨hv,gM⟩;rw [show zkF c=zb2 c from qah hc] at gM;have gM:=gM.toI;have hs4:=hv.size;refine zgD (β:=DState) u46 zch z43 qd gM oo λhy w5 gs hz=>?_;have hs5:=gs.size;refine zgD (β:=Int) (lo2:=w5.heap.size) (hi2:=w5.heap.size) u25 ty3 z3 qd (zbI (x:=-1) io) oo λv14 w6 gX hC=>?_;have hs6:=gX.size;refine zgD (β:=Int) (lo2:=w6.heap.size) (hi2:=w6.heap.size) u25 ty3 z3 qd (zbI (x:=-1) io) oo λhD w7 gN hG=>?_;have hs7:=gN.size;have j0:=zff ((hz.ext gX).ext gN);have j1:=zff (hC.ext gN);have j2:=zff hG;obtain ⟨_,_,_,j3⟩:=zda hz.own;obtain ⟨_,_,_,j4⟩:=zda hC.own;obtain ⟨_,_,_,j5⟩:=zda hG.own;have j6:=zoM (z:=⟨⟨hy,[zb2 c]⟩,⟨v14,[-1]⟩,⟨hD,[-1]⟩,true⟩) j0 j1 j2 oo;refine zaF (cells:=#[hy,v14,hD,.bool true]) (by rw [j3,j4,j5];kernel_rfl)<|zE7 (α:=DTrail) rfl j6 λw9 hH gy=>?_;have hs9:=hH.size;have j7:=gy.lt;have gY:Ext w3 w9:=hv.t (gs.t (gX.t (gN.t hH)));obtain ⟨g,j8⟩:∃ g,w7.heap.size=g:=⟨_,rfl⟩;rw [j8] at gy j7 ⊢;have gy:=gy.mono (lo':=w3.heap.size) (hi':=w9.heap.size) (lr _) oo
 refine zap M (λk us w'=>us=[.int .i64 (k:Int)]/\∃ (z:DTrail) (hi:Nat),Ext w3 w'/\VarI w3.heap.size hi w' g z/\g<hi/\hi<=w'.heap.size/\TrOk c M z.er/\k<=z.states.l.length/\zez c M (M-k) k z.er=zgj c M) 0 oo
   ⟨rfl,_,w9.heap.size,gY,gy,oo,lr _,zvt hc hX,z0 _,rfl⟩ ?_
 rintro k mk u _ _ ⟨hu,z,hi,gi,g4,j9,hI,gO,_,Z⟩;try replace hu:=zbv hu
 rw [hu];have hJ:1<=z.states.l.length/\z.states.l.length<=M:=gO.many;refine ⟨rfl,?_⟩;refine zaa zgO<|zbR zqA (zaU g4.at) (xrf _) ?_;have ja:=zrT (zaU g4.at);refine zae u46 ja<|zaf<|br (λ_=>?_) (λhK=>?_)
 case refine_2=>have:=gi.size;refine ⟨gW.t (g3.t gi),g,z,rfl,oo,g4.mono oo hI,?_,gO⟩;rw [<-Z,zoL (f:=z.er) (by show z.states.l.length<=k;omega)]
 have gP:k<z.states.l.length:=oo;have gQ:zaV c (zdM z.er k):=gO.right _ (by rw [<-zdV (f:=z.er) gP];exact qac _);obtain ⟨s,gR⟩:∃ s,zdM z.er k=s:=⟨_,rfl⟩;rw [gR] at gQ;have hn6:=gQ.2.2.1
 refine zap s.stacks.length (λt us w'=>us=[.int .i64 (t:Int)]/\∃ (z':DTrail) (hi':Nat),Ext w3 w'/\VarI w3.heap.size hi' w' g z'/\g<hi'/\hi'<=w'.heap.size/\TrOk c M z'.er/\k<z'.states.l.length/\zdM z'.er k=s /\
     zeU c M k s.stacks.length 0 z.er=zeU c M k (s.stacks.length-t) t z'.er) 0 oo
   ⟨rfl,z,hi,gi,g4,j9,hI,gO,gP,gR,rfl⟩ ?_
 rintro t mt _ gz _ ⟨gZ,z',hi',D,O,g5,h2,V,I,C,Y⟩;try replace gZ:=zbv gZ
 rw [gZ];have gj:=zrT (zaU O.at);refine ⟨rfl,?_⟩;refine zaa zgO<|zbR zqA (zaU O.at) (xrf _)<|zad u46 zch gj I λjb jc h4=>?_;replace h4:At gz jb jc s:=by rw [<-C,<-zdV (f:=z'.er) I];exact h4
 refine zaa zbc<|zab zeV (zaB h4) (xrf _) λ_ jd=>zae u31 jd<|zaf<|br (λ_=>?_) (λ_=>?_)
 case refine_2=>
   have ht:t=s.stacks.length:=oo;subst ht;rw [qcE,zeU] at Y;rw [<-gR] at Y;refine zau<|⟨mk-1,oo,k+1,oo,rfl,z',hi',D,O,g5,h2,V,oo,?_⟩;rw [<-Z,show M-k=(M-(k+1))+1 by omega,zm5 (f:=z.er) gP Y]
 have htn:t<s.stacks.length:=oo;have hq:s.stacks.length-t=(s.stacks.length-(t+1))+1:=oo;have U:=zag gz;have je:=U.size;refine zab zbY hA (g3.t (D.t U)) λ_ jf=>⟨rfl,?_⟩;refine zaa zgO<|zbR zqA (zaU O.at) U<|zad u46 zch gj I λjg jh h5=>?_;replace h5:At gz jg jh s:=by rw [<-C,<-zdV (f:=z'.er) I];exact h5
 refine zab zch h5 U λ_ ji=>?_;refine (zu6 jf (g3.t (D.t U)) ji U hc gQ).mono ?_;rintro _ h6 ⟨g9,rfl⟩;have jj:=g9.size;refine zav<|br (λjk=>?_) (λhg=>?_)
 . refine zau ?_;refine ⟨mt-1,oo,t+1,oo,rfl,z',hi',D.t (U.t g9),O.ext (U.t g9),g5,oo,V,I,C,?_⟩;rw [Y,hq,zii (zvu (f:=z'.er) (by rw [C];exact jk))]
 have h8:GoR c s t:=qai.1 hg;have gC:=zag h6;have jl:=gC.size;have gt:Ext gz (World.drew1 h6):=U.t (g9.t gC);generalize World.drew1 h6=w14 at *;refine PAR.mk (slQ c z' g k t w14) ?_ ?_ ?_
 . intro i u u' T T' _ wb gS hN hd hq
   match i,hd,hq with
   | 0,hd,hq=>have:=(hd (0,51) qd).1;show Is _ (u' 51) _;simp only [this];exact hq
   | 1,hd,hq=>exact (hd (1,52) qd).1.trans hq
   | 2,hd,hq=>exact (hd (2,53) qd).1.trans hq
   | 3,hd,hq=>exact (hd (3,54) qd).1.trans hq
   | 4,hd,hq=>exact (hd (4,55) qd).1.trans hq
   | 5,hd,hq=>exact (hd (5,56) qd).1.trans hq
   | 6,hd,⟨b,o,q1,q2⟩=>exact ⟨b,o,(hd (6,57) qd).1.trans q1,q2⟩
   | 7,hd,hq=>have:=(hd (7,58) qd).1;show Is _ (u' 58) _;simp only [this];exact hq
   | 8,hd,hq=>exact (hd (8,59) qd).1.trans hq
   | 9,hd,hq=>
     obtain ⟨e1,e2⟩:=hd (9,60) qd;simp only at e1 e2;show OwnI (T' 9).1 (T' 9).2 wb (u' 60) _;rw [e1,e2];exact OwnI.ext hq hN
   | 10,hd,⟨gg,q1,q2,q3,q4⟩=>
     obtain ⟨e1,e2⟩:=hd (10,8) qd;simp only at e1 e2;exact ⟨gg,e1.trans q1,by rw [e2];exact q2,by rw [e2];exact q3,q4.ext hN⟩
   | n+11,_,_=>trivial
 . refine ⟨λu T w' hx _ _=>?_,λu T w' hx _ _=>?_,λu T w' hx _ hp=>?_,λu T w' hx _ hp=>?_,λu T w' hx _ hp=>?_,λu T w' hx _ _=>?_,λu T w' hx _ hp=>?_,λu T w' hx _ hp=>?_,λu T w' hx _ _=>?_,λu T w' hx _ hp=>?_,λu T w' hx _ _=>?_,trivial⟩
   . exact zab zbY hA (g3.t (D.t (gt.t hx))) λv h=>⟨xrf _,h.ext (g3.t (D.t gt))⟩
   . exact ⟨xrf _,rfl⟩
   . have q0:u 52=_:=hp.1;rw [q0];exact ⟨rfl,xrf _,rfl⟩
   . have q0:u 53=_:=hp.1;rw [q0];exact zaa zgO ⟨xrf _,rfl⟩
   . have q0:u 54=_:=hp.1;rw [q0];exact zbR zqA (zaU O.at) (gt.t hx) ⟨xrf _,rfl⟩
   . exact ⟨xrf _,rfl⟩
   . have q0:u 55=_:=hp.1;have q1:u 56=_:=hp.2.1;rw [q0,q1];refine zad u46 zch gj I λb o h=>⟨xrf _,b,o,rfl,?_⟩;rw [<-zdV (f:=z'.er) I];exact h.ext gt
   . obtain ⟨b,o,q0,q1⟩:∃ b o,u 57=.pointer (some ⟨b,o,none⟩)/\At w14 b o (zdM z'.er k):=hp.1;rw [q0];exact zab zch q1 hx λv h=>⟨xrf _,h⟩
   . exact ⟨xrf _,rfl⟩
   . have q0:Is w14 (u 51) c:=hp.1;have q1:Is w14 (u 58) (zdM z'.er k):=hp.2.1;have q2:u 59=_:=hp.2.2.1;rw [q2];have:=zkM q0 hx q1 hx hc (by rw [C];exact gQ) (by rw [C];exact h8);exact this.mono λr w5 ⟨gs,ho⟩=>⟨gs,ho.toI⟩
   exact zaL zu1 λw5 gs hB=>⟨gs,w'.heap.size,rfl,lr _,hB.lt,hB⟩
 rintro u10 T jm gD h9 ⟨-,-,-,-,-,-,-,-,-,gx,⟨gg,q8,_,_,ha⟩,-⟩;have gx:OwnI (T 9).1 (T 9).2 jm (u10 60) (za1 c (zdM z'.er k) t):=gx;rw [C] at gx;have t7:=h9.1 9 qd;have t8:=h9.1 10 qd;have d78:=h9.2 9 qd 10 qd qd;have jn:=gD.size;have jo:=gt.size;generalize u10 60=v50 at *;rw [q8];obtain ⟨_,_,_,hK⟩:=zBA gx;subst hK;refine zaz zch rfl ha rfl gx λhe gl gb=>?_;have jp:=gl.size;have gU:=zag he;have hse:=gU.size;have gc:Ext gz (World.drew1 he):=(Ext.chgI (gt.t gD) gl oo).trans gU;have hP:=(gx.chg gl oo).ext gU;have gb:=gb.ext gU;have gd:=O.ext gc;generalize World.drew1 he=w16d at *;refine ⟨rfl,?_⟩;refine zaa zgO<|zbR zqA (zaU gd.at) (xrf _) ?_;have gE:=zrT (zaU gd.at);refine zck gb zch ?_;refine (zBU gE (xrf _) hP.is (xrf _)).mono ?_;rintro _ gV ⟨X,rfl⟩;have jq:=X.size;refine zb9<|br (λhf=>?_) (λhh=>?_)
 . refine zau ?_;refine ⟨mt-1,oo,t+1,oo,rfl,z',hi',D.t (gc.t X),gd.ext X,g5,oo,V,I,C,?_⟩;rw [Y,hq,zii (zr0 (f:=z'.er) (by rw [C];exact h8) (by rw [C];exact zlG.1 hf))]
 have hQ:za1 c (zdM z'.er k) t∉z'.er.states:=λh=>hh (by rw [C] at h;exact zlG.2 h);have gp:GoR c (zdM z'.er k) t:=by rw [C];exact h8
 have gq:=gd.ext X;refine ⟨rfl,?_⟩;refine zaa zgO<|zbR zqA (zaU gq.at) (xrf _) ?_;have gF:=zrT (zaU gq.at);refine zae u46 gF<|zai<|br (λ_=>?_) (λ_=>?_)
 . have gr:z'.er.states.length=M:=by show z'.states.l.length=M;omega
   refine ⟨rfl,?_⟩;refine zaa zyt ?_;obtain ⟨_,hO,hF⟩:=gq;obtain ⟨_,hL⟩:=zj2 (Lens.var hO);refine zf0 ty4 hL (lo:=w3.heap.size) (hi:=gV.heap.size) (λb hb=>by have:=hF b hb;omega) (by have:=D.size;omega) zhr λhj g0 gf=>?_;have hk:=g0.size;have:=D.size;refine ⟨gW.t (g3.t (Ext.chgI (D.t (gc.t X)) g0 (lr _))),g,_,rfl,oo,gf.mono oo oo,?_,V.not⟩;have g1:=zoK (M:=M) gp hQ gr;rw [<-Z,show M-k=(M-(k+1))+1 by omega,zm4 (f:=z.er) gP (by rw [gR,Y,hq,zoJ (by rw [g1]),g1])];rfl
 have g2:¬z'.er.states.length=M:=by show ¬z'.states.l.length=M;omega
 have jr:z'.states.l.length<=M:=V.many.2;have js:z'.ahead.l.length=z'.states.l.length:=V.la;have jt:z'.went.l.length=z'.states.l.length:=V.lw;have hl:=(gb.ext X).ext (zag gV);have hn:=zag gV;have hR:=hn.size;have gG:=gc.t (X.t hn);generalize World.drew1 gV=w17d at *;have ju:=D.size;refine ⟨λb=>w3.heap.size<=b/\b<hi'/\b≠g,?_⟩;refine ⟨rfl,?_⟩;refine zeN zgO<|zfr zqA (zGK (zaU (O.ext gG).at)) (λh=>h.2.2 rfl)<|zdJ hl zch (λh=>by have:=h.2.1;omega)<|zif (β:=DState) u46 zch z43 zHI qd zqA O ⟨oo,g5⟩ gG (λhO=>zjZ (Lens.var hO)) ((hP.ext X).ext hn) oo oo oo (by rw [zaj];omega) oo (λ_ hj g0 gf=>?_) λa hS gS gH=>⟨gS.toX,gH.mono λr hV hr=>⟨hr.1,rfl,zeN zgO hr.2⟩⟩;have hk:=g0.size;refine ⟨rfl,?_⟩;refine zaa zyr<|zbR zaS (zm6 gf.at) (xrf _)<|zif (β:=Int) (lo2:=hj.heap.size) (hi2:=hj.heap.size) u25 ty3 z3 zc3 qd zaS gf ⟨oo,oo⟩ (xrf _) (λhO=>zj0 (Lens.var hO)) (zbI (x:=(k:Int)) io) oo oo oo (by rw [zaj];show z'.ahead.l.length+1<=_;omega) (by show (z'.ahead.l.length+1)*_<=_;omega) (λ_ hW gI gJ=>?_) λa hS gS gH=>gH.mono λr hV hr=>⟨rfl,zaa zyr hr.2⟩;have jv:=gI.size;refine ⟨rfl,?_⟩;refine zaa zys<|zbR zaS (zm7 gJ.at) (xrf _)<|zif (β:=Int) (lo2:=hW.heap.size) (hi2:=hW.heap.size) u25 ty3 z3 zc3 qd zaS gJ ⟨oo,oo⟩ (xrf _) (λhO=>zj1 (Lens.var hO)) (zbI (x:=(t:Int)) io) oo oo oo (by rw [zaj];show z'.went.l.length+1<=_;omega) (by show (z'.went.l.length+1)*_<=_;omega) (λ_ jw gK hs=>?_) λa hS gS gH=>gH.mono λr hV hr=>⟨rfl,zaa zys hr.2⟩;have jx:=gK.size;refine zau ?_;have gh:=V.push hc I gp oo g2;have g1:=zr1 (M:=M) gp hQ g2;rw [C] at gh g1;refine ⟨mt-1,oo,t+1,oo,rfl,_,jw.heap.size,Ext.chgI (Ext.chgI (Ext.chgI D g0 (lr _)) gI (lr _)) gK (lr _),hs,oo,lr _,gh,by show k<(z'.states.l++[_]).length;simp;omega,?_,?_⟩
 . exact (zfa (f:=z'.er) I).trans C
 rw [Y,hq,zii g1];rfl
def zgk (m:Int):Nat:=(zbN m 1 150).toNat
def zbx (c:DCode) (m:Int):List DState:=if CodeR c then (zgj c (zgk m)).states else []
def zhM (c:DCode) (m:Int):Bool:=if CodeR c then (zgj c (zgk m)).whole else false
def zm9 {m:Int} (h0:Is W0 v0 c) (e0:Ext W0 w) (hw:zjq c<=1048576) :
   CALL tp 16 [v0,.int .i64 m] w λr w'=>Ext w w'/\(∃ a,r=.tuple #[a,.bool (zhM c m)]/\Own w.heap.size w' a (zbx c m))/\(CodeR c->TrOk c (zgk m) (zgj c (zgk m))):=by
 refine co (g:=kf [] [] [(4,[0,1,2,3,4,5],0)]) Tryz.func16 ?_;refine zbp h0 e0 λ_ g2 hA=>?_;have:=g2.size;refine zab zbY hA (xrf _) λ_ h7=>?_;refine (zjt h7 (xrf _)).mono ?_;rintro _ _ ⟨C,rfl⟩;have:=C.size;refine zav<|br (λhn=>?_) (λhc=>?_)
 . refine ⟨g2.t C,?_,λh=>absurd h hn⟩;rw [show zhM c m=false from qab hn,show zbx c m=[] from qab hn];exact ⟨_,rfl,ziz rfl⟩
 have hc:=qai.1 hc;refine zab zbY hA C λ_ gb=>?_;refine (zzU gb C hw hc).mono ?_;rintro _ _ ⟨g4,z,g5,hz,gc⟩;have:=g4.size;refine zeC (α:=DTrail) zHD λ_ g0 hv=>?_;have:=g0.size;refine zbH zGl hv (g5.ext g0) oo λw5 g3 g9=>?_;have:=g3.size;have o5:=(g5.ext g0).chg g3 oo;obtain ⟨_,r5,_,_⟩:=zr2 o5;have g1:=zag w5;refine zaa zjk<|zbR zqA (zaU g9.at) g1<|zaa zDl<|zbi ty4 (zm8 g9.at) g1 ?_;have e1:zhM c m=z.whole:=by unfold zhM;rw [qah hc,show zgj c (zgk m)=z.er from hz.symm];rfl
 have e2:zbx c m=z.states.l:=by unfold zbx;rw [qah hc,show zgj c (zgk m)=z.er from hz.symm];rfl
 refine ⟨(Ext.chgI (g2.t (C.t (g4.t g0))) g3 oo).trans g1,?_,λ_=>by rw [show zgk m=(zbN m 1 150).toNat from rfl,<-hz];exact gc⟩;rw [e1,e2];exact ⟨_,rfl,(r5.ext g1).own.own.mono oo⟩
def zna {m:Int} (h0:Is W0 v0 c) (e0:Ext W0 w) (hw:zjq c<=1048576) :
   CALL tp 24 [v0,.int .i64 m] w λr w'=>Ext w w'/\(∃ a,r=.tuple #[a,.bool (zhM c m)]/\Own w.heap.size w' a (zbx c m))/\(CodeR c->TrOk c (zgk m) (zgj c (zgk m))):=by
 refine co (g:=kf [] [] [(4,[0,1,2,3,4,5,6,7,8,9],0)]) Tryz.func24 ?_;refine zbp h0 e0 λ_ g1 hA=>?_;have:=g1.size;refine zab zbY hA (xrf _) λ_ h7=>?_;refine (zgU h7 (xrf _)).mono ?_;rintro _ w2 ⟨C,rfl⟩;have:=C.size;refine zav<|br (λhn=>?_) (λhc=>?_)
 . refine zaD (α:=DState) u46 zch λa w3 D r3=>?_;refine ⟨g1.t (C.t D),?_,λh=>absurd h hn⟩;rw [show zhM c m=false from qab hn,show zbx c m=[] from qab hn];exact ⟨_,rfl,r3.own.own.mono (by have:=D.size;omega)⟩
 have hc:=qai.1 hc;refine zab zbY hA C λ_ g2=>?_;refine (zzW g2 C hw hc).mono ?_;rintro _ w3 ⟨D,g,z,rfl,_,hv,hz,g3⟩;have:=D.size;have g0:=zag w3;refine ⟨rfl,?_⟩;refine zaa zgO<|zbR zqA (zaU hv.at) g0<|⟨rfl,?_⟩;refine zaa zyt<|zbi ty4 (zm8 hv.at) g0 ?_
 have hR:RowI w2.heap.size w3.heap.size 43 w3 z.states.v z.states.l:=by
   obtain ⟨_,o,_,_,_,_,_⟩:=hv.own;exact (zr2 o).2.1
 have e1:zhM c m=z.whole:=by unfold zhM;rw [qah hc,show zgj c (zgk m)=z.er from hz.symm];rfl
 have e2:zbx c m=z.states.l:=by unfold zbx;rw [qah hc,show zgj c (zgk m)=z.er from hz.symm];rfl
 refine ⟨(g1.t (C.t D)).trans g0,?_,λ_=>by rw [show zgk m=(zbN m 1 150).toNat from rfl,<-hz];exact g3⟩;rw [e1,e2];exact ⟨_,rfl,(hR.ext g0).own.own.mono oo⟩
def zFg {t:TypeId} {K:VW} (h:v.cells=#[v]) (k:∀ w',Ext w w'->Blk w.heap.size t w' [v]->K (.pointer (some ⟨w.heap.size,0,none⟩)) w'):OP P (Instr.box t v) w K:=
 ⟨_,w.alloc (.cells #[v] t),by simp [Instr.box,newVar,newRow,h],k _ (zaX w _) (by unfold Blk;rw [heap_alloc_new w _])⟩
def AddR (c:DCode) (out:List Nat) (ag:Bool) (i m:Nat) (out':List Nat) (ag':Bool):Prop:=
 (MetP c i/\¬zhi m (zaE out i)/\out'=out.set i (zaE out i ||| m)/\ag'=true)\/((MetP c i->zhi m (zaE out i))/\out'=out/\ag'=ag)
def AddR.hp {out0 out g0:List Nat} {ag g2:Bool} (h:AddR c out ag i m g0 g2) (hP:HP c out0 ag out k) (hi:i<c.ins.length) (hm:m<64) (g1:∀ l,l<6->m.testBit l=true->MayP c i l):HP c out0 g2 g0 k:=by
 rcases h with ⟨h1,h2,rfl,rfl⟩ | ⟨_,rfl,rfl⟩
 . exact hP.add hi hm h1 g1 h2
 exact hP
def AddR.sub {ag g1:Bool} (h:AddR c out ag i m g0 g1) (hi:i<out.length) (hm:MetP c i):zhi m (zaE g0 i):=by
 rcases h with ⟨_,_,rfl,rfl⟩ | ⟨h,rfl,rfl⟩
 . rw [zcj hi,qah rfl];exact zDI
 exact h hm
def AddR.mono {ag g1:Bool} {i m x j:Nat} (h:AddR c out ag i m g0 g1) (hi:i<out.length) (hx:zhi x (zaE out j)):zhi x (zaE g0 j):=by
 rcases h with ⟨_,_,rfl,rfl⟩ | ⟨_,rfl,rfl⟩
 . rw [zcj hi];split
   . rename_i e;subst e;exact zmV hx
   exact hx
 exact hx
def AddR.ag {ag g1:Bool} (h:AddR c out ag i m g0 g1) (e:g1=false):ag=false:=by
 rcases h with ⟨_,_,_,rfl⟩ | ⟨_,_,rfl⟩
 . cases e
 exact e
structure HW (w1 w:wD) (gm go g ga n:Nat) (vm:vL) (out:List Nat) (ag:Bool):Prop where
 ext:Ext w1 w
 met:Blk gm 105 w [vm]
 var:Blk go 25 w [.slice (some ⟨g,0,none⟩) n n]
 mine:Mine [g] w (.slice (some ⟨g,0,none⟩) n n) (za5 out)
 agn:Blk ga 4 w [.bool ag]
 n0:gm≠g
 n01:gm≠ga
 n1:go≠g
 n2:go≠ga
 n3:g≠ga
 g0:w1.heap.size<=g
 g1:w1.heap.size<=go
 g2:w1.heap.size<=ga
section
variable {w1 w w':wD} {gm go g ga n:Nat} {vm:vL} {out:List Nat} {ag:Bool}
def HW.step (h:HW w1 w gm go g ga n vm out ag) (hx:Ext w w'):HW w1 w' gm go g ga n vm out ag:=⟨h.ext.trans hx,h.met.ext hx,h.var.ext hx,h.mine.ext hx,h.agn.ext hx,h.n0,h.n01,h.n1,h.n2,h.n3,h.g0,h.g1,h.g2⟩
def HW.set {i v:Nat} (h:HW w1 w gm go g ga n vm out ag) (hc:Chg [g] w w') (hm:Mine [g] w' (.slice (some ⟨g,0,none⟩) n n) ((za5 out).set i (v:Int))):HW w1 w' gm go g ga n vm (out.set i v) ag:=
 ⟨h.ext.chgF hc (by simp [h.g0]),h.met.chgF hc (by simp [h.n0]),h.var.chgF hc (by simp [h.n1]),by rw [zid];exact hm,h.agn.chgF hc (by simp [Ne.symm h.n3]),h.n0,h.n01,h.n1,h.n2,h.n3,h.g0,h.g1,h.g2⟩
def HW.agains {ag':Bool} (h:HW w1 w gm go g ga n vm out ag) (hc:Chg [ga] w w') (hB:Blk ga 4 w' [.bool ag']):HW w1 w' gm go g ga n vm out ag':=
 ⟨h.ext.chgF hc (by simp [h.g2]),h.met.chgF hc (by simp [h.n01]),h.var.chgF hc (by simp [h.n2]),h.mine.keep λb hb=>by
   simp only [qaa,qad,qaq] at hb;subst hb;exact hc.block b (h.mine.lt b sS) (by simp [h.n3]),hB,h.n0,h.n01,h.n1,h.n2,h.n3,h.g0,h.g1,h.g2⟩
def HW.cell {ga':Nat} {ag':Bool} (h:HW w1 w gm go g ga n vm out ag) (hx:Ext w w') (hB:Blk ga' 4 w' [.bool ag']) (hg:w.heap.size<=ga'):HW w1 w' gm go g ga' n vm out ag':=
 ⟨h.ext.trans hx,h.met.ext hx,h.var.ext hx,h.mine.ext hx,hB,h.n0,by have:=h.met.lt;omega,h.n1,by have:=h.var.lt;omega,by have:=h.mine.lt g sS;omega,h.g0,h.g1,by have:=h.ext.size;omega⟩
def zzX {W1:wD} {c:DCode} {i m:Nat} (h:HW w1 w gm go g ga n vm out ag) (hv:Is W1 vm (zi0 c)) (e1:Ext W1 w) (hn:c.ins.length=n) (hi:i<n) (hl:out.length=n) (gf:∀ x∈out,x<64) (hm:m<64) :
   CALL tp 191 [.int .i64 (i:Int),.int .i64 (m:Int),.pointer (some ⟨gm,0,none⟩),.pointer (some ⟨go,0,none⟩),.pointer (some ⟨ga,0,none⟩)] w λr w'=>r=.tuple #[]/\∃ out' ag',HW w1 w' gm go g ga n vm out' ag'/\Chg [g,ga] w w'/\AddR c out ag i m out' ag':=by
 refine co (g:=kf [] [] []) Tryz.func191 ?_;have g2:(zi0 c).length=n:=by unfold zi0;rw [zaM,hn]
 refine zan zef h.met rfl<|zad zfU ty4 hv (by rw [g2];exact hi) λ_ _ gb=>zbi ty4 gb e1 ?_;have gc:=zce (ms:=zi0 c) (i:=i) (by rw [g2];exact hi);have gd:=zcs (n:=c.ins.length) (p:=MetP c) (i:=i)
 have g0:(zi0 c)[i]=true↔MetP c i:=by
   rw [<-gc];unfold zi0;rw [gd];exact ⟨λh=>h.2,λh=>⟨oo,h⟩⟩
 have C:=zep gf i;refine zbX (λhf=>?_) (λhf=>?_)
 . have g1:=g0.1 hf;refine zan zaS h.var rfl<|zad u25 ty3 (i:=i) h.mine.is (by rw [zah,hl];exact hi) λ_ _ g3=>?_;rw [zbk] at g3;refine zac ty3 g3 (xrf _) λ_=>zhE (m:=m) (n:=zaE out i) oo oo<|zaT<|br (λgg=>?_) (λgh=>?_)
   . have gi:¬zhi m (zaE out i):=λhs=>gg (by rw [(zrQ hm C).2 hs];rfl);refine zan zaS h.var rfl<|zad u25 ty3 (i:=i) h.mine.is (by rw [zah,hl];exact hi) λ_ _ g4=>?_;rw [zbk] at g4;refine zac ty3 g4 (xrf _) λ_=>zhk (m:=zaE out i) (n:=m) oo oo ?_;have:=zqb hm C;refine zcU (α:=Int) rfl u25 ty3 hi<|zb5 (α:=Int) rfl ty3 h.mine (by rw [zah,hl]) hi (zc5 (v:=zaE out i ||| m) oo) λ_ g5 gj=>?_;have h2:=h.set (v:=zaE out i ||| m) g5 gj;refine za3 (α:=Raw) (lo:=0) (hi:=0) ty4 rfl rfl h2.agn sS (zdq rfl) λ_ g9 gl=>⟨rfl,_,true,h2.agains g9.one gl,(g5.mono sS).trans (g9.one.mono sS),.inl ⟨g1,gi,rfl,rfl⟩⟩
   have hs:zhi m (zaE out i):=(zrQ hm C).1 (qbo.1 (qai.1 gh));exact ⟨rfl,out,ag,h,Chg.refl _ _,.inr ⟨λ_=>hs,rfl,rfl⟩⟩
 exact ⟨rfl,out,ag,h,Chg.refl _ _,.inr ⟨λhm=>(by rw [g0.2 hm] at hf;cases hf),rfl,rfl⟩⟩
end
def CR (c:DCode) (out0:List Nat) (k h0 m:Nat) (ag:Bool):Prop:=ag=false->h0=zaE out0 k/\((zal c k).op=4->m=zaE out0 (zN c (agN c k)))/\(¬(zal c k).op=4->m=aft c [] k (zaE out0 k))
def HP.close {out0 out:List Nat} {ag:Bool} (hP:HP c out0 ag out k) (hC:CR c out0 k h0 m ag) (h1:(zal c k).op=4->zhi h0 (zaE out (eN c (agN c k)))) (h2:∀ j∈zaA c k,MetP c j->zhi m (zaE out j)):HP c out0 ag out (k+1):=
 hP.next λe hk=>by
   obtain ⟨c1,c2,c3⟩:=hC e;have ho:=(hP.no e).1;rw [<-ho] at c1 c2 c3;refine ⟨λh4=>⟨c1▸h1 h4,λhz j hj=>?_⟩,λh4 j hj=>?_⟩
   . rw [<-c2 h4];exact h2 j hj (.back hk h4 hz hj)
   rw [<-c3 h4];exact h2 j hj (.next hk h4 hj)
def zGP (hW:WAt W0 b c) (e0:Ext W0 w) (hv:Is W1 v1 (zi0 c)) (e1:Ext W1 w) (hc:CodeR c) :
   CALL tp 133 [.pointer (some ⟨b,0,none⟩),v1] w λr w'=>Ext w w'/\Own w.heap.size w' r (za5 (zqD c)):=by
 refine co (g:=kf [(19,38685626227663735544087552,[10])] [(3,1267650600228229401496702162880,[6]),(7,633825300114114700748083173120,[28]),(20,316293680037414660236726243328,[89])] [(17,[0,1,2,3,4,5,6,7,8,9,10,11],0),(18,[0,1,2,3,4,5,6,7,8,9,10,11],128)]) Tryz.func133 ?_;have h8:=hc.1.procs8;have j5:=hc.f.ins;have D:=hW.wl.code
 have gi:v1.cells=#[v1]:=by
   obtain ⟨_,_,_,_,hh,_⟩:=zcE hv;rw [hh];rfl
 refine zFg gi λwm gO hJ=>?_;have hsm:=gO.size;have j6:=e0.t gO;refine NIL.mk rfl<|zaa zbf<|zaa zaY<|zab zdD (zam D) j6 λ_ j7=>zae u26 j7 ?_;have hz0:=(zhe hc h8.2).2.2;have hK:=HP.start (c:=c);have hn:c.ins.length=c.ins.length:=rfl;generalize hnn:c.ins.length=n at hn;rw [hnn] at j5 hK;refine zft oo oo λw1 gP hL=>?_;have hs1:=gP.size;have hg1:=hL.lt _ (qaK.2 rfl);have hmg:w.heap.size<wm.heap.size:=hJ.lt;generalize hgm:w.heap.size=gm at *;generalize hg:wm.heap.size=g at *;refine zi2 zHR zaS rfl λw2 gH hM=>?_;have hs2:=gH.size;have j8:=hL.ext gH;have gQ:=hJ.ext (gP.t gH);generalize gI:w1.heap.size=go at *;have j9:=hM.lt;refine zi2 zFN ty4 rfl λw5 gJ ja=>?_;have jb:HW w w5 gm go g w2.heap.size n v1 (List.replicate n 0) true:=⟨gO.t (gP.t (gH.t gJ)),gQ.ext gJ,hM.ext gJ,j8.ext gJ,ja,oo,oo,oo,oo,oo,oo,oo,oo⟩;generalize w2.heap.size=ga at *;generalize List.replicate n 0=out at *;refine LOOPI.mk (λm us w'=>∃ (ga:Nat) (out:List Nat) (ag:Bool),us=[.pointer (some ⟨ga,0,none⟩)]/\m=(n*63-out.sum)+(if ag then 1 else 0)/\HW w w' gm go g ga n v1 out ag/\HP c out false out 0/\(ag=false->out=zqD c)) (n*63-out.sum+1) ⟨ga,out,true,rfl,rfl,jb,hK,λe=>by cases e⟩ ?_;rintro m u _ ⟨ga,out,ag,hu,hm,gh,hN,gR⟩;try replace hu:=zbv hu
 rw [hu];have jc:=hN.sum_le;rw [hnn] at jc;refine zan ty4 gh.agn rfl<|zbX (λgS=>?_) (λgS=>?_)
 case refine_2=>refine zan zaS gh.var rfl ?_;rw [<-gR gS];exact ⟨gh.ext,[g],gh.mine,λb hb=>by simp only [qaa,qad,qaq] at hb;omega⟩
 rw [gS,qah rfl] at hm;refine za3 (α:=Raw) (lo:=0) (hi:=0) ty4 rfl rfl gh.agn sS (zdq rfl) λ_ jd je=>?_;have hO:=gh.agains jd.one je;refine zba (v:=.func (.func 191) #[] #[.pointer (some ⟨gm,0,none⟩),.pointer (some ⟨go,0,none⟩),.pointer (some ⟨ga,0,none⟩)]) (λw' _=>by simp [Instr.makeFunc])<|NIL.mk rfl<|zaa zbf<|zaa zaY<|zab zdD (zam D) (e0.t hO.ext) λ_ hQ=>zae u26 hQ ?_;rw [hnn];refine zap n (λk us w'=>∃ (out':List Nat) (ag':Bool),us=[.int .i64 (k:Int)]/\k<=n/\HW w w' gm go g ga n v1 out' ag'/\HP c out ag' out' k) 0 (z0 _) ⟨out,false,rfl,z0 _,hO,hN⟩ ?_;rintro k mk u w8 _ ⟨C,g5,hu,_,g9,I⟩;try replace hu:=zbv hu
 rw [hu];refine zaf<|br (λjf=>?_) (λjg=>?_)
 case refine_2=>
   have jh:k=n:=oo;rw [jh] at I;refine zan ty4 g9.agn rfl<|zi2 zFN ty4 rfl λw9 gU ji=>?_;have gV:=I.sum_le;rw [hnn] at gV;refine ⟨(n*63-C.sum)+(if g5 then 1 else 0),?_,_,C,g5,rfl,rfl,g9.cell gU ji (lr _),I.again,λe=>?_⟩
   . cases g5 with
     | true=>have:=I.yes rfl;simp;omega
     | false=>rw [(I.no rfl).1];simp;omega
   rw [e,<-hnn] at I;exact I.fin hc
 have hk:k<n:=oo;have gb:k<c.ins.length:=oo;have gW:C.length=n:=by rw [I.len,hnn]
 refine zad u26 zbm hQ gb λ_ _ hR=>?_;rw [zaG] at hR;refine zab zbm hR (e0.t g9.ext) λ_ hS=>zcP ziG rfl zbm rfl hS (e0.t g9.ext) λw9 gU gK hV=>?_;have g1:=g9.step gU;have gX:=zga hS hV rfl;have hX:(zi0 c).length=n:=by unfold zi0;rw [zaM,hnn]
 have jj:=zcs (n:=c.ins.length) (p:=MetP c) (i:=k);have jk:=zce (ms:=zi0 c) (i:=k) (by rw [hX];exact hk)
 have gj:(zi0 c)[k]=true↔MetP c k:=by
   rw [<-jk];unfold zi0;rw [jj];exact ⟨λh=>h.2,λh=>⟨oo,h⟩⟩
 refine zan zef g1.met rfl<|zad zfU ty4 (i:=k) hv (by rw [hX];exact hk) λ_ _ jl=>zbi ty4 jl (e1.trans g1.ext)<|za2<|zbX (λhf=>?_) (λhf=>?_)
 . have jm:¬MetP c k:=λh=>by rw [gj.2 h] at hf;cases hf
   refine zau<|⟨mk-1,oo,k+1,oo,C,g5,rfl,oo,g1,I.next λ_ h=>absurd h jm⟩
 have gM:MetP c k:=gj.1 (by simpa using hf);have O:=I.lt0 k;refine zan zaS g1.var rfl<|zad u25 ty3 (i:=k) g1.mine.is (by rw [zah,gW];exact hk) λb5 o5 gl=>?_;rw [zbk] at gl;refine zac ty3 gl (xrf _) λ_=>?_;have gY:g5=false->zaE C k=zaE out k:=λe=>by rw [(I.no e).1]
 have gp:∀ l,l<6->(zaE C k).testBit l=true->MayP c k l:=λl hl hb=>(I.snd k l gb hb).1;generalize hh0:zaE C k=h0 at *;refine JOIN.mk (λus w'=>∃ (m:Nat) (out':List Nat) (ag':Bool),us=[.int .i64 (m:Int)]/\HW w w' gm go g ga n v1 out' ag'/\HP c out ag' out' k/\m<64/\CR c out k h0 m ag'/\((zal c k).op=4->zhi h0 (zaE out' (eN c (agN c k))))/\∀ l,l<6->m.testBit l=true->∀ j∈zaA c k,MayP c j l) ?_ ?_
 . have U:aft c [] k h0=if (zal c k).op=6 then h0 ||| 2^agN c k else if (zal c k).op=7 then zmM h0 (2^agN c k) else if (zal c k).op=4 then (h0 &&& (tbl [] (agN c k)).1) ||| (tbl [] (agN c k)).2 else h0:=rfl
   have gI:¬(zal c k).op=4->∀ w',HW w w' gm go g ga n v1 C g5->aft c [] k h0<64->∃ (m:Nat) (out':List Nat) (ag':Bool),[Value.int .i64 (aft c [] k h0:Nat)]=[.int .i64 (m:Int)]/\HW w w' gm go g ga n v1 out' ag'/\HP c out ag' out' k/\m<64/\CR c out k h0 m ag'/\((zal c k).op=4->zhi h0 (zaE out' (eN c (agN c k))))/\∀ l,l<6->m.testBit l=true->∀ j∈zaA c k,MayP c j l:=λh4 w' jn gZ=>
     ⟨_,C,g5,rfl,jn,I,gZ,λe=>⟨gY e,λh=>absurd h h4,λ_=>by rw [gY e]⟩,λh=>absurd h h4,λl hl hb j hj=>zzF h4 gM hj (gp l hl) hb⟩
   refine zaa za8<|zac ty3 (zay gK) (xrf _) λ_=>zai<|br (λc6=>?_) (λc6=>?_)
   . obtain ⟨ha,_,hq⟩:=zdz hc gb (.inl c6);have hp:=zi1 hq;rw [qah c6] at U;refine zaa zaZ<|zac ty3 (zat gK) (xrf _) λ_=>?_;rw [ha];refine zcq kK u94 oo<|zeA oo<|zhk (m:=h0) (n:=2^agN c k) oo oo ?_;have:=gI oo w9 g1 (by rw [U];exact zox O hq);rw [U] at this;exact this
   rw [qab c6] at U;refine zai<|br (λc7=>?_) (λc7=>?_)
   . obtain ⟨ha,_,hq⟩:=zdz hc gb (.inr c7);have hp:=zi1 hq;rw [qah c7] at U;refine zaa zaZ<|zac ty3 (zat gK) (xrf _) λ_=>?_;rw [ha];refine zcq kK u94 oo<|zeA oo<|zhE (m:=h0) (n:=2^agN c k) oo oo ?_;have:=gI oo w9 g1 (by rw [U];exact qaL (ziZ _ _) O);rw [U] at this;exact this
   rw [qab c7] at U;refine zai<|br (λc4=>?_) (λc4=>?_)
   . obtain ⟨hY,hZ⟩:=zbS hc gb (.inl c4);have h5:agN c k<c.entry.length:=by rw [hc.2.1.1];exact hZ
     obtain ⟨jo,jp,_⟩:=zhF hc h5;obtain ⟨jq,_,_⟩:=zhe hc hZ;have gN:=zag w9;have g2:=g1.step gN;generalize World.drew1 w9=w10 at *;refine NIL.mk rfl<|zaa zbf<|zaa zbq<|zab zaS (zaq D) (e0.t g2.ext) λ_ jr=>zaa zaZ<|zac ty3 (zat gK) gN λ_=>?_;rw [hY];refine zad u25 ty3 jr h5 λb5 o5 gl=>?_;rw [zbO h5,jo] at gl;refine zac ty3 gl (e0.t g2.ext) λ_=>zvk (args:=[_,_]) (caps:=[_,_,_]) zDK ((zzX (i:=eN c (agN c k)) (m:=h0) g2 hv (e1.trans g2.ext) hnn oo gW I.lt O).mono ?_);rintro _ j0 ⟨rfl,V,h6,h9,hd,gc⟩;have js:MetP c (eN c (agN c k)):=.call gM c4;have X:=gc.hp I jp O λl hl hb=>.call gM c4 (gp l hl hb);have jt:=gc.sub (by rw [gW];omega) js;have gq:=zag j0;have Y:=h9.step gq;have ju:w8.heap.size<w10.heap.size:=by have:=hV.lt;have:=gN.size;omega
     have jv:w8.heap.size∉[g,ga]:=by have h1:=g9.mine.lt g sS;have h2:=g9.agn.lt;simp;omega
     have gr:=(gX.ext gN).keep (hd.block _ ju jv);have gs:=(gr.ext gq).at (e0.t Y.ext);generalize World.drew1 j0=w12 at *;refine zan zaS Y.var rfl<|NIL.mk rfl<|zaa zbf<|zab zbY D (e0.t Y.ext) λ_ jw=>zaa zaZ<|zac ty3 (zat gs) (xrf _) λ_=>?_;rw [hY];refine (zd1 jw (e0.t Y.ext) oo).mono ?_;rintro _ _ ⟨gt,rfl⟩;refine ⟨gt,?_⟩;have gx:=Y.step gt;rw [jq];refine zbe io ?_;rw [show ((zN c (agN c k)+1:Nat):Int)-1=(zN c (agN c k):Int) by omega];have he:V.length=n:=by rw [X.len,hnn]
     refine zad u25 ty3 (i:=zN c (agN c k)) gx.mine.is (by rw [zah,he];omega) λ_ _ j1=>?_;rw [zbk] at j1;refine zac ty3 j1 (xrf _) λ_=>⟨zaE V (zN c (agN c k)),V,h6,rfl,gx,X,X.lt0 _,λe=>⟨gY (gc.ag e),λ_=>by rw [(X.no e).1],λh=>absurd c4 h⟩,λ_=>jt,λl hl hb j hj=>?_⟩;have:=X.snd _ l oo hb;exact .back gM c4 this.2 this.1 hj
   rw [qab c4] at U;have:=gI c4 w9 g1 (by rw [U];exact O);rw [U] at this;exact this
 rintro us jx ⟨m,gy,hr,hs,g3,ht,gz,hw,hx,hy⟩;try replace hs:=zbv hs
 rw [hs];refine (zjN D (e0.t g3.ext) hc gb).mono ?_;rintro jy jz ⟨hz,gC⟩;have hB:=g3.step hz;have hl2:=zgA c k;have jA:=λ{j:Nat} (hj:j∈zaA c k)=>(zdn hc gb hj).1;have gd:=λ{out:List Nat} {o:List Nat} {ag:Bool} (hP:HP c out ag o k)=>HP.close (h0:=h0) (m:=m) hP;generalize hNx:zaA c k=N at *;refine zae u25 gC.is ?_;rw [zah];refine zap N.length (λq us w'=>∃ (out':List Nat) (ag':Bool),us=[.int .i64 (q:Int)]/\q<=N.length/\HW w w' gm go g ga n v1 out' ag'/\HP c out ag' out' k/\CR c out k h0 m ag'/\((zal c k).op=4->zhi h0 (zaE out' (eN c (agN c k))))/\(∀ j∈N.take q,MetP c j->zhi m (zaE out' j))/\OwnI jx.heap.size jz.heap.size w' jy (za5 N)) 0 (z0 _) ⟨gy,hr,rfl,z0 _,hB,ht,hw,hx,sS,gC.toI⟩ ?_;rintro q mq u _ _ ⟨Z,hC,hu,_,gf,g4,gD,gE,gg,gF⟩;try replace hu:=zbv hu
 rw [hu];refine zaf<|br (λjf=>?_) (λjg=>?_)
 case refine_2=>refine zau ?_;rw [qaf oo] at gg;exact ⟨mk-1,oo,k+1,oo,Z,hC,rfl,oo,gf,gd g4 gD gE (hNx▸gg)⟩
 have hq:q<N.length:=oo;refine zad u25 ty3 (i:=q) gF.is (by rw [zah];exact hq) λ_ _ j2=>?_;rw [za9] at j2;refine zac ty3 j2 (xrf _) λ_=>?_;have jB:=λx=>zbG hq (x:=x);have hj:=qac hq;have jC:=jA hj;have jD:=λl hl hb=>hy l hl hb _ hj;generalize N[q]=j at *;have hD:Z.length=n:=by rw [g4.len,hnn]
 refine zvk (args:=[_,_]) (caps:=[_,_,_]) zDK ((zzX (i:=j) (m:=m) gf hv (e1.trans gf.ext) hnn oo hD g4.lt gz).mono ?_);rintro _ _ ⟨rfl,gG,hF,hG,hH,g0⟩;refine zau ?_;have jE:=g3.mine.lt g sS;have j3:=g3.agn.lt;have hI:j<Z.length:=oo;refine ⟨mq-1,oo,q+1,oo,gG,hF,rfl,oo,hG,g0.hp g4 jC gz jD,λe=>gD (g0.ag e),λh4=>g0.mono hI (gE h4),λi hi j4=>?_,gF.chgF hH so⟩;rcases (jB i).1 hi with h | h
 . exact g0.mono hI (gg i h j4)
 subst h;exact g0.sub hI j4
end Go.Proofs.YtkgiigmcbgifdaaGreat
namespace Go.Sh
open Rep (rep)
def zfR {α:Type} [Rep α] {w:wD} {g e o:Nat} {cs:List vL} {v:vL} {l:List α} (hB:Blk g e w cs) (ho:cs[o]?=some v) (h:Is w v l):At w g o l:=by
 obtain ⟨F,_,hr,rfl⟩:=h;have g0:=hr;obtain ⟨_,_,_,_,rfl,h⟩:=hr;refine ⟨F,_,g0,λi _ hi=>?_⟩
 have:i=0:=by
   cases i with
   | zero=>rfl
   | succ i=>simp at hi
 subst this;simp only [List.getElem?_cons_zero,qao] at hi;subst hi;have:=hB.range o _ ho;rw [qa7] at this;exact this
end Go.Sh
namespace Go.Proofs.YtkgiigmcbgifdaaGreat
open Go Go.Sh Go.Proofs
open Rep (rep)
variable {W0 w:wD} {c:DCode} {h0 i k m:Nat} {nw:Bool} {out:List Nat} {s:DState} {v v0:vL}
def zoN (h:Is w v c):∃ a0 a1 a2 a3 a4 n0 n1 n2 n3 n4 k0 k1 k2 k3 k4,v=.agg #[.slice a0 n0 k0,.slice a1 n1 k1,.slice a2 n2 k2,.slice a3 n3 k3,.slice a4 n4 k4]:=by
 obtain ⟨_,_,hr,rfl⟩:=h;obtain ⟨_,_,_,_,_,_,_,_,_,_,rfl,rfl,⟨_,_,_,_,rfl,_⟩,⟨_,_,_,_,rfl,_⟩,⟨_,_,_,_,rfl,_⟩,⟨_,_,_,_,rfl,_⟩,⟨_,_,_,_,rfl,_⟩⟩:=zqU hr;exact ⟨_,_,_,_,_,_,_,_,_,_,_,_,_,_,_,rfl⟩
structure LP (c:DCode) (ms0:List Bool) (out0:List Nat) (nw:Bool) (ms:List Bool) (out:List Nat) (k:Nat):Prop where
 len:ms.length=c.ins.length
 leno:out.length=c.ins.length
 lt:∀ x∈out,x<64
 snd:∀ i,mkd ms i->MetP c i
 sndm:∀ i l,i<c.ins.length->(zaE out i).testBit l=true->MayP c i l
 root:∀ p,RootP c p->mkd ms (eN c p)
 yes:nw=true->zlw ms0+out0.sum<zlw ms+out.sum
 no:nw=false->ms=ms0/\out=out0/\∀ i,i<k->mkd ms0 i->MC c ms0 i/\((zal c i).op=4->zhi (zaE out0 i) (zaE out0 (eN c (agN c i)))/\(mkd ms0 (zN c (agN c i))->∀ j∈zaA c i,zhi (zaE out0 (zN c (agN c i))) (zaE out0 j)))/\(¬(zal c i).op=4->∀ j∈zaA c i,zhi (aft c [] i (zaE out0 i)) (zaE out0 j))
def LP.lt0 {ms0 ms:List Bool} {out0 out:List Nat} (h:LP c ms0 out0 nw ms out k) (i:Nat):zaE out i<64:=zep h.lt i
def zAS (ms:List Bool) (out:List Nat) (nw:Bool) (i m:Nat):Bool:=nw || !(ms.getD i false&&decide (zaE out i ||| m=zaE out i))
def zvv {ms:List Bool} (h:mkd ms i) (h2:zaE out i ||| m=zaE out i):zAS ms out nw i m=nw:=by
 unfold mkd at h;unfold zAS;rw [h,decide_eq_true h2];simp
def zqh {ms:List Bool} (h:¬(mkd ms i/\zaE out i ||| m=zaE out i)):zAS ms out nw i m=true:=by
 unfold mkd at h;unfold zAS;cases e:ms.getD i false
 . simp
 have:¬(zaE out i ||| m=zaE out i):=λh2=>h ⟨e,h2⟩;rw [decide_eq_false this];simp
def zqi (h:i<out.length):out.set i (zaE out i)=out:=by rw [<-zbn h];exact qda h
def zzY {ms:List Bool}:zlw ms<=zlw (ms.set i true):=by
 by_cases h:i<ms.length
 . by_cases hk:mkd ms i
   . rw [zmU hk];exact qaz _
   rw [zjy h hk];omega
 rw [qcY oo];exact qaz _
theorem LP.put {g2 ms:List Bool} {out0 out:List Nat} (h:LP c g2 out0 nw ms out k) (hi:i<c.ins.length) (hm:m<64) (g0:MetP c i) (g1:∀ l,l<6->m.testBit l=true->MayP c i l) :
   LP c g2 out0 (zAS ms out nw i m) (ms.set i true) (out.set i (zaE out i ||| m)) k:=by
 by_cases hk:mkd ms i/\zaE out i ||| m=zaE out i
 . rw [zvv hk.1 hk.2,zmU hk.1,hk.2,zqi (by rw [h.leno];exact hi)];exact h
 rw [zqh hk];have g3:=h.lt0 i;have:=zkI (l:=out) (i:=i) (v:=zaE out i ||| m) (by rw [h.leno];exact hi);have:zaE out i<=zaE out i ||| m:=Nat.left_le_or;have:=zzY (ms:=ms) (i:=i);refine ⟨by simp [h.len],by simp [h.leno],λx hx=>?_,λj hj=>?_,λj l hj hb=>?_,λp hp=>zf3 (h.root p hp),λ_=>?_,λe=>by cases e⟩
 . rcases zdx hx with rfl | hx
   . exact zqb hm g3
   exact h.lt x hx
 . rcases (zdj (by rw [h.len];exact hi)).1 hj with h4 | h4
   . exact h.snd j h4
   rw [h4];exact g0
 . rw [zcj (by rw [h.leno];exact hi)] at hb;split at hb
   . rename_i e;subst e;rw [qaV,qaR] at hb;rcases hb with hb | hb
     . exact h.sndm i l hj hb
     exact g1 l (zg4 hm hb) hb
   exact h.sndm j l hj hb
 have g4:zlw ms+out.sum<zlw (ms.set i true)+(out.set i (zaE out i ||| m)).sum:=by
   by_cases hk1:mkd ms i
   . have:=zBP λe=>hk ⟨hk1,e⟩;omega
   have:=zjy (by rw [h.len];exact hi) hk1;omega
 cases nw with
 | true=>have:=h.yes rfl;omega
 | false=>rw [<-(h.no rfl).1,<-(h.no rfl).2.1];exact g4
def zzZ {ms:List Bool} (e:zAS ms out nw i m=false):nw=false:=by
 unfold zAS at e;cases nw<;>simp_all
def zz0 {i j m x:Nat} (hi:i<out.length) (hx:zhi x (zaE out j)):zhi x (zaE (out.set i (zaE out i ||| m)) j):=by
 rw [zcj hi];split
 . rename_i e;subst e;exact zmV hx
 exact hx
def zle (hi:i<out.length):zhi m (zaE (out.set i (zaE out i ||| m)) i):=by
 rw [zcj hi,qah rfl];exact zDI
def LP.fin (hc:CodeR c) {g2 ms:List Bool} {out0 out:List Nat} (h:LP c g2 out0 false ms out c.ins.length):ms=zi0 c/\out=zqD c:=by
 obtain ⟨h1,h2,h3⟩:=h.no rfl;rw [<-h1,<-h2] at h3;have hT:TP c ms false ms c.ins.length:=⟨h.len,h.snd,h.root,λe=>(by cases e),λ_=>⟨rfl,λi hi hm=>(h3 i hi hm).1⟩⟩;have g0:=hT.fin hc;have g1:∀ i,MetP c i->mkd ms i:=λi hi=>by rw [g0];exact zcs.2 ⟨hi.lt hc,hi⟩
 exact ⟨g0,zzG hc h.leno h.lt h.sndm λi hm=>by
   have:=(h3 i (hm.lt hc) (g1 i hm)).2;exact ⟨λh4=>⟨(this.1 h4).1,λhz=>(this.1 h4).2 (g1 _ hz)⟩,this.2⟩⟩
def LP.again {ms0 ms:List Bool} {out0 out:List Nat} (h:LP c ms0 out0 nw ms out k):LP c ms out false ms out 0:=
 ⟨h.len,h.leno,h.lt,h.snd,h.sndm,h.root,λe=>(by cases e),λ_=>⟨rfl,rfl,λi hi=>oo⟩⟩
def LP.skip {ms0 ms:List Bool} {out0 out:List Nat} (h:LP c ms0 out0 nw ms out k) (hk:¬mkd ms k):LP c ms0 out0 nw ms out (k+1):=
 ⟨h.len,h.leno,h.lt,h.snd,h.sndm,h.root,h.yes,λe=>⟨(h.no e).1,(h.no e).2.1,λi hi hm=>by
   by_cases e2:i=k
   . subst e2;rw [(h.no e).1] at hk;exact absurd hm hk
   exact (h.no e).2.2 i oo hm⟩⟩
def LP.close {ms0 ms:List Bool} {out0 out:List Nat} (h:LP c ms0 out0 nw ms out k) (hC:CR c out0 k h0 m nw) (h1:(zal c k).op=4->mkd ms (eN c (agN c k))/\zhi h0 (zaE out (eN c (agN c k))))
   (h2:((zal c k).op=4->mkd ms (zN c (agN c k)))->∀ j∈zaA c k,mkd ms j/\zhi m (zaE out j)):LP c ms0 out0 nw ms out (k+1):=
 ⟨h.len,h.leno,h.lt,h.snd,h.sndm,h.root,h.yes,λe=>by
   obtain ⟨o1,o2,o3⟩:=h.no e;refine ⟨o1,o2,λi hi hm=>?_⟩;by_cases e2:i=k
   . subst e2;obtain ⟨c1,c2,c3⟩:=hC e;rw [o1,o2] at h1;rw [o1,o2] at h2;refine ⟨⟨λh4=>⟨(h1 h4).1,λhz j hj=>(h2 (λ_=>hz) j hj).1⟩,λh4 j hj=>(h2 (λh=>absurd h h4) j hj).1⟩,λh4=>⟨c1▸(h1 h4).2,λhz j hj=>c2 h4▸(h2 (λ_=>hz) j hj).2⟩,λh4 j hj=>c3 h4▸(h2 (λh=>absurd h h4) j hj).2⟩
   exact o3 i oo hm⟩
structure LW (w1 w:wD) (gw g h n:Nat) (kc:List vL) (ms:List Bool) (out:List Nat) (nw:Bool):Prop where
 ext:Ext w1 w
 blk:Blk gw 238 w (kc++[.slice (some ⟨g,0,none⟩) n n,.slice (some ⟨h,0,none⟩) n n,.bool nw])
 mks:Mine [g] w (.slice (some ⟨g,0,none⟩) n n) ms
 mine:Mine [h] w (.slice (some ⟨h,0,none⟩) n n) (za5 out)
 k5:kc.length=5
 n1:gw≠g
 n2:gw≠h
 n3:g≠h
 g0:w1.heap.size<=gw
 g1:w1.heap.size<=g
 g2:w1.heap.size<=h
section
variable {w1 w w':wD} {gw g h n:Nat} {kc:List vL} {ms:List Bool} {out:List Nat} {nw:Bool}
def LW.step (H:LW w1 w gw g h n kc ms out nw) (hx:Ext w w'):LW w1 w' gw g h n kc ms out nw:=⟨H.ext.trans hx,H.blk.ext hx,H.mks.ext hx,H.mine.ext hx,H.k5,H.n1,H.n2,H.n3,H.g0,H.g1,H.g2⟩
def LW.c5 (H:LW w1 w gw g h n kc ms out nw):(kc++[Value.slice (some ⟨g,0,none⟩) n n,.slice (some ⟨h,0,none⟩) n n,.bool nw])[5]?=some (.slice (some ⟨g,0,none⟩) n n):=by rw [List.getElem?_append_right (by rw [H.k5];omega),H.k5];rfl
def LW.c6 (H:LW w1 w gw g h n kc ms out nw):(kc++[Value.slice (some ⟨g,0,none⟩) n n,.slice (some ⟨h,0,none⟩) n n,.bool nw])[6]?=some (.slice (some ⟨h,0,none⟩) n n):=by rw [List.getElem?_append_right (by rw [H.k5];omega),H.k5];rfl
def LW.c7 (H:LW w1 w gw g h n kc ms out nw):(kc++[Value.slice (some ⟨g,0,none⟩) n n,.slice (some ⟨h,0,none⟩) n n,.bool nw])[7]?=some (.bool nw):=by rw [List.getElem?_append_right (by rw [H.k5];omega),H.k5];rfl
def LW.mark {ms':List Bool} (H:LW w1 w gw g h n kc ms out nw) (hc:Chg [g] w w') (hm:Mine [g] w' (.slice (some ⟨g,0,none⟩) n n) ms'):LW w1 w' gw g h n kc ms' out nw:=
 ⟨H.ext.chgF hc (by simp [H.g1]),H.blk.chgF hc (by simp [H.n1]),hm,H.mine.keep λb hb=>by
   simp only [qaa,qad,qaq] at hb;subst hb;exact hc.block b (H.mine.lt b sS) (by simp [Ne.symm H.n3]),H.k5,H.n1,H.n2,H.n3,H.g0,H.g1,H.g2⟩
def LW.set {i v:Nat} (H:LW w1 w gw g h n kc ms out nw) (hc:Chg [h] w w') (hm:Mine [h] w' (.slice (some ⟨h,0,none⟩) n n) ((za5 out).set i (v:Int))):LW w1 w' gw g h n kc ms (out.set i v) nw:=
 ⟨H.ext.chgF hc (by simp [H.g2]),H.blk.chgF hc (by simp [H.n2]),H.mks.keep λb hb=>by
   simp only [qaa,qad,qaq] at hb;subst hb;exact hc.block b (H.mks.lt b sS) (by simp [H.n3]),by rw [zid];exact hm,H.k5,H.n1,H.n2,H.n3,H.g0,H.g1,H.g2⟩
def LW.news {g3:Bool} (H:LW w1 w gw g h n kc ms out nw) (hc:Chg [gw] w w') (hB:Blk gw 238 w' ((kc++[Value.slice (some ⟨g,0,none⟩) n n,.slice (some ⟨h,0,none⟩) n n,.bool nw]).set 7 (.bool g3))):LW w1 w' gw g h n kc ms out g3:=by
 have e:(kc++[Value.slice (some ⟨g,0,none⟩) n n,.slice (some ⟨h,0,none⟩) n n,.bool nw]).set 7 (.bool g3)=kc++[Value.slice (some ⟨g,0,none⟩) n n,.slice (some ⟨h,0,none⟩) n n,.bool g3]:=by
   rw [qbb _ _ (by rw [H.k5];omega),H.k5];rfl
 rw [e] at hB
 exact ⟨H.ext.chgF hc (by simp [H.g0]),hB,H.mks.keep λb hb=>by
   simp only [qaa,qad,qaq] at hb;subst hb;exact hc.block b (H.mks.lt b sS) (by simp [Ne.symm H.n1]),H.mine.keep λb hb=>by
   simp only [qaa,qad,qaq] at hb;subst hb;exact hc.block b (H.mine.lt b sS) (by simp [Ne.symm H.n2]),H.k5,H.n1,H.n2,H.n3,H.g0,H.g1,H.g2⟩
def LW.l8 (H:LW w1 w gw g h n kc ms out nw):7<(kc++[Value.slice (some ⟨g,0,none⟩) n n,.slice (some ⟨h,0,none⟩) n n,.bool nw]).length:=by simp [H.k5]
def znb {i m:Nat} (H:LW w1 w gw g h n kc ms out nw) (hi:i<n) (hl:ms.length=n) (O:out.length=n) (gf:∀ x∈out,x<64) (hm:m<64) :
   CALL tp 258 [.pointer (some ⟨gw,0,none⟩),.int .i64 (i:Int),.int .i64 (m:Int)] w λr w'=>r=.tuple #[]/\LW w1 w' gw g h n kc (ms.set i true) (out.set i (zaE out i ||| m)) (zAS ms out nw i m)/\Chg [gw,g,h] w w':=by
 refine co (g:=kf [] [] [(0,[0,1,2,3,4,5,6,7,8,9,10,11,12,13,14,15,16,17,18,19,20,21,22,23,24,25,26],0),(2,[0,1,2,3,4,5,6,7,8,9,10,11,12,13,14,15],0)]) Tryz.func258 ?_;have g1:=zep gf i;have:=zqb hm g1;have I:=zag w;have H1:=H.step I;have g2:Chg [gw,g,h] w (World.drew1 w):=⟨I.os,I.tape,I.output,I.size,λb hb _=>I.block b hb⟩;generalize World.drew1 w=wd at *;have gb:=zce (ms:=ms) (i:=i) (by rw [hl];exact hi);refine NIL.mk rfl<|zaa zkf<|zan zef H1.blk H1.c5<|zad zfU ty4 H1.mks.is (by rw [hl];exact hi) λb1 o1 g0=>zbi ty4 g0 (xrf _)<|za2 ?_
 have gc:∀ {w':wD} {K:vL->Prop} (H:LW w1 w' gw g h n kc ms out nw) (k:K (.int .i64 (zaE out i:Int))),RD tp (Instr.indexAt 25 (.slice (some ⟨h,0,none⟩) n n) (.int .i64 (i:Int))) w' λgg=>RD tp (Instr.loadAt 3 gg) w' K:=λH k=>by
   refine zad u25 ty3 (i:=i) H.mine.is (by rw [zah,O];exact hi) λb1 o1 g0=>?_;rw [zbk] at g0;exact zac ty3 g0 (xrf _) λ_=>k
 refine zbX (λhf=>?_) (λhf=>?_)
 . have D:¬(mkd ms i/\zaE out i ||| m=zaE out i):=λhh=>by rw [gb.1 hh.1] at hf;cases hf
   rw [zqh D];refine NIL.mk rfl<|zaa zkf<|zan zef H1.blk H1.c5<|zcU (α:=Bool) rfl zfU ty4 hi<|zb5 (α:=Bool) rfl ty4 H1.mks hl hi zcx λw2 U g3=>?_;have H2:=H1.mark U g3;have C:=zag w2;have H3:=H2.step C;have g4:Chg [gw,g,h] w2 (World.drew1 w2):=⟨C.os,C.tape,C.output,C.size,λb hb _=>C.block b hb⟩;generalize World.drew1 w2=w3 at *;refine NIL.mk rfl<|zaa zgP<|zan zaS H3.blk H3.c6<|NIL.mk rfl<|zaa zgP<|zan zaS H3.blk H3.c6<|zad u25 ty3 (i:=i) H3.mine.is (by rw [zah,O];exact hi) λb4 o4 V=>?_;rw [zbk] at V;refine zac ty3 V (xrf _) λ_=>zhk (m:=zaE out i) (n:=m) oo oo<|zcU (α:=Int) rfl u25 ty3 hi<|zb5 (α:=Int) rfl ty3 H3.mine (by rw [zah,O]) hi (zc5 (v:=zaE out i ||| m) oo) λw4 X g5=>?_;have H4:=H3.set (v:=zaE out i ||| m) X g5;refine NIL.mk rfl<|zaa zps<|za3 (α:=Raw) (lo:=0) (hi:=0) ty4 rfl rfl H4.blk H4.l8 (zdq rfl) λw5 Y g9=>⟨rfl,H4.news Y.one g9,(((g2.trans (U.mono sS)).trans g4).trans (X.mono sS)).trans (Y.one.mono sS)⟩
 have gd:mkd ms i:=by rw [gb];simpa using hf
 refine NIL.mk rfl<|zaa zgP<|zan zaS H1.blk H1.c6<|gc H1<|zhk (m:=zaE out i) (n:=m) oo oo<|NIL.mk rfl<|zaa zgP<|zan zaS H1.blk H1.c6<|gc H1<|zaT<|br (λgh=>?_) (λgi=>?_)
 . have D:¬(mkd ms i/\zaE out i ||| m=zaE out i):=λhh=>gh (by rw [hh.2]);rw [zqh D];refine NIL.mk rfl<|zaa zkf<|zan zef H1.blk H1.c5<|zcU (α:=Bool) rfl zfU ty4 hi<|zb5 (α:=Bool) rfl ty4 H1.mks hl hi zcx λw2 U g3=>?_;have H2:=H1.mark U g3;have C:=zag w2;have H3:=H2.step C;have g4:Chg [gw,g,h] w2 (World.drew1 w2):=⟨C.os,C.tape,C.output,C.size,λb hb _=>C.block b hb⟩;generalize World.drew1 w2=w3 at *;refine NIL.mk rfl<|zaa zgP<|zan zaS H3.blk H3.c6<|NIL.mk rfl<|zaa zgP<|zan zaS H3.blk H3.c6<|zad u25 ty3 (i:=i) H3.mine.is (by rw [zah,O];exact hi) λb4 o4 V=>?_;rw [zbk] at V;refine zac ty3 V (xrf _) λ_=>zhk (m:=zaE out i) (n:=m) oo oo<|zcU (α:=Int) rfl u25 ty3 hi<|zb5 (α:=Int) rfl ty3 H3.mine (by rw [zah,O]) hi (zc5 (v:=zaE out i ||| m) oo) λw4 X g5=>?_;have H4:=H3.set (v:=zaE out i ||| m) X g5;refine NIL.mk rfl<|zaa zps<|za3 (α:=Raw) (lo:=0) (hi:=0) ty4 rfl rfl H4.blk H4.l8 (zdq rfl) λw5 Y g9=>⟨rfl,H4.news Y.one g9,(((g2.trans (U.mono sS)).trans g4).trans (X.mono sS)).trans (Y.one.mono sS)⟩
 have he:zaE out i ||| m=zaE out i:=qbo.1 (qai.1 gi);rw [zvv gd he,zmU gd,he,zqi (by rw [O];exact hi)];exact ⟨rfl,H1,g2⟩
end
def zIg {α β:Type} [Rep α] [Rep β] (w w':wD) (r:vL) (x:α) (y:β):Prop:=∃ a b lo hi lo2 hi2,r=.tuple #[a,b]/\OwnI lo hi w' a x/\OwnI lo2 hi2 w' b y/\w.heap.size<=lo/\w.heap.size<=lo2/\hi<=w'.heap.size/\hi2<=w'.heap.size/\(hi<=lo2\/hi2<=lo)
def zz1 (S:List (List Int)) (m:List Int):List (List Int):=if m=[]\/m∈S then S else S++[m]
def zj3 (c:DCode) (s:DState) (S:List (List Int)) (n:Nat):List (List Int):=(List.range n).foldl (λS (t:Nat)=>zz1 S (zby (ze9 c s (t:Int)))) S
def zfS (c:DCode) (sts:List DState):List (List Int):=sts.foldl (λS s=>zj3 c s S s.stacks.length) []
def zc1 (c:DCode) (sts:List DState):List DRace:=sts.flatMap (zgi c)
def zij (c:DCode) (s:DState) (S:List (List Int)) (n:Nat):zj3 c s S (n+1)=zz1 (zj3 c s S n) (zby (ze9 c s (n:Int))):=by
 unfold zj3;rw [qbU,qcA];rfl
def zkQ {r:List DState} (hk:k<r.length):zfS c (r.take (k+1))=zj3 c r[k] (zfS c (r.take k)) r[k].stacks.length:=by
 unfold zfS;rw [tk hk,qcA];rfl
def zi5 {g0:List DState} (hk:k<g0.length):zc1 c (g0.take (k+1))=zc1 c (g0.take k)++zgi c g0[k]:=by
 unfold zc1;rw [tk hk,qbc];simp
def zBV (S:List (List Int)) (m:List Int):(zz1 S m).length<=S.length+1:=by
 unfold zz1;split<;>simp
theorem zj4 (c:DCode) (s:DState) (S:List (List Int)):∀ n,(zj3 c s S n).length<=S.length+n
 | 0=>by simp [zj3]
 | n+1=>by
   have h1:=zj4 c s S n;have h2:=zBV (zj3 c s S n) (zby (ze9 c s (n:Int)));rw [zij];omega
def zz2 (m:Nat):(zby m).length<=64:=zeQ _ 64
theorem znc {c:DCode} {sts:List DState} (h:∀ s∈sts,s.stacks.length<=6):∀ k,k<=sts.length->(zfS c (sts.take k)).length<=k*6
 | 0,_=>by simp [zfS]
 | k+1,hk=>by
   have h1:=znc (c:=c) h k oo;have h2:=zj4 c sts[k] (zfS c (sts.take k)) sts[k].stacks.length;have h3:=h sts[k] (qac _);rw [zkQ oo];omega
theorem zik {c:DCode} {sts:List DState} (hc:CodeR c) (h:∀ s∈sts,zaV c s):∀ k,k<=sts.length->(zc1 c (sts.take k)).length<=k*5184
 | 0,_=>by simp [zc1]
 | k+1,hk=>by
   have h1:=zik hc h k oo;have h2:=zrY sts[k] hc (h _ (qac _));rw [zi5 oo,qag];omega
structure KQ (Q:List Nat->wD->Prop):Prop where
 keep:∀ {F:List Nat} {w w':wD},Q F w->(∀ b∈F,w'.heap[b]?=w.heap[b]?)->Q F w'
 lt:∀ {F:List Nat} {w:wD},Q F w->∀ b∈F,b<w.heap.size
structure SS (Q:List Nat->wD->Prop) (wb w:wD) (sv:vL) (S:List (List Int)) (FR FT:List Nat):Prop where
 ext:Ext wb w
 rr:Q FR w
 rs:RowG FT 25 w sv S
 ns:FT.Nodup
 br:∀ b∈FR,wb.heap.size<=b
 bs:∀ b∈FT,wb.heap.size<=b
 dis:∀ b∈FR,b∉FT
section
variable {Q Q':List Nat->wD->Prop} {wb w w1 w':wD} {sv sv':vL} {S S':List (List Int)} {FR FT F':List Nat}
def SS.step (hQ:KQ Q) (h:SS Q wb w sv S FR FT) (hx:Ext w w'):SS Q wb w' sv S FR FT:=
 ⟨h.ext.trans hx,hQ.keep h.rr λb hb=>hx.heap (hQ.lt h.rr b hb),h.rs.keep λb hb=>hx.heap (h.rs.lt b hb),h.ns,h.br,h.bs,h.dis⟩
def SS.race (hQ:KQ Q) (hQ':KQ Q') (h:SS Q wb w sv S FR FT) (hc:Chg FR w w') (hr:Q' F' w') (hs:∀ c∈F',c∈FR\/w.heap.size<=c):SS Q' wb w' sv S F' FT:=
 ⟨h.ext.chgF hc h.br,hr,h.rs.keep λb hb=>hc.block b (h.rs.lt b hb) λhF=>h.dis b hF hb,h.ns,λb hb=>by
   rcases hs b hb with h1 | h1
   . exact h.br b h1
   . have:=h.ext.size;omega,h.bs,λb hb hF=>by
   rcases hs b hb with h1 | h1
   . exact h.dis b h1 hF
   have:=h.rs.lt b hF;omega⟩
def SS.see (hQ:KQ Q) (h:SS Q wb w sv S FR FT) {GX:List Nat} (hx:Ext w w1) (hc:Chg FT w1 w') (hr:RowG F' 25 w' sv' S') (hn:F'.Nodup) (hs:∀ c∈F',c∈FT\/c∈GX\/w.heap.size<=c) (hG:∀ c∈GX,wb.heap.size<=c/\c∉FR):SS Q wb w' sv' S' FR F':=by
 have h1:=h.step hQ hx;refine ⟨h1.ext.chgF hc h.bs,hQ.keep h1.rr λb hb=>hc.block b (hQ.lt h1.rr b hb) λhF=>h.dis b hb hF,hr,hn,h.br,λb hb=>?_,λb hb hF=>?_⟩
 . rcases hs b hb with h2 | h2 | h2
   . exact h.bs b h2
   . exact (hG b h2).1
   have:=h.ext.size;omega
 rcases hs b hF with h2 | h2 | h2
 . exact h.dis b hb h2
 . exact (hG b h2).2 hb
 have:=hQ.lt h.rr b hb;omega
end
def zr5 (e:Nat) (v:vL) (R:List DRace):KQ (λF w=>RowG F e w v R/\F.Nodup):=⟨λh hk=>⟨h.1.keep hk,h.2⟩,λh=>h.1.lt⟩
def zlf (v:vL) (R:List DRace):KQ (λF w=>Mine F w v R):=⟨λh hk=>h.keep hk,λh=>h.lt⟩
def zr6 {m:Int} (h:CodeR c->TrOk c (zgk m) (zgj c (zgk m))):(zbx c m).length<=150/\(zbx c m≠[]->CodeR c)/\∀ s∈zbx c m,zaV c s:=by
 unfold zbx;split
 . rename_i hc;have hk:=h hc;have:=hk.many;have:=zkP m;have:zgk m<=150:=by unfold zgk;omega
   exact ⟨oo,λ_=>hc,hk.right⟩
 exact ⟨sS,λh=>absurd rfl h,sS⟩
def znL {m:Int} (h0:Is W0 v0 c) (e0:Ext W0 w) (hw:zjq c<=1048576) :
   CALL tp 6 [v0,.int .i64 m] w λr w'=>Ext w w'/\zIg w w' r (zcX (zc1 c (zbx c m))) (zfS c (zbx c m)):=by
 refine co (g:=kf [] [(5,576460752295066368,[8,9,23]),(9,288230341792002560,[9,35])] []) Tryz.func6 ?_;refine zbp h0 e0 λ_ gS hA=>zab zbY hA (xrf _) λ_ h9=>?_;refine (zm9 (m:=m) h9 (xrf _) hw).mono ?_;rintro _ wb ⟨g9,⟨_,rfl,gU⟩,hT⟩;obtain ⟨_,gb,gi⟩:=zr6 hT;have hs1:=gS.size;have hsb:=g9.size;refine zaN rfl<|zaN rfl ?_;generalize zbx c m=sts at *;refine zae u46 gU.is ?_
 have ha:SS (λF w=>RowG F 41 w (.slice none 0 0) (zc1 c (sts.take 0))/\F.Nodup) wb wb (.slice none 0 0) (zfS c (sts.take 0)) [] []:=
   ⟨xrf _,⟨.inl ⟨none,rfl,rfl,rfl⟩,qav⟩,.inl ⟨none,rfl,rfl,rfl⟩,qav,sS,sS,sS⟩
 refine zap sts.length (λk us w'=>∃ rv sv FR FT,us=[rv,sv,.int .i64 (k:Int)]/\k<=sts.length/\SS (λF w=>RowG F 41 w rv (zc1 c (sts.take k))/\F.Nodup) wb w' sv (zfS c (sts.take k)) FR FT) 0 (z0 _) ⟨_,_,_,_,rfl,z0 _,ha⟩ ?_;rintro k mk _ w3 _ ⟨rv,sv,FR,FT,hu,gV,C⟩;obtain ⟨hd,he,hf⟩:=zFG hu;rw [hd,he,hf];refine zaf<|br (λ_=>?_) (λ_=>?_)
 case refine_2=>
   have gW:k=sts.length:=oo
   have gj:(zc1 c (sts.take k)).length<=1000000:=by
     by_cases h:sts=[]
     . subst h;simp [zc1]
     have:=zik (gb h) gi k gV;omega
   rw [gW,qaB] at C;rw [gW,qaB] at gj;refine (zoI C.rr.1.own.is (xrf _) gj).mono ?_;rintro hg w4 ⟨gl,hj⟩;have V:=C.step (zr5 _ _ _) gl;have hs3:=C.ext.size;have hs4:=gl.size;obtain ⟨FF,hM,hF⟩:=hj;refine ⟨gS.t (g9.t V.ext),hg,sv,w3.heap.size,w4.heap.size,wb.heap.size,w3.heap.size,rfl,⟨FF,hM,λb hb=>⟨hF b hb,hM.lt b hb⟩⟩,⟨FT,⟨V.rs.own,V.ns,V.rs.wr⟩,λb hb=>⟨C.bs b hb,C.rs.lt b hb⟩⟩,oo,oo,oo,oo,oo⟩
 have hk:k<sts.length:=oo;have hc:CodeR c:=gb (by intro e;rw [e] at hk;simp at hk);have gp:=gi sts[k] (qac _);have hn6:=gp.2.2.1;have X:=zi5 (c:=c) hk;have gj:=zik hc gi (k+1) oo;have hsl:=znc (c:=c) (λs hs=>(gi s hs).2.2.1.2) k gV;have gc:=zkQ (c:=c) hk;refine zad u46 zch gU.is hk λ_ _ hl=>?_;generalize hsk:sts[k]=s at *;refine zab zch hl C.ext λ_ gX=>zcP zH8 rfl zch rfl gX C.ext λw4 gl hn gY=>?_;have V:=C.step (zr5 _ _ _) gl;have hgl:w3.heap.size<w4.heap.size:=gY.lt;have gx:=zga gX gY rfl;refine zab zbY hA (g9.t V.ext) λ_ hq=>zab zch hn (xrf _) λ_ hr=>?_;refine (ztJ hq (g9.t V.ext) hr (xrf _) hc gp).mono ?_;rintro _ _ ⟨gq,hv⟩;have gy:=V.step (zr5 _ _ _) gq
 have hlr:(zc1 c (sts.take k)).length+(zgi c s).length<=1000000:=by
   rw [X,qag] at gj;omega
 have gz:∀ b∈FR,b<w3.heap.size:=C.rr.1.lt;have gC:∀ b∈FT,b<w3.heap.size:=C.rs.lt;refine zFe (m:=zgi c s) u30 zdG zAP gy.rr.1 gy.rr.2 hv.is (xrf _) (by rw [zaj];omega) oo λgD w6 gZ gE h2 gF hx=>?_;rw [<-X] at h2;have h4:=gy.race (Q':=λF w=>RowG F 41 w gD (zc1 c (sts.take (k+1)))/\F.Nodup) (zr5 _ _ _) (zr5 _ _ _) gE ⟨h2,gF⟩ hx
 have gd:AtB wb w6 w3.heap.size 0 s:=by
   refine (gx.ext gq).keep (gE.block _ (by have:=gq.size;omega) λhF=>?_);have:=gz _ hF;omega
 have hy:=gq.size;have hz:=gE.size;generalize hRR:zc1 c (sts.take (k+1))=RR at *;refine zaa zbc<|zab zeV (zaB (gd.at h4.ext)) (xrf _) λ_ hB=>zae u31 hB<|zap s.stacks.length (λt us w'=>∃ sv FT,us=[sv,.int .i64 (t:Int)]/\t<=s.stacks.length/\w3.heap.size<w'.heap.size/\SS (λF w=>RowG F 41 w gD RR/\F.Nodup) wb w' sv (zj3 c s (zfS c (sts.take k)) t) gZ FT/\AtB wb w' w3.heap.size 0 s/\w3.heap.size∉FT) 0 (z0 _) ⟨sv,FT,rfl,z0 _,oo,h4,gd,λhF=>by have:=gC _ hF;omega⟩ ?_;rintro t mt _ _ _ ⟨gG,gH,hC,_,_,O,gf,gr⟩;obtain ⟨gI,gJ⟩:=zcZ hC;rw [gI,gJ];refine zaf<|br (λ_=>?_) (λ_=>?_)
 case refine_2=>
   have hD:t=s.stacks.length:=oo;rw [hD,<-gc] at O;refine zau<|⟨mk-1,oo,k+1,oo,gD,gG,gZ,gH,rfl,oo,by rw [hRR];exact O⟩
 have ht:t<s.stacks.length:=oo;have gK:=gf.at O.ext;refine zab zbY hA (g9.t O.ext) λ_ hG=>zab zch gK (xrf _) λ_ hH=>?_;refine (zEX (t:=(t:Int)) hG (g9.t O.ext) hH (xrf _) hc gp).mono ?_;rintro _ _ ⟨h5,rfl⟩;have hI:=zrL hc gp (t:Int);have g0:=zij c s (zfS c (sts.take k)) t;have hJ:=zj4 c s (zfS c (sts.take k)) t;generalize ze9 c s (t:Int)=kn at *;refine (zdR (m:=kn) oo).mono ?_;rintro hK w9 ⟨hL,gs⟩;have hbl:=zz2 kn;generalize hbe:zby kn=B at *
 have gM:hK.oneCell'=true:=by
   obtain ⟨_,_,FF,_,hh,_⟩:=zcE gs.is;rw [hh];rfl
 refine zi2 zHR zaS gM λhN g1 g2=>zba (v:=.func (.func 20) #[] #[.pointer (some ⟨w9.heap.size,0,none⟩)]) (λw' _=>by simp [Instr.makeFunc]) ?_;have gN:At hN w9.heap.size 0 B:=zfR g2 rfl (gs.is.ext g1);refine zan zaS g2 rfl<|zae u25 gs.is<|zcO ?_;have D:=h5.t (hL.t g1);have g3:=O.step (zr5 _ _ _) D;have Y:=gf.ext D;have h6:=D.size;refine br (λgg=>?_) (λ_=>?_)
 case refine_2=>have hO:B=[]:=qan oo;refine zau<|⟨mt-1,oo,t+1,oo,gG,gH,rfl,oo,oo,by rw [g0];unfold zz1;rw [qah (.inl hO)];exact g3,Y,gr⟩
 have gO:B≠[]:=λe=>by rw [e] at gg;simp at gg
 refine (zll g3.rs.own.is (xrf _) gN (xrf _)).mono ?_;rintro _ _ ⟨I,rfl⟩;have U:=g3.step (zr5 _ _ _) I;have Z:=Y.ext I;have hP:=I.size;refine zav<|br (λhQ=>?_) (λhm=>?_)
 case refine_2=>have hR:=qai.1 hm;refine zau<|⟨mt-1,oo,t+1,oo,gG,gH,rfl,oo,oo,by rw [g0];unfold zz1;rw [qah (.inr hR)];exact U,Z,gr⟩
 refine zan zaS (g2.ext I) rfl ?_;obtain ⟨GX,hS,gt⟩:=gs;have hV:=h5.size;refine zdU (x:=B) (K:=λ_=>_) u31 zaS z25 zyq qd U.rs U.ns (hS.ext (g1.t I)) (λb hb hF=>by have:=gt b hb;have:=O.rs.lt b hF;omega) (by rw [zaj];omega) oo (λ_ v' _ G' g4 g5 gP gQ gh=>?_) λ_ _ _ h=>h;have gR:=U.see (zr5 _ _ _) (GX:=GX) g4 g5 gP gQ gh λb hb=>⟨by have:=gt b hb;have:=O.ext.size;omega,λhF=>by have:=gt b hb;have:=O.rr.1.lt b hF;omega⟩;have h8:=g4.size;have hW:=g5.size;refine zau<|⟨mt-1,oo,t+1,oo,v',G',rfl,oo,oo,?_,?_,λhF=>?_⟩
 . rw [g0];unfold zz1;rw [qab (λh=>h.elim gO hQ)];exact gR
 . exact (Z.ext g4).keep (g5.block _ oo gr)
 rcases gh _ hF with h | h | h
 . exact gr h
 . have:=gt _ h;omega
 omega
def zr7 {α:Type} {l:List α} (hk:k<l.length):l.take (k+1)=l.take k++[l[k]]:=tk hk
def znM {m:Int} (h0:Is W0 v0 c) (e0:Ext W0 w) (hw:zjq c<=1048576) :
   CALL tp 7 [v0,.int .i64 m] w λr w'=>Ext w w'/\∃ a b,r=.tuple #[a,b]/\Own w.heap.size w' a (zcX (zc1 c (zbx c m)))/\Own w.heap.size w' b (zfS c (zbx c m))/\(CodeR c->TrOk c (zgk m) (zgj c (zgk m))):=by
 refine co (g:=kf [] [(5,1237940039285380274865700032,[6,7,10]),(9,562812514472000,[6,12]),(13,1237940039284817324945825920,[7,13]),(18,19342222818023708089745408,[15,16])] [(7,[0,1,2,3,4,5,6],0),(15,[0,1,2,3,4,5,6,7],0)]) Tryz.func7 ?_;refine zbp h0 e0 λ_ gJ hA=>zaD (α:=DRace) u30 zdG λg9 _ gY _=>zaD (α:=List Int) u31 zaS λgK _ gZ _=>?_;have V:=gY.t gZ;refine zab zbY hA V λ_ h2=>?_;refine (zna (m:=m) h2 V hw).mono ?_;rintro _ wb ⟨gg,⟨va,rfl,gb⟩,hT⟩;obtain ⟨_,gh,gi⟩:=zr6 hT;have X:=V.t gg;have hs1:=gJ.size;have hsb:=X.size;refine zaN rfl<|zaN rfl ?_;generalize zbx c m=sts at *
 have h4:∀ w:wD,Mine [] w (.slice (some g9) 0 0) (zcX (zc1 c (sts.take 0))):=λw=>by
   have h:RowG (α:=DRace) [] 41 w (.slice (some g9) 0 0) []:=.inl ⟨some g9,rfl,rfl,rfl⟩;exact ⟨h.own,qav,h.wr⟩
 have h5:SS (λF w=>Mine F w (.slice (some g9) 0 0) (zcX (zc1 c (sts.take 0)))) wb wb (.slice (some gK) 0 0) (zfS c (sts.take 0)) [] []:=
   ⟨xrf _,h4 wb,.inl ⟨some gK,rfl,rfl,rfl⟩,qav,sS,sS,sS⟩
 refine zap sts.length (λk us w'=>∃ rv sv FR FT,us=[rv,sv,.int .i64 (k:Int)]/\k<=sts.length/\SS (λF w=>Mine F w rv (zcX (zc1 c (sts.take k)))) wb w' sv (zfS c (sts.take k)) FR FT) 0 (z0 _) ⟨_,_,_,_,rfl,z0 _,h5⟩ ?_;rintro k mk _ w3 _ ⟨rv,sv,FR,FT,hu,h6,I⟩;obtain ⟨h8,h9,ha⟩:=zFG hu;rw [h8,h9,ha];refine zae u46 gb.is<|zaf<|br (λ_=>?_) (λ_=>?_)
 case refine_2=>
   have hd:k=sts.length:=oo;rw [hd,qaB] at I;have gM:w.heap.size<=wb.heap.size:=oo;exact ⟨gJ.t (X.t I.ext),rv,sv,rfl,⟨FR,I.rr,λb hb=>qat gM (I.br b hb)⟩,⟨FT,⟨I.rs.own,I.ns,I.rs.wr⟩,λb hb=>qat gM (I.bs b hb)⟩,hT⟩
 have hk:k<sts.length:=oo;have hc:CodeR c:=gh (by intro e;rw [e] at hk;simp at hk);have gc:=gi sts[k] (qac _);have hn6:=gc.2.2.1;have O:=zi5 (c:=c) hk;have he:=zik hc gi (k+1) oo;have hsl:=znc (c:=c) (λs hs=>(gi s hs).2.2.1.2) k h6;have g0:=zkQ (c:=c) hk;have hf:=zag w3;generalize World.drew1 w3=w4 at *;have g1:=I.step (zlf _ _) hf;refine zab zbY hA (X.t g1.ext) λ_ hg=>zad u46 zch gb.is hk λb3 o3 gd=>?_;generalize hsk:sts[k]=s at *;refine zab zch gd g1.ext λ_ hh=>?_;refine (zwG hg (X.t g1.ext) hh g1.ext hc gc).mono ?_;rintro _ w5 ⟨hl,gN⟩;have hn:=g1.step (zlf _ _) hl;have hml:=zrY s hc gc;refine zap (zgi c s).length (λj us w'=>∃ rv FR,us=[rv,.int .i64 (j:Int)]/\j<=(zgi c s).length/\Ext w5 w'/\SS (λF w=>Mine F w rv (zcX (zc1 c (sts.take k)++(zgi c s).take j))) wb w' sv (zfS c (sts.take k)) FR FT) 0 (z0 _) ⟨rv,FR,rfl,z0 _,xrf _,by simpa using hn⟩ ?_;rintro j mj _ _ _ ⟨gO,gP,hq,_,gj,gf⟩;obtain ⟨gl,gp⟩:=zcZ hq;rw [gl,gp];refine zae u30 gN.is<|zaf<|br (λ_=>?_) (λ_=>?_)
 case refine_1=>
   have hj:j<(zgi c s).length:=oo;refine zad u30 zdG gN.is hj λ_ _ hr=>zab zdG hr gj λ_ hv=>?_;have hcl:=zm3 (zc1 c (sts.take k)++(zgi c s).take j)
   have hl0:(zc1 c (sts.take k)++(zgi c s).take j).length<=1000000:=by
     rw [O,qag] at he;rw [qag,qaj];omega
   refine (zwL gf.rr hv gj oo).mono ?_;rintro gQ w7 ⟨Y,F',gR,hx⟩;rw [<-zoD,qaw,<-zr7 hj] at gR;have Z:=gf.race (Q':=λF w=>Mine F w gQ (zcX (zc1 c (sts.take k)++(zgi c s).take (j+1)))) (zlf _ _) (zlf _ _) ⟨Y.os,Y.tape,Y.output,Y.size,λi hi _=>Y.block i hi⟩ gR hx;refine zau<|⟨mj-1,oo,j+1,oo,gQ,F',rfl,oo,gj.t Y,Z⟩
 have hB:(zgi c s).take j=zgi c s:=qaf oo;rw [hB,<-O] at gf;generalize hRR:zcX (zc1 c (sts.take (k+1)))=RR at *;refine zap s.stacks.length (λt us w'=>∃ sv FT,us=[sv,.int .i64 (t:Int)]/\t<=s.stacks.length/\SS (λF w=>Mine F w gO RR) wb w' sv (zj3 c s (zfS c (sts.take k)) t) gP FT) 0 (z0 _) ⟨sv,FT,rfl,z0 _,gf⟩ ?_;rintro t mt _ w7 _ ⟨gS,gU,hC,_,Z⟩;obtain ⟨gq,gr⟩:=zcZ hC;rw [gq,gr]
 have gs:∀ {K:vL->Prop},(∀ b o,At wb b o s->K (.pointer (some ⟨b,o,none⟩)))->RD tp (Instr.indexAt 46 va (.int .i64 (k:Int))) w7 K:=λkk=>by
   refine zad u46 zch gb.is hk λb3 o3 gd=>?_;rw [hsk] at gd;exact kk b3 o3 gd
 refine gs λ_ _ hD=>zaa zbc<|zab zeV (zaB hD) Z.ext λ_ hG=>zae u31 hG<|zaf<|br (λ_=>?_) (λ_=>?_)
 case refine_2=>
   have hH:t=s.stacks.length:=oo;rw [hH,<-g0] at Z;refine zau<|⟨mk-1,oo,k+1,oo,gO,gS,gP,gU,rfl,oo,by rw [hRR];exact Z⟩
 have ht:t<s.stacks.length:=oo;have g2:=zag w7;generalize World.drew1 w7=w8 at *;have U:=Z.step (zlf _ _) g2;refine zab zbY hA (X.t U.ext) λ_ hI=>zad u46 zch gb.is hk λ_ _ gV=>?_;rw [hsk] at gV;refine zab zch gV U.ext λ_ hJ=>?_;refine (zrM (t:=(t:Int)) hI (X.t U.ext) hJ U.ext hc gc).mono ?_;rintro _ w9 ⟨hK,gt⟩;have hL:=U.step (zlf _ _) hK;have g3:=zij c s (zfS c (sts.take k)) t;have hM:=zj4 c s (zfS c (sts.take k)) t;have hbl:=zz2 (ze9 c s (t:Int));generalize zby (ze9 c s (t:Int))=B at *;generalize zj3 c s (zfS c (sts.take k)) t=Sq at *;refine zae u25 gt.is<|zai ?_
 have hz:decide ((B.length:Int)=0)=decide (B=[]\/B∈Sq.take 0):=by
   rw [decide_eq_decide];constructor
   . intro h;exact .inl (qan oo)
   rintro (h | h)
   . rw [h];rfl
   simp at h
 rw [hz];refine zap Sq.length (λj us w'=>us=[.bool (decide (B=[]\/B∈Sq.take j)),.int .i64 (j:Int)]/\j<=Sq.length/\Ext w9 w') 0 (z0 _) ⟨rfl,z0 _,xrf _⟩ ?_;rintro i mi _ _ _ ⟨gx,_,D⟩;obtain ⟨g4,g5⟩:=zcZ gx;rw [g4,g5];have C:=hL.step (zlf _ _) D;refine zae u31 C.rs.own.is<|zaf<|br (λ_=>?_) (λ_=>?_)
 case refine_1=>
   have hi:i<Sq.length:=oo;have gW:=zr7 hi;refine br (λhy=>?_) (λgX=>?_)
   . refine zau ?_
     have:decide (B=[]\/B∈Sq.take (i+1))=true:=by
       rw [qau,gW];exact hy.imp id λh=>qae.2 (.inl h)
     exact ⟨mi-1,oo,i+1,oo,by rw [this],oo,D⟩
   refine zad u31 zaS C.rs.own.is hi λ_ _ gy=>zab zaS gy (xrf _) λ_ hN=>?_;refine (zh8 hN (xrf _) gt.is D).mono ?_;rintro _ _ ⟨gz,rfl⟩;refine zau ?_
   have:decide (Sq[i]=B)=decide (B=[]\/B∈Sq.take (i+1)):=by
     rw [decide_eq_decide,gW];constructor
     . intro h;exact .inr (qae.2 (.inr (by simp [h])))
     rintro (h | h)
     . exact absurd (.inl h) gX
     rcases qae.1 h with h | h
     . exact absurd (.inr h) gX
     simp only [qaa,qad,qaq] at h;exact h.symm
   exact ⟨mi-1,oo,i+1,oo,by rw [this],oo,D.t gz⟩
 have hO:Sq.take i=Sq:=qaf oo;rw [hO];refine zav<|br (λhP=>?_) (λhm=>?_)
 case refine_2=>have hQ:=qai.1 hm;refine zau<|⟨mt-1,oo,t+1,oo,gS,gU,rfl,oo,by rw [g3];unfold zz1;rw [qah hQ];exact C⟩
 obtain ⟨GX,hR,gC⟩:=gt;have hS:=g2.size;refine zdU (x:=B) (K:=λ_=>_) u31 zaS z25 zyq qd C.rs C.ns (hR.ext D) (λb hb hF=>by have:=gC b hb;have:=U.rs.lt b hF;omega) (by rw [zaj];omega) oo (λ_ v' _ G' gD gE gF gG gH=>?_) λ_ _ _ h=>h;have gI:=C.see (zlf _ _) (GX:=GX) gD gE gF gG gH λb hb=>⟨by have:=gC b hb;have:=U.ext.size;omega,λhF=>by have:=gC b hb;have:=U.rr.lt b hF;omega⟩;refine zau<|⟨mt-1,oo,t+1,oo,v',G',rfl,oo,?_⟩;rw [g3];unfold zz1;rw [qab hP];exact gI
def zz3 (l:List Int) (t:Int):Nat->Nat
 | 0=>0
 | k+1=>if k<6/\l[k]?=some t then zz3 l t k ||| 2^k else zz3 l t k
def zDS (s:DState) (t:Int):Nat:=if t<0 then 0 else zz3 s.owner t s.owner.length
def zg8 (c:DCode) (s:DState) (t:Int):s.stacks.length<=(zaP c s t).stacks.length/\∀ u:Nat,u<s.stacks.length->(zaP c s t).stacks[u]?=s.stacks[u]?:=by
 unfold zaP;split
 . exact ⟨qaz _,λ_ _=>rfl⟩
 split
 . split
   . exact ⟨sS,λu hu=>by rw [List.getElem?_append_left hu]⟩
   exact ⟨qaz _,λ_ _=>rfl⟩
 split
 . exact ⟨qaz _,λ_ _=>rfl⟩
 split
 . split
   . exact ⟨qaz _,λ_ _=>rfl⟩
   exact ⟨qaz _,λ_ _=>rfl⟩
 exact ⟨qaz _,λ_ _=>rfl⟩
def znd {α:Type} {l:List α} {t:Int} {x:α} {u:Nat} (ht:0<=t) (hne:(u:Int)≠t):(l.set t.toNat x)[u]?=l[u]?:=by
 rw [List.getElem?_set,qab oo]
def zne {t:Int} (ht:0<=t):s.stacks.length<=(za1 c s t).stacks.length/\∀ u:Nat,(u:Int)≠t->u<s.stacks.length->(za1 c s t).stacks[u]?=s.stacks[u]?:=by
 have hr:=zg8 c s t;unfold za1;split
 . exact ⟨sS,λu r _=>znd ht r⟩
 split
 . exact ⟨sS,λu r _=>znd ht r⟩
 exact ⟨by simpa using hr.1,λu r hu=>by rw [znd ht r];exact hr.2 u hu⟩
def zFh {t:Int} {u:Nat} (ht:0<=t) (hu:u<s.stacks.length) (g0:(u:Int)≠t):zbg (za1 c s t) u=zbg s u:=by
 obtain ⟨_,h2⟩:=zne (c:=c) (s:=s) ht;have h3:=h2 u g0 hu;unfold zbg;rw [dif_pos ⟨oo,by rw [qal];omega⟩,dif_pos ⟨oo,by rw [qal];omega⟩];simp only [qal];rw [List.getElem?_eq_getElem hu,List.getElem?_eq_getElem oo] at h3;rw [qa0 h3]
def zvw (c:DCode) (f:Tr):Prop:=zdM f 0=zb2 c/\∀ k:Nat,0<k->k<f.states.length->∃ (i t:Nat),i<k/\f.ahead.getD k 0=i/\f.went.getD k 0=t/\GoR c (zdM f i) t/\zdM f k=za1 c (zdM f i) t
def Followed (c:DCode) (f:Tr) (i n:Nat):Prop:=∀ t:Nat,t<n->GoR c (zdM f i) t->za1 c (zdM f i) t∈f.states
def Grown (f g:Tr):Prop:=(∃ l,g.states=f.states++l)/\(g.whole=true->f.whole=true)
def Grown.refl (f:Tr):Grown f f:=⟨⟨[],sS⟩,id⟩
def Grown.trans {f g h:Tr} (a:Grown f g) (b:Grown g h):Grown f h:=by
 obtain ⟨⟨l,e⟩,w⟩:=a;obtain ⟨⟨m,e'⟩,w'⟩:=b;exact ⟨⟨l++m,by rw [e',e,qaw]⟩,λh=>w (w' h)⟩
def Grown.at {f g:Tr} (h:Grown f g) {i:Nat} (hi:i<f.states.length):zdM g i=zdM f i/\i<g.states.length:=by
 obtain ⟨⟨_,e⟩,_⟩:=h;unfold zdM;rw [e];refine ⟨?_,by simp;omega⟩;rw [List.getD_eq_getElem?_getD,List.getD_eq_getElem?_getD,List.getElem?_append_left hi]
def Grown.mem {f g:Tr} (h:Grown f g) {s:DState} (hs:s∈f.states):s∈g.states:=by
 obtain ⟨⟨_,e⟩,_⟩:=h;rw [e];exact qaS _ hs
def Followed.grow {f g:Tr} (h:Grown f g) {i n:Nat} (hi:i<f.states.length) (hf:Followed c f i n):Followed c g i n:=by
 intro t ht hg;rw [(h.at hi).1] at hg ⊢;exact h.mem (hf t ht hg)
section
variable {c:DCode} {M:Nat}
def ztL (i t:Nat) (f:Tr):Grown f (zdS c M i t f).1:=by
 unfold zdS;split
 . split
   . exact Grown.refl f
   split
   . exact ⟨⟨[],sS⟩,λh=>by cases h⟩
   exact ⟨⟨_,rfl⟩,id⟩
 exact Grown.refl f
def zwM {i t:Nat} {f:Tr} (h:(zdS c M i t f).2=true):(zdS c M i t f).1.whole=false:=by
 unfold zdS at h ⊢;split
 . rename_i h1;rw [qah h1] at h;split
   . rename_i h2;rw [qah h2] at h;cases h
   rename_i h2;rw [qab h2] at h;split
   . rfl
   rename_i h3;rw [qab h3] at h;cases h
 rename_i h1;rw [qab h1] at h;cases h
def zr8 {i t:Nat} {f:Tr} (hi:i<f.states.length) (h:(zdS c M i t f).2=false) (hg:GoR c (zdM f i) t):za1 c (zdM f i) t∈(zdS c M i t f).1.states:=by
 unfold zdS at h ⊢;rw [qah hg] at h ⊢;split
 . assumption
 rename_i h2;rw [qab h2] at h;split
 . rename_i h3;rw [qah h3] at h;cases h
 simp
def zr9 {l:List Int} {x:Int} {k:Nat} (hk:k<l.length):(l++[x]).getD k 0=l.getD k 0:=by
 rw [List.getD_eq_getElem?_getD,List.getD_eq_getElem?_getD,List.getElem?_append_left hk]
def zsa {l:List Int} {x:Int} {k:Nat} (hk:k=l.length):(l++[x]).getD k 0=x:=by
 subst hk;rw [List.getD_eq_getElem?_getD];simp
def zsb {i t:Nat} {f:Tr} (ha:f.ahead.length=f.states.length) (hw:f.went.length=f.states.length) (hi:i<f.states.length) (h:zvw c f):zvw c (zdS c M i t f).1/\(zdS c M i t f).1.ahead.length=(zdS c M i t f).1.states.length/\(zdS c M i t f).1.went.length=(zdS c M i t f).1.states.length:=by
 unfold zdS;split
 . rename_i hg;split
   . exact ⟨h,ha,hw⟩
   split
   . exact ⟨h,ha,hw⟩
   refine ⟨⟨by rw [zfa oo];exact h.1,λk h0 hk=>?_⟩,by simp [ha],by simp [hw]⟩;simp only [qag,qak,qaC] at hk;by_cases e:k=f.states.length
   . refine ⟨i,t,oo,zsa oo,zsa oo,by rw [zfa hi];exact hg,?_⟩;rw [zfa hi];subst e;unfold zdM;simp only;rw [List.getD_eq_getElem?_getD];simp
   obtain ⟨i',t',h1,h2,h3,h4,h5⟩:=h.2 k h0 oo;refine ⟨i',t',h1,?_,?_,?_,?_⟩
   . rw [zr9 oo];exact h2
   . rw [zr9 oo];exact h3
   . rw [zfa oo];exact h4
   rw [zfa oo,zfa oo];exact h5
 exact ⟨h,ha,hw⟩
structure Sch (c:DCode) (M:Nat) (f:Tr):Prop where
 la:f.ahead.length=f.states.length
 lw:f.went.length=f.states.length
 ln:zvw c f
 many:f.states.length<=M
def zwN {i t:Nat} {f:Tr} (h:f.states.length<=M):(zdS c M i t f).1.states.length<=M:=by
 unfold zdS;split
 . split
   . exact h
   split
   . exact h
   simp only [qag,qak,qaC];omega
 exact h
def zz4 {i t:Nat} {f:Tr} (hi:i<f.states.length) (h:Sch c M f):Sch c M (zdS c M i t f).1:=by
 obtain ⟨a,b,d⟩:=zsb (M:=M) (t:=t) h.la h.lw hi h.ln;exact ⟨b,d,a,zwN h.many⟩
theorem zsc {i:Nat}:∀ (n t:Nat) {f:Tr},i<f.states.length->Sch c M f->Followed c f i t ->
   Sch c M (zeU c M i n t f).1/\Grown f (zeU c M i n t f).1/\((zeU c M i n t f).2=true->(zeU c M i n t f).1.whole=false)/\((zeU c M i n t f).2=false->Followed c (zeU c M i n t f).1 i (t+n))
 | 0,t,f,hi,h,hf=>by rw [zeU];exact ⟨h,Grown.refl f,(λh=>by cases h),λ_=>hf⟩
 | n+1,t,f,hi,h,hf=>by
   have hg:=ztL (c:=c) (M:=M) i t f;have hs:=zz4 (M:=M) (t:=t) hi h;rw [zeU];split
   . rename_i hv;exact ⟨hs,hg,λ_=>zwM hv,λh=>by rw [h] at hv;cases hv⟩
   rename_i hv;have hv:(zdS c M i t f).2=false:=by simpa using hv
   have hi':=(hg.at hi).2
   have hF:Followed c (zdS c M i t f).1 i (t+1):=by
     intro u _ g0;by_cases e:u=t
     . subst e;rw [(hg.at hi).1] at g0 ⊢;exact zr8 hi hv g0
     exact (hf.grow hg hi) u oo g0
   obtain ⟨a,b,d,e⟩:=zsc n (t+1) hi' hs hF;exact ⟨a,hg.trans b,d,λh=>by have:=e h;rwa [show t+1+n=t+(n+1) by omega] at this⟩
def zqj (c:DCode) (f:Tr) (n:Nat):Prop:=∀ i,i<n->i<f.states.length->Followed c f i (zdM f i).stacks.length
theorem zoO:∀ (n i:Nat) {f:Tr},i+n=M->Sch c M f->zqj c f i ->
   Sch c M (zez c M n i f)/\Grown f (zez c M n i f)/\((zez c M n i f).whole=true->zqj c (zez c M n i f) (zez c M n i f).states.length)
 | 0,i,f,hn,h,hf=>by
   rw [zez];have:=h.many;exact ⟨h,Grown.refl f,λ_ j hj hj'=>hf j oo hj'⟩
 | n+1,i,f,hn,h,hf=>by
   rw [zez];split
   . rename_i hi;obtain ⟨a,b,d,e⟩:=zsc (M:=M) (zdM f i).stacks.length 0 hi h (λt ht=>absurd ht (Nat.not_lt_zero t));split
     . rename_i hs;exact ⟨a,b,λhw=>by rw [d hs] at hw;cases hw⟩
     rename_i hs;have hs:(zeU c M i (zdM f i).stacks.length 0 f).2=false:=by simpa using hs
     have hF:=e hs;generalize (zeU c M i (zdM f i).stacks.length 0 f).1=g at *;rw [qa7] at hF
     have hC:zqj c g (i+1):=by
       intro j hj hj';by_cases ej:j=i
       . subst ej;rw [(b.at hi).1];exact hF
       have g0:j<f.states.length:=oo;rw [(b.at g0).1];exact (hf j oo g0).grow b g0
     obtain ⟨a2,b2,e2⟩:=zoO n (i+1) oo a hC;exact ⟨a2,b.trans b2,e2⟩
   rename_i hi;exact ⟨h,Grown.refl f,λ_ j hj hj'=>hf j oo hj'⟩
def zz5 (hM:1<=M):Sch c M (zgj c M)/\((zgj c M).whole=true->zqj c (zgj c M) (zgj c M).states.length):=by
 have h0:Sch c M ⟨[zb2 c],[-1],[-1],true⟩:=⟨rfl,rfl,⟨rfl,λ_ h0 hk=>by simp at hk;omega⟩,hM⟩;obtain ⟨a,_,d⟩:=zoO (c:=c) (M:=M) M 0 oo h0 (λi hi _=>absurd hi (Nat.not_lt_zero i));exact ⟨a,d⟩
end
open Go.Sort
variable {b fr hi i lo m o to:Nat} {c:DCode} {v:vL} {w:wD}
structure DOrder where
 fr:Int
 to:Int
 at_:Int
def DOrder.ext_iff {x y:DOrder}:x=y↔(x.fr=y.fr/\x.to=y.to/\x.at_=y.at_):=⟨λh=>by rw [h];exact ⟨rfl,rfl,rfl⟩,λh=>by obtain ⟨h0,h1,h2⟩:=h;cases x;cases y;simp only at h0 h1 h2;simp only [h0,h1,h2]⟩
instance:DecidableEq DOrder:=λx y=>decidable_of_iff (x.fr=y.fr/\x.to=y.to/\x.at_=y.at_) DOrder.ext_iff.symm
instance:Rep DOrder:=Rep.via λx=>(x.fr,x.to,x.at_)
def znf {x:DOrder} (h:At w b o x):At w b (o+0) x.fr:=zcn (α:=Int) (β:=Int×Int) (p:=(x.fr,x.to,x.at_)) h
def zng {x:DOrder} (h:At w b o x):At w b (o+1) x.to:=zcn (α:=Int) (β:=Int) (p:=(x.to,x.at_)) (za7 (α:=Int) (β:=Int×Int) (p:=(x.fr,x.to,x.at_)) h)
instance:RepZ DOrder:=⟨⟨(RepZ.zv:Int),(RepZ.zv:Int),(RepZ.zv:Int)⟩,RepZ.zc (Int×Int×Int),λw=>RepZ.zr (α:=Int×Int×Int) w⟩
instance:Flat DOrder:=⟨λh=>Flat.flat (α:=Int×Int×Int) h⟩
def zz6 (x:DOrder):List Int:=[x.fr,x.to,x.at_]
def zBW (x y:DOrder):Int:=zy1 (zz6 x) (zz6 y)
def zz7 {x y:DOrder}:CALL tp 135 [.agg (i3 x.fr x.to x.at_),.agg (i3 y.fr y.to y.at_)] w λr w'=>r=.int .i64 (zBW x y)/\ziV w w':=by
 refine co (g:=kf [] [] []) Tryz.func135 ?_;refine zmA ?_;have g0:Blk w.heap.size 168 (w.alloc (.cells (i3 x.fr x.to x.at_) 168)) (vI (zz6 x)):=heap_alloc_new w _;refine zmA ?_;generalize hw1:w.alloc (.cells (i3 x.fr x.to x.at_) 168)=w1 at *;have g1:Blk w1.heap.size 168 (w1.alloc (.cells (i3 y.fr y.to y.at_) 168)) (vI (zz6 y)):=heap_alloc_new w1 _;have g2:=zaX w1 (.cells (i3 y.fr y.to y.at_) 168);generalize hw2:w1.alloc (.cells (i3 y.fr y.to y.at_) 168)=w2 at *;have C:=g0.ext g2;refine zaa zpp<|zan ty3 C rfl<|zaa zpq<|zan ty3 C rfl<|zaa zyv<|zan ty3 C rfl<|zh4 u25 ty3 zG4 ?_;have g3:=zaX w2 (.cells (vI [x.fr,x.to,x.at_]).toArray 3);have g4:Blk w2.heap.size 3 (w2.alloc (.cells (vI [x.fr,x.to,x.at_]).toArray 3)) (vI (zz6 x)):=heap_alloc_new w2 _;generalize hw3:w2.alloc (.cells (vI [x.fr,x.to,x.at_]).toArray 3)=w3 at *;have D:=g1.ext g3;refine zaa zpp<|zan ty3 D rfl<|zaa zpq<|zan ty3 D rfl<|zaa zyv<|zan ty3 D rfl<|zh4 u25 ty3 zG4 ?_;have g5:=zaX w3 (.cells (vI [y.fr,y.to,y.at_]).toArray 3);have g9:Blk w3.heap.size 3 (w3.alloc (.cells (vI [y.fr,y.to,y.at_]).toArray 3)) (vI (zz6 y)):=heap_alloc_new w3 _;have hg:ziV w (w3.alloc (.cells (vI [y.fr,y.to,y.at_]).toArray 3)):=by rw [<-hw3,<-hw2,<-hw1];exact zk8 _ _ _ _
 refine (zmz (l:=zz6 x) (m:=zz6 y) (g4.ext g5) g9 (by simp [zz6]) (by simp [zz6])).mono ?_;rintro _ _ ⟨rfl,rfl⟩;exact ⟨rfl,hg⟩
def ltO (x y:DOrder):Prop:=x.fr<y.fr\/(x.fr=y.fr/\(x.to<y.to\/(x.to=y.to/\x.at_<y.at_)))
def zFi {x y:DOrder}:zBW x y<0↔ltO x y:=by
 unfold zBW zz6 ltO;simp only [zy1];rcases qbV x.fr y.fr with h | h | h
 . rw [zky h];simp;omega
 . rw [zkA h];rcases qbV x.to y.to with h2 | h2 | h2
   . rw [zky h2];simp;omega
   . rw [zkA h2];rcases qbV x.at_ y.at_ with h3 | h3 | h3
     . rw [zky h3];simp;omega
     . rw [zkA h3];simp;omega
     rw [zkz h3];simp;omega
   rw [zkz h2];simp;omega
 rw [zkz h];simp;omega
instance (x y:DOrder):Decidable (ltO x y):=by unfold ltO;infer_instance
def zil (x:DOrder):¬ltO x x:=by unfold ltO;omega
def zsd {x y z:DOrder} (h:ltO x y) (k:ltO y z):ltO x z:=by unfold ltO at *;omega
def zse {x y:DOrder} (h:¬ltO x y) (k:¬ltO y x):x=y:=by
 unfold ltO at *;exact DOrder.ext_iff.2 ⟨oo,oo,oo⟩
theorem znh:∀ {l m:List DOrder},l.Pairwise ltO->m.Pairwise ltO->(∀ x,x∈l↔x∈m)->l=m
 | [],[],_,_,_=>rfl
 | [],y :: m,_,_,h=>by have:=(h y).2 sS;cases this
 | x :: l,[],_,_,h=>by have:=(h x).1 sS;cases this
 | x :: l,y :: m,h1,h2,h=>by
   rw [qaZ] at h1 h2
   have hxy:x=y:=by
     rcases qaa.1 ((h x).1 sS) with e | hm
     . exact e
     rcases qaa.1 ((h y).2 sS) with e | hl
     . exact e.symm
     exact absurd (zsd (h1.1 y hl) (h2.1 x hm)) (zil x)
   subst hxy;congr 1;refine znh h1.2 h2.2 λz=>⟨λhz=>?_,λhz=>?_⟩
   . rcases qaa.1 ((h z).1 (by simp [hz])) with rfl | h'
     . exact absurd (h1.1 z hz) (zil z)
     exact h'
   rcases qaa.1 ((h z).2 (by simp [hz])) with rfl | h'
   . exact absurd (h2.1 z hz) (zil z)
   exact h'
instance:Inhabited DOrder:=⟨⟨0,0,0⟩⟩
def zFR (x:DOrder):List vL:=[.int .i64 x.fr,.int .i64 x.to,.int .i64 x.at_]
def zBX:∀ {F:List Nat} {w:wD} {cs:List vL} {x:DOrder},Rep.rep F w cs x->cs=zFR x:=by
 intro F w cs x h;obtain ⟨_,_,_,_,rfl,rfl,⟨rfl,rfl,_⟩,⟨_,_,_,_,rfl,rfl,⟨rfl,rfl,_⟩,⟨rfl,rfl,_⟩⟩⟩:=h;rfl
def zfT {x y:DOrder}:ltOf zBW x y=decide (ltO x y):=by
 unfold ltOf;rw [decide_eq_decide];exact zFi
def zFj:SWO (ltOf zBW):=by
 refine ⟨λx=>?_,λx y z h k=>?_,λx y z h k=>?_⟩
 . rw [zfT,decide_eq_false_iff_not];exact zil x
 . rw [zfT,qau] at *;exact zsd h k
 rw [zfT,decide_eq_false_iff_not] at *;intro _;unfold ltO at *;omega
def zFk (l:List DOrder):List DOrder:=l.mergeSort λx y=>!(ltOf zBW) y x
def zni (l:List DOrder):(zFk l).Perm l:=qcI l _
def zBY (l:List DOrder):(zFk l).length=l.length:=(zni l).length_eq
def zFl (l:List DOrder):(zFk l).Pairwise λx y=>¬ltO y x:=by
 have:=qcv (le:=λx y=>!(ltOf zBW) y x) (λa b _ _ _=>by
   simp only [zfT,qaY,decide_eq_false_iff_not] at *;unfold ltO at *;omega) (λa b=>by
   simp only [zfT,qaR,qaY,decide_eq_false_iff_not];unfold ltO;omega) l
 exact this.imp λh=>by simpa [zfT] using h
def zBZ {l:List DOrder} (h:OwnI lo hi w v l) (hn:l.length<=1073741824) :
   CALL tp 134 [v,.func (.func 135) #[] #[]] w λ_ w'=>ChgI lo hi w w'/\OwnI lo hi w' v (zFk l):=by
 obtain ⟨F,hM,hF⟩:=h;by_cases hne:l=[]
 . subst hne
   obtain ⟨a,cap,hv⟩:∃ a cap,v=.slice a 0 cap:=by
     obtain ⟨_,⟨a,cap,_,xs,h,_⟩,hv⟩:=hM.own;exact ⟨a,cap,by rw [hv,h];rfl⟩
   subst hv;refine ⟨(AnyF.slices_SortFunc_none Tryz.sortOrder a cap _ w).mono ?_⟩;rintro e w' ⟨he,rfl⟩;refine ⟨_,he,ChgI.refl _,F,?_,hF⟩;have:zFk []=[]:=qan (by rw [zBY];rfl);rw [this];exact hM
 obtain ⟨b,o,cap,xs,rfl,rfl,h1,h2,g4,g5,g9⟩:=zd2 hM hne;have g0:=@zBX;have hk:∀ x,(zFR x).length=Rep.size DOrder:=λ_=>rfl;obtain ⟨c,e,g1⟩:=g9;have hb:b<w.heap.size:=(Array.getElem?_eq_some_iff.1 g1).1
 have g2:CmpLays tp 135 #[] zFR 3 zBW b o l.toArray.size w:=λm os dk _ x y=>by
   have:=zz7 (w:=sortWorldK zFR 3 w b o m dk os) (x:=x) (y:=y);obtain ⟨h⟩:=this;refine h.mono ?_;rintro e w' ⟨v,he,hv,q,gb,g3⟩;exact ⟨by rw [he,hv],q,gb,g3⟩
 refine ⟨(AnyQ.slices_SortFunc_total Tryz.sortOrder 3 Tryz.isAgg168 Tryz.sizeOf168 zFR (λ_=>rfl) (λx v hv=>by
     simp only [zFR,qaa,qad,qaq] at hv;rcases hv with rfl | rfl | rfl<;>rfl) zBW zFj 135 #[] b o cap l.toArray w (zds (ent 135 qd kK)) g2 (zmw g0 hk ⟨c,e,g1⟩ g4 g5) hb so (λx y h k=>by
     rw [zfT,decide_eq_false_iff_not] at *;exact zse h k)).mono ?_⟩
 rintro _ w' ⟨he,_,os,g3⟩;have hs:=zmx g0 hk (cap:=cap) g3 ⟨c,e,g1⟩ g4 g5 h1 h2 sS (λx hx=>by simpa [List.mem_mergeSort] using hx);refine ⟨_,he,?_,[b],?_,hF⟩
 . exact hs.1.toI (λi hi=>hF i hi)
 exact hs.2
def OrdP (c:DCode) (fr to i:Nat):Prop:=MetP c i/\(zal c i).op=6/\agN c i=to/\MayP c i fr
def mkO (fr to i:Nat):DOrder:=⟨fr,to,i⟩
theorem MayP.locks (hc:CodeR c) {i l:Nat} (h:MayP c i l):l<c.locks.length:=by
 induction h with
 | lock hm ho ha hj=>subst ha;exact (zdz hc (hm.lt hc) (.inl ho)).2.1
 | pass _ _ _ _ _ ih=>exact ih
 | call _ _ _ ih=>exact ih
 | back _ _ _ _ _ ih=>exact ih
open Classical in
noncomputable def zhh (c:DCode) (fr to i:Nat):List DOrder:=if OrdP c fr to i then [mkO fr to i] else []
noncomputable def znj (c:DCode) (fr to:Nat):List DOrder:=(List.range c.ins.length).flatMap (zhh c fr to)
noncomputable def zj5 (c:DCode) (fr:Nat):List DOrder:=(List.range c.locks.length).flatMap (znj c fr)
noncomputable def zfu (c:DCode):List DOrder:=(List.range c.locks.length).flatMap (zj5 c)
def zhN {x:DOrder}:x∈zhh c fr to i↔OrdP c fr to i/\x=mkO fr to i:=by
 unfold zhh;split
 . rename_i h;simp [h]
 rename_i h;simp [h]
def zlH (hc:CodeR c) {x:DOrder}:x∈zfu c↔∃ fr to i,OrdP c fr to i/\x=mkO fr to i:=by
 unfold zfu zj5 znj;simp only [qaJ,qaG,zhN];constructor
 . rintro ⟨fr,_,to,_,i,_,h⟩;exact ⟨fr,to,i,h⟩
 rintro ⟨fr,to,i,h,e⟩;have hi:=h.1.lt hc;exact ⟨fr,h.2.2.2.locks hc,to,h.2.2.1▸(zdz hc hi (.inl h.2.1)).2.1,i,hi,h,e⟩
theorem zkR {α β:Type} {f:α->List β} {B:Nat}:∀ {l:List α},(∀ a∈l,(f a).length<=B)->(l.flatMap f).length<=l.length*B
 | [],_=>by simp
 | a :: l,h=>by
   have h1:=h a sS;have h2:=zkR (l:=l) λb hb=>h b (by simp [hb]);simp only [qbD,qag,qak,qbp];omega
def zz8 (c:DCode) (fr to i:Nat):(zhh c fr to i).length<=1:=by unfold zhh;split<;>simp
def zsf (c:DCode) (fr to k:Nat):((List.range k).flatMap (zhh c fr to)).length<=k:=by
 have:=zkR (l:=List.range k) λa _=>zz8 c fr to a;simpa using this
def zsg (hn:c.ins.length<=1500) (fr k:Nat):((List.range k).flatMap (znj c fr)).length<=k*1500:=by
 have:=zkR (l:=List.range k) (f:=znj c fr) (B:=1500) λa _=>qat (zsf c fr a _) hn;rw [qbe] at this;exact this
def zsh (hn:c.ins.length<=1500) (hl:c.locks.length<=6) (k:Nat):((List.range k).flatMap (zj5 c)).length<=k*9000:=by
 have:=zkR (l:=List.range k) (f:=zj5 c) (B:=9000) λa _=>by
   have:=zsg hn a c.locks.length;unfold zj5;omega
 rw [qbe] at this;exact this
def zvx (hc:CodeR c):(zfu c).length<=54000:=by
 have h6:=hc.1.locks6;exact qat (zsh hc.f.ins h6 _) oo
def ztM (c:DCode):(zfu c).Pairwise ltO:=by
 unfold zfu zj5 znj;have hr:∀ n,(List.range n).Pairwise (λa b=>a<b):=λn=>qcw;refine qbR.2 ⟨λ_ _=>qbR.2 ⟨λ_ _=>qbR.2 ⟨λ_ _=>?_,(hr _).imp ?_⟩,(hr _).imp ?_⟩,(hr _).imp ?_⟩
 . unfold zhh;split<;>simp
 . intro a b r x hx y hy;obtain ⟨_,rfl⟩:=zhN.1 hx;obtain ⟨_,rfl⟩:=zhN.1 hy;exact .inr ⟨rfl,.inr ⟨rfl,qdb.2 r⟩⟩
 . intro a b r x hx y hy;simp only [qaJ,zhN] at hx hy;obtain ⟨_,_,_,rfl⟩:=hx;obtain ⟨_,_,_,rfl⟩:=hy;exact .inr ⟨rfl,.inl (qdb.2 r)⟩
 intro a b r x hx y hy;simp only [qaJ,zhN] at hx hy;obtain ⟨_,_,_,_,_,rfl⟩:=hx;obtain ⟨_,_,_,_,_,rfl⟩:=hy;exact .inl (qdb.2 r)
def zDT (c:DCode) (i:Nat) (l:Int):DOrder:=⟨l,agN c i,i⟩
open Classical in
noncomputable def zxt (c:DCode) (i:Nat):List DOrder:=if MetP c i/\(zal c i).op=6 then (zby (zaE (zqD c) i)).map (zDT c i) else []
noncomputable def zsN (c:DCode) (k:Nat):List DOrder:=(List.range k).flatMap (zxt c)
def znk (hm:m<64) {x:Int}:x∈zby m↔∃ i:Nat,x=(i:Int)/\m.testBit i=true:=by
 unfold zby;rw [zd3];constructor
 . rintro ⟨i,_,h⟩;exact ⟨i,h⟩
 rintro ⟨i,h,hb⟩;exact ⟨i,by have:=zg4 hm hb;omega,h,hb⟩
theorem znl (m:Nat):∀ k,(zdy m k).Pairwise (λa b=>a<b)
 | 0=>by simp [zdy]
 | k+1=>by
   rw [zdy];split
   . refine qcf.2 ⟨znl m k,sS,λa ha b hb=>?_⟩;obtain ⟨i,hi,rfl,_⟩:=zd3.1 ha;simp only [qaK] at hb;omega
   exact znl m k
def zvy {x:DOrder} (hi:i<c.ins.length):x∈zxt c i↔∃ fr to,OrdP c fr to i/\fr<6/\x=mkO fr to i:=by
 unfold zxt;split
 . rename_i h;rw [ztB hi];simp only [qa3,znk zp2,zhd];constructor
   . rintro ⟨_,⟨l,rfl,h6,hm⟩,rfl⟩;exact ⟨l,agN c i,⟨h.1,h.2,rfl,hm⟩,h6,rfl⟩
   rintro ⟨fr,to,hp,h6,rfl⟩;refine ⟨fr,⟨fr,rfl,h6,hp.2.2.2⟩,?_⟩;unfold zDT mkO;rw [hp.2.2.1]
 rename_i h;constructor
 . intro h;cases h
 rintro ⟨fr,to,hp,_⟩;exact absurd ⟨hp.1,hp.2.1⟩ h
def zB0:(zxt c i).length<=64:=by
 unfold zxt;split
 . rw [qaD];exact zeQ _ 64
 simp
def zB1 (c:DCode) (k:Nat):(zsN c k).length<=k*64:=by
 have:=zkR (l:=List.range k) λa _=>zB0 (c:=c) (i:=a);rw [qbe] at this;exact this
def zwO (x y:DOrder):ltO x y\/x=y\/ltO y x:=by
 by_cases h1:ltO x y
 . exact .inl h1
 by_cases h2:ltO y x
 . exact .inr (.inr h2)
 exact .inr (.inl (zse h1 h2))
def zz9 (hc:CodeR c):zFk (zsN c c.ins.length)=zfu c:=by
 have g0:∀ x,x∈zsN c c.ins.length↔x∈zfu c:=λx=>by
   rw [zlH hc];unfold zsN;simp only [qaJ,qaG];constructor
   . rintro ⟨i,hi,hx⟩;obtain ⟨fr,to,h,_,e⟩:=(zvy hi).1 hx;exact ⟨fr,to,i,h,e⟩
   rintro ⟨fr,to,i,h,e⟩;have hi:=h.1.lt hc;have:=h.2.2.2.locks hc;have h6:=hc.1.locks6;exact ⟨i,hi,(zvy hi).2 ⟨fr,to,h,oo,e⟩⟩
 have g1:(zsN c c.ins.length).Pairwise (λx y=>x≠y):=by
   unfold zsN;refine qbR.2 ⟨λi _=>?_,List.pairwise_lt_range.imp ?_⟩
   . unfold zxt;split
     . refine qbH.2 ((znl _ _).imp λ{a b} h e=>?_);have:=qax DOrder.fr e;unfold zDT at this;simp only at this;omega
     simp
   intro a b _ x hx y hy e
   have h1:∀ {i:Nat} {x:DOrder},x∈zxt c i->x.at_=i:=λ{i x} hx=>by
     unfold zxt at hx;split at hx
     . obtain ⟨_,_,rfl⟩:=qa3.1 hx;rfl
     cases hx
   have:=h1 hx;have h2:=h1 hy;rw [e,h2] at this;omega
 refine znh ?_ (ztM c) λx=>(zni _).mem_iff.trans (g0 x);have h1:=zFl (zsN c c.ins.length);have h2:(zFk (zsN c c.ins.length)).Pairwise (λx y=>x≠y):=(zni _).symm.pairwise g1 (λh e=>h e.symm);refine (qdc.2 ⟨h1,h2⟩).imp λ{x y} h=>?_;rcases zwO x y with h3 | h3 | h3
 . exact h3
 . exact absurd h3 h.2
 exact absurd h3 h.1
variable {N hi lo n:Nat} {W0 w:wD} {c:DCode} {v v0:vL}
def hd0 (l:List Int):Int:=l.headD 0
theorem zi6 {w:wD}:∀ {l:List (List Int)} {F:List Nat} {xs:List vL},Cells F w xs l->∃ Z:List (List Nat×vL×List Int),F=Z.flatMap (·.1)/\xs=Z.map (·.2.1)/\l=Z.map (·.2.2)/\∀ z∈Z,rep z.1 w [z.2.1] z.2.2
 | [],_,_,⟨h1,h2⟩=>⟨[],h1,h2,rfl,sS⟩
 | y :: ys,_,_,⟨F1,F2,c1,c2,hF,hx,h1,h2⟩=>by
   obtain ⟨Z,e1,e2,e3,e4⟩:=zi6 h2;obtain ⟨v,rfl⟩:∃ v,c1=[v]:=qbr.1 (Rep.len h1);refine ⟨(F1,v,y) :: Z,by simp [hF,e1],by simp [hx,e2],by simp [e3],λz hz=>?_⟩;rcases qaa.1 hz with rfl | hz
   . exact h1
   exact e4 z hz
theorem znm {w:wD}:∀ {Z:List (List Nat×vL×List Int)},(∀ z∈Z,rep z.1 w [z.2.1] z.2.2)->Cells (Z.flatMap (·.1)) w (Z.map (·.2.1)) (Z.map (·.2.2))
 | [],_=>⟨rfl,rfl⟩
 | z :: Z,h=>⟨z.1,Z.flatMap (·.1),[z.2.1],Z.map (·.2.1),sS,sS,h z sS,znm λy hy=>h y (by simp [hy])⟩
theorem ztN {l:List Int} (h:l≠[]):hd0 l=l[0]'(qaO.2 h):=by
 cases l with
 | nil=>exact absurd rfl h
 | cons x l=>rfl
def zsi {x y:vL} {a b:List Int} (hx:Is w x a) (hy:Is w y b) (ha:a≠[]) (hb:b≠[]) (h1:0<=hd0 a/\hd0 a<1000) (h2:0<=hd0 b/\hd0 b<1000) :
   CALL tp 78 [x,y] w λr w'=>r=.int .i64 (hd0 a-hd0 b)/\ziV w w':=by
 refine co (g:=kf [] [] [(1,[0,1,2,3,4,5,6,7],0)]) Tryz.func78 ?_;have hg:ziV w (World.drew1 w):=⟨1,#[],by simp only [Go.Sort.grow,World.drewN,World.drew1,Array.append_empty]⟩;have g0:=zag w;generalize World.drew1 w=w1 at *;have e1:=ztN ha;have e2:=ztN hb;refine zad (i:=0) u25 ty3 hx (qaO.2 ha) λ_ _ g1=>zac ty3 g1 g0 λ_=>zad (i:=0) u25 ty3 hy (qaO.2 hb) λ_ _ g2=>zac ty3 g2 g0 λ_=>?_;rw [<-e1,<-e2];refine zbe io<|⟨rfl,hg⟩
set_option maxHeartbeats 4000000 in
theorem zB2 {cs:List (List Int)} (h:OwnI lo hi w v cs) (hn:cs.length<=1000) (U:∀ c∈cs,c≠[]) (hb:∀ c∈cs,0<=hd0 c/\hd0 c<1000) (hd:cs.Pairwise λa b=>hd0 a≠hd0 b) :
    CALL tp 77 [v,.func (.func 78) #[] #[]] w λ_ w'=>ChgI lo hi w w'/\∃ cs':List (List Int),OwnI lo hi w' v cs'/\cs'.Perm cs/\cs'.Pairwise λa b=>hd0 a<hd0 b:=by
  obtain ⟨F,hM,hF⟩:=h;by_cases hne0:cs=[]
  . subst hne0
    obtain ⟨a,cap,hv⟩:∃ a cap,v=.slice a 0 cap:=by
      obtain ⟨cs,⟨a,cap,_,xs,h,_⟩,hv⟩:=hM.own;exact ⟨a,cap,by rw [hv,h];rfl⟩
    subst hv;refine ⟨(AnyF.slices_SortFunc_none { Tryz.sortInts with } a cap _ w).mono ?_⟩;rintro e w' ⟨he,rfl⟩;exact ⟨_,he,ChgI.refl _,[],⟨F,hM,hF⟩,.refl _,.nil⟩
  obtain ⟨⟨_,⟨a,cap,_,xs,rfl,h1,h2,hc,h4⟩,rfl⟩,g1,hw⟩:=hM;rcases h4 with ⟨h4,_⟩ | ⟨b,o,rfl,rfl,hr,_⟩
  . exact absurd h4 hne0
  obtain ⟨Z,rfl,rfl,rfl,hZ⟩:=zi6 hc;obtain ⟨c,e,g4⟩:=hw b sS;have gp:∀ z∈Z,b∉z.1:=λz hz hm=>(qaP.1 g1).1 (qaJ.2 ⟨z,hz,hm⟩);have hnZ:Z.length<=1000:=by simpa using hn
  have gt:0<Z.length:=by
    rcases qbG Z.length with h | h
    . exact absurd (by rw [qan h];rfl) hne0
    exact h
  haveI:Inhabited (Fin Z.length):=⟨⟨0,gt⟩⟩
  obtain ⟨enc,r⟩:∃ enc:Fin Z.length->vL,enc=λi=>Z[i].2.1:=⟨_,rfl⟩;obtain ⟨cf,gq⟩:∃ cf:Fin Z.length->Fin Z.length->Int,cf=λi j=>hd0 Z[i].2.2-hd0 Z[j].2.2:=⟨_,rfl⟩;obtain ⟨d,g5⟩:∃ d:Array (Fin Z.length),d=(List.finRange Z.length).toArray:=⟨_,rfl⟩;have X:d.size=Z.length:=by rw [g5];simp
  have g9:(List.finRange Z.length).map (λi=>Z[i])=Z:=qaU sS λi h1 h2=>by simp
  have gx:∀ j (hj:j<Z.length),d[j]! = ⟨j,hj⟩:=λj hj=>by
    rw [getElem!_pos d j (by rw [X];exact hj)];simp [g5]
  have gb:OneCell enc:=λi=>by
    have h:=Rep.one (hZ _ (qac i.2)) Z[i.1].2.1 sS;rw [r];exact h
  have gr:Holds enc w b o d:=λj hj=>by
    rw [X] at hj;rw [gx j hj];refine ⟨hr j _ ?_,?_⟩
    . rw [r,List.getElem?_map,List.getElem?_eq_getElem hj];rfl
    simp [World.frozen?,g4]
  have C:∀ i:Fin Z.length,Z[i].2.2∈Z.map (·.2.2):=λi=>qa3.2 ⟨_,qac _,rfl⟩
  have gc:∀ i j:Fin Z.length,hd0 Z[i].2.2=hd0 Z[j].2.2->i=j:=λi j gs=>by
    rw [qbH,qch] at hd;rcases qcy i.1 j.1 with h | h | h
    . exact absurd gs (hd i.1 j.1 i.2 j.2 h)
    . exact Fin.ext h
    exact absurd gs.symm (hd j.1 i.1 j.2 i.2 h)
  have I:∀ i j,ltOf cf i j=decide (hd0 Z[i].2.2<hd0 Z[j].2.2):=λi j=>by
    unfold ltOf;rw [gq,decide_eq_decide];show hd0 Z[i].2.2-hd0 Z[j].2.2<0↔_;omega
  have gd:SWO (ltOf cf):=by
    refine ⟨λx=>?_,λx y z h k=>?_,λx y z h k=>?_⟩
    . rw [I,decide_eq_false_iff_not];omega
    . rw [I,qau] at *;omega
    rw [I,decide_eq_false_iff_not] at *;omega
  have gf:b<w.heap.size:=(Array.getElem?_eq_some_iff.1 g4).1
  have O:∀ (m:Nat) (dk:Array (Fin Z.length)) (os:Array Obj) i,i<w.heap.size->i≠b->(sortWorld enc w b o m dk os).heap[i]?=w.heap[i]?:=λm dk os i hi U=>by
    unfold sortWorld;rw [heap_grow_old _ _ (by simpa [putRow,mapBlock,Sort.ahead] using hi)];simp [putRow,mapBlock,Sort.ahead,Array.getElem?_modify,U.symm]
  have g0:∀ (m:Nat) (dk:Array (Fin Z.length)) (os:Array Obj),∀ z∈Z,rep z.1 (sortWorld enc w b o m dk os) [z.2.1] z.2.2:=λm dk os z hz=>
    Rep.keep (hZ z hz) λi hi=>O m dk os i (Rep.lt (hZ z hz) i hi) λe=>gp z hz (e▸hi)
  have gg:CmpLays1 tp 78 #[] enc cf b o d.size w:=λm os dk _ i j=>by
    have hI:∀ k:Fin Z.length,Is (sortWorld enc w b o m dk os) (enc k) Z[k].2.2:=λk=>⟨_,_,g0 m dk os _ (qac k.2),by rw [r];rfl⟩;obtain ⟨h⟩:=zsi (hI i) (hI j) (U _ (C i)) (U _ (C j)) (hb _ (C i)) (hb _ (C j));refine h.mono ?_;rintro e w' ⟨v,he,hv,q,gy,g2⟩;exact ⟨by rw [he,hv,gq],q,gy,g2⟩
  have gh:(Z.map (·.2.2)).length=d.size:=by rw [X,qaD]
  show CALL tp 77 [.slice (some ⟨b,o,none⟩) (Z.map (·.2.2)).length cap,_] w _;rw [gh]
  refine ⟨(Any.slices_SortFunc_total Tryz.sortInts enc gb cf gd 78 #[] b o cap d w (zds (ent 78 qd kK)) gg gr gf oo (λx y h k=>by
      rw [I,decide_eq_false_iff_not] at *;exact gc x y oo)).mono ?_⟩
  rintro _ w' ⟨he,n,os,g2⟩;generalize hd':(d.toList.mergeSort λx y=>!(ltOf cf) y x)=d' at g2
  have D:d'.Perm (List.finRange Z.length):=by
    rw [<-hd',g5];exact qcI _ _
  have gi:d'.Pairwise λi j=>¬hd0 Z[j].2.2<hd0 Z[i].2.2:=by
    rw [<-hd']
    have:=qcv (le:=λx y=>!(ltOf cf) y x) (λa b c h1 h2=>by
      simp only [I,qaY,decide_eq_false_iff_not] at *;omega) (λa b=>by
      simp only [I,qaR,qaY,decide_eq_false_iff_not];omega) d.toList
    exact this.imp λh=>by simpa [I] using h
  have V:(d'.map λi=>Z[i]).Perm Z:=by
    have:=D.map λi=>Z[i];rwa [g9] at this
  have gz:d'.length=Z.length:=by rw [D.length_eq];simp
  subst g2
  have gj:w.heap.size<=(sortWorld enc w b o n d'.toArray os).heap.size:=by
    unfold sortWorld Go.Sort.grow;rw [Array.size_append];simp [putRow,mapBlock,Sort.ahead]
  have gC:∃ c',(sortWorld enc w b o n d'.toArray os).heap[b]?=some (.cells c' e (0,0)):=by
    unfold sortWorld;rw [heap_grow_old _ _ (by simpa [putRow,mapBlock,Sort.ahead] using gf)];exact ⟨_,by simp [putRow,mapBlock,Sort.ahead,Array.getElem?_modify,g4,onCells];rfl⟩
  have gl:Chg [b] w (sortWorld enc w b o n d'.toArray os):=⟨rfl,rfl,rfl,gj,λi hi hm=>O _ _ _ i hi λe=>hm (by simp [e])⟩;generalize hZ':(d'.map λi=>Z[i])=Z' at *;have gD:∀ z∈Z',z∈Z:=λz hz=>V.mem_iff.1 hz;have g3:(Z'.flatMap (·.1)).Perm (Z.flatMap (·.1)):=V.flatMap_right _;have gE:Z'.map (·.2.1)=d'.map enc:=by rw [<-hZ',r,List.map_map];rfl
  refine ⟨_,he,?_,Z'.map (·.2.2),⟨b :: Z'.flatMap (·.1),⟨⟨_,⟨some ⟨b,o,none⟩,cap,Z'.flatMap (·.1),Z'.map (·.2.1),rfl,?_,h2,znm λz hz=>g0 _ _ _ z (gD z hz),.inr ⟨b,o,rfl,rfl,?_,oo⟩⟩,?_⟩,?_,?_⟩,?_⟩,V.map _,?_⟩
  . exact gl.toI λi hi=>hF i (by simp only [qaa,qad,qaq] at hi;simp [hi])
  . have:=V.length_eq;simp only [qaD] at h1 ⊢;omega
  . rw [gE];intro j v hv
    have hj:j<d'.length:=by
      have:=(List.getElem?_eq_some_iff.1 hv).1;simpa using this
    have:=cell?_putRow enc (Sort.ahead w n) b o d d'.toArray gr (by simp [X,gz]) j (by simpa using hj);unfold sortWorld;rw [cell?_grow _ _ _ (by simpa [putRow,mapBlock,Sort.ahead] using gf),this];rw [List.getElem?_map,List.getElem?_eq_getElem hj] at hv;rw [getElem!_pos d'.toArray j (by simpa using hj)];simpa using hv
  . have:=V.length_eq;simp only [mkv,Rep.agg,cond_false,qbd,qaD,X,this]
  . rw [qaP] at g1 ⊢;exact ⟨λh=>g1.1 (g3.mem_iff.1 h),(g3.nodup_iff).2 g1.2⟩
  . intro i hi;rcases qaa.1 hi with rfl | hi
    . obtain ⟨c',gF⟩:=gC;exact ⟨c',e,gF⟩
    have hi':=g3.mem_iff.1 hi;obtain ⟨z,hz,gG⟩:=qaJ.1 hi';have U:i≠b:=λe=>gp z hz (e▸gG);obtain ⟨c',e',h'⟩:=hw i (by simp [hi']);exact ⟨c',e',by rw [O _ _ _ i (Array.getElem?_eq_some_iff.1 h').1 U];exact h'⟩
  . intro i hi;rcases qaa.1 hi with rfl | hi
    . exact hF _ sS
    exact hF i (by simp [g3.mem_iff.1 hi])
  have gH:Z'.Pairwise λx y=>¬hd0 y.2.2<hd0 x.2.2:=by
    rw [<-hZ',qbH];exact gi
  have gI:Z'.Pairwise λx y=>hd0 x.2.2≠hd0 y.2.2:=by
    rw [qbH] at hd;exact V.symm.pairwise hd λh e=>h e.symm
  rw [qbH];exact (qdc.2 ⟨gH,gI⟩).imp λh=>by have:=h.1;have:=h.2;omega
def zir (x:DOrder):DArc:=⟨x.fr,x.to⟩
def ltA (a b:DArc):Prop:=a.fr<b.fr\/(a.fr=b.fr/\a.to<b.to)
structure AInv (L:List DOrder) (A:List DArc):Prop where
 mem:∀ a,a∈A↔∃ x∈L,a=zir x
 pw:A.Pairwise ltA
section
variable {L:List DOrder} {A:List DArc} {x:DOrder}
def AInv.start:AInv [] []:=⟨sS,.nil⟩
def AInv.le (h:AInv L A) (hs:(L++[x]).Pairwise ltO):∀ a∈A,a=zir x\/ltA a (zir x):=λa ha=>by
 obtain ⟨y,hy,rfl⟩:=(h.mem a).1 ha;have:=(qcf.1 hs).2.2 y hy x sS;unfold ltO at this;unfold ltA zir;rcases this with h1 | ⟨h1,h2 | ⟨h2,_⟩⟩
 . exact .inr (.inl h1)
 . exact .inr (.inr ⟨h1,h2⟩)
 exact .inl (DArc.ext_iff.2 ⟨h1,h2⟩)
def AInv.old (h:AInv L A) (hm:zir x∈A):AInv (L++[x]) A:=⟨λa=>by
 rw [h.mem];constructor
 . rintro ⟨y,hy,e⟩;exact ⟨y,by simp [hy],e⟩
 rintro ⟨y,hy,rfl⟩;rcases qae.1 hy with hy | hy
 . exact ⟨y,hy,rfl⟩
 simp only [qaK] at hy;subst hy;exact (h.mem _).1 hm,h.pw⟩
def AInv.new (h:AInv L A) (hs:(L++[x]).Pairwise ltO) (hm:zir x∉A):AInv (L++[x]) (A++[zir x]):=⟨λa=>by
 simp only [qae,qaK,h.mem];constructor
 . rintro (⟨y,hy,e⟩ | rfl)
   . exact ⟨y,.inl hy,e⟩
   exact ⟨x,.inr rfl,rfl⟩
 . rintro ⟨y,hy | rfl,rfl⟩
   . exact .inl ⟨y,hy,rfl⟩
   exact .inr rfl,qcf.2 ⟨h.pw,sS,λa ha b hb=>by
 simp only [qaK] at hb;subst hb;rcases h.le hs a ha with rfl | h1
 . exact absurd ha hm
 exact h1⟩⟩
def zwP (a:DArc):¬ltA a a:=by unfold ltA;omega
def zAa {a b:DArc} (h:ltA a b) (k:ltA b a):False:=by unfold ltA at *;omega
def AInv.last (h:AInv L A) (hs:(L++[x]).Pairwise ltO) (hA:0<A.length):A[A.length-1]'(by omega)=zir x↔zir x∈A:=by
 constructor
 . intro e;rw [<-e];exact qac _
 intro hm;obtain ⟨i,hi,e⟩:=qbY hm;rcases h.le hs _ (qac (by omega:A.length-1<A.length)) with h1 | h1
 . exact h1
 exfalso;rcases qay i (A.length-1) with hl | hl
 . have:=qch.1 h.pw i (A.length-1) hi oo hl;rw [e] at this;exact zAa this h1
 have:i=A.length-1:=oo;subst this;rw [e] at h1;exact zwP _ h1
end
theorem zFm:∀ {l:List Nat},l.Pairwise (λa b=>a<b)->(∀ x∈l,x<N)->l.length<=N
 | l,h,hb=>by
   have h1:=qch.1 h
   have:∀ i (hi:i<l.length),i<=l[i]:=λi=>by
     induction i with
     | zero=>intro _;exact qbP _
     | succ i ih=>
       intro hi;have h2:=ih oo;have h3:=h1 i (i+1) oo hi oo;omega
   rcases qbG l.length with h0 | h0
   . omega
   have h2:=this (l.length-1) oo;have h3:=hb _ (qac (by omega:l.length-1<l.length));omega
def zqk {A:List DArc} (hn:n<=6) (hp:A.Pairwise ltA) (hb:∀ a∈A,(0<=a.fr/\a.fr<n)/\0<=a.to/\a.to<n):A.length<=36:=by
 have h1:(A.map λa=>(a.fr*6+a.to).toNat).Pairwise (λa b=>a<b):=by
   rw [qbH];refine hp.imp_of_mem λ{a b} ha g0 h=>?_;have h2:=hb a ha;have h3:=hb b g0;unfold ltA at h;omega
 have:=zFm (N:=36) h1 λ_ hx=>by
   obtain ⟨a,ha,rfl⟩:=qa3.1 hx;have:=hb a ha;omega
 simpa using this
noncomputable def nxL (c:DCode) (i:Nat):List Nat:=zbK c.locks.length λj=>∃ k,OrdP c i j k
def OrdP.in (hc:CodeR c) {i j k:Nat} (h:OrdP c i j k):i<c.locks.length/\j<c.locks.length:=
 ⟨h.2.2.2.locks hc,h.2.2.1▸(zdz hc (h.1.lt hc) (.inl h.2.1)).2.1⟩
def zlJ (hc:CodeR c) {A:List DArc} (h:AInv (zfu c) A):nxA c.locks.length A=nxL c:=by
 funext i;refine zh1 λj _=>?_;rw [h.mem];constructor
 . rintro ⟨_,_,hx,e⟩;obtain ⟨fr,to,k,ho,rfl⟩:=(zlH hc).1 hx;have e1:(i:Int)=fr:=qax DArc.fr e;have e2:(j:Int)=to:=qax DArc.to e;have e1:=qbo.1 e1;have e2:=qbo.1 e2;subst e1;subst e2;exact ⟨k,ho⟩
 rintro ⟨k,ho⟩;exact ⟨(ho.in hc).1,mkO i j k,(zlH hc).2 ⟨i,j,k,ho,rfl⟩,rfl⟩
def zGQ (hc:CodeR c):∀ i j,j∈nxL c i->i<c.locks.length/\j<c.locks.length:=λi j h=>by
 obtain ⟨h1,k,h2⟩:=zaI.1 h;exact ⟨(h2.in hc).1,h1⟩
def AInv.rng (hc:CodeR c) {k:Nat} {A:List DArc} (h:AInv ((zfu c).take k) A):∀ a∈A,(0<=a.fr/\a.fr<c.locks.length)/\0<=a.to/\a.to<c.locks.length:=λa ha=>by
 obtain ⟨x,hx,rfl⟩:=(h.mem a).1 ha;obtain ⟨fr,to,i,ho,rfl⟩:=(zlH hc).1 (qbh hx);have:=ho.in hc;show (0<=(fr:Int)/\(fr:Int)<_)/\0<=(to:Int)/\(to:Int)<_;omega
noncomputable def zcg (c:DCode):List (List Nat):=zrm c.locks.length (RP (nxL c))
open Classical in
noncomputable def zf5 (c:DCode):List (List Nat):=(List.range c.locks.length).flatMap λn=>(zcg c).filter λp=>decide (p.head?=some n/\zuP (nxL c) p)
theorem zf6 {p:List Nat}:p.head?=some n->hd0 (za5 p)=n:=by
 cases p with
 | nil=>intro h;cases h
 | cons x l=>intro h;cases h;rfl
theorem znn:∀ {l m:List (List Int)},l.Pairwise (λa b=>hd0 a<hd0 b)->m.Pairwise (λa b=>hd0 a<hd0 b)->(∀ x,x∈l↔x∈m)->l=m
 | [],[],_,_,_=>rfl
 | [],y :: m,_,_,h=>by have:=(h y).2 sS;cases this
 | x :: l,[],_,_,h=>by have:=(h x).1 sS;cases this
 | x :: l,y :: m,h1,h2,h=>by
   rw [qaZ] at h1 h2
   have hxy:x=y:=by
     rcases qaa.1 ((h x).1 sS) with e | hm
     . exact e
     rcases qaa.1 ((h y).2 sS) with e | hl
     . exact e.symm
     have:=h1.1 y hl;have:=h2.1 x hm;omega
   subst hxy;congr 1;refine znn h1.2 h2.2 λz=>⟨λhz=>?_,λhz=>?_⟩
   . rcases qaa.1 ((h z).1 (by simp [hz])) with rfl | h'
     . have:=h1.1 z hz;omega
     exact h'
   rcases qaa.1 ((h z).2 (by simp [hz])) with rfl | h'
   . have:=h2.1 z hz;omega
   exact h'
def zno:∀ p∈zcg c,∃ i,i<c.locks.length/\p=zbK c.locks.length (zcC (RP (nxL c)) i):=λp hp=>by
 obtain ⟨i,h1,_,h2⟩:=zkx (way:=RP (nxL c)) Whole.start (λ_ _ _=>RP.trans) p hp;exact ⟨i,h1,h2⟩
def zB3 (c:DCode):(zcg c).Pairwise λa b=>∀ x∈a,x∉b:=zro Whole.start λ_ _ _=>RP.trans
def znp (c:DCode):(zcg c).length<=c.locks.length:=zop
theorem zim {p:List Nat} (hp:p∈zcg c):∃ n,p.head?=some n/\n∈p/\n<c.locks.length:=by
 obtain ⟨i,hi,rfl⟩:=zno p hp;have g0:=zEI (way:=RP (nxL c)) hi;cases e:zbK c.locks.length (zcC (RP (nxL c)) i) with
 | nil=>exact absurd e g0
 | cons x l=>
   have hx:x∈zbK c.locks.length (zcC (RP (nxL c)) i):=by rw [e];simp
   exact ⟨x,rfl,sS,(zaI.1 hx).1⟩
def zkS {p:List Nat} (hp:p∈zcg c):p.length<=c.locks.length/\∀ x∈p,x<c.locks.length:=by
 obtain ⟨_,_,rfl⟩:=zno p hp;exact ⟨zbz,λx hx=>(zaI.1 hx).1⟩
def zsj (c:DCode):(zcg c).Pairwise λa b=>hd0 (za5 a)≠hd0 (za5 b):=by
 refine (zB3 c).imp_of_mem λ{a b} ha hb h e=>?_;obtain ⟨n,h1,h2,_⟩:=zim ha;obtain ⟨_,k1,k2,_⟩:=zim hb;rw [zf6 h1,zf6 k1] at e;have e:=qbo.1 e;subst e;exact h n h2 k2
def zoP {p:List Nat}:p∈zf5 c↔p∈zcg c/\zuP (nxL c) p:=by
 unfold zf5;simp only [qaJ,qaG,qbW,qau];constructor
 . rintro ⟨n,_,h1,_,h2⟩;exact ⟨h1,h2⟩
 rintro ⟨h1,h2⟩;obtain ⟨n,h3,_,h4⟩:=zim h1;exact ⟨n,h4,h1,h3,h2⟩
def zAb (c:DCode):(zf5 c).Pairwise λa b=>hd0 (za5 a)<hd0 (za5 b):=by
 unfold zf5;refine qbR.2 ⟨λn _=>?_,List.pairwise_lt_range.imp ?_⟩
 . refine ((zsj c).filter _).imp_of_mem λ{a b} ha hb h=>?_;have h2:=(qbW.1 ha).2;have h3:=(qbW.1 hb).2;simp only [qau] at h2 h3;exact absurd (by rw [zf6 h2.1,zf6 h3.1]) h
 intro n _ g0 a ha b hb;have h2:=(qbW.1 ha).2;have h3:=(qbW.1 hb).2;simp only [qau] at h2 h3;rw [zf6 h2.1,zf6 h3.1];exact qdb.2 g0
noncomputable def zGR (c:DCode):List Nat:=(zcg c).flatten
def lkQ (c:DCode) (g1 n:Nat) (w0:wD):ParQ:=λi u T w=>match i with
 | 0=>Is w0 (u 12) c
 | 1=>u 13=.pointer (some ⟨g1,0+4,none⟩)
 | 2=>Is w0 (u 14) c.ins
 | 3=>u 15=.int .i64 (n:Int)
 | 4=>∃ g,u 16=.slice (some ⟨g,0,none⟩) n n/\(T 4).1<=g/\g<(T 4).2/\Mine [g] w (.slice (some ⟨g,0,none⟩) n n) (List.replicate n false)
 | 5=>u 17=.pointer (some ⟨g1,0+4,none⟩)
 | 6=>Is w0 (u 18) c.ins
 | 7=>u 19=.int .i64 (n:Int)
 | 8=>∃ g,u 20=.slice (some ⟨g,0,none⟩) n n/\(T 8).1<=g/\g<(T 8).2/\Mine [g] w (.slice (some ⟨g,0,none⟩) n n) (za5 (List.replicate n 0))
 | _=>True
def zAc (h0:Is W0 v0 c) (e0:Ext W0 w) (hc:CodeR c) :
   CALL tp 208 [v0] w λr w'=>Ext w w'/\∃ gw,r=.pointer (some ⟨gw,0,none⟩)/\At w' gw (0+5) (zi0 c)/\At w' gw (0+6) (za5 (zqD c)):=by
 refine co (g:=⟨extL,[(25,5316911983139587933751502326797959936,[8])],[(4,4397979402272,[5]),(7,348449143727040986586495598005732602023872,[]),(10,348449143727040986586495597447180695113664,[6]),(27,348406608431175869278562676184201677506560,[11])],[(6,[0,1,2,3,4,5,6,7,8,9],0)],[(1,8384520,9)],[],[]⟩) Tryz.func208 ?_;have h8:=hc.1.procs8;have ji:=hc.f.ins;have hz0:=(zhe hc h8.2).2.2;have gq:=HP.start (c:=c);refine zbp h0 e0 λw1 hS hA=>?_;have hs1:=hS.size;have hn:c.ins.length=c.ins.length:=rfl;generalize hnn:c.ins.length=n at hn;rw [hnn] at ji gq;have V:=zag w1;refine PAR.mk (lkQ c w.heap.size n (World.drew1 w1)) ?_ ?_ ?_
 . intro i u u' T _ _ _ _ hV hd hq
   match i,hd,hq with
   | 0,hd,hq=>have:=(hd (0,12) qd).1;show Is _ (u' 12) _;simp only [this];exact hq
   | 1,hd,hq=>exact (hd (1,13) qd).1.trans hq
   | 2,hd,hq=>have:=(hd (2,14) qd).1;show Is _ (u' 14) _;simp only [this];exact hq
   | 3,hd,hq=>exact (hd (3,15) qd).1.trans hq
   | 4,hd,⟨g,q1,q2,q3,q4⟩=>
     obtain ⟨e1,e2⟩:=hd (4,16) qd;simp only at e1 e2;exact ⟨g,e1.trans q1,by rw [e2];exact q2,by rw [e2];exact q3,q4.ext hV⟩
   | 5,hd,hq=>exact (hd (5,17) qd).1.trans hq
   | 6,hd,hq=>have:=(hd (6,18) qd).1;show Is _ (u' 18) _;simp only [this];exact hq
   | 7,hd,hq=>exact (hd (7,19) qd).1.trans hq
   | 8,hd,⟨g,q1,q2,q3,q4⟩=>
     obtain ⟨e1,e2⟩:=hd (8,20) qd;simp only at e1 e2;exact ⟨g,e1.trans q1,by rw [e2];exact q2,by rw [e2];exact q3,q4.ext hV⟩
   | n+9,_,_=>trivial
 . refine ⟨λu T w' hx _ _=>?_,λu T w' hx _ _=>?_,λu T w' hx _ hp=>?_,λu T w' hx _ hp=>?_,λu T w' hx _ hp=>?_,λu T w' hx _ _=>?_,λu T w' hx _ hp=>?_,λu T w' hx _ hp=>?_,λu T w' hx _ hp=>?_,trivial⟩
   . exact zab zbY hA (V.t hx) λv6 h6=>⟨xrf _,h6.ext V⟩
   . exact zaa zaY ⟨xrf _,rfl⟩
   . have q0:u 13=_:=hp.1;rw [q0];exact zab zdD (zam hA) (V.t hx) λv6 h6=>⟨xrf _,h6.ext V⟩
   . have q1:Is _ (u 14) c.ins:=hp.1;exact zae u26 q1 (by rw [hnn];exact ⟨xrf _,rfl⟩)
   . have q2:u 15=_:=hp.1;rw [q2];exact zg3 oo oo λw4 gr r=>⟨gr,_,rfl,lr _,r.lt _ (qaK.2 rfl),r⟩
   . exact zaa zaY ⟨xrf _,rfl⟩
   . have q0:u 17=_:=hp.1;rw [q0];exact zab zdD (zam hA) (V.t hx) λv6 h6=>⟨xrf _,h6.ext V⟩
   . have q1:Is _ (u 18) c.ins:=hp.1;exact zae u26 q1 (by rw [hnn];exact ⟨xrf _,rfl⟩)
   have q2:u 19=_:=hp.1;rw [q2];exact zft oo oo λw4 gr r=>⟨gr,_,rfl,lr _,r.lt _ (qaK.2 rfl),r⟩
 rintro u T w2 jj gX ⟨gY,-,-,-,⟨g,jk,_,_,jl⟩,-,-,-,⟨h,jm,_,_,jn⟩,-⟩;have gY:Is (World.drew1 w1) (u 12) c:=gY;have t4:=gX.1 4 qd;have t8:=gX.1 8 qd;have d48:=gX.2 4 qd 8 qd qd;have gs:=V.t jj;have hsd:(World.drew1 w1).heap.size=w1.heap.size:=rfl;rw [jk,jm];obtain ⟨a0,a1,a2,a3,a4,n0,n1,n2,n3,n4,k0,k1,k2,k3,k4,jo⟩:=zoN gY;rw [jo];refine zaF (cells:=#[.slice a0 n0 k0,.slice a1 n1 k1,.slice a2 n2 k2,.slice a3 n3 k3,.slice a4 n4 k4,.slice (some ⟨g,0,none⟩) n n,.slice (some ⟨h,0,none⟩) n n,.bool true]) kK<|zmn λw3 gZ jp=>?_;have H3:LW w1 w3 w2.heap.size g h n [.slice a0 n0 k0,.slice a1 n1 k1,.slice a2 n2 k2,.slice a3 n3 k3,.slice a4 n4 k4] (List.replicate n false) (List.replicate n 0) true:=⟨gs.t gZ,jp,jl.ext gZ,jn.ext gZ,rfl,oo,oo,oo,gs.size,oo,oo⟩;generalize [Value.slice a0 n0 k0,.slice a1 n1 k1,.slice a2 n2 k2,.slice a3 n3 k3,.slice a4 n4 k4]=kc at *;generalize w2.heap.size=gw at *;refine zab zbY hA H3.ext λ_ jq=>?_;refine (ztE jq H3.ext hc).mono ?_;rintro _ w4 ⟨gr,jr⟩;refine (zhC jr.is (xrf _) (by rw [zaM];omega)).mono ?_;rintro js w5 ⟨jt,hW⟩;rw [zaM,zjP] at hW;have H4:=H3.step gr;have H5:=H4.step jt;have hL:∀ p,p∈zbK c.procs.length (RootP c)↔RootP c p:=λp=>by rw [zaI];exact ⟨λh=>h.2,λh=>⟨h.lt hc,h⟩⟩
 have hLl:(zbK c.procs.length (RootP c)).length<=8:=qat zbz h8.1;generalize zbK c.procs.length (RootP c)=L at *;have ju:=H4.blk.lt;have hg4:=H4.mks.lt g sS;have hh4:=H4.mine.lt h sS;have h5:(List.replicate n 0).length=n:=by simp
 have gt:∀ x∈List.replicate n 0,x<64:=λx hx=>by rw [(qcM.1 hx).2];omega
 have g4:∀ i,i<n->(List.replicate n 0).set i (zaE (List.replicate n 0) i ||| 0)=List.replicate n 0:=λi hi=>by rw [Nat.or_zero,zqi (by rw [h5];exact hi)]
 have jv:∀ i l,i<c.ins.length->(zaE (List.replicate n 0) i).testBit l=true->MayP c i l:=λi l hi hb=>(gq.snd i l hi hb).1;generalize List.replicate n 0=out at *;refine zap L.length (λk us w'=>∃ ms,us=[.int .i64 (k:Int)]/\k<=L.length/\LW w1 w' gw g h n kc ms out true/\OwnI w4.heap.size w5.heap.size w' js (za5 L)/\ms.length=n/\(∀ i,mkd ms i->MetP c i)/\∀ p∈L.take k,mkd ms (eN c p)) 0 (z0 _) ⟨_,rfl,z0 _,H5,hW.toI,sS,λi h=>absurd h zb8,sS⟩ ?_;rintro k mk _ w6 hX ⟨ms,hu,jw,H6,h9,gx,gy,gz⟩;try replace hu:=zbv hu
 rw [hu];refine zae u25 h9.is ?_;rw [zah];refine zaf<|br (λhY=>?_) (λhZ=>?_)
 . have hk:k<L.length:=oo;have j0:=zag w6;have H7:=H6.step j0;have j1:=h9.ext j0;generalize World.drew1 w6=w7 at *;refine zaa zbq<|zab zaS (zaq hA) H7.ext λ_ jx=>zad u25 ty3 (i:=k) j1.is (by rw [zah];exact hk) λ_ _ j2=>?_;rw [za9] at j2;refine zac ty3 j2 (xrf _) λ_=>?_;have jy:=λx=>zbG hk (x:=x);have j3:=(hL L[k]).1 (qac hk);generalize L[k]=p at *;have gc:p<c.entry.length:=by rw [hc.2.1.1];exact j3.lt hc
   obtain ⟨he,j4,_⟩:=zhF hc gc;refine zad u25 ty3 jx gc λb5 o5 g5=>?_;rw [zbO gc,he] at g5;refine zac ty3 g5 H7.ext λ_=>?_;refine (znb (i:=eN c p) (m:=0) H7 oo gx h5 gt oo).mono ?_;rintro _ _ ⟨rfl,H8,jz⟩;rw [g4 _ oo] at H8;refine zau<|⟨mk-1,oo,k+1,oo,_,rfl,oo,H8,j1.chgF jz so,by simp [gx],λi hi=>?_,λq hq=>?_⟩
   . rcases (zdj (by rw [gx];omega)).1 hi with h | h
     . exact gy i h
     rw [h];exact .root j3
   rcases (jy q).1 hq with h | h
   . exact zf3 (gz q h)
   rw [h];exact (zdj (by rw [gx];omega)).2 (.inr rfl)
 have jA:∀ p,RootP c p->mkd ms (eN c p):=λp hp=>gz p (by rw [qaf oo];exact (hL p).2 hp);have hT:LP c ms out false ms out 0:=⟨by rw [gx,hnn],by rw [h5,hnn],gt,gy,jv,jA,λe=>(by cases e),λ_=>⟨rfl,rfl,λi hi=>oo⟩⟩;clear hu hX h9 g4;refine LOOPI.mk (λm us w'=>∃ (ms:List Bool) (out:List Nat) (nw:Bool),us=[]/\m=(n*64-(zlw ms+out.sum))+(if nw then 1 else 0)/\LW w1 w' gw g h n kc ms out nw/\LP c ms out false ms out 0/\(nw=false->ms=zi0 c/\out=zqD c)) (n*64-(zlw ms+out.sum)+1) ⟨ms,out,true,rfl,rfl,H6,hT,λe=>by cases e⟩ ?_;rintro m _ _ ⟨ms,out,nw,hu,hm,H9,j5,hg⟩
 have gC:∀ {j6 ms:List Bool} {out0 out:List Nat} {nw:Bool} {k:Nat},LP c j6 out0 nw ms out k->zlw ms+out.sum<=n*64:=λ{j6 ms out0 out nw k} hP=>by
   have h1:=zhu ms;rw [hP.len,hnn] at h1;have h2:=sum_le (l:=out) (b:=63) λx hx=>by have:=hP.lt x hx;omega
   rw [hP.leno,hnn] at h2;omega
 refine NIL.mk rfl<|zaa zps<|zan ty4 H9.blk H9.c7<|zbX (λhh=>?_) (λhh=>?_)
 case refine_2=>
   obtain ⟨jB,jC⟩:=hg hh;refine ⟨hS.t H9.ext,gw,rfl,zfR H9.blk H9.c5 ?_,zfR H9.blk H9.c6 ?_⟩
   . rw [<-jB];exact H9.mks.is
   rw [<-jC];exact H9.mine.is
 rw [hh,qah rfl] at hm;have hb9:=gC j5;refine NIL.mk rfl<|zaa zps<|za3 (α:=Raw) (lo:=0) (hi:=0) ty4 rfl rfl H9.blk H9.l8 (zdq rfl) λ_ hr hs=>?_;have jD:=H9.news hr.one hs;refine zap n (λk us w'=>∃ (ms':List Bool) (out':List Nat) (nw':Bool),us=[.int .i64 (k:Int)]/\k<=n/\LW w1 w' gw g h n kc ms' out' nw'/\LP c ms out nw' ms' out' k) 0 (z0 _) ⟨ms,out,false,rfl,z0 _,jD,j5⟩ ?_;rintro k mk _ j7 hX ⟨I,C,O,hu,jw,H11,D⟩;try replace hu:=zbv hu
 rw [hu];refine zaa zaY<|zab zdD (zam hA) H11.ext λ_ jE=>zae u26 jE ?_;rw [hnn];refine zaf<|br (λhY=>?_) (λhZ=>?_)
 case refine_2=>
   have jF:k=n:=oo;rw [jF] at D;have jG:=gC D;refine ⟨(n*64-(zlw I+C.sum))+(if O then 1 else 0),?_,I,C,O,rfl,rfl,H11,D.again,λe=>?_⟩
   . cases O with
     | true=>have:=D.yes rfl;simp;omega
     | false=>rw [(D.no rfl).1,(D.no rfl).2.1];simp;omega
   rw [e,<-hnn] at D;exact D.fin hc
 have hk:k<n:=oo;have gd:k<c.ins.length:=oo;have g2:I.length=n:=by rw [D.len,hnn]
 have Y:C.length=n:=by rw [D.leno,hnn]
 refine NIL.mk rfl<|zaa zkf<|zan zef H11.blk H11.c5<|zad zfU ty4 (i:=k) H11.mks.is (by rw [g2];exact hk) λ_ _ jH=>zbi ty4 jH (xrf _)<|za2 ?_;have g9:=zce (ms:=I) (i:=k) (by rw [g2];exact hk);refine zbX (λhf=>?_) (λhf=>?_)
 . have ht:¬mkd I k:=by rw [g9];simpa using hf
   refine zau<|⟨mk-1,oo,k+1,oo,I,C,O,rfl,oo,H11,D.skip ht⟩
 have jI:mkd I k:=by rw [g9];simpa using hf
 have gp:=D.snd k jI;refine zaa zaY<|zab zdD (zam hA) H11.ext λ_ jJ=>zad u26 zbm jJ gd λ_ _ j8=>?_;rw [zaG] at j8;refine zab zbm j8 H11.ext λ_ j9=>zcP ziG rfl zbm rfl j9 H11.ext λja gD gU gE=>?_;have H12:=H11.step gD;have gF:=zga j9 gE rfl;refine NIL.mk rfl<|zaa zgP<|zan zaS H12.blk H12.c6<|zad u25 ty3 (i:=k) H12.mine.is (by rw [zah,Y];exact hk) λb5 o5 g5=>?_;rw [zbk] at g5;refine zac ty3 g5 (xrf _) λ_=>?_;have X:=D.lt0 k;have gV:O=false->zaE C k=zaE out k:=λe=>by rw [(D.no e).2.1]
 have gG:∀ l,l<6->(zaE C k).testBit l=true->MayP c k l:=λl hl hb=>D.sndm k l gd hb;generalize hh0:zaE C k=h0 at *;refine JOIN.mk (λus w'=>∃ (m:Nat) (ms':List Bool) (out':List Nat) (nw':Bool),us=[.int .i64 (m:Int)]/\LW w1 w' gw g h n kc ms' out' nw'/\LP c ms out nw' ms' out' k/\m<64/\CR c out k h0 m nw'/\((zal c k).op=4->mkd ms' (eN c (agN c k))/\zhi h0 (zaE out' (eN c (agN c k))))/\(∀ l,l<6->m.testBit l=true->∀ j∈zaA c k,MayP c j l)/\∀ j∈zaA c k,MetP c j) ?_ ?_
 . have Z:aft c [] k h0=if (zal c k).op=6 then h0 ||| 2^agN c k else if (zal c k).op=7 then zmM h0 (2^agN c k) else if (zal c k).op=4 then (h0 &&& (tbl [] (agN c k)).1) ||| (tbl [] (agN c k)).2 else h0:=rfl
   have hv:¬(zal c k).op=4->∀ w',LW w1 w' gw g h n kc I C O->aft c [] k h0<64->∃ (m:Nat) (ms':List Bool) (out':List Nat) (nw':Bool),[Value.int .i64 (aft c [] k h0:Nat)]=[.int .i64 (m:Int)]/\LW w1 w' gw g h n kc ms' out' nw'/\LP c ms out nw' ms' out' k/\m<64/\CR c out k h0 m nw'/\((zal c k).op=4->mkd ms' (eN c (agN c k))/\zhi h0 (zaE out' (eN c (agN c k))))/\(∀ l,l<6->m.testBit l=true->∀ j∈zaA c k,MayP c j l)/\∀ j∈zaA c k,MetP c j:=λh4 w' jK hw=>
     ⟨_,I,C,O,rfl,jK,D,hw,λe=>⟨gV e,λh=>absurd h h4,λ_=>by rw [gV e]⟩,λh=>absurd h h4,λl hl hb j hj=>zzF h4 gp hj (gG l hl) hb,λj hj=>.next gp h4 hj⟩
   refine zaa za8<|zac ty3 (zay gU) (xrf _) λ_=>zai<|br (λc6=>?_) (λc6=>?_)
   . obtain ⟨ha,_,hq⟩:=zdz hc gd (.inl c6);have hp:=zi1 hq;rw [qah c6] at Z;refine zaa zaZ<|zac ty3 (zat gU) (xrf _) λ_=>?_;rw [ha];refine (zjR oo).mono ?_;rintro _ hy ⟨gf,rfl⟩;refine zhk (m:=h0) (n:=2^agN c k) oo oo ?_;have:=hv oo hy (H12.step gf) (by rw [Z];exact zox X hq);rw [Z] at this;exact this
   rw [qab c6] at Z;refine zai<|br (λc7=>?_) (λc7=>?_)
   . obtain ⟨ha,_,hq⟩:=zdz hc gd (.inr c7);have hp:=zi1 hq;rw [qah c7] at Z;refine zaa zaZ<|zac ty3 (zat gU) (xrf _) λ_=>?_;rw [ha];refine (zjR oo).mono ?_;rintro _ hy ⟨gf,rfl⟩;refine (zwB X hp).mono ?_;rintro _ gW ⟨gg,rfl⟩;rw [ztC X hp];have:=hv oo gW ((H12.step gf).step gg) (by rw [Z];exact qaL (ziZ _ _) X);rw [Z] at this;exact this
   rw [qab c7] at Z;refine zai<|br (λc4=>?_) (λc4=>?_)
   . obtain ⟨jb,jc⟩:=zbS hc gd (.inl c4);have gc:agN c k<c.entry.length:=by rw [hc.2.1.1];exact jc
     obtain ⟨he,j4,_⟩:=zhF hc gc;obtain ⟨_,jL,_⟩:=zhe hc jc;refine zaa zbq<|zab zaS (zaq hA) H12.ext λ_ jM=>zaa zaZ<|zac ty3 (zat gU) (xrf _) λ_=>?_;rw [jb];refine zad u25 ty3 jM gc λb5 o5 g5=>?_;rw [zbO gc,he] at g5;refine zac ty3 g5 H12.ext λ_=>?_;refine (znb (i:=eN c (agN c k)) (m:=h0) H12 oo g2 Y D.lt X).mono ?_;rintro _ hy ⟨rfl,H13,hz⟩;have jN:MetP c (eN c (agN c k)):=.call gp c4;have U:=D.put j4 X jN λl hl hb=>.call gp c4 (gG l hl hb);have jd:=zle (out:=C) (m:=h0) (i:=eN c (agN c k)) (by rw [Y];omega);have je:mkd (I.set (eN c (agN c k)) true) (eN c (agN c k)):=(zdj (by rw [g2];omega)).2 (.inr rfl);have gH:zAS I C O (eN c (agN c k)) h0=false->O=false:=zzZ;generalize zAS I C O (eN c (agN c k)) h0=nw13 at *;generalize C.set (eN c (agN c k)) (zaE C (eN c (agN c k)) ||| h0)=out13 at *;generalize I.set (eN c (agN c k)) true=ms13 at *;have jO:j7.heap.size<ja.heap.size:=gE.lt;have jP:j7.heap.size∉[gw,g,h]:=by have h1:=H11.mks.lt g sS;have h2:=H11.mine.lt h sS;have h3:=H11.blk.lt;simp;omega
     have gI:=(gF.keep (hz.block _ jO jP)).at H13.ext;refine zab zbY hA H13.ext λ_ jQ=>zaa zaZ<|zac ty3 (zat gI) (xrf _) λ_=>?_;rw [jb];refine (zmf jQ H13.ext (p:=(agN c k:Int)) oo oo hc.2.1.nonneg).mono ?_;rintro _ gW ⟨gg,rfl⟩;have H14:=H13.step gg;rw [jL];have gJ:ms13.length=n:=by rw [U.len,hnn]
     have gK:out13.length=n:=by rw [U.leno,hnn]
     refine NIL.mk rfl<|zaa zkf<|zan zef H14.blk H14.c5<|zad zfU ty4 (i:=zN c (agN c k)) H14.mks.is (by rw [gJ];omega) λ_ _ jR=>zbi ty4 jR (xrf _)<|za2 ?_;have gb:=zce (ms:=ms13) (i:=zN c (agN c k)) (by rw [gJ];omega);refine zbX (λgh=>?_) (λgh=>?_)
     . have ht:¬mkd ms13 (zN c (agN c k)):=by rw [gb];simpa using gh
       refine zau<|⟨mk-1,oo,k+1,oo,ms13,out13,nw13,rfl,oo,H14,LP.close (h0:=h0) (m:=zaE out (zN c (agN c k))) U (λe=>⟨gV (gH e),λ_=>rfl,λh=>absurd c4 h⟩) (λ_=>⟨je,jd⟩) λh=>absurd (h c4) ht⟩
     have jS:mkd ms13 (zN c (agN c k)):=by rw [gb];simpa using gh
     have jf:=U.snd _ jS;refine NIL.mk rfl<|zaa zgP<|zan zaS H14.blk H14.c6<|zad u25 ty3 (i:=zN c (agN c k)) H14.mine.is (by rw [zah,gK];omega) λb7 o7 gM=>?_;rw [zbk] at gM;refine zac ty3 gM (xrf _) λ_=>⟨zaE out13 (zN c (agN c k)),ms13,out13,nw13,rfl,H14,U,U.lt0 _,λe=>⟨gV (gH e),λ_=>by rw [(U.no e).2.1],λh=>absurd c4 h⟩,λ_=>⟨je,jd⟩,λl hl hb j hj=>.back gp c4 jf (U.sndm _ l oo hb) hj,λj hj=>.back gp c4 jf hj⟩
   rw [qab c4] at Z;have:=hv c4 ja H12 (by rw [Z];exact X);rw [Z] at this;exact this
 rintro us gW ⟨m,hB,gN,hC,hD,H14,hF,gO,hG,hH,hI,jT⟩;try replace hD:=zbv hD
 rw [hD];refine zab zbY hA H14.ext λ_ hJ=>?_;refine (zov hJ H14.ext hc gd).mono ?_;rintro jU jV ⟨hK,hM⟩;have jW:=H14.step hK;have hl2:=zgA c k;have jX:=λ{j:Nat} (hj:j∈zaA c k)=>(zdn hc gd hj).1;have gi:=λ{ms o:List Bool} {out0 out1:List Nat} {ag:Bool} (hP:LP c ms out0 ag o out1 k)=>LP.close (h0:=h0) (m:=m) hP;generalize hNx:zaA c k=N at *;refine zap N.length (λq us w'=>∃ (ms':List Bool) (out':List Nat) (nw':Bool),us=[.int .i64 (q:Int)]/\q<=N.length/\LW w1 w' gw g h n kc ms' out' nw'/\LP c ms out nw' ms' out' k/\CR c out k h0 m nw'/\((zal c k).op=4->mkd ms' (eN c (agN c k))/\zhi h0 (zaE out' (eN c (agN c k))))/\(∀ j∈N.take q,mkd ms' j/\zhi m (zaE out' j))/\OwnI gW.heap.size jV.heap.size w' jU (za5 N)) 0 (z0 _) ⟨hB,gN,hC,rfl,z0 _,jW,hF,hG,hH,sS,hM.toI⟩ ?_;rintro q mq u _ _ ⟨gP,g0,hN,hu,_,jg,g1,gQ,gj,g3,gl⟩;try replace hu:=zbv hu
 rw [hu];refine zae u25 gl.is ?_;rw [zah];refine zaf<|br (λhY=>?_) (λhZ=>?_)
 case refine_2=>refine zau ?_;rw [qaf oo] at g3;exact ⟨mk-1,oo,k+1,oo,gP,g0,hN,rfl,oo,jg,gi g1 gQ gj λ_=>hNx▸g3⟩
 have hq:q<N.length:=oo;refine zad u25 ty3 (i:=q) gl.is (by rw [zah];exact hq) λb7 o7 gM=>?_;rw [za9] at gM;refine zac ty3 gM (xrf _) λ_=>?_;have jY:=λx=>zbG hq (x:=x);have hj:=qac hq;have jZ:=jX hj;have d0:=λl hl hb=>hI l hl hb _ hj;have hO:=jT _ hj;generalize N[q]=j at *;have gR:gP.length=n:=by rw [g1.len,hnn]
 have gS:g0.length=n:=by rw [g1.leno,hnn]
 refine (znb (i:=j) (m:=m) jg oo gR gS g1.lt gO).mono ?_;rintro _ _ ⟨rfl,d1,hQ⟩;refine zau ?_;have d2:=H14.mks.lt g sS;have d3:=H14.mine.lt h sS;have jh:=H14.blk.lt;have hR:j<g0.length:=oo;refine ⟨mq-1,oo,q+1,oo,_,_,_,rfl,oo,d1,g1.put jZ gO hO d0,λe=>gQ (zzZ e),λh4=>⟨zf3 (gj h4).1,zz0 hR (gj h4).2⟩,λi hi=>?_,gl.chgF hQ so⟩;rcases (jY i).1 hi with h | h
 . exact ⟨zf3 (g3 i h).1,zz0 hR (g3 i h).2⟩
 subst h;exact ⟨(zdj (by rw [gR];omega)).2 (.inr rfl),zle hR⟩
end Go.Proofs.YtkgiigmcbgifdaaGreat
namespace Go.Sh
open Rep (rep)
variable {cs ds:List vL} {w:wD}
def Blk.uniq {g e:Nat} {cs g0:List vL} (h:Blk g e w cs) (h':Blk g e w g0):g0=cs:=by
 unfold Blk at h h';rw [h] at h';simp only [qao,Obj.cells.injEq] at h';have:=h'.1;simpa using this.symm
def zvz {g e:Nat} (h:Blk g e w (cs++ds)):w.rangeAt g 0 cs:=(zaK h.range).1
end Go.Sh
namespace Go.Proofs.YtkgiigmcbgifdaaGreat
open Go Go.Sh Go.Proofs
open Rep (rep)
variable {C M g0 out:List Nat} {W W0 w w' wb:wD} {b g i j k m n p q r:Nat} {c:DCode} {cs hd kc:List vL} {op x:Int} {v0 x10 x6 x7 x8 x9:vL}
structure WB (W0 w:wD) (b e:Nat) (c:DCode) (kc:List vL) (m:Nat) (x6 x7 x8 x9 x10:vL):Prop where
 ext:Ext W0 w
 blk:Blk b e w (kc++[.slice (some ⟨m,0,none⟩) c.ins.length c.ins.length,x6,x7,x8,x9,x10])
 code:∃ F,rep F W0 kc c
 live:Mine [m] w (.slice (some ⟨m,0,none⟩) c.ins.length c.ins.length) (zdQ c.ins.length (zgh c))
 b0:W0.heap.size<=b
 m0:W0.heap.size<=m
 ne:b≠m
section
variable {W0 w w':wD} {b e m:Nat} {c:DCode} {kc:List vL} {x6 x7 x8 x9 x10:vL}
def WB.k5 (h:WB W0 w b e c kc m x6 x7 x8 x9 x10):kc.length=5:=by obtain ⟨_,hr⟩:=h.code;exact Rep.len hr
def WB.cell (h:WB W0 w b e c kc m x6 x7 x8 x9 x10) (i:Nat):(kc++[Value.slice (some ⟨m,0,none⟩) c.ins.length c.ins.length,x6,x7,x8,x9,x10])[5+i]?=[Value.slice (some ⟨m,0,none⟩) c.ins.length c.ins.length,x6,x7,x8,x9,x10][i]?:=by
 rw [List.getElem?_append_right (by rw [h.k5];omega),h.k5,qcu]
def WB.code_at (h:WB W0 w b e c kc m x6 x7 x8 x9 x10):At w b 0 c:=by
 obtain ⟨F,hr⟩:=h.code;exact ⟨F,kc,zcp hr h.ext,zvz h.blk⟩
def WB.wl (h:WB W0 w b e c kc m x6 x7 x8 x9 x10):WL w b c:=⟨h.code_at,zfR h.blk (h.cell 0) h.live.is⟩
def WB.step (h:WB W0 w b e c kc m x6 x7 x8 x9 x10) (hx:Ext w w'):WB W0 w' b e c kc m x6 x7 x8 x9 x10:=⟨h.ext.trans hx,h.blk.ext hx,h.code,h.live.ext hx,h.b0,h.m0,h.ne⟩
def WB.chg {F:List Nat} (h:WB W0 w b e c kc m x6 x7 x8 x9 x10) (hc:Chg F w w') (hF:∀ x∈F,W0.heap.size<=x/\x≠b/\x≠m):WB W0 w' b e c kc m x6 x7 x8 x9 x10:=
 ⟨h.ext.chgF hc λx hx=>(hF x hx).1,h.blk.chgF hc λhb=>(hF b hb).2.1 rfl,h.code,h.live.keep λx hx=>by
   simp only [qaa,qad,qaq] at hx;subst hx;exact hc.block x (h.live.lt x sS) λhm=>(hF x hm).2.2 rfl,h.b0,h.m0,h.ne⟩
def WB.cells {y6 y7 y8 y9 y10:vL} (h:WB W0 w b e c kc m x6 x7 x8 x9 x10) (hc:ChgI b (b+1) w w') (hB:Blk b e w' (kc++[.slice (some ⟨m,0,none⟩) c.ins.length c.ins.length,y6,y7,y8,y9,y10])):WB W0 w' b e c kc m y6 y7 y8 y9 y10:=
 ⟨h.ext.chgI hc h.b0,hB,h.code,h.live.keep λx hx=>by
   simp only [qaa,qad,qaq] at hx;subst hx;exact hc.block x (h.live.lt x sS) (by have:=h.ne;omega),h.b0,h.m0,h.ne⟩
def WB.set (h:WB W0 w b e c kc m x6 x7 x8 x9 x10) (i:Nat) (v:vL):(kc++[Value.slice (some ⟨m,0,none⟩) c.ins.length c.ins.length,x6,x7,x8,x9,x10]).set (5+i) v=kc++[Value.slice (some ⟨m,0,none⟩) c.ins.length c.ins.length,x6,x7,x8,x9,x10].set i v:=by
 rw [qbb _ _ (by rw [h.k5];omega),h.k5,qcu]
end
def CS (c:DCode) (out:List Nat) (D:Nat->Nat->Prop):Prop:=out.length=c.procs.length/\∀ q,q<c.procs.length->zaE out q=zc0 (D q) c.procs.length
def CS.mono {D D':Nat->Nat->Prop} (h:CS c out D) (hD:∀ q r,q<c.procs.length->r<c.procs.length->(D q r↔D' q r)):CS c out D':=⟨h.1,λq hq=>by rw [h.2 q hq];exact zbE λr hr=>hD q r hq hr⟩
def CS.set {D D':Nat->Nat->Prop} (h:CS c out D) {p a:Nat} (hp:p<c.procs.length) (ha:a<c.procs.length) (hD:∀ q r,D' q r↔D q r\/(q=p/\r=a)):CS c (out.set p (zaE out p ||| 2^a)) D':=by
 refine ⟨by simp [h.1],λq hq=>?_⟩;rw [zcj (by rw [h.1];exact hp)];split
 . rename_i e;subst e;rw [h.2 p hp];refine zeP λr=>?_;rw [qaV,qaN,qaR,za6,qau,hD];constructor
   . rintro (⟨h1,h2⟩ | rfl)
     . exact ⟨h1,.inl h2⟩
     exact ⟨ha,.inr ⟨rfl,rfl⟩⟩
   rintro ⟨h1,h2 | ⟨_,h2⟩⟩
   . exact .inl ⟨h1,h2⟩
   exact .inr h2.symm
 rename_i e;rw [h.2 q hq];exact zbE λr _=>⟨λh=>(hD q r).2 (.inl h),λh=>((hD q r).1 h).resolve_right λh=>e h.1.symm⟩
def CS.lt0 {D:Nat->Nat->Prop} (h:CS c out D) (h8:c.procs.length<=8) {q:Nat} (hq:q<c.procs.length):zaE out q<256:=by rw [h.2 q hq];exact zbu h8
def CS.zero {D:Nat->Nat->Prop} (hD:∀ q r,¬D q r):CS c (List.replicate c.procs.length 0) D:=⟨sS,λq hq=>by
 rw [<-zbn (by simp;exact hq),qb6];exact zeP λr=>by simp [hD]⟩
def CS.eq_cls (h:CS c out λq r=>zow c q op r):out=cls c op:=by
 refine qaU (by rw [h.1,zhJ]) λi h1 h2=>?_;have hi:i<c.procs.length:=by rw [<-h.1];exact h1
 rw [zbn h1,zbn h2,zDG hi,h.2 i hi]
def zwQ (j:Nat):Nat:=if j=11 then 6 else if j=14 then 7 else 8
def zFS (j:Nat):Prop:=j=11\/j=14\/j=17
def fcB (W:wD) (b e:Nat) (hd:List vL) (t9 t10:vL) (w:wD):Prop:=ChgI b (b+1) W w/\∃ x6 x7 x8,Blk b e w (hd++[x6,x7,x8,t9,t10])
def fcR (b e:Nat) (j:Nat) (w w':wD):Prop:=(zFS j/\ChgI b (b+1) w w'/\∀ cs,Blk b e w cs->∃ v,Blk b e w' (cs.set (zwQ j) v))\/(¬zFS j/\Ext w w')
def fcQ (b e n:Nat):ParQ:=λi u T w=>match i with
 | 0=>u 17=.pointer (some ⟨b,0,none⟩)
 | 1=>u 18=.pointer (some ⟨b,0,none⟩)
 | 2=>u 19=.pointer (some ⟨b,0,none⟩)
 | 3=>u 20=.int .i64 (n:Int)
 | 4=>∃ g,u 21=.slice (some ⟨g,0,none⟩) n n/\(T 4).1<=g/\g<(T 4).2/\g≠b/\Mine [g] w (.slice (some ⟨g,0,none⟩) n n) (za5 (List.replicate n 0))
 | 5=>u 22=.int .i64 (n:Int)
 | 6=>∃ g,u 23=.slice (some ⟨g,0,none⟩) n n/\(T 6).1<=g/\g<(T 6).2/\g≠b/\Mine [g] w (.slice (some ⟨g,0,none⟩) n n) (za5 (List.replicate n 0))
 | 7=>u 24=.int .i64 (n:Int)
 | 8=>∃ g,u 25=.slice (some ⟨g,0,none⟩) n n/\(T 8).1<=g/\g<(T 8).2/\g≠b/\Mine [g] w (.slice (some ⟨g,0,none⟩) n n) (za5 (List.replicate n 0))
 | 9=>u 26=.pointer (some ⟨b,0,none⟩)
 | 10=>u 27=.pointer (some ⟨b,0+6,none⟩)
 | 11=>∃ cs,Blk b e w cs/\cs[6]?=some (u 21)
 | 12=>u 28=.pointer (some ⟨b,0,none⟩)
 | 13=>u 29=.pointer (some ⟨b,0+7,none⟩)
 | 14=>∃ cs,Blk b e w cs/\cs[7]?=some (u 23)
 | 15=>u 30=.pointer (some ⟨b,0,none⟩)
 | 16=>u 31=.pointer (some ⟨b,0+8,none⟩)
 | 17=>∃ cs,Blk b e w cs/\cs[8]?=some (u 25)
 | _=>True
section
variable {b e n:Nat} {w w':wD}
def fcR.sz {j:Nat} (h:fcR b e j w w'):w.heap.size<=w'.heap.size:=by
 rcases h with ⟨_,h,_⟩ | ⟨_,h⟩
 . exact h.size
 exact h.size
def fcR.chg {j:Nat} (h:fcR b e j w w'):ChgI b (b+1) w w':=by
 rcases h with ⟨_,h,_⟩ | ⟨_,h⟩
 . exact h
 exact h.toI
def fcR.mine {j g:Nat} {l:List Int} {v:vL} (h:fcR b e j w w') (hg:g≠b) (hm:Mine [g] w v l):Mine [g] w' v l:=hm.keep λx hx=>by
 simp only [qaa,qad,qaq] at hx;subst hx;exact h.chg.block x (hm.lt x sS) oo
def fcR.cell {j:Nat} {u:vL} {k:Nat} (h:fcR b e j w w') (g0:zFS j->zwQ j≠k) (hc:∃ cs,Blk b e w cs/\cs[k]?=some u):∃ cs,Blk b e w' cs/\cs[k]?=some u:=by
 obtain ⟨cs,hB,hk⟩:=hc;rcases h with ⟨hs,_,h⟩ | ⟨_,h⟩
 . obtain ⟨_,hv⟩:=h cs hB;exact ⟨_,hv,by rw [List.getElem?_set_ne (g0 hs)];exact hk⟩
 exact ⟨cs,hB.ext h,hk⟩
def fcB.step {W:wD} {hd:List vL} {t9 g0:vL} {j:Nat} (h6:hd.length=6) (h:fcB W b e hd t9 g0 w) (hR:fcR b e j w w'):fcB W b e hd t9 g0 w':=by
 obtain ⟨hc,x6,x7,x8,hB⟩:=h;refine ⟨hc.trans hR.chg,?_⟩;rcases hR with ⟨hs,_,hR⟩ | ⟨_,hR⟩
 . obtain ⟨v,hv⟩:=hR _ hB;rcases hs with rfl | rfl | rfl
   . refine ⟨v,x7,x8,?_⟩;rw [qbb _ _ (by rw [h6];decide),h6] at hv;exact hv
   . refine ⟨x6,v,x8,?_⟩;rw [qbb _ _ (by rw [h6];decide),h6] at hv;exact hv
   refine ⟨x6,x7,v,?_⟩;rw [qbb _ _ (by rw [h6];decide),h6] at hv;exact hv
 exact ⟨x6,x7,x8,hB.ext hR⟩
def fcR.ext {j:Nat} (hj:¬zFS j) (hx:Ext w w'):fcR b e j w w':=.inr ⟨hj,hx⟩
end
def zql {b e n j:Nat} {t9 g1:vL} {K:wD->Prop} (hs:zFS j) (h6:hd.length=6) (hB:fcB W b e hd t9 g1 w) (k:∀ w',fcR b e j w w'->(∃ cs,Blk b e w' cs/\cs[zwQ j]?=some (.slice (some ⟨g,0,none⟩) n n))->K w') :
   OPU tp (Instr.storeAt 25 (.pointer (some ⟨b,0+zwQ j,none⟩)) (.slice (some ⟨g,0,none⟩) n n)) w K:=by
 obtain ⟨_,x6,x7,x8,hB⟩:=hB
 have g0:zwQ j<(hd++[x6,x7,x8,t9,g1]).length:=by
   rw [qag,h6];show zwQ j<11;rcases hs with rfl | rfl | rfl<;>decide
 rw [qa7];refine za3 (α:=Raw) (lo:=0) (hi:=0) zaS rfl rfl hB g0 (zdq rfl) λw2 g3 g2=>?_
 have hR:fcR b e j w w2:=.inl ⟨hs,g3,λcs g4=>by
   have:=hB.uniq g4;subst this;exact ⟨_,g2⟩⟩
 exact k w2 hR ⟨_,g2,by rw [List.getElem?_set_self g0]⟩
def zFn (l:List Int):(orL C l).testBit r=true↔∃ x∈l,(zaE C x.toNat).testBit r=true:=by
 have g0:∀ (l:List Int) (a:Nat),(l.foldl (λa i=>a ||| C.getD i.toNat 0) a).testBit r=true↔a.testBit r=true\/∃ x∈l,(zaE C x.toNat).testBit r=true:=λl=>by
   induction l with
   | nil=>simp
   | cons i l ih=>
     intro a;rw [qbt,ih,qaV,qaR,or_assoc];refine or_congr Iff.rfl ?_;simp only [qaa,exists_eq_or_imp];exact Iff.rfl
 have:=g0 l 0;simpa [orL] using this
def zj6 (hm:m<2^n) (hn:n<=62):(orL g0 (zby m)).testBit r=true↔∃ i,i<n/\m.testBit i=true/\(zaE g0 i).testBit r=true:=by
 rw [zFn,zjQ hm oo];constructor
 . rintro ⟨_,hx,h⟩;obtain ⟨i,h1,rfl,h3⟩:=zd3.1 hx;exact ⟨i,h1,h3,by simpa using h⟩
 rintro ⟨i,h1,h2,h3⟩;exact ⟨(i:Int),zd3.2 ⟨i,h1,rfl,h2⟩,by simpa using h3⟩
def ztO (h:∀ r,m.testBit r=true->r<n):m<2^n:=qcP _ λi hi=>by
 cases e:m.testBit i
 . rfl
 have:=h i e;omega
abbrev sl (g n:Nat):vL:=.slice (some ⟨g,0,none⟩) n n
structure FC (W0 w:wD) (b e:Nat) (c:DCode) (kc:List vL) (m g6 g7 g8:Nat) (c6 c7 c8:List Nat) (x9 x10:vL):Prop where
 wb:WB W0 w b e c kc m (sl g6 c.procs.length) (sl g7 c.procs.length) (sl g8 c.procs.length) x9 x10
 m6:Mine [g6] w (sl g6 c.procs.length) (za5 c6)
 m7:Mine [g7] w (sl g7 c.procs.length) (za5 c7)
 m8:Mine [g8] w (sl g8 c.procs.length) (za5 c8)
 n6:W0.heap.size<=g6/\g6≠b/\g6≠m
 n7:W0.heap.size<=g7/\g7≠b/\g7≠m
 n8:W0.heap.size<=g8/\g8≠b/\g8≠m
 d67:g6≠g7
 d68:g6≠g8
 d78:g7≠g8
section
variable {W0 w w':wD} {b e m g6 g7 g8:Nat} {c:DCode} {kc:List vL} {c6 c7 c8:List Nat} {x9 x10:vL}
def zfv {F:List Nat} {g:Nat} {v:vL} {l:List Int} (hm:Mine [g] w v l) (hc:Chg F w w') (hg:g∉F):Mine [g] w' v l:=hm.keep λx hx=>by
 simp only [qaa,qad,qaq] at hx;subst hx;exact hc.block x (hm.lt x sS) hg
def FC.step (h:FC W0 w b e c kc m g6 g7 g8 c6 c7 c8 x9 x10) (hx:Ext w w'):FC W0 w' b e c kc m g6 g7 g8 c6 c7 c8 x9 x10:=⟨h.wb.step hx,h.m6.ext hx,h.m7.ext hx,h.m8.ext hx,h.n6,h.n7,h.n8,h.d67,h.d68,h.d78⟩
def FC.set6 {i v:Nat} (h:FC W0 w b e c kc m g6 g7 g8 c6 c7 c8 x9 x10) (hc:Chg [g6] w w') (hm:Mine [g6] w' (sl g6 c.procs.length) ((za5 c6).set i (v:Int))):FC W0 w' b e c kc m g6 g7 g8 (c6.set i v) c7 c8 x9 x10:=
 ⟨h.wb.chg hc (by simp [h.n6]),by rw [zid];exact hm,zfv h.m7 hc (by simp [Ne.symm h.d67]),zfv h.m8 hc (by simp [Ne.symm h.d68]),h.n6,h.n7,h.n8,h.d67,h.d68,h.d78⟩
def FC.set7 {i v:Nat} (h:FC W0 w b e c kc m g6 g7 g8 c6 c7 c8 x9 x10) (hc:Chg [g7] w w') (hm:Mine [g7] w' (sl g7 c.procs.length) ((za5 c7).set i (v:Int))):FC W0 w' b e c kc m g6 g7 g8 c6 (c7.set i v) c8 x9 x10:=
 ⟨h.wb.chg hc (by simp [h.n7]),zfv h.m6 hc (by simp [h.d67]),by rw [zid];exact hm,zfv h.m8 hc (by simp [Ne.symm h.d78]),h.n6,h.n7,h.n8,h.d67,h.d68,h.d78⟩
def FC.set8 {i v:Nat} (h:FC W0 w b e c kc m g6 g7 g8 c6 c7 c8 x9 x10) (hc:Chg [g8] w w') (hm:Mine [g8] w' (sl g8 c.procs.length) ((za5 c8).set i (v:Int))):FC W0 w' b e c kc m g6 g7 g8 c6 c7 (c8.set i v) x9 x10:=
 ⟨h.wb.chg hc (by simp [h.n8]),zfv h.m6 hc (by simp [h.d68]),zfv h.m7 hc (by simp [h.d78]),by rw [zid];exact hm,h.n6,h.n7,h.n8,h.d67,h.d68,h.d78⟩
end
def WB.ins {b e m:Nat} (h:WB W0 w b e c kc m x6 x7 x8 x9 x10):∃ v,(kc++[Value.slice (some ⟨m,0,none⟩) c.ins.length c.ins.length,x6,x7,x8,x9,x10])[0+0+4]?=some v/\Is W0 v c.ins:=by
 obtain ⟨_,hr⟩:=h.code;obtain ⟨_,_,_,_,_,_,_,_,_,_,rfl,rfl,⟨_,_,_,_,rfl,_⟩,⟨_,_,_,_,rfl,_⟩,⟨_,_,_,_,rfl,_⟩,⟨_,_,_,_,rfl,_⟩,g1⟩:=zqU hr;have g0:=g1;obtain ⟨_,_,_,_,rfl,_⟩:=g1;exact ⟨_,rfl,_,_,g0,rfl⟩
def fcD (c:DCode) (op:Int) (p:Nat) (M:List Nat) (j:Nat):Nat->Nat->Prop:=λq r=>(q<p/\zow c q op r)\/(q=p/\∃ i∈M.take j,(zal c i).op=op/\agN c i=r)
def zDU (g0:∀ x,x∈M.take (j+1)↔x∈M.take j\/x=i) (hn:¬(zal c i).op=op) (q r:Nat):fcD c op p M j q r↔fcD c op p M (j+1) q r:=by
 unfold fcD;refine or_congr Iff.rfl (and_congr Iff.rfl ?_);constructor
 . rintro ⟨x,hx,h⟩;exact ⟨x,(g0 x).2 (.inl hx),h⟩
 rintro ⟨x,hx,h⟩;rcases (g0 x).1 hx with hx | rfl
 . exact ⟨x,hx,h⟩
 exact absurd h.1 hn
def zAd (g0:∀ x,x∈M.take (j+1)↔x∈M.take j\/x=i) (hy:(zal c i).op=op) (q r:Nat):fcD c op p M (j+1) q r↔fcD c op p M j q r\/(q=p/\r=agN c i):=by
 unfold fcD;constructor
 . rintro (h | ⟨h1,x,hx,h⟩)
   . exact .inl (.inl h)
   rcases (g0 x).1 hx with hx | rfl
   . exact .inl (.inr ⟨h1,x,hx,h⟩)
   exact .inr ⟨h1,h.2.symm⟩
 rintro ((h | ⟨h1,x,hx,h⟩) | ⟨h1,h2⟩)
 . exact .inl h
 . exact .inr ⟨h1,x,(g0 x).2 (.inl hx),h⟩
 exact .inr ⟨h1,i,(g0 i).2 (.inr rfl),hy,h2.symm⟩
def zAe (hc:CodeR c) {op:Int} (hop:op=4\/op=5) {p:Nat} {M:List Nat} (hp:p<c.procs.length) (hM:∀ i,i∈M↔za4 c p i) (q r:Nat):fcD c op p M M.length q r↔fcD c op (p+1) [] 0 q r:=by
 have g1:(∃ i∈M.take M.length,(zal c i).op=op/\agN c i=r)↔zow c p op r:=by
   rw [qaB];constructor
   . rintro ⟨i,hi,h1,h2⟩;have hl:=(hM i).1 hi;have g0:=(zcF hc (by rw [hc.2.1.1];exact hp) hl).1;exact ⟨i,g0,hl,h1,by rw [(zbS hc g0 oo).1,h2]⟩
   rintro ⟨i,g0,hl,h1,h2⟩;have:=(zbS hc g0 oo).1;exact ⟨i,(hM i).2 hl,h1,oo⟩
 unfold fcD;constructor
 . rintro (h | ⟨rfl,h⟩)
   . exact .inl ⟨oo,h.2⟩
   exact .inl ⟨oo,g1.1 h⟩
 rintro (⟨h1,h2⟩ | ⟨_,_,hx,_⟩)
 . by_cases e:q=p
   . subst e;exact .inr ⟨rfl,g1.2 h2⟩
   exact .inl ⟨oo,h2⟩
 simp at hx
def zAf (q r:Nat):fcD c op p [] 0 q r↔fcD c op p M 0 q r:=by
 unfold fcD;simp
def CS.done (h:CS c out (fcD c op c.procs.length [] 0)):out=cls c op:=
 CS.eq_cls (op:=op) (h.mono λq r hq hr=>by unfold fcD;simp [hq])
structure UM (c:DCode) (p m:Nat):Prop where
 lt:m<2^c.procs.length
 self:m.testBit p=true
 snd:∀ r,m.testBit r=true->FromP c p r
def UM.start (hp:p<c.procs.length):UM c p (2^p):=⟨qaT oo hp,by simp [qaN],λr hr=>by simp [qaN] at hr;exact .inl hr.symm⟩
def zkT (hq:q<c.procs.length):(zaE (cls c op) q).testBit r=true↔r<c.procs.length/\zow c q op r:=by rw [zDG hq,za6]
def UM.more (h8:c.procs.length<=8) {p m:Nat} (h:UM c p m):UM c p (m ||| orL (cls c 4) (zby m)):=by
 have hb:∀ r,(orL (cls c 4) (zby m)).testBit r=true->∃ i,i<c.procs.length/\m.testBit i=true/\r<c.procs.length/\zow c i 4 r:=λr hr=>by
   obtain ⟨i,h1,h2,h3⟩:=(zj6 h.lt oo).1 hr;exact ⟨i,h1,h2,(zkT h1).1 h3⟩
 refine ⟨qa2 h.lt (ztO λr hr=>by obtain ⟨i,_,_,h3,_⟩:=hb r hr;exact h3),by rw [qaV,h.self];rfl,λr hr=>?_⟩;rw [qaV,qaR] at hr;rcases hr with hr | hr
 . exact h.snd r hr
 obtain ⟨i,h1,h2,h3,h4⟩:=hb r hr;exact (h.snd i h2).call h3 h4
def UM.fin (h8:c.procs.length<=8) {p m:Nat} (h:UM c p m) (he:m ||| orL (cls c 4) (zby m)=m):m=zc0 (FromP c p) c.procs.length:=by
 have g0:∀ r,m.testBit r=true->r<c.procs.length:=λr hr=>qbf λ_=>by
   have:=qbs (qap h.lt (qaE oo (by omega:c.procs.length<=r)));rw [this] at hr;cases hr
 refine zeP λr=>⟨λhr=>⟨g0 r hr,h.snd r hr⟩,λ⟨_,hf⟩=>?_⟩
 have step:∀ i j,m.testBit i=true->j∈zrN c i->m.testBit j=true:=λi j hi hj=>by
   obtain ⟨g1,g2⟩:=zaI.1 hj;rw [<-he,qaV,(zj6 h.lt oo).2 ⟨i,g0 i hi,hi,(zkT (g0 i hi)).2 ⟨g1,g2⟩⟩];simp
 rcases hf with rfl | hf
 . exact h.self
 exact hf.keeps (p:=λi=>m.testBit i=true) h.self step
def zvA (h8:c.procs.length<=8) (op:Int):∀ x∈cls c op,x<256:=λx hx=>by
 obtain ⟨q,_,rfl⟩:=qa3.1 hx;exact zbu h8
def zGS (h8:c.procs.length<=8):∀ x∈frs c,x<256:=λx hx=>by
 obtain ⟨q,_,rfl⟩:=qa3.1 hx;exact zbu h8
def zsk {b e m:Nat} (H:WB W0 w b e c kc m x6 x7 x8 x9 x10) (hc:CodeR c) :
   CALL tp 71 [.pointer (some ⟨b,0,none⟩)] w λr w'=>r=.tuple #[]/\∃ g6 g7 g8,FC W0 w' b e c kc m g6 g7 g8 (cls c 4) (cls c 5) (frs c) x9 x10:=by
 refine co (g:=⟨extL,[(11,295143401579725455360,[])],[(3,77371252455336258591260776,[33]),(6,38685626227667034078969952,[40]),(16,20769187279396805603449450954491776,[87]),(20,81119734894292398653589812152064,[8,9])],[(10,[0,1,2,3,4,5,6,7,8,9,10,11,12,13],0),(12,[0,1,2,3,4,5,6,7,8,9,10,11,12,13],0)],[],[],[(1,4294836224)]⟩) Tryz.func71 ?_;have h8:=hc.1.procs8;have hD:=hc.f.ins;refine NIL.mk rfl<|zaa zbf<|zaa zdl<|zab zdt (zbd H.code_at) (xrf _) λ_ hF=>zae u24 hF ?_;have U:=zag w;have H1:=H.step U;have h6:(kc++[sl m c.ins.length]).length=6:=by rw [qag,H.k5];rfl
 have gW:fcB (World.drew1 w) b e (kc++[sl m c.ins.length]) x9 x10 (World.drew1 w):=⟨ChgI.refl _,x6,x7,x8,by rw [qaw];exact H1.blk⟩;have hbl:=H1.blk.lt;have hsd:(World.drew1 w).heap.size=w.heap.size:=rfl;refine GPAR.mk (fcB (World.drew1 w) b e (kc++[sl m c.ins.length]) x9 x10) (fcR b e) (fcQ b e c.procs.length) gW (λj w1 w2 h1 h2=>h1.step h6 h2) (λj w1 w2 h=>h.sz) ?_ ?_ ?_
 . intro i j u u' T _ _ wb Y _ hR hd hq
   match i,Y,hd,hq with
   | 0,_,hd,hq=>exact (hd (0,17) qd).1.trans hq
   | 1,_,hd,hq=>exact (hd (1,18) qd).1.trans hq
   | 2,_,hd,hq=>exact (hd (2,19) qd).1.trans hq
   | 3,_,hd,hq=>exact (hd (3,20) qd).1.trans hq
   | 4,_,hd,⟨g,q1,q2,q3,q4,q5⟩=>
     obtain ⟨e1,e2⟩:=hd (4,21) qd;simp only at e1 e2;exact ⟨g,e1.trans q1,by rw [e2];exact q2,by rw [e2];exact q3,q4,hR.mine q4 q5⟩
   | 5,_,hd,hq=>exact (hd (5,22) qd).1.trans hq
   | 6,_,hd,⟨g,q1,q2,q3,q4,q5⟩=>
     obtain ⟨e1,e2⟩:=hd (6,23) qd;simp only at e1 e2;exact ⟨g,e1.trans q1,by rw [e2];exact q2,by rw [e2];exact q3,q4,hR.mine q4 q5⟩
   | 7,_,hd,hq=>exact (hd (7,24) qd).1.trans hq
   | 8,_,hd,⟨g,q1,q2,q3,q4,q5⟩=>
     obtain ⟨e1,e2⟩:=hd (8,25) qd;simp only at e1 e2;exact ⟨g,e1.trans q1,by rw [e2];exact q2,by rw [e2];exact q3,q4,hR.mine q4 q5⟩
   | 9,_,hd,hq=>exact (hd (9,26) qd).1.trans hq
   | 10,_,hd,hq=>exact (hd (10,27) qd).1.trans hq
   | 11,Y,hd,hq=>
     have e1:=(hd (4,21) qd).1;simp only at e1;show ∃ cs,Blk b e wb cs/\cs[6]?=some (u' 21);rw [e1];exact hR.cell (λhs=>by rcases hs with rfl | rfl | rfl<;>first | exact absurd rfl Y | decide) hq
   | 12,_,hd,hq=>exact (hd (12,28) qd).1.trans hq
   | 13,_,hd,hq=>exact (hd (13,29) qd).1.trans hq
   | 14,Y,hd,hq=>
     have e1:=(hd (6,23) qd).1;simp only at e1;show ∃ cs,Blk b e wb cs/\cs[7]?=some (u' 23);rw [e1];exact hR.cell (λhs=>by rcases hs with rfl | rfl | rfl<;>first | exact absurd rfl Y | decide) hq
   | 15,_,hd,hq=>exact (hd (15,30) qd).1.trans hq
   | 16,_,hd,hq=>exact (hd (16,31) qd).1.trans hq
   | 17,Y,hd,hq=>
     have e1:=(hd (8,25) qd).1;simp only at e1;show ∃ cs,Blk b e wb cs/\cs[8]?=some (u' 25);rw [e1];exact hR.cell (λhs=>by rcases hs with rfl | rfl | rfl<;>first | exact absurd rfl Y | decide) hq
   | n+18,_,_,_=>trivial
 . have nf:∀ j,j≠11->j≠14->j≠17->¬zFS j:=λj _ b _ h=>by rcases h with h | h | h<;>contradiction
   refine ⟨?_,?_,?_,?_,?_,?_,?_,?_,?_,?_,?_,?_,?_,?_,?_,?_,?_,?_,trivial⟩
   . exact λu T w' hB hs _ _=>⟨.ext (nf _ qd qd qd) (xrf _),rfl⟩
   . exact λu T w' hB hs _ _=>⟨.ext (nf _ qd qd qd) (xrf _),rfl⟩
   . exact λu T w' hB hs _ _=>⟨.ext (nf _ qd qd qd) (xrf _),rfl⟩
   . exact λu T w' hB hs _ _=>⟨.ext (nf _ qd qd qd) (xrf _),rfl⟩
   . intro u T w' hB hs _ hp;have q2:u 20=_:=hp.1;rw [q2];exact zft h8.2 oo λw4 Z r=>⟨.ext (nf _ qd qd qd) Z,_,rfl,lr _,r.lt _ (qaK.2 rfl),by obtain ⟨_,_,_,_,hb⟩:=hB;have:=hb.lt;omega,r⟩
   . exact λu T w' hB hs _ _=>⟨.ext (nf _ qd qd qd) (xrf _),rfl⟩
   . intro u T w' hB hs _ hp;have q2:u 22=_:=hp.1;rw [q2];exact zft h8.2 oo λw4 Z r=>⟨.ext (nf _ qd qd qd) Z,_,rfl,lr _,r.lt _ (qaK.2 rfl),by obtain ⟨_,_,_,_,hb⟩:=hB;have:=hb.lt;omega,r⟩
   . exact λu T w' hB hs _ _=>⟨.ext (nf _ qd qd qd) (xrf _),rfl⟩
   . intro u T w' hB hs _ hp;have q2:u 24=_:=hp.1;rw [q2];exact zft h8.2 oo λw4 Z r=>⟨.ext (nf _ qd qd qd) Z,_,rfl,lr _,r.lt _ (qaK.2 rfl),by obtain ⟨_,_,_,_,hb⟩:=hB;have:=hb.lt;omega,r⟩
   . intro u T w' hB hs _ hp;have q:u 17=_:=hp.1;rw [q];exact NIL.mk rfl ⟨.ext (nf _ qd qd qd) (xrf _),rfl⟩
   . intro u T w' hB hs _ hp;have q:u 26=_:=hp.1;rw [q];exact zaa zpj ⟨.ext (nf _ qd qd qd) (xrf _),rfl⟩
   . intro u T w' hB hs _ hp;have q:u 27=_:=hp.1;obtain ⟨g,q1,_⟩:=hp.2.1;rw [q,q1];refine zql (j:=11) (.inl rfl) h6 hB λw2 hR hQ=>⟨hR,?_⟩;show ∃ cs,Blk b e w2 cs/\cs[6]?=some (u 21);rw [q1];exact hQ
   . intro u T w' hB hs _ hp;have q:u 18=_:=hp.1;rw [q];exact NIL.mk rfl ⟨.ext (nf _ qd qd qd) (xrf _),rfl⟩
   . intro u T w' hB hs _ hp;have q:u 28=_:=hp.1;rw [q];exact zaa zs5 ⟨.ext (nf _ qd qd qd) (xrf _),rfl⟩
   . intro u T w' hB hs _ hp;have q:u 29=_:=hp.1;obtain ⟨g,q1,_⟩:=hp.2.1;rw [q,q1];refine zql (j:=14) (.inr (.inl rfl)) h6 hB λw2 hR hQ=>⟨hR,?_⟩;show ∃ cs,Blk b e w2 cs/\cs[7]?=some (u 23);rw [q1];exact hQ
   . intro u T w' hB hs _ hp;have q:u 19=_:=hp.1;rw [q];exact NIL.mk rfl ⟨.ext (nf _ qd qd qd) (xrf _),rfl⟩
   . intro u T w' hB hs _ hp;have q:u 30=_:=hp.1;rw [q];exact zaa zlZ ⟨.ext (nf _ qd qd qd) (xrf _),rfl⟩
   intro u T w' hB hs _ hp;have q:u 31=_:=hp.1;obtain ⟨g,q1,_⟩:=hp.2.1;rw [q,q1];refine zql (j:=17) (.inr (.inr rfl)) h6 hB λw2 hR hQ=>⟨hR,?_⟩;show ∃ cs,Blk b e w2 cs/\cs[8]?=some (u 25);rw [q1];exact hQ
 rintro u T w2 hB hs g0 ⟨-,-,-,-,⟨g6,hG,_,_,hH,hI⟩,-,⟨g7,hJ,_,_,hK,hL⟩,-,⟨g8,hN,_,_,hO,hP⟩,-,-,⟨_,gX,gb⟩,-,-,⟨_,gY,gz⟩,-,-,⟨_,gZ,g1⟩,-⟩;have t4:=g0.1 4 qd;have t6:=g0.1 6 qd;have t8:=g0.1 8 qd;have hS:=g0.2 4 qd 6 qd qd;have hV:=g0.2 4 qd 8 qd qd;have hW:=g0.2 6 qd 8 qd qd;obtain ⟨h4,y6,y7,y8,g5⟩:=hB;have u6:=g5.uniq gX;have u7:=g5.uniq gY;have u8:=g5.uniq gZ;subst u6 u7 u8;rw [List.getElem?_append_right (by rw [h6];decide),h6,hG] at gb;rw [List.getElem?_append_right (by rw [h6];decide),h6,hJ] at gz;rw [List.getElem?_append_right (by rw [h6];decide),h6,hN] at g1;have e6:y6=sl g6 c.procs.length:=by simpa using gb
 have e7:y7=sl g7 c.procs.length:=by simpa using gz
 have e8:y8=sl g8 c.procs.length:=by simpa using g1
 subst e6 e7 e8;rw [qaw] at g5;have h5:=H1.cells h4 g5;have hml:=H1.live.lt m sS;have hb0:=H.b0;have h9:FC W0 w2 b e c kc m g6 g7 g8 (List.replicate c.procs.length 0) (List.replicate c.procs.length 0) (List.replicate c.procs.length 0) x9 x10:=⟨h5,hI,hL,hP,⟨oo,hH,oo⟩,⟨oo,hK,oo⟩,⟨oo,hO,oo⟩,oo,oo,oo⟩;clear gb gz g1 gX gY gZ g5 h5 h4 H1 gW g0 hS hV hW t4 t6 t8;have hz:∀ op,CS c (List.replicate c.procs.length 0) (fcD c op 0 [] 0):=λop=>CS.zero λq r h=>by unfold fcD at h;simp at h
 have hX:=hz 4;have hY:=hz 5;have hZ:(List.replicate c.procs.length 0).length=c.procs.length:=by simp
 refine zap c.procs.length (λk us w'=>∃ c6 c7,us=[.int .i64 (k:Int)]/\k<=c.procs.length/\FC W0 w' b e c kc m g6 g7 g8 c6 c7 (List.replicate c.procs.length 0) x9 x10/\CS c c6 (fcD c 4 k [] 0)/\CS c c7 (fcD c 5 k [] 0)) 0 (z0 _) ⟨_,_,rfl,z0 _,h9,hX,hY⟩ ?_;rintro p mk _ w3 ha ⟨c6,c7,hu,j0,g9,gr,gs⟩;try replace hu:=zbv hu
 rw [hu];refine zaf<|br (λ_=>?_) (λ_=>?_)
 . have hp:p<c.procs.length:=oo;have he:p<c.entry.length:=by rw [hc.2.1.1];exact hp
   refine (zhI g9.wb.wl (xrf _) hc hp).mono ?_;rintro hf w4 ⟨Z,hg⟩;have gc:=g9.step Z;have hM:∀ i,i∈zbK c.ins.length (za4 c p)↔za4 c p i:=λi=>by rw [zaI];exact ⟨λh=>h.2,λh=>⟨(zcF hc he h).1,h⟩⟩
   have hMl:(zbK c.ins.length (za4 c p)).length<=1500:=qat zbz hD;generalize zbK c.ins.length (za4 c p)=M at *;have hg6:=g9.m6.lt g6 sS;have hg7:=g9.m7.lt g7 sS;refine zae u25 hg.is ?_;rw [zah];refine zap M.length (λj us w'=>∃ c6 c7,us=[.int .i64 (j:Int)]/\j<=M.length/\FC W0 w' b e c kc m g6 g7 g8 c6 c7 (List.replicate c.procs.length 0) x9 x10/\CS c c6 (fcD c 4 p M j)/\CS c c7 (fcD c 5 p M j)/\OwnI w3.heap.size w4.heap.size w' hf (za5 M)) 0 (z0 _) ⟨c6,c7,rfl,z0 _,gc,gr.mono λq r _ _=>zAf q r,gs.mono λq r _ _=>zAf q r,hg.toI⟩ ?_;rintro j mj u5 w5 _ ⟨g2,X,hu,_,D,I,O,hh⟩;try replace hu:=zbv hu
   rw [hu];refine zaf<|br (λ_=>?_) (λ_=>?_)
   case refine_2=>
     have j1:j=M.length:=oo;rw [j1] at I O;refine zau<|⟨mk-1,oo,p+1,oo,g2,X,rfl,oo,D,I.mono λq r _ _=>zAe hc (.inl rfl) hp hM q r,O.mono λq r _ _=>zAe hc (.inr rfl) hp hM q r⟩
   have hj:j<M.length:=oo;refine zad u25 ty3 (i:=j) hh.is (by rw [zah];exact hj) λ_ _ hl=>?_;rw [za9] at hl;refine zac ty3 hl (xrf _) λ_=>?_;have gt:=λx=>zbG hj (x:=x);have j2:=(hM M[j]).1 (qac hj);generalize M[j]=i at *;have gC:=(zcF hc he j2).1;obtain ⟨_,j3,j4⟩:=D.wb.ins;refine NIL.mk rfl<|zaa zbf<|zaa zaY<|zan zdD D.wb.blk j3<|zad u26 zbm j4 gC λ_ _ hn=>?_;rw [zaG] at hn;refine zab zbm hn D.wb.ext λ_ hr=>zcP ziG rfl zbm rfl hr D.wb.ext λw6 gx ht hv=>?_;have g3:=D.step gx;have hw:=hh.ext gx;have gd:=zga hr hv rfl;have j5:=hv.lt;have gD:w5.heap.size≠g6:=by have:=D.m6.lt g6 sS;omega
   generalize w5.heap.size=gI at *;refine JOIN.mk (λus w'=>∃ c6',FC W0 w' b e c kc m g6 g7 g8 c6' X (List.replicate c.procs.length 0) x9 x10/\CS c c6' (fcD c 4 p M (j+1))/\OwnI w3.heap.size w4.heap.size w' hf (za5 M)/\AtB W0 w' gI 0 (zal c i)) ?_ ?_
   . refine zaa za8 ?_;refine zac ty3 (zay ht) (xrf _) λ_=>zai<|br (λc4=>?_) (λc4=>?_)
     . obtain ⟨gE,gf⟩:=zbS hc gC (.inl c4);have U:=zag w6;have gg:=g3.step U;have j6:=hw.ext U;have gF:=gd.ext U;have gG:gI<(World.drew1 w6).heap.size:=qap j5 U.size;generalize World.drew1 w6=w7 at *;have gh:p<g2.length:=by rw [I.1];exact hp
       refine NIL.mk rfl<|zaa zpj<|zan zaS gg.wb.blk (gg.wb.cell 1)<|zad u25 ty3 (i:=p) gg.m6.is (by rw [zah];exact gh) λb4 o4 gi=>?_;rw [zbk] at gi;refine zac ty3 gi (xrf _) λ_=>?_;have g4:=I.lt0 h8.1 hp;refine zaa zaZ<|zac ty3 (zat ht) U λ_=>?_;rw [gE];have gH:2^agN c i<256:=qap (qaT oo gf) (qaE (n:=2) oo h8.1);refine zcq kK u94 oo<|zeA oo<|zhk (m:=zaE g2 p) (n:=2^agN c i) oo oo ?_;have gJ:zaE g2 p ||| 2^agN c i<256:=qa2 (n:=8) g4 gH;refine zcU (α:=Int) rfl u25 ty3 hp<|zb5 (α:=Int) rfl ty3 gg.m6 (by rw [zah,I.1]) hp (zc5 (v:=zaE g2 p ||| 2^agN c i) oo) λ_ g1 j7=>?_;have j8:=gg.set6 (v:=zaE g2 p ||| 2^agN c i) g1 j7;exact ⟨_,j8,I.set hp gf λq r=>zAd gt c4 q r,j6.chgF g1 so,gF.keep (g1.block gI gG (by simp;exact gD))⟩
     exact ⟨g2,g3,I.mono λq r _ _=>zDU gt c4 q r,hw,gd⟩
   rintro _ w9 ⟨hx,gK,gj,hy,gM⟩;have gl:=gM.at gK.wb.ext;refine zaa za8<|zac ty3 (zay gl) (xrf _) λ_=>zai<|br (λc5=>?_) (λc5=>?_)
   . obtain ⟨gE,gf⟩:=zbS hc gC (.inr c5);have U:=zag w9;have V:=gK.step U;have gN:=hy.ext U;generalize World.drew1 w9=w10 at *;have gh:p<X.length:=by rw [O.1];exact hp
     refine NIL.mk rfl<|zaa zs5<|zan zaS V.wb.blk (V.wb.cell 2)<|zad u25 ty3 (i:=p) V.m7.is (by rw [zah];exact gh) λb4 o4 gi=>?_;rw [zbk] at gi;refine zac ty3 gi (xrf _) λ_=>?_;have g4:=O.lt0 h8.1 hp;refine zaa zaZ<|zac ty3 (zat gl) U λ_=>?_;rw [gE];have gH:2^agN c i<256:=qap (qaT oo gf) (qaE (n:=2) oo h8.1);refine zcq kK u94 oo<|zeA oo<|zhk (m:=zaE X p) (n:=2^agN c i) oo oo ?_;have gJ:zaE X p ||| 2^agN c i<256:=qa2 (n:=8) g4 gH;refine zcU (α:=Int) rfl u25 ty3 hp<|zb5 (α:=Int) rfl ty3 V.m7 (by rw [zah,O.1]) hp (zc5 (v:=zaE X p ||| 2^agN c i) oo) λ_ gp gO=>?_;have gP:=V.set7 (v:=zaE X p ||| 2^agN c i) gp gO;refine zau<|⟨mj-1,oo,j+1,oo,hx,_,rfl,oo,gP,gj,O.set hp gf λq r=>zAd gt c5 q r,gN.chgF gp so⟩
   refine zau<|⟨mj-1,oo,j+1,oo,hx,X,rfl,oo,gK,gj,O.mono λq r _ _=>zDU gt c5 q r,hy⟩
 have gQ:p=c.procs.length:=oo;rw [gQ] at gr gs;rw [gr.done,gs.done] at g9;clear gr gs h9 ha hu;have j9:CS c (List.replicate c.procs.length 0) (λq r=>q<0/\FromP c q r):=CS.zero λq r h=>oo;generalize List.replicate c.procs.length 0=c8 at *;refine zap c.procs.length (λk us w'=>∃ c8,us=[.int .i64 (k:Int)]/\k<=c.procs.length/\FC W0 w' b e c kc m g6 g7 g8 (cls c 4) (cls c 5) c8 x9 x10/\CS c c8 (λq r=>q<k/\FromP c q r)) 0 (z0 _) ⟨_,rfl,z0 _,g9,j9⟩ ?_;rintro k mk _ w4 ha ⟨gR,hu,j0,gc,C⟩;try replace hu:=zbv hu
 rw [hu];refine zaf<|br (λ_=>?_) (λ_=>?_)
 case refine_2=>
   have gQ:k=c.procs.length:=oo;rw [gQ] at C
   have:gR=frs c:=by
     refine qaU (by rw [C.1,zkL]) λi h1 h2=>?_;have hi:i<c.procs.length:=by rw [<-C.1];exact h1
     rw [zbn h1,zbn h2,zvg hi,C.2 i hi];exact zbE λr _=>⟨λh=>h.2,λh=>⟨hi,h⟩⟩
   rw [this] at gc;exact ⟨rfl,g6,g7,g8,gc⟩
 have hk:k<c.procs.length:=oo;refine zcq kK u94 oo<|zeA oo ?_;have hU:=UM.start (c:=c) hk;have ja:2^c.procs.length<=256:=qaE (n:=2) oo h8.1;refine LOOPI.mk (λmm us w'=>∃ (s:Nat) (ag:Bool),us=[.int .i64 (s:Int),.bool ag]/\mm=(256-s)+(if ag then 1 else 0)/\FC W0 w' b e c kc m g6 g7 g8 (cls c 4) (cls c 5) gR x9 x10/\UM c k s/\(ag=false->s=zc0 (FromP c k) c.procs.length)) (256-2^k+1) ⟨2^k,true,rfl,rfl,gc,hU,λe=>by cases e⟩ ?_;rintro mm u5 w5 ⟨s,ag,hu,hm,D,gy,gS⟩;obtain ⟨jb,jc⟩:=zcZ hu;rw [jb,jc];have gq:s<256:=qap gy.lt ja;refine zbX (λgU=>?_) (λgU=>?_)
 . rw [gU,qah rfl] at hm;refine NIL.mk rfl<|zaa zpj<|zan zaS D.wb.blk (D.wb.cell 1) ?_;refine (zic D.m6.is (xrf _) (zvA h8.1 4) (by rw [zhJ];exact h8.1) (m:=s) (by rw [zhJ];exact gy.lt)).mono ?_;rintro _ w6 ⟨gx,rfl⟩;have g3:=D.step gx;have gJ:=zvd (zvA h8.1 4) (zby s);have hC:=gy.more h8.1;have gV:=gy.fin h8.1;have jd:=λh=>zBP (m:=orL (cls c 4) (zby s)) (n:=s) h;refine zhk (m:=s) (n:=orL (cls c 4) (zby s)) oo oo ?_;have je:s ||| orL (cls c 4) (zby s)<256:=qa2 (n:=8) gq gJ;generalize s ||| orL (cls c 4) (zby s)=t at *;refine zaT ?_;by_cases hts:t=s
   . refine ⟨256-t,oo,t,_,rfl,?_,g3,hC,λ_=>by rw [hts];exact gV hts⟩;rw [hts];simp
   have hd:decide ((t:Int)≠(s:Int))=true:=decide_eq_true λh=>hts (qbo.1 h);have:=jd hts;rw [hd];exact ⟨256-t+1,oo,t,true,rfl,rfl,g3,hC,λe=>by cases e⟩
 have jf:=gS gU;have gh:k<gR.length:=by rw [C.1];exact hk
 refine NIL.mk rfl<|zaa zlZ<|zan zaS D.wb.blk (D.wb.cell 3)<|zcU (α:=Int) rfl u25 ty3 hk<|zb5 (α:=Int) rfl ty3 D.m8 (by rw [zah,C.1]) hk (zc5 (v:=s) oo) λw6 gb jg=>?_;have g3:=D.set8 (v:=s) gb jg;refine zau<|⟨mk-1,oo,k+1,oo,_,rfl,oo,g3,by simp [C.1],λq hq=>?_⟩;rw [zcj gh];split
 . rename_i e;subst e;rw [jf];exact zbE λr _=>⟨λh=>⟨oo,h⟩,λh=>h.2⟩
 rename_i e;rw [C.2 q hq];exact zbE λr _=>⟨λh=>⟨oo,h.2⟩,λh=>⟨oo,h.2⟩⟩
def zDV {g e o:Nat} (hB:Blk g e w cs) (ho:cs[o]?=some (.int .i64 x)) (hx:I64 x):At w g o x:=by
 refine ⟨[],[.int .i64 x],⟨rfl,rfl,hx⟩,λi _ hi=>?_⟩
 have:i=0:=by
   cases i with
   | zero=>rfl
   | succ i=>simp at hi
 subst this;simp only [List.getElem?_cons_zero,qao] at hi;subst hi;have:=hB.range o _ ho;rw [qa7] at this;exact this
section
variable {W0 w w':wD} {b e m g6 g7 g8:Nat} {c:DCode} {kc:List vL} {c6 c7 c8:List Nat} {x9 x10 y9 y10:vL}
def FC.cells (h:FC W0 w b e c kc m g6 g7 g8 c6 c7 c8 x9 x10) (hc:ChgI b (b+1) w w') (hB:Blk b e w' (kc++[.slice (some ⟨m,0,none⟩) c.ins.length c.ins.length,sl g6 c.procs.length,sl g7 c.procs.length,sl g8 c.procs.length,y9,y10])):FC W0 w' b e c kc m g6 g7 g8 c6 c7 c8 y9 y10:=
 ⟨h.wb.cells hc hB,zfv h.m6 hc.one (by simp [h.n6]),zfv h.m7 hc.one (by simp [h.n7]),zfv h.m8 hc.one (by simp [h.n8]),h.n6,h.n7,h.n8,h.d67,h.d68,h.d78⟩
def FC.store9 {x:Nat} {K:wD->Prop} (h:FC W0 w b e c kc m g6 g7 g8 c6 c7 c8 x9 x10) (k:∀ w',FC W0 w' b e c kc m g6 g7 g8 c6 c7 c8 (.int .i64 (x:Int)) x10->K w'):OPU tp (Instr.storeAt 3 (.pointer (some ⟨b,0+9,none⟩)) (.int .i64 (x:Int))) w K:=by
 have hl:9<(kc++[Value.slice (some ⟨m,0,none⟩) c.ins.length c.ins.length,sl g6 c.procs.length,sl g7 c.procs.length,sl g8 c.procs.length,x9,x10]).length:=by rw [qag,h.wb.k5];simp
 refine za3 (α:=Raw) (lo:=0) (hi:=0) ty3 rfl rfl h.wb.blk hl (zdq rfl) λw2 g1 g0=>?_;have:=h.wb.set 4 (.int .i64 (x:Int));rw [show 5+4=0+9 by omega] at this;rw [this] at g0;exact k w2 (h.cells g1 g0)
def FC.store10 {x:Nat} {K:wD->Prop} (h:FC W0 w b e c kc m g6 g7 g8 c6 c7 c8 x9 x10) (k:∀ w',FC W0 w' b e c kc m g6 g7 g8 c6 c7 c8 x9 (.int .i64 (x:Int))->K w'):OPU tp (Instr.storeAt 3 (.pointer (some ⟨b,0+10,none⟩)) (.int .i64 (x:Int))) w K:=by
 have hl:10<(kc++[Value.slice (some ⟨m,0,none⟩) c.ins.length c.ins.length,sl g6 c.procs.length,sl g7 c.procs.length,sl g8 c.procs.length,x9,x10]).length:=by rw [qag,h.wb.k5];simp
 refine za3 (α:=Raw) (lo:=0) (hi:=0) ty3 rfl rfl h.wb.blk hl (zdq rfl) λw2 g1 g0=>?_;have:=h.wb.set 5 (.int .i64 (x:Int));rw [show 5+5=0+10 by omega] at this;rw [this] at g0;exact k w2 (h.cells g1 g0)
end
def zi7 (hA:At w b 0 c) (hc:CodeR c) :
   CALL tp 130 [.pointer (some ⟨b,0,none⟩)] w λr w'=>Ext w w'/\r=.int .i64 (zdr c:Nat):=by
 refine co (g:=kf [] [] []) Tryz.func130 ?_;refine NIL.mk rfl<|zaa zbf<|zaa zdl<|zab zdt (zbd hA) (xrf _) λ_ g0=>?_;refine (zgT g0 (xrf _)).mono ?_;rintro _ _ ⟨g1,rfl⟩;have:=(zg5 hc).1;unfold zip at this;rw [this];exact ⟨g1,rfl⟩
structure RM (c:DCode) (r:Nat):Prop where
 lt:r<2^c.procs.length
 self:r.testBit (zdr c)=true
 snd:∀ q,r.testBit q=true->RootP c q
noncomputable def usR (c:DCode) (r:Nat):Nat:=orL (frs c) (zby r)
def ztP (hq:q<c.procs.length):(zaE (frs c) q).testBit r=true↔r<c.procs.length/\FromP c q r:=by rw [zvg hq,za6]
def zqm (h8:c.procs.length<=8) {r p:Nat} (h:RM c r):(usR c r).testBit p=true↔∃ q,q<c.procs.length/\r.testBit q=true/\p<c.procs.length/\FromP c q p:=by
 unfold usR;rw [zj6 h.lt oo];exact ⟨λ⟨i,h1,h2,h3⟩=>⟨i,h1,h2,(ztP h1).1 h3⟩,λ⟨i,h1,h2,h3⟩=>⟨i,h1,h2,(ztP h1).2 h3⟩⟩
def zDW (h8:c.procs.length<=8) {r:Nat} (h:RM c r):usR c r<2^c.procs.length:=ztO λp hp=>by
 obtain ⟨_,_,_,h3,_⟩:=(zqm h8 h).1 hp;exact h3
def RM.start (hc:CodeR c):RM c (2^zdr c):=⟨qaT oo (zg5 hc).2,by simp [qaN],λq hq=>by simp [qaN] at hq;exact hq▸.main⟩
def RM.more_bit (h8:c.procs.length<=8) {r q:Nat} (h:RM c r):(orL (cls c 5) (zby (usR c r))).testBit q=true↔∃ p,p<c.procs.length/\(usR c r).testBit p=true/\q<c.procs.length/\zow c p 5 q:=by
 rw [zj6 (zDW h8 h) oo];exact ⟨λ⟨i,h1,h2,h3⟩=>⟨i,h1,h2,(zkT h1).1 h3⟩,λ⟨i,h1,h2,h3⟩=>⟨i,h1,h2,(zkT h1).2 h3⟩⟩
def RM.more (h8:c.procs.length<=8) {r:Nat} (h:RM c r):RM c (r ||| orL (cls c 5) (zby (usR c r))):=by
 refine ⟨qa2 h.lt (ztO λq hq=>by obtain ⟨_,_,_,h3,_⟩:=(h.more_bit h8).1 hq;exact h3),by rw [qaV,h.self];rfl,λq hq=>?_⟩;rw [qaV,qaR] at hq;rcases hq with hq | hq
 . exact h.snd q hq
 obtain ⟨_,_,h2,h3,h4⟩:=(h.more_bit h8).1 hq;obtain ⟨s,_,h6,_,h7⟩:=(zqm h8 h).1 h2;exact .spawn (h.snd s h6) h7 h4 h3
def RM.fin (hc:CodeR c) (h8:c.procs.length<=8) {r:Nat} (h:RM c r) (he:r ||| orL (cls c 5) (zby (usR c r))=r):r=zdp c/\usR c r=zfg c:=by
 have g0:∀ q,RootP c q->r.testBit q=true:=λq hq=>by
   induction hq with
   | main=>exact h.self
   | @spawn s p q h0 h1 h2 hq ih=>
     have hs:=h0.lt hc;rw [<-he,qaV,(h.more_bit h8).2 ⟨p,h1.lt hs,(zqm h8 h).2 ⟨s,hs,ih,h1.lt hs,h1⟩,hq,h2⟩];simp
 refine ⟨zeP λq=>⟨λhq=>⟨(h.snd q hq).lt hc,h.snd q hq⟩,λhq=>g0 q hq.2⟩,zeP λp=>?_⟩;rw [zqm h8 h];constructor
 . rintro ⟨q,h1,h2,h3,h4⟩;exact ⟨h3,q,h.snd q h2,h4⟩
 rintro ⟨h3,q,h1,h2⟩;exact ⟨q,h1.lt hc,g0 q h1,h3,h2⟩
def zsl {b e m g6 g7 g8:Nat} (H:FC W0 w b e c kc m g6 g7 g8 (cls c 4) (cls c 5) (frs c) x9 x10) (hc:CodeR c) :
   CALL tp 72 [.pointer (some ⟨b,0,none⟩)] w λr w'=>r=.tuple #[]/\FC W0 w' b e c kc m g6 g7 g8 (cls c 4) (cls c 5) (frs c) (.int .i64 (zdp c:Nat)) (.int .i64 (zfg c:Nat)):=by
 refine co (g:=kf [] [(2,17179868700,[2,3])] [(4,[0,1,2,3,4,5,6,7,8,9,10,11],512)]) Tryz.func72 ?_;have h8:=hc.1.procs8;have:=(zg5 hc).2;refine (zi7 H.wb.code_at hc).mono ?_;rintro _ _ ⟨gc,rfl⟩;have H1:=H.step gc;refine zcq kK u94 oo<|zeA oo ?_;have hR:=RM.start hc;have g4:2^c.procs.length<=256:=qaE (n:=2) oo h8.1;refine LOOPI.mk (λmm us w'=>∃ (s:Nat) (ag:Bool) (y:vL),us=[.int .i64 (s:Int),.bool ag]/\mm=(256-s)+(if ag then 1 else 0)/\FC W0 w' b e c kc m g6 g7 g8 (cls c 4) (cls c 5) (frs c) x9 y/\RM c s/\(ag=false->s=zdp c/\y=.int .i64 (zfg c:Nat))) (256-2^zdr c+1) ⟨2^zdr c,true,x10,rfl,rfl,H1,hR,λe=>by cases e⟩ ?_;rintro mm _ _ ⟨s,ag,y,hu,hm,H2,C,g2⟩;obtain ⟨gd,gf⟩:=zcZ hu;rw [gd,gf];have g0:s<256:=qap C.lt g4;refine zbX (λg3=>?_) (λg3=>?_)
 . rw [g3,qah rfl] at hm;refine NIL.mk rfl<|zaa zlZ<|zan zaS H2.wb.blk (H2.wb.cell 3) ?_;refine (zic H2.m8.is (xrf _) (zGS h8.1) (by rw [zkL];exact h8.1) (m:=s) (by rw [zkL];exact C.lt)).mono ?_;rintro _ w3 ⟨gg,rfl⟩;have H3:=H2.step gg;have g5:=zDW h8.1 C;have:usR c s<256:=qap g5 g4;have gh:orL (frs c) (zby s)=usR c s:=rfl;rw [gh];refine NIL.mk rfl<|zaa ziD<|H3.store10 λw4 H4=>?_;have gi:=zag w4;have H5:=H4.step gi;generalize World.drew1 w4=w5 at *;refine NIL.mk rfl<|zaa zs5<|zan zaS H5.wb.blk (H5.wb.cell 2)<|NIL.mk rfl<|zaa ziD<|zan ty3 H5.wb.blk (H5.wb.cell 5) ?_;refine (zic H5.m7.is (xrf _) (zvA h8.1 5) (by rw [zhJ];exact h8.1) (m:=usR c s) (by rw [zhJ];exact g5)).mono ?_;rintro _ _ ⟨g9,rfl⟩;have H6:=H5.step g9;have gj:=zvd (zvA h8.1 5) (zby (usR c s));have gb:=C.more h8.1;have g1:=C.fin hc h8.1;have gl:=λh=>zBP (m:=orL (cls c 5) (zby (usR c s))) (n:=s) h;refine ⟨g9,?_⟩;refine zhk (m:=s) (n:=orL (cls c 5) (zby (usR c s))) oo oo ?_;have:s ||| orL (cls c 5) (zby (usR c s))<256:=qa2 (n:=8) g0 gj;generalize s ||| orL (cls c 5) (zby (usR c s))=t at *;refine zaT ?_;by_cases hts:t=s
   . refine ⟨256-t,oo,t,_,_,rfl,?_,H6,gb,λ_=>?_⟩
     . rw [hts];simp
     rw [(g1 hts).2];exact ⟨by rw [hts];exact (g1 hts).1,rfl⟩
   have hd:decide ((t:Int)≠(s:Int))=true:=decide_eq_true λh=>hts (qbo.1 h);have:=gl hts;rw [hd];exact ⟨256-t+1,oo,t,true,_,rfl,rfl,H6,gb,λe=>by cases e⟩
 obtain ⟨gp,gq⟩:=g2 g3;rw [gq] at H2;refine NIL.mk rfl<|zaa ziC<|H2.store9 λw3 H3=>?_;rw [gp] at H3;exact ⟨rfl,H3⟩
def FC.wat {b e m g6 g7 g8:Nat} (H:FC W0 w b e c kc m g6 g7 g8 (cls c 4) (cls c 5) (frs c) (.int .i64 (zdp c:Nat)) (.int .i64 (zfg c:Nat))) (h8:c.procs.length<=8):WAt w b c:=by
 have:zdp c<256:=zbu h8;have:zfg c<256:=zbu h8;exact ⟨H.wb.wl,zfR H.wb.blk (H.wb.cell 1) H.m6.is,zfR H.wb.blk (H.wb.cell 2) H.m7.is,zfR H.wb.blk (H.wb.cell 3) H.m8.is,zDV H.wb.blk (H.wb.cell 4) io,zDV H.wb.blk (H.wb.cell 5) io⟩
def zoQ (h0:Is W0 v0 c) (e0:Ext W0 w) :
   CALL tp 30 [v0] w λr w'=>Ext w w'/\((¬CodeR c/\r=.tuple #[.pointer none,.bool false])\/(CodeR c/\∃ b,r=.tuple #[.pointer (some ⟨b,0,none⟩),.bool true]/\WAt w' b c)):=by
 refine co (g:=kf [] [(5,274876858432,[20])] [(3,[0,1,2,3,4,5,6,7],16)]) Tryz.func30 ?_;refine zbp h0 e0 λ_ gl hA=>zab zbY hA (xrf _) λ_ h7=>?_;refine (zjt h7 (xrf _)).mono ?_;rintro _ w2 ⟨gp,rfl⟩;refine zav<|br (λhn=>?_) (λhy=>?_)
 . exact ⟨gl.t gp,.inl ⟨hn,rfl⟩⟩
 have hc:CodeR c:=qai.1 hy;have h8:=hc.1.procs8;have gq:=hc.f.ins;have hz0:=(zhe hc h8.2).2.2;have gH:=zag w2;have I:=gp.t gH;generalize World.drew1 w2=w3 at *;refine zab zbY hA I λ_ gI=>zaa zaY<|zab zdD (zam hA) I λ_ gJ=>zae u26 gJ<|zg3 oo oo λw4 gc gr=>?_;have hs4:=gc.size;have hm4:=gr.lt _ (qaK.2 rfl);generalize hm:w3.heap.size=m at *;have g1:=gI.ext I;have g0:=zoN g1;obtain ⟨F,kc,hr,gs⟩:=g1;obtain ⟨a0,a1,a2,a3,a4,n0,n1,n2,n3,n4,k0,k1,k2,k3,k4,g4⟩:=g0
 have gd:kc=[.slice a0 n0 k0,.slice a1 n1 k1,.slice a2 n2 k2,.slice a3 n3 k3,.slice a4 n4 k4]:=by
   rw [gs] at g4;have:(Value.agg kc.toArray)=.agg #[.slice a0 n0 k0,.slice a1 n1 k1,.slice a2 n2 k2,.slice a3 n3 k3,.slice a4 n4 k4]:=g4;simpa using this
 rw [g4];refine ⟨gc,?_⟩;refine zaF (cells:=#[.slice a0 n0 k0,.slice a1 n1 k1,.slice a2 n2 k2,.slice a3 n3 k3,.slice a4 n4 k4,sl m c.ins.length,.slice none 0 0,.slice none 0 0,.slice none 0 0,.int .i64 0,.int .i64 0]) kK<|zmn λw5 gt gx=>?_;have gf:Blk w4.heap.size 107 w5 (kc++[sl m c.ins.length,.slice none 0 0,.slice none 0 0,.slice none 0 0,.int .i64 0,.int .i64 0]):=by rw [gd];exact gx
 have gy:kc.length=5:=Rep.len hr;clear gx g4 gs;have gz:=gr.ext gt;have g2:Ext w3 w5:=gc.t gt;generalize hb:w4.heap.size=b at *;refine zaa zbq<|zab zaS (zaq hA) (I.t g2) λ_ g5=>?_;have g5:=g5.ext I;refine zae u25 g5 ?_;have gK:c.entry.length=c.procs.length:=hc.2.1.1;rw [gK];have g3:List.replicate c.ins.length false=zdQ c.ins.length (λi=>∃ p,p<0/\za4 c p i):=zgg _ λi ⟨p,h,_⟩=>oo;rw [g3] at gz;have C:∀ {x1 x2 x3 x4 x5:vL},(kc++[sl m c.ins.length,x1,x2,x3,x4,x5])[0+5]?=some (sl m c.ins.length):=by intros;rw [List.getElem?_append_right (by rw [gy];omega),gy];rfl
 refine zap c.procs.length (λk us w'=>us=[.int .i64 (k:Int)]/\k<=c.procs.length/\Ext w3 w'/\Blk b 107 w' (kc++[sl m c.ins.length,.slice none 0 0,.slice none 0 0,.slice none 0 0,.int .i64 0,.int .i64 0])/\Mine [m] w' (sl m c.ins.length) (zdQ c.ins.length λi=>∃ p,p<k/\za4 c p i)) 0 (z0 _) ⟨rfl,z0 _,g2,gf,gz⟩ ?_;rintro k mk _ w6 _ ⟨hu,_,gg,gh,gi⟩;try replace hu:=zbv hu
 rw [hu];refine zaf<|br (λ_=>?_) (λ_=>?_)
 . have hk:k<c.procs.length:=oo;have O:k<c.entry.length:=oo;obtain ⟨gM,g9,_⟩:=zhF hc O;refine zad u25 ty3 (i:=k) g5 O λ_ _ gC=>?_;rw [zbO O,gM] at gC;refine zac ty3 gC gg λ_=>NIL.mk rfl<|zaa zpi<|zan zef gh C<|zcU (α:=Bool) rfl zfU ty4 g9<|zb5 (α:=Bool) rfl ty4 gi zaM g9 zcx λw7 gD gN=>?_;have gb:=gh.chgF gD so;have gE:Ext w3 w7:=gg.chgF gD (by simp [hm])
   have D:∀ i,mkd ((zdQ c.ins.length λi=>∃ p,p<k/\za4 c p i).set (eN c k) true) i↔(i<c.ins.length/\∃ p,p<k/\za4 c p i)\/i=eN c k:=λi=>by
     rw [zdj (by rw [zaM];exact g9),zcs]
   have gO:((zdQ c.ins.length λi=>∃ p,p<k/\za4 c p i).set (eN c k) true).length=c.ins.length:=by rw [qaW,zaM]
   generalize (zdQ c.ins.length λi=>∃ p,p<k/\za4 c p i).set (eN c k) true=ms7 at *;refine NIL.mk rfl<|zaa zpi<|zan zef gb C ?_;have gP:KAt w3 w7 b c:=⟨F,kc,hr,zvz gb,gb.lt⟩;refine (zrJ gP gE hc rfl g9 gN gO oo oo ?_).mono ?_
   . intro i hi gQ j hj;rcases (D i).1 hi with ⟨h1,p,h2,h3⟩ | h
     . have gq:=zdn hc h1 hj;exact (D j).2 (.inl ⟨gq.1,p,h2,zzp h3 hj⟩)
     exact absurd h gQ
   rintro _ w8 ⟨rfl,gF,gG⟩
   have gj:(zdQ c.ins.length λi=>mkd ms7 i\/RP (zaA c) (eN c k) i)=zdQ c.ins.length λi=>∃ p,p<k+1/\za4 c p i:=zbW λi hi=>by
     rw [D];constructor
     . rintro ((⟨_,p,h2,h3⟩ | h) | h)
       . exact ⟨p,oo,h3⟩
       . exact ⟨k,oo,.inl h⟩
       exact ⟨k,oo,.inr h⟩
     rintro ⟨p,h2,h3⟩;by_cases e:p=k
     . subst e;rcases h3 with h3 | h3
       . exact .inl (.inr h3)
       exact .inr h3
     exact .inl (.inl ⟨hi,p,oo,h3⟩)
   rw [gj] at gG;refine zau<|⟨mk-1,oo,k+1,oo,rfl,oo,gE.chgI gF oo,gb.chgI gF oo,gG⟩
 have O:k=c.procs.length:=oo;have gR:(zdQ c.ins.length λi=>∃ p,p<k/\za4 c p i)=zdQ c.ins.length (zgh c):=by rw [O];rfl
 rw [gR] at gi;have HW:WB w3 w6 b 107 c kc m (.slice none 0 0) (.slice none 0 0) (.slice none 0 0) (.int .i64 0) (.int .i64 0):=⟨gg,gh,⟨F,hr⟩,gi,oo,oo,oo⟩;refine (zsk HW hc).mono ?_;rintro _ w7 ⟨rfl,_,_,_,H7⟩;refine (zsl H7 hc).mono ?_;rintro _ w8 ⟨rfl,H8⟩;exact ⟨gl.t (I.t H8.wb.ext),.inr ⟨hc,b,rfl,H8.wat h8.1⟩⟩
def zDX {a b d:Int} (ha:I64 a) (hb:I64 b) (hd:I64 d):Is w (.agg #[.int .i64 a,.int .i64 b,.int .i64 d]) (⟨a,b,d⟩:DOrder):=
 ⟨[],_,⟨[],[],[.int .i64 a],_,rfl,rfl,⟨rfl,rfl,ha⟩,⟨[],[],[.int .i64 b],_,rfl,rfl,⟨rfl,rfl,hb⟩,⟨rfl,rfl,hd⟩⟩⟩,rfl⟩
structure OI (wb w:wD) (out:vL) (L:List DOrder):Prop where
 ext:Ext wb w
 row:∃ lo hi,wb.heap.size<=lo/\hi<=w.heap.size/\RowI lo hi 168 w out L
def OI.step {out:vL} {L:List DOrder} (h:OI wb w out L) (hx:Ext w w'):OI wb w' out L:=by
 obtain ⟨lo,hi,h1,h2,hr⟩:=h.row;exact ⟨h.ext.trans hx,lo,hi,h1,qat h2 hx.size,hr.ext hx⟩
def OI.own {out:vL} {L:List DOrder} (h:OI wb w out L):Own wb.heap.size w out L:=by
 obtain ⟨_,_,_,_,hr⟩:=h.row;exact hr.own.own.mono oo
def zAg (hW:WAt W0 b c) (e0:Ext W0 w) (hc:CodeR c) :
   CALL tp 74 [.pointer (some ⟨b,0,none⟩)] w λr w'=>Ext w w'/\Own w.heap.size w' r (zfu c):=by
 refine co (g:=kf [] [(5,72057594035831520,[5,21]),(9,36024398972453408,[5,42])] []) Tryz.func74 ?_;have hil:=hc.f.ins;have g0:=hW.wl.code;refine (zDL hW e0 hc).mono ?_;rintro _ _ ⟨gl,gp⟩;refine (zGP hW (e0.t gl) gp.is (xrf _) hc).mono ?_;rintro _ w2 ⟨gq,gI⟩;have C:=gl.t gq;have gJ:=gp.is.ext gq;have gK:=gI.is;have gM:=C.size;refine NIL.mk rfl<|zaa zbf<|zaa zaY<|zab zdD (zam g0) (e0.t C) λ_ gr=>zae u26 gr ?_;have gs:(zi0 c).length=c.ins.length:=by unfold zi0;rw [zaM]
 have gN:=zB1 c;have gO:OI w2 w2 (.slice none 0 0) (zsN c 0):=⟨xrf _,w2.heap.size,w2.heap.size,lr _,qaz _,zb7 _ _ _ _⟩;refine zap c.ins.length (λk us w'=>∃ out,us=[out,.int .i64 (k:Int)]/\k<=c.ins.length/\OI w2 w' out (zsN c k)) 0 (z0 _) ⟨_,rfl,z0 _,gO⟩ ?_;rintro k mk _ w3 _ ⟨out,hu,_,I⟩;obtain ⟨gP,gQ⟩:=zcZ hu;rw [gP,gQ];have O:zsN c (k+1)=zsN c k++zxt c k:=zeT k;have gb:=gN k;refine zaf<|br (λ_=>?_) (λ_=>?_)
 case refine_2=>
   have gR:k=c.ins.length:=oo;rw [gR] at I gb;obtain ⟨lo,hi,h1,h2,hr⟩:=I.row;refine (zBZ hr.own oo).mono ?_;rintro _ w4 ⟨gS,gt⟩;rw [zz9 hc] at gt;exact ⟨(C.t I.ext).chgI gS oo,gt.own.mono oo⟩
 have hk:k<c.ins.length:=oo;refine zad u26 zbm gr hk λ_ _ gx=>?_;rw [zaG] at gx;refine zab zbm gx ((e0.t C).trans I.ext) λ_ gy=>zcP ziG rfl zbm rfl gy ((e0.t C).trans I.ext) λw4 gz gU gC=>?_;have U:=I.step gz;have hgl:w3.heap.size<w4.heap.size:=gC.lt;have gc:=zga gy gC rfl;have gV:=zce (ms:=zi0 c) (i:=k) (by rw [gs];exact hk)
 have g1:(zi0 c)[k]=true↔MetP c k:=by
   rw [<-gV];unfold zi0;rw [zcs];exact ⟨λh=>h.2,λh=>⟨oo,h⟩⟩
 refine zaa za8<|zac ty3 (zay gU) (xrf _) λ_=>zaT ?_
 have gD:¬(MetP c k/\(zal c k).op=6)->zsN c (k+1)=zsN c k:=λh=>by
   rw [O];unfold zxt;rw [qab h,qaF]
 refine br (λgW=>?_) (λgX=>?_)
 . refine zau ?_;exact ⟨mk-1,oo,k+1,oo,out,rfl,oo,by rw [gD λh=>gW h.2];exact U⟩
 have h6:(zal c k).op=6:=qai.1 gX;refine zad zfU ty4 (i:=k) gJ (by rw [gs];exact hk) λ_ _ gY=>zbi ty4 gY U.ext<|za2<|zbX (λhf=>?_) (λhf=>?_)
 . have gZ:¬MetP c k:=λh=>by rw [g1.2 h] at hf;cases hf
   refine zau<|⟨mk-1,oo,k+1,oo,out,rfl,oo,by rw [gD λh=>gZ h.1];exact U⟩
 have h4:MetP c k:=g1.1 (by simpa using hf);have h5:=(zdz hc hk (.inl h6)).1;have hA:zxt c k=(zby (zaE (zqD c) k)).map (zDT c k):=by unfold zxt;rw [qah ⟨h4,h6⟩]
 rw [hA] at O;refine zad u25 ty3 (i:=k) gK (by rw [zah,zlC];exact hk) λ_ _ gE=>?_;rw [zbk] at gE;refine zac ty3 gE U.ext λ_=>?_;have g2:=zep (zzw c) k;generalize hmm:zaE (zqD c) k=m at *;refine (zdR (m:=m) oo).mono ?_;rintro h8 w5 ⟨g4,gF⟩;have h9:=U.step g4;have ha:=zeQ m 64;have hbL:(zby m).length<=64:=ha;refine zae u25 gF.is ?_;obtain ⟨Fb,gG,hd⟩:=gF;have hs5:=g4.size;have hlb:=gG.lt;refine zap (zby m).length (λj us w'=>∃ out',us=[out',.int .i64 (j:Int)]/\j<=(zby m).length/\Ext w2 w'/\w5.heap.size<=w'.heap.size/\Mine Fb w' h8 (zby m)/\AtB W0 w' w3.heap.size 0 (zal c k)/\∃ lo hi,w2.heap.size<=lo/\hi<=w'.heap.size/\RowI lo hi 168 w' out' (zsN c k++((zby m).take j).map (zDT c k))/\(w3.heap.size<lo\/hi<=w3.heap.size)/\∀ b∈Fb,b<lo\/hi<=b) 0 (z0 _) ⟨out,rfl,z0 _,h9.ext,lr _,gG,gc.ext g4,?_⟩ ?_
 . obtain ⟨lo,hi,h1,h2,hr⟩:=I.row;refine ⟨lo,hi,h1,oo,by simpa using (hr.ext (gz.t g4)),.inr h2,λb hb=>.inr ?_⟩;have:=hd b hb;omega
 rintro j mj _ _ _ ⟨gd,he,_,D,_,g5,g3,lo,hi,h1,h2,gf,hg,gH⟩;obtain ⟨gg,gh⟩:=zcZ he;rw [gg,gh];refine zaf<|br (λ_=>?_) (λ_=>?_)
 case refine_2=>refine zau<|⟨mk-1,oo,k+1,oo,gd,rfl,oo,?_⟩;rw [O];rw [qaf oo] at gf;exact ⟨D,lo,hi,h1,h2,gf⟩
 have hj:j<(zby m).length:=oo;refine zad u25 ty3 (i:=j) g5.is hj λ_ _ hh=>zac ty3 hh (xrf _) λ_=>?_;have gi:=g3.at ((e0.t C).trans D);refine zaa zaZ<|zac ty3 (zat gi) (xrf _) λ_=>zaF (cells:=#[.int .i64 (zby m)[j],.int .i64 (zal c k).arg,.int .i64 (k:Int)]) kK ?_;obtain ⟨_,_,gj⟩:=(znk g2).1 (qac hj);have hl6:=zg4 g2 gj;have hW:zDT c k (zby m)[j]=⟨(zby m)[j],(zal c k).arg,k⟩:=by unfold zDT;rw [h5]
 have hl:=(zdz hc hk (.inl h6)).2.2
 have hn:(zsN c k++((zby m).take j).map (zDT c k)).length<=200000:=by
   simp only [qag,qaD,qaj];omega
 refine zek (x:=(⟨(zby m)[j],(zal c k).arg,k⟩:DOrder)) zDn zq4 zHK zGo qd gf (lo2:=0) (hi2:=0) (zf4 (zDX io io io)) (by rw [zaj];omega) oo λv' w' lo' hi' g9 hq _=>?_;have hs7:=g9.size;have hs:=D.size;refine zau<|⟨mj-1,oo,j+1,oo,v',rfl,oo,D.chgI g9 h1,oo,g5.keep λb hb=>?_,g3.keep ?_,lo',hi',oo,oo,?_,oo,λb hb=>?_⟩
 . exact g9.block b (g5.lt b hb) (gH b hb)
 . exact g9.block _ oo hg
 . rw [tk hj,qbx,<-qaw];simp only [qbI,qca];rw [hW];exact hq
 have:=gH b hb;have:=g5.lt b hb;omega
def zAh (h0:Is W0 v0 c) (e0:Ext W0 w) (hc:CodeR c) :
   CALL tp 150 [v0] w λr w'=>Ext w w'/\Own w.heap.size w' r (zfu c):=by
 refine co (g:=kf [] [(4,75557863725914323417320,[3,5]),(7,75557863725914323157192,[3,6]),(10,75557863725914289864840,[3,7])] []) Tryz.func150 ?_;have gt:=hc.f.ins;have gF:=hc.1.locks6;refine zbp h0 e0 λ_ gG hA=>zaD (α:=DOrder) zDn zq4 λa8 _ gc _=>?_;have g0:=gG.t gc;refine zab zbY hA gc λ_ h9=>?_;refine (zAc h9 gc hc).mono ?_;rintro _ w3 ⟨gx,_,rfl,gg,gh⟩;have g1:=g0.t gx;have V:=gc.t gx;have hs2:=g0.size;have gy:(zi0 c).length=c.ins.length:=by unfold zi0;rw [zaM]
 generalize hwb:w3=wb at *;have gH:OI wb wb (.slice (some a8) 0 0) ((List.range 0).flatMap (zj5 c)):=⟨xrf _,wb.heap.size,wb.heap.size,lr _,qaz _,zcd _ _ _ _ _⟩;refine zap c.locks.length (λk us w'=>∃ out,us=[out,.int .i64 (k:Int)]/\k<=c.locks.length/\OI wb w' out ((List.range k).flatMap (zj5 c))) 0 (z0 _) ⟨_,rfl,z0 _,gH⟩ ?_;rintro fr mk _ _ _ ⟨out,hu,_,X⟩;obtain ⟨gI,gJ⟩:=zcZ hu;rw [gI,gJ];refine zaa zfk<|zab zdt (zbU hA) (V.t X.ext) λ_ gK=>zae u24 gK<|zaf<|br (λ_=>?_) (λ_=>?_)
 case refine_2=>
   have Y:fr=c.locks.length:=oo;rw [Y] at X;exact ⟨g1.t X.ext,X.own.mono (by have:=g1.size;omega)⟩
 have hfr:fr<c.locks.length:=oo;refine zap c.locks.length (λk us w'=>∃ out,us=[out,.int .i64 (k:Int)]/\k<=c.locks.length/\OI wb w' out ((List.range fr).flatMap (zj5 c)++(List.range k).flatMap (znj c fr))) 0 (z0 _) ⟨_,rfl,z0 _,by simpa using X⟩ ?_;rintro to gM _ _ _ ⟨gi,gN,_,gd⟩;obtain ⟨gj,gl⟩:=zcZ gN;rw [gj,gl];refine zaa zfk<|zab zdt (zbU hA) (V.t gd.ext) λ_ gO=>zae u24 gO<|zaf<|br (λ_=>?_) (λ_=>?_)
 case refine_2=>
   have Y:to=c.locks.length:=oo;rw [Y] at gd;refine zau<|⟨mk-1,oo,fr+1,oo,gi,rfl,oo,by rw [zeT];exact gd⟩
 have hto:to<c.locks.length:=oo;refine zap c.ins.length (λk us w'=>∃ out,us=[out,.int .i64 (k:Int)]/\k<=c.ins.length/\OI wb w' out ((List.range fr).flatMap (zj5 c)++(List.range to).flatMap (znj c fr)++(List.range k).flatMap (zhh c fr to))) 0 (z0 _) ⟨_,rfl,z0 _,by simpa using gd⟩ ?_;rintro i O _ _ _ ⟨D,gp,_,C⟩;obtain ⟨g2,g3⟩:=zcZ gp;rw [g2,g3];have I:=V.t C.ext;refine zaa zaY<|zab zdD (zam hA) I λ_ gP=>zae u26 gP<|zaf<|br (λ_=>?_) (λ_=>?_)
 case refine_2=>
   have Y:i=c.ins.length:=oo;rw [Y] at C;refine zau<|⟨gM-1,oo,to+1,oo,D,rfl,oo,by rw [zeT,<-qaw];exact C⟩
 have hi:i<c.ins.length:=oo
 have g4:(List.range fr).flatMap (zj5 c)++(List.range to).flatMap (znj c fr)++(List.range (i+1)).flatMap (zhh c fr to)=(List.range fr).flatMap (zj5 c)++(List.range to).flatMap (znj c fr)++(List.range i).flatMap (zhh c fr to)++zhh c fr to i:=by
   rw [zeT,<-qaw]
 have gQ:((List.range fr).flatMap (zj5 c)++(List.range to).flatMap (znj c fr)++(List.range i).flatMap (zhh c fr to)).length<=100000:=by
   have h1:=zsh gt gF fr;have h2:=zsg gt fr to;have h3:=zsf c fr to i;simp only [qag];omega
 generalize (List.range fr).flatMap (zj5 c)++(List.range to).flatMap (znj c fr)=Lp at *
 have gf:¬OrdP c fr to i->Lp++(List.range (i+1)).flatMap (zhh c fr to)=Lp++(List.range i).flatMap (zhh c fr to):=λh=>by
   rw [g4];unfold zhh;rw [qab h,qaF]
 have gq:OrdP c fr to i->Lp++(List.range (i+1)).flatMap (zhh c fr to)=Lp++(List.range i).flatMap (zhh c fr to)++[mkO fr to i]:=λh=>by
   rw [g4];congr 1;unfold zhh;rw [qah h]
 refine NIL.mk rfl<|zaa zkf<|zab zef gg C.ext λ_ gR=>?_;have gS:=zce (ms:=zi0 c) (i:=i) (by rw [gy];exact hi)
 have g5:(zi0 c)[i]=true↔MetP c i:=by
   rw [<-gS];unfold zi0;rw [zcs];exact ⟨λh=>h.2,λh=>⟨oo,h⟩⟩
 refine zad zfU ty4 (i:=i) gR (by rw [gy];exact hi) λ_ _ gU=>zbi ty4 gU C.ext<|zbX (λht=>?_) (λhf=>?_)
 case refine_2=>
   have gV:¬MetP c i:=λh=>by rw [g5.2 h] at hf;cases hf
   refine zau<|⟨O-1,oo,i+1,oo,D,rfl,oo,by rw [gf λh=>gV h.1];exact C⟩
 have hM:=g5.1 ht;refine zaa zaY<|zab zdD (zam hA) I λ_ gW=>zad u26 zbm gW hi λ_ _ gz=>?_;rw [zaG] at gz;refine zaa za8<|zac ty3 (zay gz) I λ_=>zai<|br (λh6=>?_) (λh6=>?_)
 case refine_2=>refine zau<|⟨O-1,oo,i+1,oo,D,rfl,oo,by rw [gf λh=>h6 h.2.1];exact C⟩
 obtain ⟨gX,_,_⟩:=zdz hc hi (.inl h6);refine zaa zaY<|zab zdD (zam hA) I λ_ gY=>zad u26 zbm gY hi λ_ _ gC=>?_;rw [zaG] at gC;refine zaa zaZ<|zac ty3 (zat gC) I λ_=>zai<|br (λg9=>?_) (λg9=>?_)
 case refine_2=>refine zau<|⟨O-1,oo,i+1,oo,D,rfl,oo,by rw [gf λh=>g9 (by rw [gX,h.2.2.1])];exact C⟩
 refine NIL.mk rfl<|zaa zgP<|zab zaS gh C.ext λ_ gZ=>zad u25 ty3 (i:=i) gZ (by rw [zah,zlC];exact hi) λ_ _ gD=>?_;rw [zbk] at gD;refine zac ty3 gD C.ext λ_=>?_;have h4:=zep (zzw c) i;refine (zvb (m:=zaE (zqD c) i) (i:=fr) oo oo).mono ?_;rintro _ _ ⟨gr,rfl⟩
 have gb:(zaE (zqD c) i).testBit fr=true↔MayP c i fr:=by
   rw [ztB hi,zhd];exact ⟨λh=>h.2,λh=>⟨oo,h⟩⟩
 have U:=C.step gr;refine zbX (λhb=>?_) (λhb=>?_)
 case refine_2=>refine zau<|⟨O-1,oo,i+1,oo,D,rfl,oo,by rw [gf λh=>by rw [gb.2 h.2.2.2] at hb;cases hb];exact U⟩
 have hP:OrdP c fr to i:=⟨hM,h6,oo,gb.1 hb⟩;refine zaF (cells:=#[.int .i64 fr,.int .i64 to,.int .i64 i]) kK ?_;obtain ⟨_,_,h1,h2,hr⟩:=U.row;refine zek (x:=(mkO fr to i:DOrder)) zDn zq4 zHK zGo qd hr (lo2:=0) (hi2:=0) (zf4 (zDX io io io)) (by rw [zaj];omega) oo λv' w' lo' gs gE h5 _=>?_;have hs7:=gE.size;have h8:=U.ext.size;refine zau<|⟨O-1,oo,i+1,oo,v',rfl,oo,U.ext.chgI gE h1,lo',gs,oo,oo,?_⟩;rw [gq hP];exact h5
def zqn {l:List Int} {y:Int} (hk:k<l.length) (h:y∉l.take k) (c:¬l[k]=y):y∉l.take (k+1):=by
 rw [tk hk];simp only [qae,qaa,qad,qaq,not_or];exact ⟨h,λe=>c e.symm⟩
def ztQ {l:(List Int)} {y:Int}  (h0:Is W0 v0 l) (e0:Ext W0 w)  :
   CALL tp 79 [v0,.int .i64 y] w λr w'=>Ext w w'/\(∃ n:Int,r=.int .i64 n/\(0<=n↔y∈l)):=by
 refine co (g:=kf [] [(2,524080,[8])] []) Tryz.func79 ?_;have g0:=zak h0;refine zae u25 h0<|zap (l.length) (λk us w'=>us=[.int .i64 (k:Int)]/\Ext w w'/\(y∉l.take k)) (0) oo ⟨sS,xrf w,sS⟩ ?_;rintro k m2 _ _ _ ⟨hu,y1,C⟩;try replace hu:=zbv hu
 try rw [hu]
 try clear hu
 refine zaf<|br (λc1=>?_) (λc1=>?_)
 . refine zad u25 ty3 h0 oo λ_ _ g1=>?_;refine zac ty3 g1 (e0.t y1) λ_=>zai<|br (λc2=>?_) (λc2=>?_)
   . refine ⟨y1,?_⟩;have:y∈l:=c2▸qac _;exact ⟨_,rfl,by simp [this]⟩
   refine zau<|⟨m2-1,oo,k+1,oo,sS,y1,?_⟩;exact zqn oo C (λe=>c2 e.symm)
 refine ⟨y1,?_⟩;rw [qaf oo] at C;exact ⟨-1,rfl,by simp [C]⟩
def znN {l:(List Int)} {y:Int}  (h0:Is W0 v0 l) (e0:Ext W0 w)  :
   CALL tp 32 [v0,.int .i64 y] w λr w'=>Ext w w'/\(r=.bool (decide (y∈l))):=by
 refine co (g:=kf [] [] []) Tryz.func32 ?_;refine (ztQ h0 e0).mono ?_;rintro _ _ ⟨y1,_,rfl,g0⟩;refine zb9<|⟨y1,?_⟩;simp [g0]
def zAi {ms:List Bool} (h0:Is W0 v0 ms) (e0:Ext W0 w) (hn:ms.length<=2000000) :
   CALL tp 140 [v0] w λr w'=>Ext w w'/\Own w.heap.size w' r (za5 (zBC ms ms.length)):=by
 refine co (g:=kf [] [(3,524088,[3,8])] []) Tryz.func140 ?_;refine zae zfU h0<|zap ms.length (λk us w'=>∃ (v:vL),us=[v,.int .i64 (k:Int)]/\k<=ms.length/\Ext w w'/\RowI w.heap.size w'.heap.size 3 w' v (za5 (zBC ms k))) 0 (z0 _) ⟨_,rfl,z0 _,xrf _,zb7 _ _ _ _⟩ ?_;rintro k mk _ w2 _ ⟨v,hu,_,C,g0⟩;obtain ⟨g2,g3⟩:=zcZ hu;rw [g2,g3];refine zaf<|br (λ_=>?_) (λ_=>?_)
 case refine_2=>
   have:k=ms.length:=oo;rw [this] at g0;exact ⟨C,g0.own.own⟩
 have hk:k<ms.length:=oo;have g1:=C.size;have hg:ms.getD k false=ms[k]:=by rw [List.getD_eq_getElem?_getD,List.getElem?_eq_getElem hk];rfl
 have hil:=zu9 ms k;refine zad zfU ty4 h0 hk λ_ _ g4=>zbi ty4 g4 (e0.t C)<|zbX (λhf=>?_) (λhf=>?_)
 . refine zbM (lo2:=w2.heap.size) (hi2:=w2.heap.size) (x:=(k:Int)) u25 ty3 z3 zc3 qd g0 g1 (zeo _ _ io) (lr _) g1 (by rw [zaj,zah];omega) (by rw [zah];omega) λg5 _ g9 gb=>?_;refine zau<|⟨mk-1,oo,k+1,oo,g5,rfl,oo,C.chgI g9 (lr _),?_⟩;rw [zjO,hg,hf,qah rfl,zc4];exact gb
 refine zau<|⟨mk-1,oo,k+1,oo,v,rfl,oo,C,?_⟩;rw [zjO,hg,hf];simpa using g0
end Go.Proofs.YtkgiigmcbgifdaaGreat
