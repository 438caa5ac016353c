/-
  The law FnTop of the given program returns true for every input, and its arguments read afterwards as before: the given statement Rows.FnTopSaid.
-/
import Derived.Test.YtcnglfeoglgebaaGreatPFnTop8
set_option maxRecDepth 20000
set_option linter.defProp false
set_option linter.unusedVariables false
set_option linter.unusedSimpArgs false
set_option linter.unusedSectionVars false
namespace Go.Proofs.YtcnglfeoglgebaaGreat
open Go Go.Sh Go.Proofs
open Rep (rep)
variable {F L U:List Nat} {P:Program} {W W0 W1 w w0:World} {b i j k l m n p q r r' t:Nat} {c:DCode} {s:DState} {v v0 v1:Value} {y:DRace}
def zvU (h0:Is W0 v0 c) (e0:Ext W0 w) (hc:CodeR c) :
   CALL tp 141 [v0] w λr w'=>Ext w w'/\∃ A,AInv (ze3 c) A/\Own w.heap.size w' r A:=by
 refine co (g:=kf [] [(4,17592186043496,[3,5])] [(6,[0,1,2,3,4,5,6,7,8,9,10,11,12],2048),(7,[0,1,2,3,4,5,6,7,8,9,10,11,12],0)]) Tryz.func141 ?_;have hol:=zul hc;have gg:=hc.1.locks6;refine za9 h0 e0 λw1 gh hA=>zaK (α:=DArc) znF zeH λa8 w2 g2 hr2=>zaa zbq hA g2 λv8 h8=>?_;refine (zyK h8 g2 hc).mono ?_;rintro v9 w3 ⟨gi,gj⟩;have h9:=gj.is;have g0:=(gh.t g2).trans gi;have g3:=g0.size;refine zao (ze3 c).length (λk us w'=>∃ out A,us=[out,.int .i64 (k:Int)]/\k<=(ze3 c).length/\Ext w3 w'/\RowI w3.heap.size w'.heap.size 224 w' out A/\AInv ((ze3 c).take k) A) 0 (z0 _) ⟨_,[],rfl,z0 _,xrf _,zcx _ _ _ _ _,by rw [qbW];exact AInv.start⟩ ?_;rintro k mk q w4 hkm ⟨out,A,hq,hkl,O,gb,hI⟩;obtain ⟨gl,gp⟩:=zcB hq;rw [gl,gp];have hs4:=O.size;refine zae zBH h9<|zag<|br (λhlt=>?_) (λhge=>?_)
 case refine_2=>
   have gq:k=(ze3 c).length:=oo
   rw [gq,qaD] at hI;exact ⟨g0.t O,A,hI,gb.own.own.mono g3⟩
 have hk:k<(ze3 c).length:=oo
 have gc:((ze3 c).take k++[(ze3 c)[k]]).Pairwise ltO:=by
   rw [<-tk hk];exact (zsI c).sublist (qcq _ _)
 have gd:=zpv gg hI.pw (hI.rng hc);have g4:=zah w4;generalize World.drew1 w4=w5 at *;have e5:=O.t g4;refine zad zBH zqg h9 hk λb3 o3 gr=>zab zoF<|zac ty3 (zmy gr) e5 λgs=>zad zBH zqg h9 hk λb4 o4 gt=>zab zoG<|zac ty3 (zmz gt) e5 λgx=>zaX (cells:=#[.int .i64 (ze3 c)[k].fr,.int .i64 (ze3 c)[k].to]) kK ?_;have gy:Is w5 (.agg #[.int .i64 (ze3 c)[k].fr,.int .i64 (ze3 c)[k].to]) (zh8 (ze3 c)[k]):=zn9.2 ⟨rfl,gs,gx⟩;refine zrV zzL rfl zeH rfl gy (xrf _) λw6 gf g1 hV6=>?_;have C:=zah w6;generalize World.drew1 w6=w7 at *;have U:=((gb.ext g4).ext gf).ext C;have M:=(g4.t gf).trans C;have g5:=M.size
 have D:zh8 (ze3 c)[k]∉A->RD tp (Instr.loadAt 224 (.pointer (some ⟨w5.heap.size,0,none⟩))) w7 λgz=>OP tp (Instr.buildSlice 157 1 #[(0,gz)]) w7 λgC w=>OP tp (Builtin.append_ #[157,157] 157 [out,gC].toArray) w λgD w=>RD tp (bin .add 3 (.tmp 0) (.const undef) (.int .i64 (k:Int)) (.int .i64 1)) w λgE=>∃ m',m'<mk/\∃ k',k'+m'=(ze3 c).length/\∃ out A,[gD,gE]=[out,.int .i64 (k':Int)]/\k'<=(ze3 c).length/\Ext w3 w/\RowI w3.heap.size w.heap.size 224 w out A/\AInv ((ze3 c).take k') A:=λgF=>by
   refine zaa zeH g1 C λv23 gG=>zbO (lo2:=w7.heap.size) (hi2:=w7.heap.size) (x:=zh8 (ze3 c)[k]) znF zeH zFh zEe qd U oo (zfL (gG.ext C)) oo oo (by rw [zal];omega) oo λv' w9 gH gI=>zau<|⟨mk-1,oo,k+1,oo,v',A++[zh8 (ze3 c)[k]],rfl,oo,(O.t M).chgI gH (lr _),gI,?_⟩;rw [tk hk];exact hI.new gc gF
 refine zae znF U.is<|zai<|br (λh0=>?_) (λhn0=>?_)
 . have:A=[]:=qam oo
   exact D (by rw [this];simp)
 have I:=hI.last gc oo;refine zae znF U.is<|zbc (by unfold I64;omega) ?_;rw [show ((A.length:Int)-1)=((A.length-1:Nat):Int) by omega];refine zad (i:=A.length-1) znF zeH U.is oo λb8 o8 gJ=>zaa zeH gJ (xrf _) λv36 gK=>zaa zeH g1 C λv37 gM=>zvO gK gM<|br (λgN=>?_) (λgO=>?_)
 . exact D λh=>gN (I.2 h)
 have g9:=I.1 (qad.1 gO);refine zau<|⟨mk-1,oo,k+1,oo,out,A,rfl,oo,O.t M,U.mono (lr _) g5,?_⟩;rw [tk hk];exact hI.old g9
open Classical in
noncomputable def zm0 (c:DCode) (n:Nat):List (List Nat):=(List.range n).flatMap λn=>(zb4 c).filter λp=>decide (p.head?=some n/\zuo (nxL c) p)
open Classical in
noncomputable def zg7 (c:DCode) (n k:Nat):List (List Nat):=((zb4 c).take k).filter λp=>decide (p.head?=some n/\zuo (nxL c) p)
def zsY (c:DCode) (n:Nat):zm0 c (n+1)=zm0 c n++zg7 c n (zb4 c).length:=by
 unfold zm0 zg7;rw [qbz,qa4,qaD];simp
def zvV (hk:k<(zb4 c).length) (h:(zb4 c)[k].head?=some n/\zuo (nxL c) (zb4 c)[k]):zg7 c n (k+1)=zg7 c n k++[(zb4 c)[k]]:=by
 unfold zg7;rw [tk hk,qa7];simp [h]
def zy3 (hk:k<(zb4 c).length) (h:¬((zb4 c)[k].head?=some n/\zuo (nxL c) (zb4 c)[k])):zg7 c n (k+1)=zg7 c n k:=by
 unfold zg7;rw [tk hk,qa7];simp [h]
def zvW (c:DCode) (n k:Nat):(zg7 c n k).length<=k:=qan (qbt _ _) (by rw [qai];omega)
open Classical in
def zvX (hc:CodeR c) (n:Nat):(zm0 c n).length<=n*6:=by
 have h6:=hc.1.locks6;have hll:=zmN c;have:=zki (l:=List.range n) (B:=6) (f:=λn=>(zb4 c).filter λp=>decide (p.head?=some n/\zuo (nxL c) p)) λa _=>qan (qbt _ _) oo;rw [qbr] at this;exact this
def zrv (h0:Is W0 v0 c) (e0:Ext W0 w) (hc:CodeR c) :
   CALL tp 64 [v0] w λr w'=>Ext w w'/\Own w.heap.size w' r ((zg5 c).map zaT):=by
 refine co (g:=kf [] [(5,144115188075790560,[5,6]),(8,144115188067467424,[5,7])] [(10,[0,1,2,3,4,5,6,7,8,9,10,11,12,13,14,15,16,17,18],0)]) Tryz.func64 ?_;have h6l:=hc.1.locks6;refine za9 h0 e0 λw1 gI hA=>zaa zbq hA (xrf _) λv8 h8=>?_;refine (zvU h8 (xrf _) hc).mono ?_;rintro v9 w2 ⟨g4,A,gb,gx⟩;obtain ⟨gy,gz⟩:=zuy hc gb;refine zab zd8<|zaa zcv (zbw hA) g4 λv11 gJ=>zae u24 gJ ?_;refine (zvP gx.is (xrf _) oo gy gz).mono ?_;rintro v14 w3 ⟨g5,Y⟩;rw [zln hc gb] at Y;change Own w2.heap.size w3 v14 ((zb4 c).map zaT) at Y;have g0:=(gI.t g4).trans g5;have gc:=g0.size;have hll:=zmN c;refine zaK (α:=List Int) u44 za4 λa9 w4 gK hr4=>zao c.locks.length (λn us w'=>∃ out,us=[out,.int .i64 (n:Int)]/\n<=c.locks.length/\Ext w3 w'/\RowI w3.heap.size w'.heap.size 33 w' out ((zm0 c n).map zaT)) 0 (z0 _) ⟨_,rfl,z0 _,gK,zcx _ _ _ _ _⟩ ?_;rintro n mn q w5 hnm ⟨out,hq,hnl,gd,gf⟩;obtain ⟨gM,gN⟩:=zcB hq;rw [gM,gN];refine zab zd8<|zaa zcv (zbw hA) ((g4.t g5).trans gd) λv18 gO=>zae u24 gO<|zag<|br (λhlt=>?_) (λhge=>?_)
 case refine_2=>
   have gg:n=c.locks.length:=oo
   rw [gg] at gf;exact ⟨g0.t gd,gf.own.own.mono gc⟩
 have hn:n<c.locks.length:=oo
 have hKl:=zvX hc n;refine zao (zb4 c).length (λk us w'=>∃ out,us=[out,.int .i64 (k:Int)]/\k<=(zb4 c).length/\Ext w3 w'/\RowI w3.heap.size w'.heap.size 33 w' out ((zm0 c n++zg7 c n k).map zaT)) 0 (z0 _) ⟨_,rfl,z0 _,gd,by simpa [zg7] using gf⟩ ?_;rintro k mk q8 w6 hkm ⟨M,gP,hkl,gh,gi⟩;obtain ⟨gj,gl⟩:=zcB gP;rw [gj,gl];have hIl:=zvW c n k;refine zae u44 Y.is ?_;rw [qav];refine zag<|br (λgQ=>?_) (λgR=>?_)
 case refine_2=>
   have gS:k=(zb4 c).length:=oo
   rw [gS,<-zsY] at gi;refine zau<|⟨mn-1,oo,n+1,oo,M,rfl,oo,gh,gi⟩
 have hk:k<(zb4 c).length:=oo
 obtain ⟨hpl,gU⟩:=zkl (qab hk);obtain ⟨hd,g9,gV,hdl⟩:=zh2 (qab hk);have O:k<((zb4 c).map zaT).length:=by rw [qav];exact hk
 have gp:=zah w6;generalize World.drew1 w6=w7 at *;have C:=gh.t gp;have gC:=gi.ext gp;have hs7:=gp.size;have gW:=gh.size
 have U:0<(zaT (zb4 c)[k]).length:=by
   rw [zaf];exact qbY gV
 have gX:(zaT (zb4 c)[k])[0]'U=(hd:Int):=by
   rw [<-zsJ (qcK U)];exact zfM g9
 have D:¬((zb4 c)[k].head?=some n/\zuo (nxL c) (zb4 c)[k])->∀ w8,Ext w7 w8->∃ m',m'<mk/\∃ k',k'+m'=(zb4 c).length/\∃ out,[M,Value.int .i64 ((k+1:Nat):Int)]=[out,.int .i64 (k':Int)]/\k'<=(zb4 c).length/\Ext w3 w8/\RowI w3.heap.size w8.heap.size 33 w8 out ((zm0 c n++zg7 c n k').map zaT):=λh w8 I=>
   ⟨mk-1,oo,k+1,oo,M,rfl,oo,C.t I,by rw [zy3 hk h];exact (gC.ext I).mono (lr _) (by have:=I.size;omega)⟩
 refine zad (i:=k) u44 za4 Y.is O λb3 o3 gD=>?_;rw [qbH] at gD;refine zaa za4 gD C λv32 gY=>zad (i:=0) u33 ty3 gY U λb4 o4 gE=>?_;rw [gX] at gE;refine zac ty3 gE C λ_=>zai<|br (λheq=>?_) (λgg=>?_)
 case refine_2=>refine zau<|D (λh=>gg ?_) _ (xrf _);rw [g9] at h;have:=qaW h.1;omega
 have gZ:hd=n:=oo
 rw [gZ] at g9;refine zab zd8<|zaa zcv (zbw hA) ((g4.t g5).trans C) λv39 h2=>zae u24 h2<|zad (i:=k) u44 za4 Y.is O λb5 o5 gF=>?_;rw [qbH] at gF;refine zaa za4 gF C λv45 h4=>?_;refine (zpG gx.is (g5.t C) h4 C oo gy gz gU oo).mono ?_;rintro _ w8 ⟨I,bb,rfl,gq⟩;rw [zln hc gb] at gq;refine zbz (λhy=>?_) (λgG=>?_)
 case refine_2=>refine zau<|D (λh=>by rw [gq.2 h.2] at gG;cases gG) _ I
 have h5:=gq.1 hy;have hs8:=I.size;refine zaK (α:=Int) u33 ty3 λa10 w9 gr h6=>?_;have hs9:=gr.size;have V:=(C.t I).trans gr;refine zad (i:=k) u44 za4 Y.is O λb6 o6 gH=>?_;rw [qbH] at gH;refine zaa za4 gH V λv53 h9=>zeh u33 ty3 zc3 h6 (lr _) h9 V (by rw [zaf,zal];simp;omega) (by rw [zaf];simp;omega) λv54 ha X g1=>?_;rw [qbu] at g1;have hb:=X.size;have g2:=((gC.ext I).ext gr).chg X oo;have g3:=V.chgI X oo;have hsx:=g3.size;refine zbO (lo2:=w9.heap.size) (hi2:=ha.heap.size) (x:=zaT (zb4 c)[k]) u44 za4 z33 zBG qd g2 oo g1.own oo oo (by rw [qav,qag,zal];omega) (by rw [qav,qag];omega) λhe w11 gs gt=>zau<|⟨mk-1,oo,k+1,oo,he,rfl,oo,g3.chgI gs (lr _),?_⟩;rw [zvV hk ⟨g9,h5⟩,<-qar,qa6];exact gt
def zm1 (h0:Is W0 v0 c) (e0:Ext W0 w) :
   CALL tp 26 [v0] w λr w'=>Ext w w'/\Own w.heap.size w' r (zhw c):=by
 refine co (g:=kf [] [] []) Tryz.func26 ?_;refine za9 h0 e0 λw1 g1 hA=>zaa zbq hA (xrf _) λv3 h3=>?_;refine (zgJ h3 (xrf _)).mono ?_;rintro _ w2 ⟨C,rfl⟩;have hs1:=g1.size;have hs2:=C.size;refine zav<|br (λhn=>?_) (λhy=>?_)
 . refine zaK (α:=List Int) u44 za4 λa8 w3 g0 g2=>?_
   refine ⟨g1.t (C.t g0),?_⟩;unfold zhw;rw [if_neg hn];exact g2.own.own.mono (by have:=g0.size;omega)
 have hc:=qad.1 hy;refine zaa zbq hA C λv7 h7=>?_;refine (zrv h7 C hc).mono ?_;rintro v8 w3 ⟨g0,g3⟩;refine ⟨g1.t (C.t g0),?_⟩;unfold zhw;rw [if_pos hc];exact g3.mono oo
def StP (c:DCode) (r p i:Nat):Prop:=zaN c p i/\(zam c i).op=5/\agN c i=r
noncomputable def zec (c:DCode) (r:Nat):List Nat:=(zbd c.procs.length (UsedP c)).flatMap λp=>zbd c.ins.length (StP c r p)
theorem zsZ {p q:Nat->Prop} {f:Nat->Bool} (h:∀ i,i<n->(f i=true↔q i)):(zbd n p).filter f=zbd n λi=>p i/\q i:=by
 induction n with
 | zero=>rfl
 | succ n ih=>
   have ih:=ih λi hi=>h i oo;by_cases hp:p n
   . rw [zdf hp,qa7,ih]
     by_cases hq:q n
     . rw [zdf ⟨hp,hq⟩];simp [(h n oo).2 hq]
     rw [zdw λe=>hq e.2]
     have:f n=false:=by
       cases e:f n
       . rfl
       exact absurd ((h n oo).1 e) hq
     simp [this]
   rw [zdw hp,zdw λe=>hp e.1,ih]
theorem zh5 {α β:Type} {f:α->List β} {B:Nat}:∀ {l:List α},(∀ a∈l,(f a).length<=B)->(l.flatMap f).length<=l.length*B
 | [],_=>by simp
 | a :: l,h=>by
   have h1:=h a sS;have h2:=zh5 (l:=l) λb hb=>h b (by simp [hb]);simp only [qbs,qag,qaj,qbi];omega
def zof (hc:CodeR c) {r i:Nat} (h:i∈zec c r):i<c.ins.length:=by
 unfold zec at h;obtain ⟨p,_,h⟩:=qaE.1 h;exact (zaH.1 h).1
def zog (hW:WAt W0 b c) (e0:Ext W0 w) (hc:CodeR c) :
   CALL tp 113 [.pointer (some ⟨b,0,none⟩),.int .i64 (zeJ c:Nat),.int .i64 5,.int .i64 (r:Int)] w λv w'=>Ext w w'/\Own w.heap.size w' v (zaT (zec c r)):=by
 refine co (g:=kf [] [(3,576460752303303168,[9,17]),(6,288230376118166016,[9,25])] []) Tryz.func113 ?_;have h8:=hc.1.procs8;have gy:=hc.f.ins;have gi:zeJ c<256:=zbs h8.1;refine (zdr (m:=zeJ c) oo).mono ?_;rintro v15 w1 ⟨g0,g1⟩;unfold zeJ at g1;rw [zen oo] at g1;have gz:∀ p∈zbd c.procs.length (UsedP c),p<c.procs.length:=λp hp=>(zaH.1 hp).1;have hul:=zbg (n:=c.procs.length) (p:=UsedP c);unfold zec;generalize zbd c.procs.length (UsedP c)=U at *;refine zae u33 g1.is ?_;rw [zaf]
 have gC:∀ k,((U.take k).flatMap λp=>zbd c.ins.length (StP c r p)).length<=20000:=λk=>by
   have:=zh5 (l:=U.take k) (f:=λp=>zbd c.ins.length (StP c r p)) (B:=1500) λa _=>qan zbg gy;have h2:=qb8 k U;have:(U.take k).length*1500<=8*1500:=qa5 _ oo;omega
 refine zao U.length (λk us w'=>∃ out,us=[out,.int .i64 (k:Int)]/\k<=U.length/\Ext w1 w'/\RowI w1.heap.size w'.heap.size 3 w' out (zaT ((U.take k).flatMap λp=>zbd c.ins.length (StP c r p)))) 0 (z0 _) ⟨_,rfl,z0 _,xrf _,zb6 _ _ _ _⟩ ?_;rintro k mk u w2 hkm ⟨out,hu,hkl,M,g4⟩;obtain ⟨gD,gE⟩:=zcB hu;rw [gD,gE];refine zag<|br (λhlt=>?_) (λhge=>?_)
 case refine_2=>
   have gF:k=U.length:=oo
   rw [gF,qaD] at g4;exact ⟨g0.t M,g4.own.own.mono (by have:=g0.size;omega)⟩
 have hk:k<U.length:=oo
 have hp:=gz U[k] (qab _);have gj:=zcS (f:=λp=>zbd c.ins.length (StP c r p)) hk;refine zad u33 ty3 (i:=k) g1.is (by rw [zaf];exact hk) λb3 o3 gl=>?_;rw [za3] at gl;generalize U[k]=p at *;refine zac ty3 gl M λ_=>?_;refine (zhr hW.wl (e0.t (g0.t M)) hc hp).mono ?_;rintro gG w3 ⟨g5,gp⟩;have g9:∀ i∈zbd c.ins.length (zaN c p),i<c.ins.length:=λi hi=>(zaH.1 hi).1;have gH:(zbd c.ins.length (zaN c p)).filter (λi=>decide ((zam c i).op=5/\agN c i=r))=zbd c.ins.length (StP c r p):=zsZ λi hi=>by rw [decide_eq_true_eq]
 have hLl:=zbg (n:=c.ins.length) (p:=zaN c p);rw [<-gH] at gj;have hfk:=gC k;generalize zbd c.ins.length (zaN c p)=L at *;generalize (U.take k).flatMap (λp=>zbd c.ins.length (StP c r p))=Op at *;refine zae u33 gp.is ?_;rw [zaf];have gI:=g5.size;have hs2:=M.size;obtain ⟨F3,gJ,gK⟩:=gp;refine zao L.length (λj us w'=>∃ out lo hi,us=[out,.int .i64 (j:Int)]/\j<=L.length/\Ext w1 w'/\Mine F3 w' gG (zaT L)/\w1.heap.size<=lo/\hi<=w'.heap.size/\RowI lo hi 3 w' out (zaT (Op++(L.take j).filter (λi=>decide ((zam c i).op=5/\agN c i=r))))/\∀ b∈F3,b<lo\/hi<=b) 0 (z0 _) ⟨out,w1.heap.size,w2.heap.size,rfl,z0 _,M.t g5,gJ,lr _,gI,by simpa using g4.ext g5,λb hb=>.inr (gK b hb)⟩ ?_;rintro j mj u6 w6 hjm ⟨C,lo,hi,gM,hjl,D,I,g2,gb,O,hd⟩;obtain ⟨gc,gd⟩:=zcB gM;rw [gc,gd];refine zag<|br (λgN=>?_) (λgO=>?_)
 case refine_2=>refine zau<|⟨mk-1,oo,k+1,oo,C,rfl,oo,D,?_⟩;rw [qaf oo] at O;rw [gj];exact O.mono g2 gb
 have hj:j<L.length:=oo
 have gf:=g9 L[j] (qab _);have gq:L.take (j+1)=L.take j++[L[j]]:=tk hj;refine zad u33 ty3 (i:=j) I.is (by rw [zaf];exact hj) λb4 o4 gr=>?_;rw [za3] at gr
 have gP:(Op++(L.take j).filter (λi=>decide ((zam c i).op=5/\agN c i=r))).length<=100000:=by
   have:=qbt (λi=>decide ((zam c i).op=5/\agN c i=r)) (L.take j);have h2:=qb8 j L;rw [qag];omega
 generalize L[j]=i at *;refine zac ty3 gr (xrf _) λ_=>?_;have g3:=e0.t (g0.t D)
 have gs:¬((zam c i).op=5/\agN c i=r)->(L.take (j+1)).filter (λi=>decide ((zam c i).op=5/\agN c i=r))=(L.take j).filter (λi=>decide ((zam c i).op=5/\agN c i=r)):=λh=>by
   rw [gq,qa7];simp [h]
 have gg:((zam c i).op=5/\agN c i=r)->(L.take (j+1)).filter (λi=>decide ((zam c i).op=5/\agN c i=r))=(L.take j).filter (λi=>decide ((zam c i).op=5/\agN c i=r))++[i]:=λh=>by
   rw [gq,qa7];simp [h]
 refine NIL.mk rfl<|zab zbM<|zab zaM<|zaa zcQ (zak hW.wl.code) g3 λv33 gQ=>zad u34 zcL (i:=i) gQ gf λb5 o5 gt=>?_;rw [zaz] at gt;refine zab zbp<|zac ty3 (zaw gt) g3 λ_=>zai<|br (λh5=>?_) (λh5=>?_)
 case refine_2=>refine zau<|⟨mj-1,oo,j+1,oo,C,lo,hi,rfl,oo,D,I,g2,gb,by rw [gs λh=>h5 h.1];exact O,hd⟩
 obtain ⟨gR,_⟩:=zby hc gf (.inr h5);refine NIL.mk rfl<|zab zbM<|zab zaM<|zaa zcQ (zak hW.wl.code) g3 λv45 gS=>zad u34 zcL (i:=i) gS gf λb7 o7 gx=>?_;rw [zaz] at gx;refine zab za8<|zac ty3 (zaq gx) g3 λ_=>zai<|br (λha=>?_) (λha=>?_)
 case refine_2=>refine zau<|⟨mj-1,oo,j+1,oo,C,lo,hi,rfl,oo,D,I,g2,gb,by rw [gs λh=>ha (by rw [gR,h.2])];exact O,hd⟩
 refine zdA (x:=(i:Int)) u33 ty3 z3 zc3 qd O (lo2:=0) (hi2:=0) (zc2 _ _ (by unfold I64;omega)) (by rw [zal,zaf];omega) (by rw [zaf];omega) λv' w' gU hi2 gh gV hd7=>?_;have hs7:=gh.size;have hs6:=D.size;refine zau<|⟨mj-1,oo,j+1,oo,v',gU,hi2,rfl,oo,D.chgI gh g2,I.keep λb hb=>gh.block b (I.lt b hb) (hd b hb),oo,oo,?_,λb hb=>?_⟩
 . rw [gg ⟨h5,oo⟩,<-qar,zcF]
   exact gV
 have:=hd b hb;have:=I.lt b hb;omega
def zkT (h0:Is W0 v0 c) (e0:Ext W0 w) (hc:CodeR c) :
   CALL tp 281 [v0,.int .i64 (r:Int)] w λv w'=>Ext w w'/\Own w.heap.size w' v (zaT (zec c r)):=by
 refine co (g:=kf [] [(4,147573952589676405664,[5,7]),(9,147573952581086478880,[5,9])] []) Tryz.func281 ?_;have h8:=hc.1.procs8;have gx:=hc.f.ins;have he:=hc.2.1.1;refine za9 h0 e0 λw1 gj hA=>zaK (α:=Int) u33 ty3 λa10 w2 g5 hr2=>zaa zbq hA g5 λv11 gy=>?_;refine (zhW gy g5 hc).mono ?_;rintro v12 w3 ⟨gz,gC⟩;have O:=g5.t gz;have hs1:=gj.size;have gD:=O.size
 have gE:∀ k,k<=8->((zbd k (UsedP c)).flatMap λp=>zbd c.ins.length (StP c r p)).length<=20000:=λk hk=>by
   have h1:=zh5 (l:=zbd k (UsedP c)) (f:=λp=>zbd c.ins.length (StP c r p)) (B:=1500) λa _=>qan zbg gx;have h2:=zbg (n:=k) (p:=UsedP c);have:(zbd k (UsedP c)).length*1500<=8*1500:=qa5 _ oo;omega
 refine zao c.procs.length (λk us w'=>∃ out,us=[out,.int .i64 (k:Int)]/\k<=c.procs.length/\Ext w3 w'/\RowI w3.heap.size w'.heap.size 3 w' out (zaT ((zbd k (UsedP c)).flatMap λp=>zbd c.ins.length (StP c r p)))) 0 (z0 _) ⟨_,rfl,z0 _,xrf _,zcx _ _ _ _ _⟩ ?_;rintro p mk u w4 hkm ⟨out,hu,hkl,Y,g3⟩;obtain ⟨gF,gG⟩:=zcB hu;rw [gF,gG];have C:=O.t Y;refine zab zbG<|zaa zcv (zaC hA) C λv15 gH=>zae u24 gH<|zag<|br (λhlt=>?_) (λhge=>?_)
 case refine_2=>
   have gI:p=c.procs.length:=oo
   rw [gI] at g3;exact ⟨gj.t C,g3.own.own.mono oo⟩
 have hp:p<c.procs.length:=oo
 have g9:=zaU (n:=c.procs.length) (p:=UsedP c) (i:=p);rw [za5 (by rw [zan];exact hp)] at g9;refine zad u90 ty4 (i:=p) gC.is (by rw [zan];exact hp) λb3 o3 gJ=>zaG ty4 gJ Y<|zaV<|zbz (λhf=>?_) (λhf=>?_)
 . have gK:¬UsedP c p:=λh=>by rw [g9.2 ⟨hp,h⟩] at hf;cases hf
   refine zau<|⟨mk-1,oo,p+1,oo,out,rfl,oo,Y,by rw [zdw gK];exact g3⟩
 have hU:UsedP c p:=(g9.1 (by simpa using hf)).2
 have gl:(zbd (p+1) (UsedP c)).flatMap (λp=>zbd c.ins.length (StP c r p))=(zbd p (UsedP c)).flatMap (λp=>zbd c.ins.length (StP c r p))++zbd c.ins.length (StP c r p):=by
   rw [zdf hU,qa4];simp
 have hfk:=gE p oo;refine zaa zbq hA C λv25 gM=>?_;refine (zgf gM C hc (by rw [he];exact hp)).mono ?_;rintro gp w5 ⟨g4,gN⟩;have g0:=C.t g4;obtain ⟨gO,heN,_⟩:=zfU hc (p:=p) (by rw [he];exact hp);obtain ⟨hzB,gP,hzN⟩:=zeE hc hp;have hze:=(zng hc (p:=p) (by rw [he];exact hp)).2.1
 have gq:∀ i,zaN c p i->eN c p<=i/\i<=zN c p:=λi hi=>by
   have h1:=zbV hc (by rw [he];exact hp) hi;obtain ⟨q,hq,h3,h4⟩:=zeF hc h1.1;have:q=p:=by have:=h1.2;omega
   subst this;exact h4
 have gQ:zbd (eN c p) (StP c r p)=[]:=by
   rw [zjn (n:=0) (z0 _) λi _ h2 hs=>by have:=gq i hs.1;omega];rfl
 have gR:zbd c.ins.length (StP c r p)=zbd (zN c p+1) (StP c r p):=zjn oo λi h1 _ hs=>by have:=gq i hs.1;omega
 rw [gR] at gl;refine zab zbi<|zaa za4 (zar hA) g0 λv29 gS=>zad u33 ty3 (i:=p) gS (by rw [he];exact hp) λb6 o6 gU=>zac ty3 gU g0 λ_=>?_;rw [zbx,gO];generalize hOp:(zbd p (UsedP c)).flatMap (λp=>zbd c.ins.length (StP c r p))=Op at *;obtain ⟨F5,gV,gW⟩:=gN;have gb:=g4.size;have gX:=Y.size;have gY:RowI w3.heap.size w4.heap.size 3 w5 out (zaT (Op++zbd (eN c p) (StP c r p))):=by rw [gQ];simpa using g3.ext g4
 refine zao (zN c p+1) (λj us w'=>∃ out lo hi,us=[out,.int .i64 (j:Int)]/\eN c p<=j/\j<=zN c p+1/\Ext w3 w'/\Mine F5 w' gp (zbZ c.ins.length (zaN c p))/\w3.heap.size<=lo/\hi<=w'.heap.size/\RowI lo hi 3 w' out (zaT (Op++zbd j (StP c r p)))/\∀ b∈F5,b<lo\/hi<=b) (eN c p) oo ⟨out,w3.heap.size,w4.heap.size,rfl,lr _,oo,Y.t g4,gV,lr _,gb,gY,λb hb=>.inr (gW b hb)⟩ ?_;rintro i mj u6 w6 hjm ⟨U,lo,hi,gZ,gr,hjl,gs,h6,gc,hhi,h9,hd⟩;obtain ⟨gd,gf⟩:=zcB gZ;rw [gd,gf];have V:=O.t gs;refine zaa zbq hA V λv34 hg=>?_;refine (zfl hg V (p:=(p:Int)) oo oo hc.2.1.nonneg).mono ?_;rintro _ w7 ⟨Z,rfl⟩;rw [gP];have I:=V.t Z;have M:=gs.t Z;have g1:=h6.ext Z;have gg:=h9.ext Z;have hh:=Z.size;refine zdT<|br (λhj=>?_) (λhl=>?_)
 case refine_2=>
   have gr:i=zN c p+1:=oo
   refine zau<|⟨mk-1,oo,p+1,oo,U,rfl,oo,M,?_⟩;rw [gl,<-gr];exact gg.mono gc oo
 have X:i<c.ins.length:=oo
 have hr:(Op++zbd i (StP c r p)).length<=100000:=by
   have:=zbg (n:=i) (p:=StP c r p);rw [qag];omega
 have gh:=zaU (n:=c.ins.length) (p:=zaN c p) (i:=i);rw [za5 (by rw [zan];exact X)] at gh
 have D:¬StP c r p i->∃ m',m'<mj/\∃ k',k'+m'=zN c p+1/\∃ out lo hi,[U,Value.int .i64 ((i+1:Nat):Int)]=[out,.int .i64 (k':Int)]/\eN c p<=k'/\k'<=zN c p+1/\Ext w3 w7/\Mine F5 w7 gp (zbZ c.ins.length (zaN c p))/\w3.heap.size<=lo/\hi<=w7.heap.size/\RowI lo hi 3 w7 out (zaT (Op++zbd k' (StP c r p)))/\∀ b∈F5,b<lo\/hi<=b:=λhn=>
   ⟨mj-1,oo,i+1,oo,U,lo,hi,rfl,oo,oo,M,g1,gc,oo,by rw [zdw hn];exact gg,hd⟩
 refine zad u90 ty4 (i:=i) g1.is (by rw [zan];exact X) λb8 o8 ht=>zaG ty4 ht (xrf _)<|zbz (λhf=>?_) (λhf=>?_)
 case refine_2=>refine zau<|D λh=>by rw [gh.2 ⟨X,h.1⟩] at hf;cases hf
 have hL:=(gh.1 hf).2;refine zab zaM<|zaa zcQ (zak hA) I λv46 hv=>zad u34 zcL (i:=i) hv X λb9 o9 gt=>?_;rw [zaz] at gt;refine zab zbp<|zac ty3 (zaw gt) I λ_=>zai<|br (λh5=>?_) (λh5=>?_)
 case refine_2=>refine zau<|D λh=>h5 h.2.1
 obtain ⟨hw,_⟩:=zby hc X (.inr h5);refine zab zaM<|zaa zcQ (zak hA) I λv55 hx=>zad u34 zcL (i:=i) hx X λb10 o10 g2=>?_;rw [zaz] at g2;refine zab za8<|zac ty3 (zaq g2) I λ_=>zai<|br (λha=>?_) (λha=>?_)
 case refine_2=>refine zau<|D λh=>ha (by rw [hw,h.2.2])
 refine zdA (x:=(i:Int)) u33 ty3 z3 zc3 qd gg (lo2:=0) (hi2:=0) (zc2 _ _ (by unfold I64;omega)) (by rw [zal,zaf];omega) (by rw [zaf];omega) λv' w' hy hi2 gi hz hd8=>?_;have hs8:=gi.size;have hB:=M.size;refine zau<|⟨mj-1,oo,i+1,oo,v',hy,hi2,rfl,oo,oo,M.chgI gi gc,g1.keep λb hb=>gi.block b (g1.lt b hb) (hd b hb),oo,oo,?_,λb hb=>?_⟩
 . rw [zdf (⟨hL,h5,oo⟩:StP c r p i),<-qar,zcF]
   exact hz
 have:=hd b hb;have:=g1.lt b hb;omega
def zCg (h:At W0 b 0 c) (hx:Ext W0 w):KAt W0 w b c:=by
 obtain ⟨F,cs,hr,hc⟩:=h;have hl:=Rep.len hr;have hp:0<cs.length:=by rw [hl];exact Rep.pos
 have g0:=zbI hc hx;refine ⟨F,cs,hr,g0,qbb λhn=>?_⟩;have:=g0 0 cs[0] (List.getElem?_eq_getElem hp);simp only [World.cell?] at this;rw [Array.getElem?_eq_none oo] at this;cases this
def zAL {b a:Nat} (hW:WAt W0 b c) (e0:Ext W0 w) (hc:CodeR c) (ha:a<c.ins.length) :
   CALL tp 115 [.pointer (some ⟨b,0,none⟩),.int .i64 (a:Int)] w λv w'=>Ext w w'/\Own w.heap.size w' v (zbZ c.ins.length (RP (zaA c) a)):=by
 refine co (g:=kf [] [] []) Tryz.func115 ?_;have hil:=hc.f.ins;refine NIL.mk rfl<|zab zbM<|zab zaM<|zaa zcQ (zak hW.wl.code) e0 λv10 g1=>zae u34 g1 ?_;have g2:=zCg hW.wl.code e0;have hbl:=g2.lt;refine ze1 oo oo λw1 g0 g3=>?_;have hs1:=g0.size;have e0s:=e0.size;refine (zqO (zCg hW.wl.code (e0.t g0)) (e0.t g0) hc rfl ha g3 sS oo oo λi hi=>absurd hi zbX).mono ?_;rintro _ w2 ⟨rfl,g4,g5⟩;refine ⟨g0.chgI g4 (lr _),[w.heap.size],?_,λb hb=>by simp at hb;omega⟩;have:(zbZ c.ins.length λi=>mkd (List.replicate c.ins.length false) i\/RP (zaA c) a i)=zbZ c.ins.length (RP (zaA c) a):=za0 λi _=>⟨λh=>h.resolve_left zbX,.inr⟩;rw [<-this];exact g5
def zrw (hW:WAt W0 b c) (e0:Ext W0 w) (hr:r<c.procs.length) :
   CALL tp 111 [.pointer (some ⟨b,0,none⟩),.int .i64 (r:Int)] w λv w'=>Ext w w'/\v=.bool true:=by
 refine co (g:=kf [] [] []) Tryz.func111 ?_;refine zcb<|br (λ_=>?_) (λh=>oo);refine NIL.mk rfl<|zab zbM<|zab zbG<|zaa zcv (zaC hW.wl.code) e0 λv10 g0=>zae u24 g0<|zag<|⟨xrf _,by simp;omega⟩
def zpM (c:DCode) (r a:Nat):Prop:=zec c r=[a]/\zas c a=(zcm c:Int)/\¬RP (zaA c) a a/\zec c (zcm c)=[]/\¬ ∃ p,UsedP c p/\zk0 c p 4 (zcm c)
def ze5 (c:DCode) (r:Nat):Prop:=(r=zcm c/\zec c r=[])\/(r≠zcm c/\∃ a,zpM c r a)
noncomputable instance (c:DCode) (r:Nat):Decidable (ze5 c r):=Classical.propDecidable _
def zgq:ze5 c (zcm c)↔zec c (zcm c)=[]:=
 ⟨λh=>h.elim (·.2) λh=>absurd rfl h.1,λh=>.inl ⟨rfl,h⟩⟩
def zlp (hr:r≠zcm c):ze5 c r↔∃ a,zpM c r a:=
 ⟨λh=>h.elim (λh=>absurd h.1 hr) (·.2),λh=>.inr ⟨hr,h⟩⟩
def zrx {l:List Nat}:((l.length:Int)=0)↔l=[]:=by
 rw [<-List.length_eq_zero_iff];omega
def zry:(zeJ c).testBit p=true↔p<c.procs.length/\UsedP c p:=za7
def zoh:(zdh c).testBit p=true↔p<c.procs.length/\RootP c p:=za7
def zy4 (hc:CodeR c) {p:Nat} (h:UsedP c p):p<c.procs.length:=by
 obtain ⟨r,hr,hf⟩:=h;exact hf.lt (hr.lt hc)
def zvY (hc:CodeR c) {q:Nat} (hq:q<c.procs.length):(orL (cls c 4) (zbJ (zeJ c))).testBit q=true↔∃ p,UsedP c p/\zk0 c p 4 q:=by
 have h8:=hc.1.procs8;rw [zjt (m:=zeJ c) (n:=c.procs.length) zj6 oo];constructor
 . rintro ⟨i,h1,h2,h3⟩
   exact ⟨i,(zry.1 h2).2,((zkm h1).1 h3).2⟩
 rintro ⟨i,h1,h2⟩;have hi:=zy4 hc h1;exact ⟨i,hi,zry.2 ⟨hi,h1⟩,(zkm hi).2 ⟨hq,h2⟩⟩
def zoi (hW:WAt W0 b c) (e0:Ext W0 w) (hc:CodeR c) :
   CALL tp 49 [.pointer (some ⟨b,0,none⟩),.int .i64 (zcm c:Nat)] w λv w'=>Ext w w'/\v=.bool (decide (ze5 c (zcm c))):=by
 refine co (g:=kf [] [] [(7,[0,1,2,3,4,5,6,7,8,9,10,12,11,13,14,15,16,17,18,19,21,22,23,20,24,25,26],1050624),(9,[0,1,2,3,4,5,6,7,8,9,10,11,13,12,14,15,16,17],4096)]) Tryz.func49 ?_;have h8:=hc.1.procs8;have g1:=(ze2 hc).2;have g2:zdh c<256:=zbs h8.1;refine (zrw hW e0 g1).mono ?_;rintro _ w1 ⟨g3,rfl⟩;refine zaV<|zbz (λh=>by cases h) (λ_=>?_);refine NIL.mk rfl<|zab zlB<|zac ty3 hW.roots (e0.t g3) λ_=>?_;refine (zgh (m:=zdh c) (i:=zcm c) oo oo).mono ?_;rintro _ w2 ⟨g4,rfl⟩;rw [zoh.2 ⟨g1,.main⟩];refine zaV<|zbz (λh=>by cases h) (λ_=>?_);have g0:=g3.t g4;refine (ziE (hW.wl.code.ext (e0.t g0)) hc).mono ?_;rintro _ w3 ⟨g5,rfl⟩;have C:=g0.t g5;refine NIL.mk rfl<|zab zlC<|zac ty3 hW.used (e0.t C) λ_=>?_;refine (zog (r:=zcm c) hW (e0.t C) hc).mono ?_;rintro v28 w4 ⟨g9,gb⟩;refine zai<|br (λ_=>?_) (λh=>absurd rfl h);refine zae u33 gb.is<|zai ?_;rw [zaf];exact ⟨C.t g9,by congr 1;rw [decide_eq_decide,zgq,zrx]⟩
def zy5 (hW:WAt W0 b c) (e0:Ext W0 w) (hc:CodeR c) (hr:RootP c r) :
   CALL tp 49 [.pointer (some ⟨b,0,none⟩),.int .i64 (r:Int)] w λv w'=>Ext w w'/\v=.bool (decide (ze5 c r)):=by
 by_cases hm:r=zcm c
 . subst hm;exact zoi hW e0 hc
 refine co (g:=kf [] [] [(7,[0,1,2,3,4,5,6,7,8,9,10,12,11,13,14,15,16,17,18,19,21,22,23,20,24,25,26],1050624),(9,[0,1,2,3,4,5,6,7,8,9,10,11,13,12,14,15,16,17],4096)]) Tryz.func49 ?_;have h8:=hc.1.procs8;have gC:=(ze2 hc).2;have gj:=hr.lt hc;have gl:zdh c<256:=zbs h8.1;have g0:zeJ c<2^c.procs.length:=zj6;refine (zrw hW e0 gj).mono ?_;rintro _ w1 ⟨gp,rfl⟩;refine zaV<|zbz (λh=>by cases h) (λ_=>?_);refine NIL.mk rfl<|zab zlB<|zac ty3 hW.roots (e0.t gp) λ_=>?_;refine (zgh (m:=zdh c) (i:=r) oo oo).mono ?_;rintro _ w2 ⟨gD,rfl⟩;rw [zoh.2 ⟨gj,hr⟩];refine zaV<|zbz (λh=>by cases h) (λ_=>?_);have g1:=gp.t gD;refine (ziE (hW.wl.code.ext (e0.t g1)) hc).mono ?_;rintro _ w3 ⟨gE,rfl⟩;have M:=g1.t gE;refine NIL.mk rfl<|zab zlC<|zac ty3 hW.used (e0.t M) λ_=>?_;refine (zog (r:=r) hW (e0.t M) hc).mono ?_;rintro gF gq ⟨gG,gH⟩;refine zai<|br (λh=>absurd oo hm) (λ_=>?_);have gr:=zah gq;have D:=M.t (gG.t gr);have gc:=gH.is.ext gr;generalize World.drew1 gq=w4 at *;have V:=λa (ha:a∈zec c r)=>zof hc ha;have I:(¬ ∃ a,zpM c r a)->Value.bool false=.bool (decide (ze5 c r)):=λh=>by rw [decide_eq_false λh2=>h ((zlp hm).1 h2)]
 refine zae u33 gc<|zaP ?_;rw [zaf];refine br (λgd=>?_) (λgI=>?_)
 . exact ⟨D,I λ⟨a,h⟩=>gd (by rw [h.1];rfl)⟩
 have gJ:(zec c r).length=1:=by have:=qad.1 gI;omega
 obtain ⟨a,ha⟩:∃ a,zec c r=[a]:=qbe.1 gJ;have g5:a<c.ins.length:=V a (by rw [ha];simp);rw [ha] at gc
 have O:∀ {w:World} {K:Value->Prop},Ext w4 w->(K (.int .i64 (a:Int)))->RD tp (Instr.indexAt 33 gF (.int .i64 0)) w λx=>RD tp (Instr.loadAt 3 x) w K:=λhx kk=>by
   refine zad u33 ty3 (i:=0) gc (by simp [zaT]) λb3 o3 gs=>?_;rw [show (zaT [a])[0]'(by simp [zaT])=(a:Int) from rfl] at gs;exact zac ty3 gs hx λ_=>kk
 have g2:∀ a',zpM c r a'->a'=a:=λa' h=>by have:=h.1;rw [ha] at this;simpa using this.symm
 refine NIL.mk rfl<|zab zbM<|zaa zbq hW.wl.code (e0.t D) λv42 gK=>O (xrf _) ?_;refine (zmc (a:=(a:Int)) gK (e0.t D) hc oo oo).mono ?_;rintro _ w5 ⟨g9,rfl⟩;refine ⟨g9,?_⟩;have U:=D.t g9;refine zaP<|br (λgd=>?_) (λgf=>?_)
 . exact ⟨U,I λ⟨a',h⟩=>gd (by have:=g2 a' h;subst this;exact h.2.1)⟩
 refine O g9<|O g9 ?_;refine (zAL (a:=a) hW (e0.t U) hc g5).mono ?_;rintro v55 w6 ⟨gt,gM⟩;refine ⟨gt,?_⟩;have g3:=U.t gt;have gg:=zaU (n:=c.ins.length) (p:=RP (zaA c) a) (i:=a);rw [za5 (by rw [zan];exact g5)] at gg;refine zad u90 ty4 (i:=a) gM.is (by rw [zan];exact g5) λb8 o8 gN=>zaG ty4 gN (xrf _)<|zbz (λgb=>?_) (λgb=>?_)
 . exact ⟨g3,I λ⟨a',h⟩=>by have:=g2 a' h;subst this;exact h.2.2.1 (gg.1 gb).2⟩
 have gO:¬RP (zaA c) a a:=λh=>by rw [gg.2 ⟨g5,h⟩] at gb;cases gb
 have gh:=zah w6;have g4:=g3.t gh;generalize World.drew1 w6=w7 at *;refine (zoi hW (e0.t g4) hc).mono ?_;rintro _ w8 ⟨gP,rfl⟩;have C:=g4.t gP;refine br (λV=>?_) (λV=>?_)
 case refine_2=>exact ⟨C,I λ⟨a',h⟩=>V (zgq.2 h.2.2.2.1)⟩
 refine NIL.mk rfl<|zab ztw<|zaa za4 hW.calls (e0.t C) λv69 gQ=>NIL.mk rfl<|zab zlC<|zac ty3 hW.used (e0.t C) λ_=>?_
 have gx:∀ x∈cls c 4,x<256:=λx hx=>by
   obtain ⟨p,_,rfl⟩:=qaZ.1 hx;exact zbs h8.1
 refine (zhT (m:=zeJ c) gQ (e0.t C) gx (by rw [zhs];omega) (by rw [zhs];exact g0)).mono ?_;rintro _ w9 ⟨gy,rfl⟩;refine ⟨gy,?_⟩;have gz:=zt5 gx (zbJ (zeJ c));refine (zgh (m:=orL (cls c 4) (zbJ (zeJ c))) (i:=zcm c) oo oo).mono ?_;rintro _ w10 ⟨gi,rfl⟩;refine zaV<|⟨C.t (gy.t gi),?_⟩;have gR:=zvY hc gC
 have:ze5 c r↔¬(orL (cls c 4) (zbJ (zeJ c))).testBit (zcm c)=true:=by
   rw [zlp hm,gR];constructor
   . rintro ⟨a',h⟩;exact h.2.2.2.2
   intro h;exact ⟨a,ha,qad.1 gf,gO,zgq.1 V,h⟩
 congr 1;cases hb:(orL (cls c 4) (zbJ (zeJ c))).testBit (zcm c)
 . rw [decide_eq_true (this.2 (by rw [hb];simp))];rfl
 rw [decide_eq_false (λh=>this.1 h hb)];rfl
def zjB (h0:Is W0 v0 c) (e0:Ext W0 w) (hc:CodeR c) :
   CALL tp 224 [v0,.int .i64 (zcm c:Nat)] w λv w'=>Ext w w'/\v=.bool (decide (ze5 c (zcm c))):=by
 refine co (g:=kf [] [(9,1180587117117783933200,[8])] [(5,[0,1,2,3,4,5,6,7,9,8,10,11,12,13,14,15,16,18,19,20,17,21,22,23,24,25,26,27,28,29],131328)]) Tryz.func224 ?_;have g1:=ze2 hc;refine za9 h0 e0 λw1 g2 hA=>zaa zbq hA (xrf _) λv9 h9=>?_;refine (zhR h9 (xrf _)).mono ?_;rintro _ w2 ⟨g0,rfl⟩;rw [g1.1];refine zaa zbq hA g0 λv11 g3=>?_;refine (zkT (r:=zcm c) g3 g0 hc).mono ?_;rintro v13 w3 ⟨g4,g5⟩;refine zai<|br (λ_=>?_) (λh=>absurd rfl h);refine zae u33 g5.is<|zai ?_;rw [zaf];exact ⟨g2.t (g0.t g4),by congr 1;rw [decide_eq_decide,zgq,zrx]⟩
def zrz (h0:Is W0 v0 c) (e0:Ext W0 w) (hc:CodeR c) :
   CALL tp 224 [v0,.int .i64 (r:Int)] w λv w'=>Ext w w'/\v=.bool (decide (ze5 c r)):=by
 by_cases hm:r=zcm c
 . subst hm;exact zjB h0 e0 hc
 refine co (g:=kf [] [(9,1180587117117783933200,[8])] [(5,[0,1,2,3,4,5,6,7,9,8,10,11,12,13,14,15,16,18,19,20,17,21,22,23,24,25,26,27,28,29],131328)]) Tryz.func224 ?_;have h8:=hc.1.procs8;have he:=hc.2.1.1;have gr:=ze2 hc;refine za9 h0 e0 λw1 Z hA=>zaa zbq hA (xrf _) λv9 h9=>?_;refine (zhR h9 (xrf _)).mono ?_;rintro _ w2 ⟨gc,rfl⟩;rw [gr.1];refine zaa zbq hA gc λv11 gz=>?_;refine (zkT (r:=r) gz gc hc).mono ?_;rintro gC w3 ⟨gD,gE⟩;refine zai<|br (λh=>absurd oo hm) (λ_=>?_);have gs:=zah w3;have I:=gc.t (gD.t gs);have gd:=gE.is.ext gs;generalize World.drew1 w3=w4 at *;have g0:=λa (ha:a∈zec c r)=>zof hc ha;have D:(¬ ∃ a,zpM c r a)->Value.bool false=.bool (decide (ze5 c r)):=λh=>by rw [decide_eq_false λh2=>h ((zlp hm).1 h2)]
 refine zae u33 gd<|zaP ?_;rw [zaf];refine br (λgf=>?_) (λgF=>?_)
 . exact ⟨Z.t I,D λ⟨a,h⟩=>gf (by rw [h.1];rfl)⟩
 have gG:(zec c r).length=1:=by have:=qad.1 gF;omega
 obtain ⟨a,ha⟩:∃ a,zec c r=[a]:=qbe.1 gG;have g5:a<c.ins.length:=g0 a (by rw [ha];simp);rw [ha] at gd
 have Y:∀ {w:World} {K:Value->Prop},Ext w4 w->(K (.int .i64 (a:Int)))->RD tp (Instr.indexAt 33 gC (.int .i64 0)) w λx=>RD tp (Instr.loadAt 3 x) w K:=λhx kk=>by
   refine zad u33 ty3 (i:=0) gd (by simp [zaT]) λb3 o3 gt=>?_;rw [show (zaT [a])[0]'(by simp [zaT])=(a:Int) from rfl] at gt;exact zac ty3 gt hx λ_=>kk
 have g1:∀ a',zpM c r a'->a'=a:=λa' h=>by have:=h.1;rw [ha] at this;simpa using this.symm
 refine zaa zbq hA I λv24 gH=>Y (xrf _) ?_;refine (ze7 (a:=(a:Int)) gH I).mono ?_;rintro _ w5 ⟨g9,rfl⟩;refine ⟨g9,?_⟩;have M:=I.t g9;refine zaP<|br (λgf=>?_) (λgg=>?_)
 . exact ⟨Z.t M,D λ⟨a',h⟩=>gf (by have:=g1 a' h;subst this;exact h.2.1)⟩
 refine zaa zbq hA M λv33 gI=>Y g9<|Y g9 ?_;refine (zsv (a:=a) gI M hc g5).mono ?_;rintro v55 w6 ⟨gx,gJ⟩;refine ⟨gx,?_⟩;have O:=M.t gx;have gh:=zaU (n:=c.ins.length) (p:=RP (zaA c) a) (i:=a);rw [za5 (by rw [zan];exact g5)] at gh;refine zad u90 ty4 (i:=a) gJ.is (by rw [zan];exact g5) λb8 o8 gK=>zaG ty4 gK (xrf _)<|zbz (λgb=>?_) (λgb=>?_)
 . exact ⟨Z.t O,D λ⟨a',h⟩=>by have:=g1 a' h;subst this;exact h.2.2.1 (gh.1 gb).2⟩
 have gM:¬RP (zaA c) a a:=λh=>by rw [gh.2 ⟨g5,h⟩] at gb;cases gb
 refine zaa zbq hA O λv45 gN=>?_;refine (zjB gN O hc).mono ?_;rintro _ w8 ⟨gO,rfl⟩;have U:=O.t gO;refine zav<|br (λg0=>?_) (λg0=>?_)
 . exact ⟨Z.t U,D λ⟨a',h⟩=>g0 (zgq.2 h.2.2.2.1)⟩
 have gi:=qad.1 g0;refine zaa zbq hA U λv50 gP=>?_;refine (zhW gP U hc).mono ?_;rintro v51 w9 ⟨gQ,gR⟩;have gj:=U.t gQ;refine zao c.procs.length (λk us w'=>us=[.int .i64 (k:Int)]/\k<=c.procs.length/\Ext w9 w'/\∀ p,p<k->UsedP c p->¬zk0 c p 4 (zcm c)) 0 (z0 _) ⟨rfl,z0 _,xrf _,λp h=>oo⟩ ?_;rintro p mk u w10 hkm ⟨hu,hkl,V,hD⟩;try replace hu:=zbt hu
 rw [hu];have C:=gj.t V;refine zab zbG<|zaa zcv (zaC hA) C λv54 gS=>zae u24 gS<|zag<|br (λhlt=>?_) (λhge=>?_)
 case refine_2=>have:ze5 c r:=(zlp hm).2 ⟨a,ha,qad.1 gg,gM,zgq.1 gi,λ⟨p,h1,h2⟩=>hD p (by have:=zy4 hc h1;omega) h1 h2⟩;exact ⟨Z.t C,by rw [decide_eq_true this]⟩
 have hp:p<c.procs.length:=oo
 have X:(UsedP c p->¬zk0 c p 4 (zcm c))->∀ q,q<p+1->UsedP c q->¬zk0 c q 4 (zcm c):=λh q hq=>by
   by_cases e:q=p
   . subst e;exact h
   exact hD q oo
 have gl:=zaU (n:=c.procs.length) (p:=UsedP c) (i:=p);rw [za5 (by rw [zan];exact hp)] at gl;refine zad u90 ty4 (i:=p) gR.is (by rw [zan];exact hp) λb11 o11 gp=>zaG ty4 gp V<|zbz (λhf=>?_) (λhf=>?_)
 case refine_2=>refine zau<|⟨mk-1,oo,p+1,oo,rfl,oo,V,X λh=>by rw [gl.2 ⟨hp,h⟩] at hf;cases hf⟩
 have hU:=(gl.1 hf).2;refine zaa zbq hA C λv64 gU=>?_;refine (zmi (p:=p) gU C hc (by rw [he];exact hp) (.inl rfl)).mono ?_;rintro v66 w11 ⟨g2,gq⟩;refine (zyL (y:=(zcm c:Nat)) gq.is (xrf _)).mono ?_;rintro _ w12 ⟨g3,rfl⟩;have g4:=C.t (g2.t g3)
 have gy:((zcm c:Nat):Int)∈zaT (zbd c.procs.length (zk0 c p 4))↔zk0 c p 4 (zcm c):=by
   unfold zaT;rw [qaZ];constructor
   . rintro ⟨x,hx,e⟩
     have:x=zcm c:=oo
     subst this;exact (zaH.1 hx).2
   intro h;exact ⟨_,zaH.2 ⟨gr.2,h⟩,rfl⟩
 refine br (λhy=>?_) (λgV=>?_)
 . exact ⟨Z.t g4,D λ⟨a',h⟩=>h.2.2.2.2 ⟨p,hU,gy.1 hy⟩⟩
 refine zau<|⟨mk-1,oo,p+1,oo,rfl,oo,V.t (g2.t g3),X λ_ h=>gV (gy.2 h)⟩
noncomputable def zs0 (c:DCode):Nat:=zcR (λr=>RootP c r/\ze5 c r) c.procs.length
def RtP (c:DCode) (i r:Nat):Prop:=zfW c i/\RootP c r/\FromP c r (zas c i).toNat
noncomputable def rtN (c:DCode) (i:Nat):Nat:=zcR (RtP c i) c.procs.length
def zy6 (hc:CodeR c) (i:Nat):rtN c i<256:=zbs hc.1.procs8.1
def zAM (hc:CodeR c):zs0 c<256:=zbs hc.1.procs8.1
def AccB (U:List Nat) (P:Nat->Prop) (k m:Nat):Prop:=m<256/\∀ r,m.testBit r=true↔r∈U.take k/\P r
def AccB.yes {P:Nat->Prop} (h:AccB U P k m) (hk:k<U.length) (h8:U[k]<8) (hp:P U[k]):AccB U P (k+1) (m ||| 2^U[k]):=by
 refine ⟨qaT (n:=8) h.1 (qaJ oo h8),λr=>?_⟩;rw [qaH,qaK,h.2,zbD hk,qaG,decide_eq_true_eq];constructor
 . rintro (⟨h1,h2⟩ | rfl)
   . exact ⟨.inl h1,h2⟩
   exact ⟨.inr rfl,hp⟩
 rintro ⟨h1 | rfl,h2⟩
 . exact .inl ⟨h1,h2⟩
 exact .inr rfl
def AccB.no {P:Nat->Prop} (h:AccB U P k m) (hk:k<U.length) (hp:¬P U[k]):AccB U P (k+1) m:=by
 refine ⟨h.1,λr=>?_⟩;rw [h.2,zbD hk];constructor
 . rintro ⟨h1,h2⟩;exact ⟨.inl h1,h2⟩
 rintro ⟨h1 | rfl,h2⟩
 . exact ⟨h1,h2⟩
 exact absurd h2 hp
def AccB.fin {Q P:Nat->Prop} (h:AccB (zbd n Q) P k m) (hk:(zbd n Q).length<=k):m=zcR (λr=>Q r/\P r) n:=by
 refine zem λr=>?_;rw [h.2,qaf hk,zaH];exact ⟨λ⟨⟨a,b⟩,d⟩=>⟨a,b,d⟩,λ⟨a,b,d⟩=>⟨⟨a,b⟩,d⟩⟩
def AccB.start (U:List Nat) (P:Nat->Prop):AccB U P 0 0:=⟨oo,λr=>by simp⟩
def zvZ (hW:WAt W0 b c) (e0:Ext W0 w) (hc:CodeR c) :
   CALL tp 186 [.pointer (some ⟨b,0,none⟩)] w λv w'=>Ext w w'/\v=.int .i64 (zs0 c:Nat):=by
 refine co (g:=kf [] [(3,33550376,[3,12])] []) Tryz.func186 ?_;have h8:=hc.1.procs8;have g3:zdh c<256:=zbs h8.1;refine NIL.mk rfl<|zab zlB<|zac ty3 hW.roots e0 λ_=>?_;refine (zdr (m:=zdh c) oo).mono ?_;rintro v10 w1 ⟨g4,g0⟩;unfold zdh at g0;rw [zen oo] at g0;refine zae u33 g0.is ?_;rw [zaf];have hUl:=zbg (n:=c.procs.length) (p:=RootP c);have gc:∀ r∈zbd c.procs.length (RootP c),r<c.procs.length/\RootP c r:=λr hr=>zaH.1 hr;have g1:∀ {k m},AccB (zbd c.procs.length (RootP c)) (ze5 c) k m->(zbd c.procs.length (RootP c)).length<=k->m=zs0 c:=λh hk=>h.fin hk;generalize zbd c.procs.length (RootP c)=U at *;refine zao U.length (λk us w'=>∃ m:Nat,us=[.int .i64 (m:Int),.int .i64 (k:Int)]/\k<=U.length/\Ext w1 w'/\AccB U (ze5 c) k m) 0 (z0 _) ⟨0,rfl,z0 _,xrf _,AccB.start _ _⟩ ?_;rintro k mk u w2 hkm ⟨m,hu,hkl,C,hB⟩;obtain ⟨gd,gf⟩:=zcB hu;rw [gd,gf];refine zag<|br (λhlt=>?_) (λhge=>?_)
 case refine_2=>rw [g1 hB oo];exact ⟨g4.t C,rfl⟩
 have hk:k<U.length:=oo
 obtain ⟨hrl,gg⟩:=gc U[k] (qab _);refine zad u33 ty3 (i:=k) g0.is (by rw [zaf];exact hk) λb3 o3 g5=>?_;rw [za3] at g5;have g2:=λhp=>hB.yes hk oo hp;have gh:=λhp=>hB.no hk hp;generalize U[k]=r at *;refine zac ty3 g5 C λ_=>?_;have g9:=hB.1;refine (zy5 (r:=r) hW (e0.t (g4.t C)) hc gg).mono ?_;rintro _ w3 ⟨gb,rfl⟩;refine br (λhs=>?_) (λhs=>?_)
 . refine zb0 kK zkA oo ?_
   refine zdF oo ?_;have:2^r<256:=qaJ (m:=r) (n:=8) oo oo;refine zgz oo oo<|zau<|⟨mk-1,oo,k+1,oo,m ||| 2^r,rfl,oo,C.t gb,g2 hs⟩
 refine zau<|⟨mk-1,oo,k+1,oo,m,rfl,oo,C.t gb,gh hs⟩
def zv0 (hW:WAt W0 b c) (e0:Ext W0 w) (hc:CodeR c) (hi:i<c.ins.length) :
   CALL tp 185 [.pointer (some ⟨b,0,none⟩),.int .i64 (i:Int)] w λv w'=>Ext w w'/\v=.int .i64 (rtN c i:Nat):=by
 refine co (g:=kf [] [(5,36028794871480480,[5,31])] [(7,[0,1,2,3,4,5,6,7,8,9,10,11,12,13],4096)]) Tryz.func185 ?_;have h8:=hc.1.procs8;have gd:zdh c<256:=zbs h8.1;obtain ⟨q,hq,gf,_⟩:=zeF hc hi;refine NIL.mk rfl<|zab zbM<|zaa zbq hW.wl.code e0 λv11 gq=>?_;refine (zfb (a:=(i:Int)) gq e0).mono ?_;rintro _ w1 ⟨C,rfl⟩;refine zav<|br (λh=>absurd ⟨oo,oo⟩ h) (λ_=>?_);refine NIL.mk rfl<|zab ztv<|zaa zgt hW.wl.live (e0.t C) λv19 gr=>?_;have g4:=zaU (n:=c.ins.length) (p:=zfW c) (i:=i);rw [za5 (by rw [zan];exact hi)] at g4;refine zad u90 ty4 (i:=i) gr (by rw [zan];exact hi) λb2 o2 gs=>zaG ty4 gs (e0.t C)<|zaV<|zbz (λhf=>?_) (λhf=>?_)
 . have gt:¬zfW c i:=λh=>by rw [g4.2 ⟨hi,h⟩] at hf;cases hf
   have:rtN c i=0:=(zem (m:=0) λr=>by simp;exact λ_ h=>gt h.1).symm;rw [this];exact ⟨C,rfl⟩
 have hL:zfW c i:=(g4.1 (by simpa using hf)).2;refine NIL.mk rfl<|zab zlB<|zac ty3 hW.roots (e0.t C) λ_=>?_;refine (zdr (m:=zdh c) oo).mono ?_;rintro v29 w2 ⟨gx,g3⟩;unfold zdh at g3;rw [zen oo] at g3;refine zae u33 g3.is ?_;rw [zaf];have hUl:=zbg (n:=c.procs.length) (p:=RootP c);have gy:∀ r∈zbd c.procs.length (RootP c),r<c.procs.length/\RootP c r:=λr hr=>zaH.1 hr
 have g5:∀ {k m},AccB (zbd c.procs.length (RootP c)) (λr=>FromP c r q) k m->(zbd c.procs.length (RootP c)).length<=k->m=rtN c i:=λh hk=>by
   rw [h.fin hk];unfold rtN;refine zbC λr _=>?_;unfold RtP;rw [gf];exact ⟨λh=>⟨hL,h.1,h.2⟩,λh=>h.2⟩
 generalize zbd c.procs.length (RootP c)=U at *;have g0:=C.t gx;refine zao U.length (λk us w'=>∃ m:Nat,us=[.int .i64 (m:Int),.int .i64 (k:Int)]/\k<=U.length/\Ext w2 w'/\AccB U (λr=>FromP c r q) k m) 0 (z0 _) ⟨0,rfl,z0 _,xrf _,AccB.start _ _⟩ ?_;rintro k mk u w3 hkm ⟨m,hu,hkl,g9,hB⟩;obtain ⟨gz,gC⟩:=zcB hu;rw [gz,gC];refine zag<|br (λhlt=>?_) (λhge=>?_)
 case refine_2=>rw [g5 hB oo];exact ⟨g0.t g9,rfl⟩
 have hk:k<U.length:=oo
 obtain ⟨gb,hrR⟩:=gy U[k] (qab _);refine zad u33 ty3 (i:=k) g3.is (by rw [zaf];exact hk) λb4 o4 gg=>?_;rw [za3] at gg;have gc:=λhp=>hB.yes hk oo hp;have gD:=λhp=>hB.no hk hp;generalize U[k]=r at *;refine zac ty3 gg g9 λ_=>?_;have gh:=hB.1;have gE:=zah w3;have g1:=g9.t gE;generalize World.drew1 w3=w4 at *;have e4:=e0.t (g0.t g1);refine NIL.mk rfl<|zab zqe<|zaa za4 hW.frm e4 λv38 gF=>zad u33 ty3 (i:=r) gF (by rw [zaf,zkd];exact gb) λb5 o5 gi=>?_;rw [zaR] at gi;refine zac ty3 gi e4 λ_=>NIL.mk rfl<|zab zbM<|zaa zbq hW.wl.code e4 λv45 gG=>?_;refine (zmc (a:=(i:Int)) gG e4 hc oo oo).mono ?_;rintro _ w5 ⟨gj,rfl⟩;refine ⟨gj,?_⟩;rw [gf];have gl:=zsL (c:=c) (r:=q) gb;have gp:zay (frs c) r<256:=by rw [zt8 gb];exact zbs h8.1
 refine (zgh (m:=zay (frs c) r) (i:=q) oo oo).mono ?_;rintro _ w6 ⟨gH,rfl⟩;have g2:=g1.t (gj.t gH);refine zbz (λhs=>?_) (λhs=>?_)
 . refine zb0 kK zkA oo ?_
   refine zdF oo ?_;have:2^r<256:=qaJ (m:=r) (n:=8) oo oo;refine zgz oo oo<|zau<|⟨mk-1,oo,k+1,oo,m ||| 2^r,rfl,oo,g2,gc (gl.1 hs).2⟩
 refine zau<|⟨mk-1,oo,k+1,oo,m,rfl,oo,g2,gD λh=>by rw [gl.2 ⟨hq,h⟩] at hs;cases hs⟩
def zCh (a b s:Nat):Prop:=∃ r t,a.testBit r=true/\b.testBit t=true/\(r≠t\/s.testBit r=false)
def zAN:∀ a,a<256->a &&& (a-1)≠0->∃ r,r<8/\∃ t,t<8/\r≠t/\a.testBit r=true/\a.testBit t=true:=by decide +kernel
def zDo:∀ a,a<256->∀ r,r<8->∀ t,t<8->(a &&& (a-1)=0/\a.testBit r=true/\a.testBit t=true->r=t):=by decide +kernel
def zy7 (h:m<256) (hb:m.testBit l=true):l<8:=qbb λhc=>by
 have:=qbj (qal (show m<2^8 from h) (qat oo (by omega:8<=l)));rw [this] at hb;cases hb
def zpN (h:m≠0):∃ i,m.testBit i=true:=Nat.exists_testBit_of_ne_zero h
def zy8 (h:m=0) (i:Nat):¬m.testBit i=true:=by rw [h];simp
def zAO {a b s:Nat} (ha:a<256) (hb:b<256) (hs:s<256) :
   CALL tp 108 [.int .i64 (a:Int),.int .i64 (b:Int),.int .i64 (s:Int)] w λv w'=>Ext w w'/\∃ x:Bool,v=.bool x/\(x=true↔zCh a b s):=by
 refine co (g:=kf [] [] []) Tryz.func108 ?_;refine zai<|br (λh=>?_) (λhna=>?_)
 . exact ⟨xrf _,false,rfl,⟨λe=>(by cases e),λ⟨r,t,h1,_⟩=>absurd h1 (zy8 oo r)⟩⟩
 refine zai<|br (λh=>?_) (λhnb=>?_)
 . exact ⟨xrf _,false,rfl,⟨λe=>(by cases e),λ⟨r,t,_,h1,_⟩=>absurd h1 (zy8 oo t)⟩⟩
 have hle:=qaX (n:=a) (m:=b);refine zeA (m:=a) (n:=b) oo oo<|zft (m:=a &&& b) (n:=s) oo oo<|zaP<|br (λh=>?_) (λh=>?_)
 . obtain ⟨i,hi⟩:=zpN (m:=zlg (a &&& b) s) oo
   rw [zdg,qaP] at hi;simp only [qap,qaR] at hi;exact ⟨xrf _,true,rfl,⟨λ_=>⟨i,i,hi.1.1,hi.1.2,.inr hi.2⟩,λ_=>rfl⟩⟩
 have hz:zlg (a &&& b) s=0:=by have:=qad.1 h;omega
 refine zaP<|br (λg0=>?_) (λg1=>?_)
 . refine ⟨xrf _,true,rfl,⟨λ_=>?_,λ_=>rfl⟩⟩
   refine qaV λhn=>?_;have C:∀ r t,a.testBit r=true->b.testBit t=true->r=t:=λr t h1 h2=>qaV λe=>hn ⟨r,t,h1,h2,.inl e⟩;obtain ⟨r,hr⟩:=zpN (m:=a) oo;obtain ⟨t,ht⟩:=zpN (m:=b) oo;have g2:=C r t hr ht;subst g2
   have:a=b:=qbd λi=>by
     cases e1:a.testBit i<;>cases e2:b.testBit i
     . rfl
     . have:=C r i hr e2;subst this;rw [hr] at e1;cases e1
     . have:=C i r e1 ht;subst this;rw [ht] at e2;cases e2
     rfl
   exact g0 (by rw [this])
 have g3:a=b:=by have:=qad.1 g1;omega
 subst g3;refine zbc (by unfold I64;omega) ?_;rw [show (a:Int)-1=((a-1:Nat):Int) by omega];refine zeA (m:=a) (n:=a-1) oo oo<|zaP<|⟨xrf _,_,rfl,?_⟩;rw [decide_eq_true_eq];constructor
 . intro h
   obtain ⟨r,_,t,_,h1,h2,h3⟩:=zAN a ha oo;exact ⟨r,t,h2,h3,.inl h1⟩
 rintro ⟨r,t,h1,h2,h3⟩ hc;have:=zDo a ha r (zy7 ha h1) t (zy7 ha h2) ⟨oo,h1,h2⟩;subst this;have hb:=zy8 hz r;rw [zdg,qaP,h1] at hb;rcases h3 with h3 | h3
 . exact h3 rfl
 rw [h3] at hb;simp at hb
def zv1 (hW:WAt W0 b c) (e0:Ext W0 w) (hc:CodeR c) :
   CALL tp 106 [.pointer (some ⟨b,0,none⟩)] w λv w'=>Ext w w'/\∃ u,v=.tuple #[u,.int .i64 (zs0 c:Nat)]/\Own w.heap.size w' u (zaT ((List.range c.ins.length).map (rtN c))):=by
 refine co (g:=kf [] [(3,33521696,[15])] []) Tryz.func106 ?_;have g9:=hc.f.ins
 have g0:0<c.ins.length:=by
   have:=hc.1.procs8;have:=(zeE hc this.2).2.2;omega
 refine NIL.mk rfl<|zab zbM<|zab zaM<|zaa zcQ (zak hW.wl.code) e0 λv10 gb=>zae u34 gb ?_;have hn:c.ins.length=c.ins.length:=rfl;generalize hnn:c.ins.length=n at hn;rw [hnn] at g9 g0;refine zd1 g0 oo λw1 gc g4=>zkb u33 ?_;generalize hg:w.heap.size=g at *;have hg1:=g4.lt g sS
 have gd:Mine [g] w1 (.slice (some ⟨g,0,none⟩) n n) (zaT ((List.range n).map λi=>if i<0 then rtN c i else 0)):=by
   have:(List.replicate n 0)=((List.range n).map λi=>if i<0 then rtN c i else 0):=by
     apply qaO
     . simp
     intro i h1 h2;simp
   rw [<-this];exact g4
 refine zao n (λk us w'=>us=[.int .i64 (k:Int)]/\k<=n/\ChgI g (g+1) w1 w'/\Mine [g] w' (.slice (some ⟨g,0,none⟩) n n) (zaT ((List.range n).map λi=>if i<k then rtN c i else 0))) 0 (z0 _) ⟨rfl,z0 _,ChgI.refl _,gd⟩ ?_;rintro k mk u w2 hkm ⟨hu,hkl,g5,g1⟩;try replace hu:=zbt hu
 rw [hu];have g2:Ext w w2:=gc.chgI g5 oo;refine zag<|br (λhlt=>?_) (λhge=>?_)
 case refine_2=>
   have hke:k=n:=oo
   refine (zvZ hW (e0.t g2) hc).mono ?_;rintro _ w3 ⟨r,rfl⟩;refine ⟨g2.t r,_,rfl,[g],?_,λb hb=>by simp at hb;omega⟩
   have:((List.range n).map λi=>if i<k then rtN c i else 0)=(List.range n).map (rtN c):=qa3 λi hi=>by
     have:=qaw.1 hi;rw [if_pos oo]
   rw [this] at g1;exact g1.ext r
 have hk:k<n:=oo
 refine (zv0 (i:=k) hW (e0.t g2) hc oo).mono ?_;rintro _ w3 ⟨r,rfl⟩;have hrt:=zy6 hc k;refine zb8 (α:=Int) (i:=k) rfl u33 ty3 hk<|zbr (α:=Int) rfl ty3 (g1.ext r) (by simp [zaT]) hk (zbY (v:=rtN c k) oo) λw4 gf gg=>?_;have g3:ChgI g (g+1) w3 w4:=zfu gf;refine zau<|⟨mk-1,oo,k+1,oo,rfl,oo,(g5.trans r.toI).trans g3,?_⟩
 have:(zaT ((List.range n).map λi=>if i<k then rtN c i else 0)).set k (rtN c k:Nat)=zaT ((List.range n).map λi=>if i<k+1 then rtN c i else 0):=by
   unfold zaT;apply qaO
   . simp
   intro i h1 h2;simp only [qav,qbr] at h2;rw [qcc];by_cases e:k=i
   . subst e;simp
   rw [if_neg e];simp only [qbH,qcE];by_cases h:i<k
   . rw [if_pos h,if_pos oo]
   rw [if_neg h,if_neg oo]
 rw [<-this];exact gg
noncomputable def zuD (c:DCode) (i:Nat):List DTouch:=zdx c (i:Int) ((zay (zeD c) i:Nat):Int)
noncomputable def znn (c:DCode):List DTouch:=(zbd c.ins.length (MetP c)).flatMap (zuD c)
def zg1 (hc:CodeR c) (a h:Int):(zdx c a h).length<=12:=by
 have h1:=zmC c a h;have h2:=hc.1.1;simp only [qap,decide_eq_true_eq] at h2;omega
def zm2 (hc:CodeR c) (U:List Nat) (hU:U.length<=1500):(U.flatMap (zuD c)).length<=18000:=by
 have h1:=zh5 (l:=U) (f:=zuD c) (B:=12) λi _=>zg1 hc _ _;omega
def zv2 (hW:WAt W0 b c) (e0:Ext W0 w) (hc:CodeR c) :
   CALL tp 105 [.pointer (some ⟨b,0,none⟩)] w λv w'=>Ext w w'/\Own w.heap.size w' v (znn c):=by
 refine co (g:=kf [] [(4,1073733712,[4,13])] [(6,[0,1,2,3,4,5,6,7,8,9,10,11,12],1024)]) Tryz.func105 ?_;have hil:=hc.f.ins;refine (zyg hW e0 hc).mono ?_;rintro v8 w1 ⟨g4,gf⟩;refine (zyl hW (e0.t g4) hc).mono ?_;rintro v10 w2 ⟨g5,gg⟩;have g9:(zg9 c).length=c.ins.length:=by unfold zg9;rw [zan]
 refine (zyM gg.is (xrf _) (by rw [g9];omega)).mono ?_;rintro v11 w3 ⟨gb,D⟩;have r:=g4.t (g5.t gb);rw [g9] at D;unfold zg9 at D;rw [zho] at D;have gh:=gf.is.ext (g5.t gb);have hUl:=zbg (n:=c.ins.length) (p:=MetP c);have gi:∀ i∈zbd c.ins.length (MetP c),i<c.ins.length:=λi hi=>(zaH.1 hi).1;unfold znn;generalize zbd c.ins.length (MetP c)=U at *;refine zae u33 D.is ?_;rw [zaf];have gj:=r.size;refine zao U.length (λk us w'=>∃ out,us=[out,.int .i64 (k:Int)]/\k<=U.length/\Ext w3 w'/\RowI w3.heap.size w'.heap.size 138 w' out ((U.take k).flatMap (zuD c))) 0 (z0 _) ⟨_,rfl,z0 _,xrf _,zb6 _ _ _ _⟩ ?_;rintro k mk u w4 hkm ⟨out,hu,hkl,g0,g2⟩;obtain ⟨gl,gp⟩:=zcB hu;rw [gl,gp];refine zag<|br (λhlt=>?_) (λhge=>?_)
 case refine_2=>
   have gq:k=U.length:=oo
   rw [gq,qaD] at g2;exact ⟨r.t g0,g2.own.own.mono oo⟩
 have hk:k<U.length:=oo
 have hi:=gi U[k] (qab _);have gr:=zcS (f:=zuD c) hk;have hlk:=zm2 hc (U.take k) (by rw [qai];omega);refine zad u33 ty3 (i:=k) D.is (by rw [zaf];exact hk) λb5 o5 gc=>?_;rw [za3] at gc;generalize U[k]=i at *;refine zac ty3 gc g0 λ_=>?_;have g3:=zah w4;have C:=g0.t g3;have gs:=g2.ext g3;have hsd:=g3.size;generalize World.drew1 w4=w5 at *;have e5:=e0.t (r.t C);refine NIL.mk rfl<|zab zbM<|zaa zbq hW.wl.code e5 λv21 gt=>zad u33 ty3 (i:=i) gh (by rw [zaf,zhq];exact hi) λb6 o6 gd=>?_;rw [zaR] at gd;refine zac ty3 gd C λ_=>?_;have gx:=zcZ (zhV c) i;refine (zkP (a:=(i:Int)) (held:=(zay (zeD c) i:Nat)) gt e5 hc oo oo (by unfold I64;omega)).mono ?_;rintro v27 w6 ⟨g1,gy⟩;refine ⟨g1,?_⟩;have h12:(zuD c i).length<=12:=zg1 hc (i:Int) (zay (zeD c) i:Nat);have gz:=g0.size;have gC:=g1.size;refine zeh (m:=zuD c i) zm8 zdc zuV (gs.ext g1) oo gy.is (xrf _) (by rw [zal];omega) oo λgD w7 gE gF=>zau<|⟨mk-1,oo,k+1,oo,gD,rfl,oo,(C.t g1).chgI gE (lr _),?_⟩;rw [gr];exact gF
def zy9 (h0:Is W0 v0 c) (e0:Ext W0 w) (hc:CodeR c) :
   CALL tp 138 [v0] w λv w'=>Ext w w'/\Own w.heap.size w' v (znn c):=by
 refine co (g:=kf [] [(5,34359705672,[3,6])] [(8,[0,1,2,3,4,5,6,7,8,9],128)]) Tryz.func138 ?_;have hil:=hc.f.ins;refine za9 h0 e0 λw1 gb hA=>zaK (α:=DTouch) zm8 zdc λa7 w2 g4 hr2=>zaa zbq hA g4 λv8 h8=>?_;refine (zvs h8 g4 hc).mono ?_;rintro v9 w3 ⟨gg,gh⟩;have D:=g4.t gg;refine zaa zbq hA D λv10 gi=>?_;refine (zrd gi D hc).mono ?_;rintro _ w4 ⟨gc,gw,rfl,g5,gj⟩;have r:=D.t gc;have gl:=gh.is.ext gc;refine NIL.mk rfl<|zab zik<|zaa zgt g5 (xrf _) λv14 gp=>?_;have gd:(zg9 c).length=c.ins.length:=by unfold zg9;rw [zan]
 have hs1:=gb.size;have gq:=r.size;refine zao c.ins.length (λk us w'=>∃ out,us=[out,.int .i64 (k:Int)]/\k<=c.ins.length/\Ext w4 w'/\RowI w4.heap.size w'.heap.size 138 w' out ((zbd k (MetP c)).flatMap (zuD c))) 0 (z0 _) ⟨_,rfl,z0 _,xrf _,zcx _ _ _ _ _⟩ ?_;rintro i mk u w5 hkm ⟨out,hu,hkl,I,g2⟩;obtain ⟨gr,gs⟩:=zcB hu;rw [gr,gs];have g0:=r.t I;refine zab zaM<|zaa zcQ (zak hA) g0 λv17 gt=>zae u34 gt<|zag<|br (λhlt=>?_) (λhge=>?_)
 case refine_2=>
   have gx:i=c.ins.length:=oo
   rw [gx] at g2;exact ⟨gb.t g0,g2.own.own.mono oo⟩
 have hi:i<c.ins.length:=oo
 have gy:=za5 (ms:=zg9 c) (i:=i) (by rw [gd];exact hi)
 have g1:(zg9 c)[i]=true↔MetP c i:=by
   rw [<-gy];unfold zg9;rw [zaU];exact ⟨λh=>h.2,λh=>⟨hi,h⟩⟩
 refine zad u90 ty4 (i:=i) gp (by rw [gd];exact hi) λb6 o6 gz=>zaG ty4 gz I<|zbz (λht=>?_) (λhf=>?_)
 case refine_2=>
   have gC:¬MetP c i:=λh=>by rw [g1.2 h] at hf;cases hf
   refine zau<|⟨mk-1,oo,i+1,oo,out,rfl,oo,I,by rw [zdw gC];exact g2⟩
 have hM:=g1.1 ht
 have gD:(zbd (i+1) (MetP c)).flatMap (zuD c)=(zbd i (MetP c)).flatMap (zuD c)++zuD c i:=by
   rw [zdf hM,qa4];simp
 have hlk:=zm2 hc (zbd i (MetP c)) (by have:=zbg (n:=i) (p:=MetP c);omega);have g9:=zah w5;have C:=I.t g9;have gE:=g2.ext g9;have hsd:=g9.size;generalize World.drew1 w5=w6 at *;refine zaa zbq hA (r.t C) λv27 gF=>zad u33 ty3 (i:=i) gl (by rw [zaf,zhq];exact hi) λb7 o7 gf=>?_;rw [zaR] at gf;refine zac ty3 gf C λ_=>?_;have gG:=zcZ (zhV c) i;refine (zAk (a:=(i:Int)) (held:=(zay (zeD c) i:Nat)) gF (r.t C) hc oo oo (by unfold I64;omega)).mono ?_;rintro v33 w7 ⟨g3,gH⟩;refine ⟨g3,?_⟩;have h12:(zuD c i).length<=12:=zg1 hc (i:Int) (zay (zeD c) i:Nat);have gI:=I.size;have gJ:=g3.size;refine zeh (m:=zuD c i) zm8 zdc zuV (gE.ext g3) oo gH.is (xrf _) (by rw [zal];omega) oo λgK w8 gM gN=>zau<|⟨mk-1,oo,i+1,oo,gK,rfl,oo,(C.t g3).chgI gM (lr _),?_⟩;rw [gD];exact gN
def zza {b:Bool} {Q kt kf ks:Prop} (hq:b=true->Q) (key:Q->kt) (rest:(Q->kt)->b=false->kf):GBR (.bool b) kt kf ks:=
 zzz (λh=>key (hq h)) (λh=>rest key h)
structure KQ2 (Q:List Nat->World->Prop):Prop where
 keep:∀ {F:List Nat} {w w':World},Q F w->(∀ b∈F,w'.heap[b]?=w.heap[b]?)->Q F w'
 lt:∀ {F:List Nat} {w:World},Q F w->∀ b∈F,b<w.heap.size
structure TT (Q1 Q2:List Nat->World->Prop) (wb w:World) (F1 F2:List Nat):Prop where
 ext:Ext wb w
 q1:Q1 F1 w
 q2:Q2 F2 w
 b1:∀ b∈F1,wb.heap.size<=b
 b2:∀ b∈F2,wb.heap.size<=b
 dis:∀ b∈F1,b∉F2
section
variable {Q1 Q1' Q2:List Nat->World->Prop} {wb w w1 w':World} {F1 F2 F':List Nat}
def TT.swap (h:TT Q1 Q2 wb w F1 F2):TT Q2 Q1 wb w F2 F1:=⟨h.ext,h.q2,h.q1,h.b2,h.b1,λb hb hF=>h.dis b hF hb⟩
def TT.step (k1:KQ2 Q1) (k2:KQ2 Q2) (h:TT Q1 Q2 wb w F1 F2) (hx:Ext w w'):TT Q1 Q2 wb w' F1 F2:=
 ⟨h.ext.trans hx,k1.keep h.q1 λb hb=>hx.heap (k1.lt h.q1 b hb),k2.keep h.q2 λb hb=>hx.heap (k2.lt h.q2 b hb),h.b1,h.b2,h.dis⟩
def TT.grow (k1:KQ2 Q1) (k2:KQ2 Q2) (h:TT Q1 Q2 wb w F1 F2) {GX:List Nat} (hx:Ext w w1) (hc:Chg F1 w1 w') (hr:Q1' F' w') (hs:∀ c∈F',c∈F1\/c∈GX\/w.heap.size<=c) (hG:∀ c∈GX,wb.heap.size<=c/\c∉F2):TT Q1' Q2 wb w' F' F2:=by
 have h1:=h.step k1 k2 hx;refine ⟨h1.ext.chgF hc h.b1,hr,k2.keep h1.q2 λb hb=>hc.block b (k2.lt h1.q2 b hb) λhF=>h.dis b hF hb,λb hb=>?_,h.b2,λb hb hF=>?_⟩
 . rcases hs b hb with h2 | h2 | h2
   . exact h.b1 b h2
   . exact (hG b h2).1
   have:=h.ext.size;omega
 rcases hs b hb with h2 | h2 | h2
 . exact h.dis b h2 hF
 . exact (hG b h2).2 hF
 have:=k2.lt h.q2 b hF;omega
end
def zAP {α:Type} [Rep α] (e:TypeId) (v:Value) (L:List α) (F:List Nat) (w:World):Prop:=RowG F e w v L/\F.Nodup
def zkU {α:Type} [Rep α] (e:TypeId) (v:Value) (L:List α):KQ2 (zAP e v L):=⟨λh hk=>⟨h.1.keep hk,h.2⟩,λh=>h.1.lt⟩
def zjD (c:DCode) (a b r s:Nat):Prop:=RootP c r/\RootP c s/\FromP c r a/\FromP c s b/\(r≠s\/¬ze5 c r)
def zhb (c:DCode) (a b:Nat):Prop:=∃ r s,zjD c a b r s
noncomputable instance (c:DCode) (r:Nat):Decidable (RootP c r):=Classical.propDecidable _
noncomputable def zjC (c:DCode) (k:Nat):List (List Bool):=(List.range k).map λr=>zbZ c.procs.length (FromP c r)
noncomputable def zkt (c:DCode) (k:Nat):List Bool:=(List.range k).map λr=>decide (RootP c r/\ze5 c r)
noncomputable def zwj (c:DCode) (k:Nat):List (List Bool):=(List.range k).map λa=>zbZ c.procs.length (zhb c a)
def zv3 (c:DCode) (k:Nat):zjC c (k+1)=zjC c k++[zbZ c.procs.length (FromP c k)]:=by unfold zjC;rw [qbz,qa6];rfl
def zv4 (c:DCode) (k:Nat):zkt c (k+1)=zkt c k++[decide (RootP c k/\ze5 c k)]:=by unfold zkt;rw [qbz,qa6];rfl
def zzb (c:DCode) (k:Nat):zwj c (k+1)=zwj c k++[zbZ c.procs.length (zhb c k)]:=by unfold zwj;rw [qbz,qa6];rfl
def zv5 (b:Bool):Mine [] w (.bool b) b:=by
 exact ⟨⟨_,⟨rfl,rfl⟩,rfl⟩,qaq,Wr.nil _⟩
def zs1 (h0:Is W0 v0 c) (e0:Ext W0 w) (hc:CodeR c) :
   CALL tp 139 [v0] w λv w'=>Ext w w'/\Own w.heap.size w' v (zwj c c.procs.length):=by
 refine co (g:=kf [] [(5,4398046380144,[4,5,6]),(11,5316911983139663491615219445028364160,[7,8]),(15,332306998946228968207937366560611328,[10]),(18,332306998946228965920108755856398336,[11]),(21,332306998946228673078046585717264384,[12])] []) Tryz.func139 ?_;have h8:=hc.1.procs8;have he:=hc.2.1.1;refine za9 h0 e0 λw1 h9 hA=>zaa zbq hA (xrf _) λv13 hK=>?_;refine (zgV hK (xrf _) hc).mono ?_;rintro v14 w2 ⟨hL,hM⟩;refine zaK (α:=List Bool) zuX zgt λhN w3 hO _=>zaK (α:=Bool) u90 ty4 λhP wb hQ _=>?_;have g9:=hO.t hQ;have U:=hL.t g9;have gt:=hM.is.ext g9;have hs1:=h9.size;have hV:=U.size
 have hW:TT (zAP 90 (.slice (some hN) 0 0) (zjC c 0)) (zAP 4 (.slice (some hP) 0 0) (zkt c 0)) wb wb [] []:=
   ⟨xrf _,⟨.inl ⟨_,rfl,rfl,rfl⟩,qaq⟩,⟨.inl ⟨_,rfl,rfl,rfl⟩,qaq⟩,sS,sS,sS⟩
 refine zao c.procs.length (λk us w'=>∃ fv sv F1 F2,us=[fv,sv,.int .i64 (k:Int)]/\k<=c.procs.length/\TT (zAP 90 fv (zjC c k)) (zAP 4 sv (zkt c k)) wb w' F1 F2) 0 (z0 _) ⟨_,_,_,_,rfl,z0 _,hW⟩ ?_;rintro k mk u w5 hkm ⟨fv,sv,F1,F2,hu,hkl,O⟩;obtain ⟨hX,hY,hZ⟩:=zEN hu;rw [hX,hY,hZ];have V:=U.t O.ext;refine zab zbG<|zaa zcv (zaC hA) V λv19 j0=>zae u24 j0<|zag ?_;have j1:(zjC c k).length=k:=by simp [zjC]
 have hd:(zkt c k).length=k:=by simp [zkt]
 refine br (λhlt=>?_) (λhge=>?_)
 case refine_1=>
   have hk:k<c.procs.length:=oo
   refine zaa zbq hA V λv25 j2=>?_;refine (zgR (a:=k) j2 V hc hk).mono ?_;rintro v27 w6 ⟨g0,m,rfl,hm6,hh⟩;have gx:=O.step (zkU _ _ _) (zkU _ _ _) g0;have j3:m∉F2:=λhF=>by have:=O.q2.1.lt m hF;omega
   have j4:m∉F1:=λhF=>by have:=O.q1.1.lt m hF;omega
   have j5:=O.ext.size;have j6:(zbZ c.procs.length λi=>i=k\/RP (zml c) k i)=zbZ c.procs.length (FromP c k):=rfl;rw [j6] at hh;refine zdD (x:=zbZ c.procs.length (FromP c k)) (K:=λ_=>_) zuX zgt z90 zEX qd gx.q1.1 gx.q1.2 hh (λb hb hF=>by simp at hb;subst hb;exact j4 hF) (by rw [zal];omega) oo (λw7 v' w8 G' gb j7 hj j8 hl=>?_) λ_ _ _ h=>h;rw [<-zv3] at hj
   have ht:=gx.grow (Q1':=zAP 90 v' (zjC c (k+1))) (zkU _ _ _) (zkU _ _ _) gb j7 ⟨hj,j8⟩ hl λb hb=>by
     simp only [qaa,qac,or_false] at hb;subst hb;exact ⟨oo,j3⟩
   have g1:Ext wb w8:=ht.ext;have gy:=zaU (n:=c.procs.length) (p:=RootP c) (i:=k);rw [za5 (by rw [zan];exact hk)] at gy
   have gc:∀ {w9:World} (x:Bool),(x=decide (RootP c k/\ze5 c k))->Ext w8 w9->OP tp (Instr.buildSlice 90 1 #[(0,.bool x)]) w9 λj9 w=>OP tp (Builtin.append_ #[90,90] 90 [sv,j9].toArray) w λja w=>RD tp (bin .add 3 (.tmp 0) (.const undef) (.int .i64 (k:Int)) (.int .i64 1)) w λjb=>∃ m',m'<mk/\∃ k',k'+m'=c.procs.length/\∃ fv sv F1 F2,[v',ja,jb]=[fv,sv,.int .i64 (k':Int)]/\k'<=c.procs.length/\TT (zAP 90 fv (zjC c k')) (zAP 4 sv (zkt c k')) wb w F1 F2:=λ{w9} x gz gd=>by
     have gC:=ht.step (zkU _ _ _) (zkU _ _ _) gd;refine zdD (x:=x) (K:=λ_=>_) u90 ty4 z4 zc4 qd gC.q2.1 gC.q2.2 (zv5 x) sS (by rw [zal];omega) oo (λg2 hv jc G'' M I gf gD gE=>?_) λ_ _ _ h=>h;rw [gz,<-zv4] at gf;have gF:=(gC.swap.grow (Q1':=zAP 4 hv (zkt c (k+1))) (zkU _ _ _) (zkU _ _ _) (GX:=[]) M I ⟨gf,gD⟩ gE sS).swap;refine zau<|⟨mk-1,oo,k+1,oo,v',hv,_,_,rfl,oo,gF⟩
   refine zad u90 ty4 (i:=k) gt (by rw [zan];exact hk) λb9 o9 jd=>zaG ty4 jd g1<|zbz (λhf=>?_) (λhf=>?_)
   . have hR:=(gy.1 hf).2
     refine zaa zbq hA (U.t g1) λv36 je=>?_;refine (zrz (r:=k) je (U.t g1) hc).mono ?_;rintro _ w9 ⟨gd,rfl⟩;exact gc _ (by rw [decide_eq_decide];exact ⟨λh=>⟨hR,h⟩,λh=>h.2⟩) gd
   have hR:¬RootP c k:=λh=>by rw [gy.2 ⟨hk,h⟩] at hf;cases hf
   exact gc false (by rw [decide_eq_false λh=>hR h.1]) (xrf _)
 have jf:k=c.procs.length:=oo
 rw [jf] at O;clear j1 hd;have hw:=O.q1.1.own.is;have jg:=O.q2.1.own.is;have j5:=O.ext.size;refine zaK (α:=List Bool) zuX zgt λa42 wT X _=>?_;have D:=V.t X;have gG:=X;have hsT:=X.size;have gH:Ext wb wT:=O.ext.trans X;refine zao c.procs.length (λk us w'=>∃ ov FO,us=[ov,.int .i64 (k:Int)]/\k<=c.procs.length/\Ext wT w'/\RowG FO 90 w' ov (zwj c k)/\FO.Nodup/\∀ b∈FO,wT.heap.size<=b) 0 (z0 _) ⟨_,[],rfl,z0 _,xrf _,.inl ⟨_,rfl,rfl,rfl⟩,qaq,sS⟩ ?_;rintro a jh u2 w6 ji ⟨ov,FO,jj,hal,g0,g4,hx,gI⟩;obtain ⟨gJ,gK⟩:=zcB jj;rw [gJ,gK];refine zab zbG<|zaa zcv (zaC hA) (D.t g0) λv45 jk=>zae u24 jk<|zag<|br (λjl=>?_) (λjm=>?_)
 case refine_2=>
   have gM:a=c.procs.length:=oo
   rw [gM] at g4;exact ⟨h9.t (D.t g0),FO,⟨g4.own,hx,g4.wr⟩,λb hb=>by have:=gI b hb;have:=D.size;omega⟩
 have ha:a<c.procs.length:=oo
 refine zab zbG<|zaa zcv (zaC hA) (D.t g0) λv51 jn=>zae u24 jn<|ze1 h8.2 oo λw7 gb gN=>?_;have hl:=gb.size;generalize hg:w6.heap.size=g at *;have hgl:g<w7.heap.size:=gN.lt g sS;have jo:=g0.size;have hy:g∉FO:=λhF=>by have:=g4.lt g hF;omega
 rw [zdB c.procs.length (p:=λq=>q<0/\zhb c a q) (λi h=>oo)] at gN;generalize hn:c.procs.length=n at *;refine zao n (λb us w'=>us=[.int .i64 (b:Int)]/\b<=n/\ChgI g (g+1) w7 w'/\Mine [g] w' (.slice (some ⟨g,0,none⟩) n n) (zbZ n λq=>q<b/\zhb c a q)) 0 (z0 _) ⟨rfl,z0 _,ChgI.refl _,gN⟩ ?_;rintro b jp u3 w8 jq ⟨gO,hbl,g5,gP⟩;try replace gO:=zbt gO
 rw [gO];have gg:∀ {w:World},ChgI g (g+1) w7 w->Ext wT w:=λh=>(g0.t gb).chgI h oo;refine zab zbG<|zaa zcv (zaC hA) (D.t (gg g5)) λv56 jr=>zae u24 jr ?_;rw [hn];refine zag<|br (λjs=>?_) (λjt=>?_)
 case refine_2=>
   have hbe:b=n:=oo
   have:(zbZ n λq=>q<b/\zhb c a q)=zbZ n (zhb c a):=za0 λq hq=>⟨λh=>h.2,λh=>⟨oo,h⟩⟩;rw [this] at gP
   have ju:RowG FO 90 w8 ov (zwj c a):=g4.keep λq hq=>by
     have h1:=g4.lt q hq;rw [g5.block q oo (by have:q≠g:=λe=>hy (e▸hq);omega),gb.heap oo]
   have htl:(zwj c a).length=a:=by simp [zwj]
   refine zdD (x:=zbZ n (zhb c a)) (K:=λ_=>_) zuX zgt z90 zEX qd ju hx gP (λq hq hF=>by simp at hq;subst hq;exact hy hF) (by rw [zal];omega) oo (λw9 v' g2 G' gd gh jv jw jx=>?_) λ_ _ _ h=>h;have hs8:=g5.size;refine zau<|⟨jh-1,oo,a+1,oo,v',G',rfl,oo,((gg g5).trans gd).chgF gh gI,?_,jw,λq hq=>?_⟩
   . rw [zzb,hn];exact jv
   rcases jx q hq with h | h | h
   . exact gI q h
   . simp at h;omega
   have:=(gg g5).size;omega
 have hb:b<n:=oo
 have gQ:Mine [g] w8 (.slice (some ⟨g,0,none⟩) n n) (zbZ n λq=>(q<b/\zhb c a q)\/(q=b/\∃ r,r<0/\∃ s,zjD c a b r s)):=by
   have:(zbZ n λq=>(q<b/\zhb c a q)\/(q=b/\∃ r,r<0/\∃ s,zjD c a b r s))=zbZ n λq=>q<b/\zhb c a q:=za0 λq _=>⟨λh=>h.resolve_right λ⟨_,r,h,_⟩=>oo,.inl⟩;rw [this];exact gP
 refine zao n (λr us w'=>us=[.int .i64 (r:Int)]/\r<=n/\ChgI g (g+1) w7 w'/\Mine [g] w' (.slice (some ⟨g,0,none⟩) n n) (zbZ n λq=>(q<b/\zhb c a q)\/(q=b/\∃ r',r'<r/\∃ s,zjD c a b r' s))) 0 (z0 _) ⟨rfl,z0 _,g5,gQ⟩ ?_;rintro r jy u4 w9 jz ⟨gR,hrl,gh,gS⟩;try replace gR:=zbt gR
 rw [gR];refine zab zbG<|zaa zcv (zaC hA) (D.t (gg gh)) λv63 jA=>zae u24 jA ?_;rw [hn];refine zag ?_;have gi:∀ {r s},zjD c a b r s->r<n/\s<n:=λh=>⟨hn▸h.1.lt hc,hn▸h.2.1.lt hc⟩;refine br (λjB=>?_) (λjC=>?_)
 case refine_2=>
   have:(zbZ n λq=>(q<b/\zhb c a q)\/(q=b/\∃ r',r'<r/\∃ s,zjD c a b r' s))=zbZ n λq=>q<b+1/\zhb c a q:=za0 λq _=>by
     constructor
     . rintro (h | ⟨rfl,r',_,s,h⟩)
       . exact ⟨oo,h.2⟩
       exact ⟨oo,r',s,h⟩
     rintro ⟨h1,h2⟩;by_cases e:q=b
     . subst e
       obtain ⟨r',s,h⟩:=h2;exact .inr ⟨rfl,r',by have:=(gi h).1;omega,s,h⟩
     exact .inl ⟨oo,h2⟩
   rw [this] at gS;refine zau<|⟨jp-1,oo,b+1,oo,rfl,oo,gh,gS⟩
 have hr:r<n:=oo
 have gU:Mine [g] w9 (.slice (some ⟨g,0,none⟩) n n) (zbZ n λq=>(q<b/\zhb c a q)\/(q=b/\((∃ r',r'<r/\∃ s,zjD c a b r' s)\/∃ s,s<0/\zjD c a b r s))):=by
   have:(zbZ n λq=>(q<b/\zhb c a q)\/(q=b/\((∃ r',r'<r/\∃ s,zjD c a b r' s)\/∃ s,s<0/\zjD c a b r s)))=zbZ n λq=>(q<b/\zhb c a q)\/(q=b/\∃ r',r'<r/\∃ s,zjD c a b r' s):=za0 λq _=>or_congr Iff.rfl (and_congr Iff.rfl ⟨λh=>h.resolve_right λ⟨s,h,_⟩=>oo,.inl⟩);rw [this];exact gS
 refine zao n (λs us w'=>us=[.int .i64 (s:Int)]/\s<=n/\ChgI g (g+1) w7 w'/\Mine [g] w' (.slice (some ⟨g,0,none⟩) n n) (zbZ n λq=>(q<b/\zhb c a q)\/(q=b/\((∃ r',r'<r/\∃ s,zjD c a b r' s)\/∃ s',s'<s/\zjD c a b r s')))) 0 (z0 _) ⟨rfl,z0 _,gh,gU⟩ ?_;rintro s gV u5 g2 jD ⟨g3,hd,I,Y⟩;try replace g3:=zbt g3
 rw [g3];have M:=gg I;refine zab zbG<|zaa zcv (zaC hA) (D.t M) λv70 jE=>zae u24 jE ?_;rw [hn];refine zag<|br (λjF=>?_) (λjG=>?_)
 case refine_2=>
   have:(zbZ n λq=>(q<b/\zhb c a q)\/(q=b/\((∃ r',r'<r/\∃ s,zjD c a b r' s)\/∃ s',s'<s/\zjD c a b r s')))=zbZ n λq=>(q<b/\zhb c a q)\/(q=b/\∃ r',r'<r+1/\∃ s,zjD c a b r' s):=za0 λq _=>or_congr Iff.rfl (and_congr Iff.rfl (by
     constructor
     . rintro (⟨r',h,s',h2⟩ | ⟨s',_,h2⟩)
       . exact ⟨r',oo,s',h2⟩
       exact ⟨r,oo,s',h2⟩
     rintro ⟨r',h,s',h2⟩;by_cases e:r'=r
     . subst e;exact .inr ⟨s',by have:=(gi h2).2;omega,h2⟩
     exact .inl ⟨r',oo,s',h2⟩))
   rw [this] at Y;refine zau<|⟨jy-1,oo,r+1,oo,rfl,oo,I,Y⟩
 have hs:s<n:=oo
 have C:¬zjD c a b r s->RD tp (bin .add 3 (.tmp 0) (.const undef) (.int .i64 (s:Int)) (.int .i64 1)) g2 λjH=>∃ m',m'<gV/\∃ k',k'+m'=n/\[jH]=[.int .i64 (k':Int)]/\k'<=n/\ChgI g (g+1) w7 g2/\Mine [g] g2 (.slice (some ⟨g,0,none⟩) n n) (zbZ n λq=>(q<b/\zhb c a q)\/(q=b/\((∃ r',r'<r/\∃ s,zjD c a b r' s)\/∃ s',s'<k'/\zjD c a b r s'))):=λjI=>by
   refine zau<|⟨gV-1,oo,s+1,oo,rfl,oo,I,?_⟩
   have:(zbZ n λq=>(q<b/\zhb c a q)\/(q=b/\((∃ r',r'<r/\∃ s,zjD c a b r' s)\/∃ s',s'<s+1/\zjD c a b r s')))=zbZ n λq=>(q<b/\zhb c a q)\/(q=b/\((∃ r',r'<r/\∃ s,zjD c a b r' s)\/∃ s',s'<s/\zjD c a b r s')):=za0 λq _=>or_congr Iff.rfl (and_congr Iff.rfl (or_congr Iff.rfl (by
     constructor
     . rintro ⟨s',h,h2⟩
       by_cases e:s'=s
       . subst e;exact absurd h2 jI
       exact ⟨s',oo,h2⟩
     rintro ⟨s',h,h2⟩;exact ⟨s',oo,h2⟩)))
   rw [this];exact Y
 have gW:=zaU (n:=n) (p:=RootP c) (i:=r);have gX:=zaU (n:=n) (p:=RootP c) (i:=s);rw [za5 (by rw [zan];exact hr)] at gW;rw [za5 (by rw [zan];exact hs)] at gX;have hz:Ext wb g2:=gH.trans M;refine zad u90 ty4 (i:=r) gt (by rw [zan];exact hr) λb1 o1 jJ=>zaG ty4 jJ hz<|zbz (λhf=>?_) (λhf=>C λh=>by rw [gW.2 ⟨hr,h.1⟩] at hf;cases hf);have hR:=(gW.1 hf).2;refine zad u90 ty4 (i:=s) gt (by rw [zan];exact hs) λb2 o2 jK=>zaG ty4 jK hz<|zbz (λgq=>?_) (λgq=>C λh=>by rw [gX.2 ⟨hs,h.2.1⟩] at gq;cases gq);have hC:=(gX.1 gq).2;have eF:Ext w5 g2:=gG.t M;have gj:(zjC c n).length=n:=by simp [zjC]
 have Z:∀ (i:Nat) (hi:i<(zjC c n).length),(zjC c n)[i]=zbZ n (FromP c i):=λi hi=>by simp [zjC,hn]
 have gY:=zaU (n:=n) (p:=FromP c r) (i:=a);have gZ:=zaU (n:=n) (p:=FromP c s) (i:=b);rw [za5 (by rw [zan];exact ha)] at gY;rw [za5 (by rw [zan];exact hb)] at gZ;refine zad zuX zgt (i:=r) hw (by rw [gj];exact hr) λb3 o3 hD=>?_;rw [Z] at hD;refine zaa zgt hD eF λv89 jL=>zad u90 ty4 (i:=a) jL (by rw [zan];exact ha) λb4 o4 jM=>zaG ty4 jM eF<|zbz (λgr=>?_) (λgr=>C λh=>by rw [gY.2 ⟨ha,h.2.2.1⟩] at gr;cases gr);have hG:=(gY.1 gr).2;refine zad zuX zgt (i:=s) hw (by rw [gj];exact hs) λb5 o5 hH=>?_;rw [Z] at hH;refine zaa zgt hH eF λv98 jN=>zad u90 ty4 (i:=b) jN (by rw [zan];exact hb) λb6 o6 jO=>zaG ty4 jO eF<|zbz (λgs=>?_) (λgs=>C λh=>by rw [gZ.2 ⟨hb,h.2.2.2.1⟩] at gs;cases gs);have hI:=(gZ.1 gs).2;refine zaP<|zza (Q:=zjD c a b r s) (λh=>⟨hR,hC,hG,hI,.inl (by have:=of_decide_eq_true h;omega)⟩) (λhB=>?_) (λjP h=>?_)
 . refine zb8 (α:=Bool) (i:=b) rfl u90 ty4 hb ?_
   refine zbr (α:=Bool) rfl ty4 Y zan hb zbU λjc h4 h5=>zau<|⟨gV-1,oo,s+1,oo,rfl,oo,I.trans (zfu h4),?_⟩
   have h6:=zt1 (n:=n) (q:=b) (p:=λq=>(q<b/\zhb c a q)\/(q=b/\((∃ r',r'<r/\∃ s,zjD c a b r' s)\/∃ s',s'<s/\zjD c a b r s'))) (p':=λq=>(q<b/\zhb c a q)\/(q=b/\((∃ r',r'<r/\∃ s,zjD c a b r' s)\/∃ s',s'<s+1/\zjD c a b r s'))) hb λq=>by
     constructor
     . rintro (h | ⟨e,_⟩)
       . exact .inl (.inl h)
       exact .inr e
     rintro ((h | ⟨e,h | ⟨s',h1,h2⟩⟩) | e)
     . exact .inl h
     . exact .inr ⟨e,.inl h⟩
     . exact .inr ⟨e,.inr ⟨s',oo,h2⟩⟩
     exact .inr ⟨e,.inr ⟨s,oo,hB⟩⟩
   rw [<-h6];exact h5
 have jQ:r=s:=by have:=of_decide_eq_false h;omega
 have gl:(zkt c n).length=n:=by simp [zkt]
 refine zad u90 ty4 (i:=r) jg (by rw [gl];exact hr) λb7 o7 hJ=>?_;rw [show (zkt c n)[r]'(by rw [gl];exact hr)=decide (RootP c r/\ze5 c r) by simp only [zkt,qbH,qcE]] at hJ;refine zaG ty4 hJ eF<|zaV<|zbz (λgp=>jP ⟨hR,hC,hG,hI,.inr λhS=>?_⟩) (λgp=>C λhB=>?_)
 . rw [decide_eq_true (⟨hR,hS⟩:RootP c r/\ze5 c r)] at gp;cases gp
 rcases hB.2.2.2.2 with h2 | h2
 . exact h2 jQ
 rw [decide_eq_false (λh3:RootP c r/\ze5 c r=>h2 h3.2)] at gp;cases gp
instance flatRawM:Flat Raw:=⟨λh=>h.1⟩
def zAQ {α:Type} [Rep α] {w:World} {lo hi:Nat} {v:Value} {x:α} (h:OwnI lo hi w v x):OwnI lo (min hi w.heap.size) w v x:=by
 obtain ⟨F,hm,hl⟩:=h;exact ⟨F,hm,λb hb=>by have:=hl b hb;have:=hm.lt b hb;omega⟩
structure MI (w0 w:World) (lo hi g n:Nat) (out:Value) (L:List DRace) (vs:List Raw) (T:Nat->List DTouch):Prop where
 ext:Ext w0 w
 row:RowI lo hi 58 w out L
 h1:w0.heap.size<=lo
 h2:lo<=hi
 h3:hi<=w.heap.size
 seen:Mine [g] w (.slice (some ⟨g,0,none⟩) n n) vs
 g0:w0.heap.size<=g
 g1:g<lo\/hi<=g
 len:vs.length=n
 el:∀ k (h:k<vs.length),∃ a b,OwnI a b w vs[k].v (T k)/\(b<=lo\/hi<=a)/\(b<=g\/g<a)/\b<=w.heap.size
section
variable {w0 w w':World} {lo hi g n:Nat} {out:Value} {L:List DRace} {vs:List Raw} {T:Nat->List DTouch}
def MI.glt (h:MI w0 w lo hi g n out L vs T):g<w.heap.size:=h.seen.lt g sS
def MI.step (h:MI w0 w lo hi g n out L vs T) (hx:Ext w w'):MI w0 w' lo hi g n out L vs T:=
 ⟨h.ext.trans hx,h.row.ext hx,h.h1,h.h2,qan h.h3 hx.size,h.seen.ext hx,h.g0,h.g1,h.len,λk hk=>by
   obtain ⟨a,b,ho,h1,h2,h3⟩:=h.el k hk;exact ⟨a,b,ho.ext hx,h1,h2,qan h3 hx.size⟩⟩
def MI.push {g2:Value} {x:DRace} {g3 g4:Nat} (h:MI w0 w lo hi g n out L vs T) (hc:ChgI lo hi w w') (hr:RowI g3 g4 58 w' g2 (L++[x])) (hd:g3=lo/\g4=hi\/g3=w.heap.size/\g4=w'.heap.size) :
   MI w0 w' g3 g4 g n g2 (L++[x]) vs T:=by
 have hg:=h.glt;have hs:=hc.size;have h1:=h.h1;have h2:=h.h2;have h3:=h.h3;have h4:=h.ext.size;have h5:=h.g1;refine ⟨h.ext.chgI hc h1,hr,oo,oo,oo,h.seen.keep λb hb=>?_,h.g0,oo,h.len,λk hk=>?_⟩
 . simp only [qaa,qac,or_false] at hb
   subst hb;exact hc.block b hg h5
 obtain ⟨a,b,ho,e1,e2,e3⟩:=h.el k hk;exact ⟨a,b,ho.chg hc e1,oo,e2,oo⟩
def MI.row_at (h:MI w0 w lo hi g n out L vs T) {t:Nat} (ht:t<=n) (hn:0<n):Is w (.slice (some ⟨g,0,none⟩) t n) (vs.take t):=by
 have:=zoK (a:=some ⟨g,0,none⟩) (cap:=n) (l:=vs) (by rw [h.len];exact h.seen.is) t (by rw [h.len];exact ht);exact this
def MI.store {t:Nat} {u:Value} {T':Nat->List DTouch} {a b:Nat} (h:MI w0 w lo hi g n out L vs T) (ht:t<n) (hc:Chg [g] w w') (hm:Mine [g] w' (.slice (some ⟨g,0,none⟩) n n) (vs.set t ⟨u⟩))
   (hu:OwnI a b w u (T' t)) (ha:hi<=a) (hg:g<a) (hT:∀ k,k≠t->T' k=T k):MI w0 w' lo hi g n out L (vs.set t ⟨u⟩) T':=by
 have r:ChgI g (g+1) w w':=hc.toI λb hb=>by simp only [qaa,qac,or_false] at hb;omega
 have h1:=h.h1;have h2:=h.h2;have h3:=h.h3;have h4:=h.ext.size;have h5:=h.g1;have hs:=r.size;have g2:=h.g0;refine ⟨h.ext.chgI r g2,h.row.chg r oo,h1,h2,oo,hm,g2,h5,by simp [h.len],λk hk=>?_⟩;by_cases hkt:k=t
 . subst hkt
   refine ⟨a,min b w.heap.size,?_,oo,.inr hg,oo⟩;have:=(zAQ hu).chg r oo;simpa using this
 have g3:k<vs.length:=by simpa using hk
 obtain ⟨a',b',ho,e1,e2,e3⟩:=h.el k g3;refine ⟨a',b',?_,e1,e2,oo⟩;have:=ho.chg r oo;rw [hT k hkt];rw [List.getElem_set_ne oo];exact this
end
abbrev rawN:RepZ Raw:=⟨⟨.slice none 0 0⟩,[.slice none 0 0],λ_=>⟨rfl,rfl,rfl⟩⟩
def zzc:zcz tp 133=some [.slice none 0 0]:=by kernel_rfl
def upT (T:Nat->List DTouch) (k u:Nat):List DTouch:=if u<k then T u else []
def zm3 (h0:Is W0 v0 c) (e0:Ext W0 w) (h1:Is W1 v1 s) (e1:Ext W1 w) (hc:CodeR c) (hs:zaE c s) :
   CALL tp 66 [v0,v1] w λr w'=>Ext w w'/\Own w.heap.size w' r (zfY c s):=by
 have hn6:=hs.2.2.1;have gb:=zB6 s hc;have hTa:=@zEB c s;have gX:=zh7 hs;have hS:∀ t,tA c s t=if 0<=zbu s t then zdx c (zbu s t) 0 else []:=λt=>rfl;have gY:zfY c s=zfX (gT (tA c s) s.stacks.length):=rfl;rw [gY];generalize tA c s=T at *;refine co (g:=kf [(9,137405399296,[])] [(4,9444732965739286255040,[6,22]),(10,4722366478471598724160,[6,42]),(13,2361182115534915784768,[6,50]),(16,1180519563123373391936,[6,56])] []) Tryz.func66 ?_;refine za9 h0 e0 λw1 gZ hA=>za9 h1 (e1.trans gZ) λw2 h4 hB=>zab zbj<|zaa zeN (zaJ hB) (xrf _) λv16 jf=>zae u44 jf ?_;generalize hn:s.stacks.length=n at *;refine @ze0 tp w2 Raw _ rawN _ _ _ (.slice none 0 0) _ n zDC zqf rfl rfl zzc oo oo λw3 h5 jg=>?_;have jh:=h5.size;refine zab zbj<|zaa zeN (zaJ hB) h5 λv20 ji=>zae u44 ji ?_;rw [hn]
 have hV:MI w2 w3 w2.heap.size w2.heap.size w2.heap.size n (.slice none 0 0) [] (List.replicate n ⟨.slice none 0 0⟩) (upT T 0):=by
   obtain ⟨F,hM,hF⟩:=jg.own;obtain ⟨b,o,cap,xs,hv,gP,_⟩:=zdL hM (by intro e;have:=congrArg List.length e;simp at this;omega);simp only [Value.slice.injEq,qak,Addr.mk.injEq,qbf,and_true] at hv;obtain ⟨⟨hb,ho⟩,_⟩:=hv;rw [<-hb] at gP;rw [gP] at hM
   exact ⟨h5,zb6 _ _ _ _,lr _,qas _,jh,hM,lr _,.inr (lr _),sS,λk hk=>⟨0,0,by
     have:upT T 0 k=[]:=by unfold upT;rw [if_neg oo]
     rw [this,qb0];exact zdz none,oo,oo,oo⟩⟩
 generalize hg:w2.heap.size=g at hV ⊢;refine zao n (λk us w'=>∃ (out:Value) (lo hi:Nat) (vs:List Raw),us=[out,.int .i64 (k:Int)]/\k<=n/\MI w2 w' lo hi g n out (gT T k) vs (upT T k)) 0 (z0 _) ⟨_,_,_,_,rfl,z0 _,hV⟩ ?_;rintro t mk u w4 hkm ⟨out,lo,hi,vs,hu,htn,gQ⟩;obtain ⟨jj,jk⟩:=zcB hu;clear hu;rw [jj,jk];refine zag<|br (λhlt=>?_) (λhge=>?_)
 case refine_2=>
   have:t=n:=oo
   subst this;have hgl:(gT T t).length<=5184:=zyx gb oo;refine (zvx gQ.row.is (xrf _) oo).mono ?_;rintro r w' ⟨gR,ho⟩;have:=gQ.ext;have hs4:=this.size;have hs2:=gZ.size;have jl:=h4.size;exact ⟨(gZ.t h4).trans (this.trans gR),ho.mono oo⟩
 have M:t<n:=oo
 refine JOIN.mk (λus w'=>∃ (vs:List Raw),MI w2 w' lo hi g n out (gT T t) vs (upT T (t+1))) ?_ ?_
 . have Z:=gQ.ext
   refine zaa zc0 hB Z λv25 jm=>?_;refine (zgD jm Z).mono ?_;rintro _ w5 ⟨gR,rfl⟩;have h6:=Z.t gR;have g0:=h4.t h6;refine zaa zbq hA g0 λv28 jn=>?_;refine (zfb jn g0).mono ?_;rintro _ w6 ⟨hW,rfl⟩;have gc:=g0.t hW;have gS:=(gQ.step gR).step hW;refine zbz (λh8=>?_) (λh8=>?_)
   . have O:=of_decide_eq_true h8
     have h9:T t=zdx c (zbu s t) 0:=by rw [hS,if_pos O.1]
     refine zaa zbq hA gc λv33 jo=>?_;refine (zkP jo gc hc O.1 oo (by unfold I64;omega)).mono ?_;rintro ha w7 ⟨jp,hd⟩;rw [<-h9] at hd;have gU:=gS.step jp;have jq:=gS.glt;have jr:=gS.h3;refine ziP zDC zqf M ?_;obtain ⟨b,a,cap,G,hv,hL⟩:=zwu gU.seen (k:=t) (by rw [gU.len];exact M);simp only [Value.slice.injEq,qak,Addr.mk.injEq,and_true] at hv;obtain ⟨⟨rfl,rfl⟩,_⟩:=hv;have e1:0+t*Rep.size Raw=t*1:=by rw [qa9];rfl
     rw [e1] at hL
     have he:ha.oneCell'=true:=by
       obtain ⟨aa,cc,FF,xx,hh,_⟩:=zcT hd.is;rw [hh];rfl
     refine zdX (y':=(⟨ha⟩:Raw)) zqf hL ⟨⟨[ha],⟨rfl,rfl,he⟩,rfl⟩,qaq,Wr.nil _⟩ λw8 F' js hX jt=>?_
     have ju:F'=[g]:=by
       obtain ⟨b,o,cap,xs,hv,gP,_⟩:=zdL hX (by intro e;have h:=congrArg List.length e;rw [qaL,gU.len] at h;simp only [qay] at h;omega);subst gP;have:=jt b sS;simpa using this
     subst ju;refine ⟨_,gU.store M js hX (T':=upT T (t+1)) (a:=w6.heap.size) (b:=w7.heap.size) ?_ jr jq ?_⟩
     . have:upT T (t+1) t=T t:=by unfold upT;rw [if_pos oo]
       rw [this];exact hd.toI
     intro k hk;unfold upT;by_cases h:k<t
     . rw [if_pos h,if_pos oo]
     rw [if_neg h,if_neg oo]
   have O:=of_decide_eq_false h8
   have h9:T t=[]:=by
     rw [hS,if_neg λh=>O ⟨h,(gX t).2⟩]
   have:upT T (t+1)=upT T t:=by
     funext k;unfold upT;by_cases h:k=t
     . subst h;rw [if_pos oo,if_neg oo,h9]
     by_cases h2:k<t
     . rw [if_pos h2,if_pos oo]
     rw [if_neg h2,if_neg oo]
   exact ⟨vs,by rw [this];exact gS⟩
 rintro u9 w9 ⟨vs,g1⟩;have hf:∀ u,u<=t->upT T (t+1) u=T u:=λu hu=>by unfold upT;rw [if_pos oo]
 generalize hT':upT T (t+1)=T' at *;refine zad zDC zqf (α:=Raw) (i:=t) g1.seen.is (by rw [g1.len];exact M) λb1 o1 jv=>zaa zqf jv (xrf _) λjw jx=>?_
 have gd:jw=(vs[t]'(by rw [g1.len];exact M)).v:=by
   obtain ⟨F,cs,⟨_,rfl,_⟩,hv⟩:=jx;exact hv
 have gV:∀ {w:World} {lo hi:Nat} {out:Value} {L:List DRace} (hM:MI w2 w lo hi g n out L vs T') (u:Nat) (hu:u<=t),Is w (vs[u]'(by rw [g1.len];omega)).v (T u):=λhM u hu=>by
   obtain ⟨_,_,ho,_⟩:=hM.el u (by rw [hM.len];omega);have:=ho.is
   rwa [hf u hu] at this
 refine zae (l:=T t) zm8 (by rw [gd];exact gV g1 t (lr _)) ?_;have hsn:(T t).length<=12:=gb t;refine zao (T t).length (λk us w'=>∃ (out:Value) (lo hi:Nat),us=[out,.int .i64 (k:Int)]/\k<=(T t).length/\MI w2 w' lo hi g n out (gT T t++gA (zkQ T t) ((T t).take k)) vs T') 0 (z0 _) ⟨out,lo,hi,rfl,z0 _,by simpa [gA] using g1⟩ ?_;rintro i hj u10 gW hY ⟨V,g2,g3,hl,hZ,D⟩;obtain ⟨gf,gg⟩:=zcB hl;rw [gf,gg];refine zag<|br (λj0=>?_) (λj1=>?_)
 case refine_2=>
   have jy:i=(T t).length:=oo
   subst jy;refine zau<|⟨mk-1,oo,t+1,oo,V,g2,g3,vs,rfl,oo,?_⟩;rw [hT'];have e:gT T (t+1)=gT T t++gA (zkQ T t) (T t):=zgo t;rw [e];rw [qaD] at D;exact D
 have j2:i<(T t).length:=oo
 refine zad zm8 zdc (i:=i) (by rw [gd];exact gV D t (lr _)) j2 λb2 o2 jz=>zaa zdc jz (xrf _) λv45 jA=>zee (α:=DTouch) zuW λw11 gh gi=>?_;have j3:=gi.lt;refine zbn (lo:=0) (hi:=0) zdc gi (zfL (jA.ext gh)) (.inr (z0 _)) λjB hq hr=>?_;have ht:Ext gW jB:=gh.chgI hq (lr _);have hw:=D.step ht;generalize hag:(T t)[i]=a at *;have gj:g2<=gW.heap.size/\g3<=gW.heap.size:=⟨by have:=D.h2;have:=D.h3;omega,D.h3⟩;generalize gW.heap.size=g10 at *;refine zxJ (α:=Raw) zDC zqf (b:=g) (o:=0) (k:=t) (n:=n) (cap:=n) oo (lr _)<|zmu zDC<|zao t (λk us w'=>∃ (out:Value) (lo hi:Nat),us=[out,.int .i64 (k:Int)]/\k<=t/\MI w2 w' lo hi g n out (gT T t++gA (zkQ T t) ((T t).take i)++((zkQ T t).take k).flatMap (gB a)) vs T'/\VarI 0 0 w' g10 a/\(g10<lo\/hi<=g10)) 0 (z0 _) ⟨V,g2,g3,rfl,z0 _,by simpa using hw,hr,.inr gj.2⟩ ?_;rintro u hx u13 w13 j4 ⟨X,gl,gp,hy,jC,I,hz,hC⟩;obtain ⟨gq,gr⟩:=zcB hy;rw [gq,gr];have gs:(zkQ T t).length=t:=by simp [zkQ]
 refine zag<|br (λj5=>?_) (λj6=>?_)
 case refine_2=>
   have jC:u=t:=oo
   refine zau<|⟨hj-1,oo,i+1,oo,X,gl,gp,rfl,oo,?_⟩
   have e:gA (zkQ T t) ((T t).take (i+1))=gA (zkQ T t) ((T t).take i)++(zkQ T t).flatMap (gB a):=by
     unfold gA;rw [zcS j2,hag];rfl
   rw [e,<-qar];rw [show (zkQ T t).take u=zkQ T t from qaf oo] at I;exact I
 have j7:u<t:=oo
 have gt:(zkQ T t)[u]'(by rw [gs];exact j7)=T u:=by simp [zkQ]
 refine zad zDC zqf (α:=Raw) (i:=u) (I.row_at oo oo) (by rw [qai,I.len];omega) λb3 o3 jD=>zaa zqf jD (xrf _) λjE jF=>?_
 have gx:jE=(vs[u]'(by rw [g1.len];omega)).v:=by
   obtain ⟨F,cs,⟨_,rfl,_⟩,hv⟩:=jF;simpa [mkv,Rep.agg] using hv
 refine zae (l:=T u) zm8 (by rw [gx];exact gV I u oo)<|zao (T u).length (λk us w'=>∃ (out:Value) (lo hi:Nat),us=[out,.int .i64 (k:Int)]/\k<=(T u).length/\MI w2 w' lo hi g n out (gT T t++gA (zkQ T t) ((T t).take i)++((zkQ T t).take u).flatMap (gB a)++((T u).take k).flatMap (clR a)) vs T'/\VarI 0 0 w' g10 a/\(g10<lo\/hi<=g10)) 0 (z0 _) ⟨X,gl,gp,rfl,z0 _,by simpa using I,hz,hC⟩ ?_;rintro j gy u16 jG j8 ⟨Y,gz,gC,hD,j9,U,gD,g4⟩;obtain ⟨gE,gF⟩:=zcB hD;rw [gE,gF];have hsu:(T u).length<=12:=gb u;refine zag<|br (λja=>?_) (λjb=>?_)
 case refine_2=>
   have j9:j=(T u).length:=oo
   subst j9;refine zau<|⟨hx-1,oo,u+1,oo,Y,gz,gC,rfl,oo,?_,gD,g4⟩;rw [zcS (by rw [gs];exact j7),gt,<-qar];rw [qaD] at U;exact U
 have hG:j<(T u).length:=oo
 refine zad zm8 zdc (i:=j) (by rw [gx];exact gV U u oo) hG λb4 o4 jH=>zaa zdc jH (xrf _) λv59 jI=>zee (α:=DTouch) zuW λw17 gG gH=>?_;have jc:=gH.lt;refine zbn (lo:=0) (hi:=0) zdc gH (zfL (jI.ext gG)) (.inr (z0 _)) λjd hH gI=>?_;have gJ:Ext jG jd:=gG.chgI hH (lr _);have hI:=U.step gJ;have gK:VarI 0 0 jd g10 a:=gD.ext gJ;generalize hbg:(T u)[j]=b at *;refine zdb zdc gK (xrf _) λv60 jJ=>zdb zdc gI (xrf _) λv61 jK=>?_;refine (zug jJ.is (xrf _) jK.is (xrf _)).mono ?_;rintro _ w19 ⟨C,rfl⟩;have gM:=hI.step C;refine zbz (λhJ=>?_) (λhJ=>?_)
 . have g5:=of_decide_eq_true hJ
   refine zdb zdc gK C λv64 jL=>zdb zdc gI C λv65 jM=>?_;refine (zqZ jL.is C jM.is C).mono ?_;rintro v66 jN ⟨g9,hK⟩;have gN:=gM.step g9
   have jO:(gT T t++gA (zkQ T t) ((T t).take i)++((zkQ T t).take u).flatMap (gB a)++((T u).take j).flatMap (clR a)).length<=10000:=by
     have q1:=zyx gb (n:=t) oo
     have je:∀ L∈zkQ T t,L.length<=12:=λL hL=>by
       simp only [zkQ,qaZ] at hL;obtain ⟨u,_,rfl⟩:=hL;exact gb u
     have q2:=zB5 (Ls:=zkQ T t) (xs:=(T t).take i) oo je (by rw [qai];omega);have q3:=zB4 (Ls:=(zkQ T t).take u) a (by rw [qai];omega) λL hL=>je L (qbc hL);have q4:=zB3 a (bs:=(T u).take j) (by rw [qai];omega);unfold gL at q3;unfold gB at q4;simp only [qag];unfold gB at *;omega
   refine zdA u39 zd9 z58 zCF qd gN.row (hK 0 0) (by rw [zal];omega) oo λjP w21 hN hO gO hP hQ=>?_;have hR:=gN.push gO hP hQ;refine zau ?_;have hgs:g10<jN.heap.size:=by have:=gK.lt;have:=C.size;have:=g9.size;omega
   refine ⟨gy-1,oo,j+1,oo,jP,hN,hO,rfl,oo,?_,(((gK.ext C).ext g9).chg gO (.inl (z0 _)) g4),oo⟩;rw [zcS hG,<-qar];have:clR a (T u)[j]=[zd2 a b]:=by rw [hbg];unfold clR;rw [if_pos g5]
   rw [this];exact hR
 have g5:=of_decide_eq_false hJ;refine zau<|⟨gy-1,oo,j+1,oo,Y,gz,gC,rfl,oo,?_,gK.ext C,g4⟩;rw [zcS hG];have:clR a (T u)[j]=[]:=by rw [hbg];unfold clR;rw [if_neg g5]
 rw [this,qaC];exact gM
def zku  (h0:Is W0 v0 c) (e0:Ext W0 w) (h1:Is W1 v1 s) (e1:Ext W1 w)  :
   CALL tp 30 [v0,v1] w λr w'=>Ext w w'/\(Own w.heap.size w' r (zq2 c s)):=by
 refine co (g:=kf [] [] []) Tryz.func30 ?_;have σe0:=e0.size;have σe1:=e1.size;refine zat zbq rfl h0 e0 λw1_ y1 hA2 g1=>?_;have σ1:=y1.size;refine zat zc0 rfl h1 (e1.trans y1) λg3 y2 hA3 g2=>?_;have σ2:=y2.size;refine zaF g1 y2<|zaF g2 (xrf g3) ?_;refine (zer h0 (e0.t (y1.t y2)) h1 (e1.trans (y1.t y2))).mono ?_;rintro _ w3_ ⟨y3,rfl⟩;have σ3:=y3.size;refine zav<|br (λc1=>?_) (λc1=>?_)
 . refine ⟨(y1.t (y2.t y3)),?_⟩
   unfold zq2;rw [if_neg c1];exact zfP rfl
 refine zaF g1 (y2.t y3)<|zaF g2 y3 ?_;refine (zm3 h0 (e0.t (y1.t (y2.t y3))) h1 (e1.trans (y1.t (y2.t y3))) (qad.1 c1).1 (qad.1 c1).2).mono ?_;rintro r11 w4_ ⟨y4,g0⟩;have g0:=g0.toI;have σ4:=y4.size;refine ⟨(y1.t (y2.t (y3.t y4))),?_⟩;unfold zq2;rw [if_pos (qad.1 c1)];exact g0.own.mono oo
def zEG (c:DCode) (s:DState):Prop:=(CodeR c/\zaE c s)/\zfY c s=[]/\zsw c s s.stacks.length=0
instance (c:DCode) (s:DState):Decidable (zEG c s):=by unfold zEG;infer_instance
def zs2 {l:List DRace} (h:Is w0 v l) (hx:Ext w0 w) (hn:l.length<=1000000000) :
   CALL tp 85 [v] w λr w'=>Ext w w'/\Own w.heap.size w' r (zfX l):=by
 refine co (g:=kf [] [] []) Tryz.func85 ?_;refine (zqH h hx oo).mono ?_;rintro v1 w1 ⟨g1,g2⟩;refine (zuj g2.toI oo).mono ?_;rintro _ w2 ⟨g3,g4⟩;refine (znQ g4 (by rw [zsG];omega)).mono ?_;rintro v3 w3 ⟨g5,g9⟩;refine (ztT g9).mono ?_;rintro v4 w4 ⟨gb,g0⟩;rw [zyw] at g0;exact ⟨((g1.chgI g3 (lr _)).chgI g5 (lr _)).trans gb,g0.own⟩
def zv6 {l:List DRace} {x:DRace} (h:Mine F w v l) (h1:Is W1 v1 x) (e1:Ext W1 w) (hn:l.length<=1000000000) :
   CALL tp 88 [v,v1] w λr w'=>Ext w w'/\∃ F',Mine F' w' r (znY x l)/\∀ b∈F',b∈F\/w.heap.size<=b:=by
 refine co (g:=kf [(4,2097056,[5]),(6,17177772048,[])] [(2,2097056,[5])] [(2,[0,1,2,3,4,5,6,7,8,9,10,11],0),(4,[0,1,2,3,4,5,6,7,8,9,10,11],0)]) Tryz.func88 ?_;have hI:=h.is;refine za9 h1 e1 λw1 V hA=>JOIN.mk (λus w'=>∃ k:Nat,us=[.int .i64 (k:Int)]/\Ext w1 w'/\k<=l.length/\ahd x l=k) ?_ ?_
 . refine zao l.length (λk us w'=>us=[.int .i64 (k:Int)]/\Ext w1 w'/\k<=l.length/\∀ j (h:j<k) (h2:j<l.length),ltR l[j] x) 0 (z0 _) ⟨rfl,xrf w1,z0 _,λj h=>oo⟩ ?_
   rintro k mk u w2 hkm ⟨hu,g0,X,g1⟩;try replace hu:=zbt hu
   rw [hu];have M:=zah w2;have C:=g0.t M;generalize World.drew1 w2=w3 at *;refine zae u39 hI<|zag<|br (λhk=>?_) (λhk=>?_)
   . have U:k<l.length:=oo
     refine zad u39 zd9 hI U λb1 o1 g2=>zaa zd9 g2 (V.t C) λgf g3=>zaa zd9 hA C λgg g4=>?_;refine (zsF g3 (V.t C) g4 C).mono ?_;rintro _ w4 ⟨I,rfl⟩;refine zbz (λhc=>?_) (λhc=>?_)
     . refine zau ?_
       refine ⟨mk-1,oo,k+1,oo,rfl,C.t I,oo,λj hj gh=>?_⟩;by_cases hjk:j<k
       . exact g1 j hjk gh
       have:j=k:=oo
       subst this;simpa using hc
     exact ⟨k,rfl,C.t I,X,zyu X (λj hj=>g1 j hj oo) λh=>by simpa using hc⟩
   exact ⟨k,rfl,C,X,zyu X (λj hj=>g1 j hj oo) λh=>oo⟩
 rintro u w2 ⟨k,hu,g0,X,gi⟩;try replace hu:=zbt hu
 rw [hu];have D:=zuh x l;rw [gi] at D;refine JOIN.mk (λus w'=>Ext w1 w'/\znY x l=l.take k++(x :: l.drop k)) ?_ ?_
 . have M:=zah w2
   have C:=g0.t M;generalize World.drew1 w2=w3 at *;refine zae u39 hI<|zag<|br (λhk=>?_) (λhk=>?_)
   . have U:k<l.length:=oo
     rw [dif_pos U] at D;refine zad u39 zd9 hI U λb1 o1 g2=>zaa zd9 g2 (V.t C) λgf g3=>zaa zd9 hA C λgg g4=>zis g3 g4<|br (λhc=>?_) (λhc=>?_)
     . rw [if_pos hc] at D
       have hx:=V.t C;exact ⟨hx,F,by rw [D];exact h.ext hx,λb hb=>.inl hb⟩
     rw [if_neg hc] at D;exact ⟨C,D⟩
   have U:k=l.length:=oo
   subst U;rw [dif_neg oo] at D;exact ⟨C,by rw [D];simp⟩
 rintro u6 w3 ⟨M,gj⟩;rw [gj];have O:=V.t M;have gl:=O.size;refine zaK (α:=DRace) u39 zd9 λa w4 I gp=>?_;have hs4:=I.size;refine zlH (i:=(k:Int)) u39 zd9 hI oo oo λv37 gq=>zeh u39 zd9 zCF gp (lr _) gq (O.t I) (by simp [maxLen];omega) (by simp;omega) λv38 w5 g9 gr=>?_;have hs5:=g9.size;have g5:=(xrf w4).chgI g9 (lr _);refine zaa zd9 hA (M.t (I.t g5)) λv40 gs=>zbO (lo2:=w5.heap.size) (hi2:=w5.heap.size) u39 zd9 z58 zCF qd gr oo (zfL (gs.ext (M.t (I.t g5)))) (lr _) oo (by simp [maxLen];omega) (by simp;omega) λv42 w6 gb gt=>?_;have hs6:=gb.size;refine zgA (i:=(k:Int)) u39 zd9 hI oo oo λv46 gx=>?_;have gc:Ext w w6:=(O.t (I.t g5)).chgI gb oo;refine zeh u39 zd9 zCF gt oo gx gc (by simp [maxLen];omega) (by simp;omega) λv47 w7 gd gy=>?_;have hs7:=gd.size;refine ⟨gc.chgI gd oo,?_⟩;obtain ⟨F',hM,hF⟩:=gy.own;refine ⟨F',?_,λb hb=>.inr (by have:=hF b hb;omega)⟩;simpa using hM
open Classical in
noncomputable def rc1 (c:DCode) (a b:DTouch):List DRace:=if zdO a b/\zhb c (zas c a.at_).toNat (zas c b.at_).toNat then [zd2 a b] else []
def zDp (c:DCode) (a b:DTouch):(rc1 c a b).length<=1:=by unfold rc1;split<;>simp
noncomputable def zs3 (c:DCode) (T:List DTouch) (i:Nat):List DRace:=match T.drop i with
 | []=>[]
 | a :: r=>(a :: r).flatMap (rc1 c a)
noncomputable def zg2 (c:DCode) (T:List DTouch) (n:Nat):List DRace:=(List.range n).flatMap (zs3 c T)
def zlq {T:List DTouch} (hi:i<T.length):zs3 c T i=(T.drop i).flatMap (rc1 c T[i]):=by
 unfold zs3;rw [qau hi]
def zs4 (c:DCode) (a:DTouch) (L:List DTouch):(L.flatMap (rc1 c a)).length<=L.length:=by
 have:=zh5 (l:=L) (f:=rc1 c a) (B:=1) λb _=>zDp c a b;omega
def zzd (c:DCode) (T:List DTouch) (i:Nat):(zs3 c T i).length<=T.length:=by
 rcases qaA i T.length with h | h
 . rw [zlq h]
   have:=zs4 c T[i] (T.drop i);rw [qa0] at this;omega
 unfold zs3;rw [qbZ h];simp
def zrA {T:List DTouch} (hT:T.length<=18000) {n:Nat} (hn:n<=18000):(zg2 c T n).length<=324000000:=by
 have h1:=zh5 (l:=List.range n) (f:=zs3 c T) (B:=18000) λi _=>qan (zzd c T i) hT;rw [qbr] at h1;have:n*18000<=18000*18000:=qa5 _ hn;unfold zg2;omega
def zoj (c:DCode) (T:List DTouch) (n:Nat):zg2 c T (n+1)=zg2 c T n++zs3 c T n:=by
 unfold zg2;rw [qbz,qa4];simp
def zuE (hc:CodeR c):(znn c).length<=18000:=zm2 hc _ (qan zbg hc.f.ins)
structure TouR (c:DCode) (x:DTouch) (p:Nat):Prop where
 at_:x.at_=(p:Int)
 lt:p<c.ins.length
 met:MetP c p
 h0:0<=x.held
 h1:x.held<=63
def zuF (hc:CodeR c) {x:DTouch} (h:x∈znn c):∃ p,TouR c x p:=by
 unfold znn at h;obtain ⟨i,hi,hx⟩:=qaE.1 h;obtain ⟨h1,h2⟩:=zfd hx;have hm:=zcZ (zhV c) i;obtain ⟨h3,h4⟩:=zaH.1 hi;exact ⟨i,h1,h3,h4,oo,oo⟩
def zDq (c:DCode):(znn c).Pairwise λa b=>a.at_<=b.at_:=by
 unfold znn;refine qbF.2 ⟨λi _=>?_,?_⟩
 . refine List.pairwise_iff_forall_sublist.2 λ{a b} h=>?_
   have h1:=zfd (h.subset (by simp:a∈[a,b]));have h2:=zfd (h.subset (by simp:b∈[a,b]));rw [h1.1,h2.1];omega
 have hr:(zbd c.ins.length (MetP c)).Pairwise (λa b=>a<b):=by
   unfold zbd;exact List.pairwise_lt_range.filter _
 refine hr.imp λ{i j} hij x hx y hy=>?_;have h1:=zfd hx;have h2:=zfd hy;rw [h1.1,h2.1];omega
def zok (h:zaN c p i) (hj:j∈zaA c i):zaN c p j:=by
 rcases h with rfl | h
 . exact .inr (.one hj)
 exact .inr (h.trans (.one hj))
theorem zuG (hc:CodeR c) {i:Nat} (h:MetP c i):zfW c i:=by
 induction h with
 | root h=>exact ⟨_,h.lt hc,.inl rfl⟩
 | call h ho _=>exact ⟨_,(zby hc (h.lt hc) (.inl ho)).2,.inl rfl⟩
 | next _ _ hj ih=>obtain ⟨p,hp,hl⟩:=ih;exact ⟨p,hp,zok hl hj⟩
 | back _ _ _ hj ih _=>obtain ⟨p,hp,hl⟩:=ih;exact ⟨p,hp,zok hl hj⟩
def zze (hc:CodeR c) {i j:Nat} (hi:MetP c i) (hj:MetP c j):zCh (rtN c i) (rtN c j) (zs0 c)↔zhb c (zas c i).toNat (zas c j).toNat:=by
 have h1:=zuG hc hi;have h2:=zuG hc hj;have hb:∀ k r,(rtN c k).testBit r=true↔r<c.procs.length/\RtP c k r:=λk r=>za7
 have hs:∀ r,r<c.procs.length->RootP c r->((zs0 c).testBit r=false↔¬ze5 c r):=λr hr hR=>by
   have:=za7 (n:=c.procs.length) (p:=λr=>RootP c r/\ze5 c r) (i:=r);unfold zs0;constructor
   . intro h hS;rw [this.2 ⟨hr,hR,hS⟩] at h;cases h
   intro h;cases e:(zcR (λr=>RootP c r/\ze5 c r) c.procs.length).testBit r
   . rfl
   exact absurd (this.1 e).2.2 h
 constructor
 . rintro ⟨r,t,hr,ht,h⟩
   obtain ⟨g3,_,C,g1⟩:=(hb _ _).1 hr;obtain ⟨ht1,_,g0,g2⟩:=(hb _ _).1 ht;exact ⟨r,t,C,g0,g1,g2,h.imp id (hs r g3 C).1⟩
 rintro ⟨r,t,C,g0,g1,g2,h⟩;exact ⟨r,t,(hb _ _).2 ⟨C.lt hc,h1,C,g1⟩,(hb _ _).2 ⟨g0.lt hc,h2,g0,g2⟩,h.imp id (hs r (C.lt hc) C).2⟩
def zuH (hW:WAt W0 b c) (e0:Ext W0 w) (hc:CodeR c) :
   CALL tp 47 [.pointer (some ⟨b,0,none⟩)] w λr w'=>Ext w w'/\Own w.heap.size w' r (zfX (zg2 c (znn c) (znn c).length)):=by
 refine co (g:=kf [] [(5,288230376150664640,[6,20]),(8,144115187538986048,[6,29])] [(10,[0,1,2,3,4,5,6,7,8,9,10,11,12,13,14,15,16],0)]) Tryz.func47 ?_;refine (zv2 hW e0 hc).mono ?_;rintro v12 w1 ⟨gI,h2⟩;refine (zv1 hW (e0.t gI) hc).mono ?_;rintro _ wb ⟨gJ,v16,rfl,h4⟩;refine zaY rfl<|zaY rfl ?_;have g1:=gI.t gJ;have gh:=h2.is.ext gJ;have gK:=h4.is;have h5:=zuE hc;have gM:=λx (hx:x∈znn c)=>zuF hc hx;generalize znn c=T at *;have h6:=g1.size;have h8:=zAM hc;refine zae zm8 gh<|zao T.length (λk us w'=>∃ out lo hi,us=[out,.int .i64 (k:Int)]/\k<=T.length/\Ext wb w'/\wb.heap.size<=lo/\hi<=w'.heap.size/\RowI lo hi 58 w' out (zg2 c T k)) 0 (z0 _) ⟨_,wb.heap.size,wb.heap.size,rfl,z0 _,xrf _,lr _,qas _,zb6 _ _ _ _⟩ ?_;rintro i mk u w3 hkm ⟨out,lo0,h9,hu,hkl,g2,gi,gj,gl⟩;obtain ⟨ha,hb⟩:=zcB hu;rw [ha,hb];refine zag ?_;have gp:=zrA (c:=c) h5 (n:=i) oo;refine br (λhlt=>?_) (λhge=>?_)
 case refine_2=>
   have he:i=T.length:=oo
   rw [he] at gl gp;refine (zs2 gl.is (xrf _) oo).mono ?_;rintro r w4 ⟨g3,hf⟩;exact ⟨g1.t (g2.t g3),hf.mono (by have:=g2.size;omega)⟩
 have hi:i<T.length:=oo
 have gq:=zlq (c:=c) hi;have gr:=zoj c T i;obtain ⟨pa,gd⟩:=gM T[i] (qab _);refine zad zm8 zdc (i:=i) gh hi λb4 o4 hg=>?_;generalize hae:T[i]=a at *;refine zaa zdc hg g2 λv24 gN=>zck zuW rfl zdc rfl gN g2 λw4 g3 hAa gO=>?_;have gs:=zgF gN gO rfl;have hgl:w3.heap.size<w4.heap.size:=gO.lt;have hs4:=g3.size;refine zgA (i:=(i:Int)) zm8 zdc gh oo (by simp;omega) λv27 gt=>?_;rw [qah] at gt;have hDl:(T.drop i).length=T.length-i:=qa0;have hh:∀ x∈T.drop i,∃ p,TouR c x p:=λx hx=>gM x (qbI hx);generalize T.drop i=D at *;refine zae zm8 gt<|zao D.length (λj us w'=>∃ out lo hi,us=[out,.int .i64 (j:Int)]/\j<=D.length/\Ext wb w'/\w4.heap.size<=w'.heap.size/\AtB wb w' w3.heap.size 0 a/\wb.heap.size<=lo/\hi<=w'.heap.size/\(w3.heap.size<lo\/hi<=w3.heap.size)/\RowI lo hi 58 w' out (zg2 c T i++(D.take j).flatMap (rc1 c a))) 0 (z0 _) ⟨out,lo0,h9,rfl,z0 _,g2.t g3,lr _,gs,gi,oo,.inr gj,by simpa using gl.ext g3⟩ ?_;rintro j mj u5 w5 hjm ⟨U,lo,gP,hk,hjl,gf,hs5,gx,gy,hl,hd,gz⟩;obtain ⟨gC,gD⟩:=zcB hk;rw [gC,gD];refine zag<|br (λhq=>?_) (λhr=>?_)
 case refine_2=>refine zau<|⟨mk-1,oo,i+1,oo,U,lo,gP,rfl,oo,gf,gy,hl,?_⟩;rw [qaf oo] at gz;rw [gr,gq];exact gz
 have hj:j<D.length:=oo
 have gQ:=zcS (f:=rc1 c a) hj;have hrl:=zs4 c a (D.take j);have htl:=qb8 j D;obtain ⟨pb,gg⟩:=hh D[j] (qab _);refine zad zm8 zdc (i:=j) gt hj λb6 o6 hs=>?_;generalize hbe:D[j]=bb at *;refine zaa zdc hs gf λv32 ht=>zck zuW rfl zdc rfl ht gf λw6 hv hw hVb=>?_;have gR:=zah w6;have M:=hv.t gR;have V:=hw.ext gR;generalize World.drew1 w6=w7 at *;have X:=gx.ext M;have g4:=gf.t M;have O:=X.at g4;have gS:=gz.ext M;have hy:=M.size;refine zaa zdc O (xrf _) λv33 hz=>zaa zdc V (xrf _) λv34 hC=>?_;refine (zug hz (xrf _) hC (xrf _)).mono ?_;rintro _ w8 ⟨Z,rfl⟩;have hD:=Z.size
 have gU:∀ {w9:World},Ext w7 w9->¬(zdO a bb/\zhb c (zas c a.at_).toNat (zas c bb.at_).toNat)->RD tp (bin .add 3 (.tmp 0) (.const undef) (.int .i64 (j:Int)) (.int .i64 1)) w9 λhF=>∃ m',m'<mj/\∃ k',k'+m'=D.length/\∃ out lo hi,[U,hF]=[out,.int .i64 (k':Int)]/\k'<=D.length/\Ext wb w9/\w4.heap.size<=w9.heap.size/\AtB wb w9 w3.heap.size 0 a/\wb.heap.size<=lo/\hi<=w9.heap.size/\(w3.heap.size<lo\/hi<=w3.heap.size)/\RowI lo hi 58 w9 out (zg2 c T i++(D.take k').flatMap (rc1 c a)):=λg0 hn=>by
   have:=g0.size;refine zau<|⟨mj-1,oo,j+1,oo,U,lo,gP,rfl,oo,g4.t g0,oo,X.ext g0,gy,oo,hd,?_⟩;rw [gQ];have:rc1 c a bb=[]:=by unfold rc1;rw [if_neg hn]
   rw [this,qaC];exact gS.ext g0
 refine br (λgE=>?_) (λgE=>?_)
 case refine_2=>exact gU Z λh=>gE h.1
 have gV:∀ i,i<c.ins.length->i<(zaT ((List.range c.ins.length).map (rtN c))).length:=λi hi=>by simp [zaT];exact hi
 have gW:∀ i (hi:i<(zaT ((List.range c.ins.length).map (rtN c))).length),(zaT ((List.range c.ins.length).map (rtN c)))[i]=((rtN c i:Nat):Int):=λi hi=>by simp [zaT]
 have g5:=g4.t Z;have hG:=O;refine zab zfQ<|zac ty3 (zcA O) Z λ_=>?_;rw [gd.at_];refine zad u33 ty3 (i:=pa) gK (gV pa gd.lt) λb9 o9 gX=>?_;rw [gW] at gX;refine zac ty3 gX g5 λ_=>zab zfQ<|zac ty3 (zcA V) Z λ_=>?_;rw [gg.at_];refine zad u33 ty3 (i:=pb) gK (gV pb gg.lt) λb10 o10 g9=>?_;rw [gW] at g9;refine zac ty3 g9 g5 λ_=>?_;refine (zAO (zy6 hc pa) (zy6 hc pb) h8).mono ?_;rintro _ w9 ⟨g0,x,rfl,hx⟩;rw [zze hc gd.met gg.met] at hx;have gb:zas c a.at_=zas c pa:=by rw [gd.at_]
 have gc:zas c bb.at_=zas c pb:=by rw [gg.at_]
 have I:=Z.t g0;refine zbz (λhH=>?_) (λgY=>?_)
 case refine_2=>refine gU I λh=>?_;have:=hx.2 (by rw [<-gb,<-gc];exact h.2);rw [this] at gY;cases gY
 have hB:zhb c (zas c a.at_).toNat (zas c bb.at_).toNat:=by rw [gb,gc];exact hx.1 hH
 refine zaa zdc O I λv51 hI=>zaa zdc V I λv52 hJ=>?_;refine (zqZ hI I hJ I).mono ?_;rintro v53 w10 ⟨gF,gG⟩;have C:=I.t gF;have gZ:=C.size;refine zdA (x:=zd2 a bb) u39 zd9 z58 zCF qd (gS.ext C) (gG 0 0) (by rw [zal,qag];omega) (by rw [qag];omega) λhK w11 hL hM Y gH hN=>?_;have hO:=Y.size;have hsb:=g4.size;refine zau<|⟨mj-1,oo,j+1,oo,hK,hL,hM,rfl,oo,(g4.t C).chgI Y gy,oo,(X.ext C).keep (Y.block _ oo hd),oo,oo,oo,?_⟩;rw [gQ];have:rc1 c a bb=[zd2 a bb]:=by unfold rc1;rw [if_pos ⟨gE,hB⟩]
 rw [this,<-qar];exact gH
def zzf (h0:Is W0 v0 c) (e0:Ext W0 w) (hc:CodeR c) :
   CALL tp 63 [v0] w λr w'=>Ext w w'/\Own w.heap.size w' r (zfX (zg2 c (znn c) (znn c).length)):=by
 refine co (g:=kf [] [(5,2417851639229258349380552,[3,6]),(8,2417851639229258345218952,[3,7])] [(12,[0,1,2,3,4,5,6,7,8,9,10,11,12,13,14,15,16,17,18,19,20,21,22,23,24,25,29,30,31,26,27,28,32,33,34,35],4362076160)]) Tryz.func63 ?_;have h8:=hc.1.procs8;refine za9 h0 e0 λw1 gK hA=>zaK (α:=DRace) u39 zd9 λgg w2 g3 _=>zaa zbq hA g3 λv11 h4=>?_;refine (zy9 h4 g3 hc).mono ?_;rintro v12 w3 ⟨gh,h6⟩;refine zaa zbq hA (g3.t gh) λv13 h9=>?_;refine (zs1 h9 (g3.t gh) hc).mono ?_;rintro v14 wb ⟨gM,ha⟩;have D:=g3.t (gh.t gM);have gc:=h6.is.ext gM;have hd:=ha.is;have he:=zuE hc;have gN:=λx (hx:x∈znn c)=>zuF hc hx;have hg:=zDq c;generalize znn c=T at *;have hs1:=gK.size;have hh:=D.size
 have hk:∀ w:World,Mine [] w (.slice (some gg) 0 0) (zfX (zg2 c T 0)):=λw=>by
   have h:RowG (α:=DRace) [] 58 w (.slice (some gg) 0 0) []:=.inl ⟨some gg,rfl,rfl,rfl⟩;exact ⟨h.own,qaq,h.wr⟩
 refine zao T.length (λk us w'=>∃ out F,us=[out,.int .i64 (k:Int)]/\k<=T.length/\Ext wb w'/\Mine F w' out (zfX (zg2 c T k))/\∀ b∈F,wb.heap.size<=b) 0 (z0 _) ⟨_,[],rfl,z0 _,xrf _,hk wb,sS⟩ ?_;rintro i mk u w5 hkm ⟨out,F5,hu,hkl,gO,gi,gP⟩;obtain ⟨hl,hq⟩:=zcB hu;rw [hl,hq];refine zae zm8 gc<|zag ?_;have hr:=zrA (c:=c) he (n:=i) oo;refine br (λhlt=>?_) (λhge=>?_)
 case refine_2=>
   have hs:i=T.length:=oo
   rw [hs] at gi;exact ⟨gK.t (D.t gO),F5,gi,λb hb=>by have:=gP b hb;omega⟩
 have hi:i<T.length:=oo
 have gj:=zlq (c:=c) hi;have gl:=zoj c T i;obtain ⟨pa,gd⟩:=gN T[i] (qab _)
 have hv:∀ j (hj:j<T.length),i<=j->T[i].at_<=T[j].at_:=λj hj gQ=>by
   by_cases e:i=j
   . subst e;omega
   exact qbM.1 hg i j hi hj oo
 have hDl:(T.drop i).length=T.length-i:=qa0;generalize hae:T[i]=a at *;refine zao T.length (λj us w'=>∃ out F,us=[out,.int .i64 (j:Int)]/\i<=j/\j<=T.length/\Ext wb w'/\Mine F w' out (zfX (zg2 c T i++((T.drop i).take (j-i)).flatMap (rc1 c a)))/\∀ b∈F,wb.heap.size<=b) i oo ⟨out,F5,rfl,lr _,oo,gO,by simpa using gi,gP⟩ ?_;rintro j mj u6 w6 hjm ⟨X,F6,hw,gQ,hjl,g1,gp,gq⟩;obtain ⟨gr,gs⟩:=zcB hw;rw [gr,gs];refine zae zm8 gc<|zag<|br (λhy=>?_) (λhD=>?_)
 case refine_2=>
   have hje:j=T.length:=oo
   refine zau<|⟨mk-1,oo,i+1,oo,X,F6,rfl,oo,g1,?_,gq⟩;rw [qaf oo] at gp;rw [gl,gj];exact gp
 have hj:j<T.length:=oo
 have hF:j-i<(T.drop i).length:=oo
 have hG:(T.drop i)[j-i]=T[j]:=by rw [qcP];congr 1;omega
 have gt:=zcS (f:=rc1 c a) hF;rw [hG,show j-i+1=j+1-i by omega] at gt;have hrl:=zs4 c a ((T.drop i).take (j-i));have htl:=qb8 (j-i) (T.drop i);obtain ⟨pb,gf⟩:=gN T[j] (qab _);have hH:=hv j hj gQ;refine zad zm8 zdc (i:=i) gc hi λb7 o7 gR=>?_;rw [hae] at gR;refine zaa zdc gR g1 λv31 hI=>zck zuW rfl zdc rfl hI g1 λw7 gx hJ hVa=>zad zm8 zdc (i:=j) gc hj λb8 o8 hK=>?_;generalize hbe:T[j]=bb at *;refine zaa zdc hK (g1.t gx) λv35 hL=>zck zuW rfl zdc rfl hL (g1.t gx) λw8 gS hM hVb=>?_;have gy:=zah w8;have I:=hJ.ext (gS.t gy);have O:=hM.ext gy;have g4:=gx.t (gS.t gy);generalize World.drew1 w8=w9 at *;have g5:=g1.t g4;have gU:=gp.ext g4
 have g2:∀ {g9:World},Ext w9 g9->¬(zdO a bb/\zhb c (zas c a.at_).toNat (zas c bb.at_).toNat)->RD tp (bin .add 3 (.tmp 0) (.const undef) (.int .i64 (j:Int)) (.int .i64 1)) g9 λhN=>∃ m',m'<mj/\∃ k',k'+m'=T.length/\∃ out F,[X,hN]=[out,.int .i64 (k':Int)]/\i<=k'/\k'<=T.length/\Ext wb g9/\Mine F g9 out (zfX (zg2 c T i++((T.drop i).take (k'-i)).flatMap (rc1 c a)))/\∀ b∈F,wb.heap.size<=b:=λM hn=>by
   refine zau<|⟨mj-1,oo,j+1,oo,X,F6,rfl,oo,oo,g5.t M,?_,gq⟩;rw [gt];have:rc1 c a bb=[]:=by unfold rc1;rw [if_neg hn]
   rw [this,qaC];exact gU.ext M
 refine zab zjI<|zac ty3 (zef I) (xrf _) λhO=>zab zjI<|zac ty3 (zef O) (xrf _) λ_=>zai<|br (λgz=>?_) (λgz=>g2 (xrf _) λh=>gz h.1.1);refine zab zoE<|zaG ty4 (zgB I) (xrf _)<|zza (Q:=a.write=true\/bb.write=true) .inl (λhP=>?_) (λhQ hf=>?_)
 case refine_2=>
   refine zab zoE<|zaG ty4 (zgB O) (xrf _)<|zbz (λh=>hQ (.inr h)) (λh=>g2 (xrf _) λh2=>?_);rcases h2.1.2.1 with h3 | h3
   . rw [h3] at hf;cases hf
   rw [h3] at h;cases h
 obtain ⟨ma,gV⟩:=qbU gd.h0;obtain ⟨mb,gW⟩:=qbU gf.h0;have h1a:=gd.h1;have h1b:=gf.h1;refine zab zjJ<|zac ty3 (zeg I) (xrf _) λ_=>zab zjJ<|zac ty3 (zeg O) (xrf _) λ_=>?_;rw [gV,gW];refine zeA (m:=ma) (n:=mb) oo oo<|zai ?_
 have gX:zdO a bb↔(a.global=bb.global/\(a.write=true\/bb.write=true)/\ma &&& mb=0):=by
   unfold zdO;rw [gV,gW];simp only [qah];constructor
   . rintro ⟨h1,h2,_,_,h5⟩;exact ⟨h1,h2,h5⟩
   rintro ⟨h1,h2,h5⟩;exact ⟨h1,h2,⟨oo,oo⟩,⟨oo,oo⟩,h5⟩
 refine br (λhz=>?_) (λhz=>g2 (xrf _) λh=>hz (by rw [(gX.1 h.1).2.2];rfl));have hC:zdO a bb:=gX.2 ⟨gz,hP,oo⟩;refine zaa zbq hA (D.t g5) λv59 hR=>zab zfQ<|zac ty3 (zcA I) (xrf _) λhS=>zaa zbq hA (D.t g5) λv65 hV=>zab zfQ<|zac ty3 (zcA O) (xrf _) λhW=>?_;refine (ze7 (a:=a.at_) hR (D.t g5)).mono ?_;rintro _ g9 ⟨M,rfl⟩;refine ⟨M,?_⟩;obtain ⟨qa,gY,gC,_⟩:=zeF hc gd.lt;obtain ⟨qb,gD,gE,_⟩:=zeF hc gf.lt;have Y:zas c a.at_=(qa:Int):=by rw [gd.at_,gC]
 have Z:zas c bb.at_=(qb:Int):=by rw [gf.at_,gE]
 rw [Y,Z] at g2;simp only [qah] at g2;rw [Y];have gZ:(zwj c c.procs.length).length=c.procs.length:=by simp [zwj]
 have U:=g5.t M;refine zad zuX zgt (i:=qa) hd (by rw [gZ];exact gY) λb11 o11 gb=>?_;rw [show (zwj c c.procs.length)[qa]'(by rw [gZ];exact gY)=zbZ c.procs.length (zhb c qa) by simp only [zwj,qbH,qcE]] at gb;refine zaa zgt gb U λv64 hX=>?_;refine (ze7 (a:=bb.at_) hV (D.t U)).mono ?_;rintro _ hY ⟨g0,rfl⟩;refine ⟨g0,?_⟩;rw [Z];have V:=U.t g0;have C:=M.t g0;have gF:=zaU (n:=c.procs.length) (p:=zhb c qa) (i:=qb);rw [za5 (by rw [zan];exact gD)] at gF;refine zad u90 ty4 (i:=qb) hX (by rw [zan];exact gD) λb12 o12 gG=>zaG ty4 gG V<|zbz (λht=>?_) (λhf=>g2 C λh=>by rw [gF.2 ⟨gD,h.2⟩] at hf;cases hf);have hB:=(gF.1 ht).2;refine zab zjI<|zac ty3 (zef I) C λ_=>zab zfQ<|zac ty3 (zcA I) C λ_=>zab zfQ<|zac ty3 (zcA O) C λ_=>zaX (cells:=#[.int .i64 a.global,.int .i64 a.at_,.int .i64 bb.at_]) kK ?_
 have hZ:zd2 a bb=⟨a.global,a.at_,bb.at_⟩:=by
   unfold zd2;rw [show min a.at_ bb.at_=a.at_ by omega,show max a.at_ bb.at_=bb.at_ by omega]
 have j0:Is hY (.agg #[.int .i64 a.global,.int .i64 a.at_,.int .i64 bb.at_]) (zd2 a bb):=by
   rw [hZ];exact zlx.2 ⟨rfl,hO,hS,hW⟩
 have j1:=zq1 (zg2 c T i++((T.drop i).take (j-i)).flatMap (rc1 c a));rw [qag] at j1;refine (zv6 (gU.ext C) j0 (xrf _) oo).mono ?_;rintro j2 w12 ⟨gH,j3,gI,gJ⟩;refine zau<|⟨mj-1,oo,j+1,oo,j2,j3,rfl,oo,oo,V.t gH,?_,λb hb=>?_⟩
 . rw [gt]
   have:rc1 c a bb=[zd2 a bb]:=by
     unfold rc1;rw [if_pos ⟨hC,by rw [Y,Z];simpa using hB⟩]
   rw [this,<-qar,zvw];exact gI
 rcases gJ b hb with h | h
 . exact gq b h
 have:=V.size;omega
def zg3 (rounds:List (List Int)) (locks:List Int):Prop:=locks=[]\/∃ r∈rounds,∀ x∈locks,x∈r
instance (rounds:List (List Int)) (locks:List Int):Decidable (zg3 rounds locks):=inferInstanceAs (Decidable (locks=[]\/∃ r∈rounds,∀ x∈locks,x∈r))
def zzg {C:List (List Int)} {locks:List Int} (hk:k<C.length) (h:∀ r∈C.take k,¬ ∀ x∈locks,x∈r) (c:¬ ∀ x∈locks,x∈C[k]):∀ r∈C.take (k+1),¬ ∀ x∈locks,x∈r:=by
 intro r hr;rw [tk hk] at hr;rcases qae.1 hr with hr | hr
 . exact h r hr
 simp only [qaa,qac,or_false] at hr;subst hr;exact c
def zrB {l r:List Int} (hj:j<l.length):(∀ x∈l.take (j+1),x∈r)↔(∀ x∈l.take j,x∈r)/\l[j]∈r:=by
 rw [tk hj];simp only [qae,qaa,qac,or_false];constructor
 . intro h;exact ⟨λx hx=>h x (.inl hx),h _ (.inr rfl)⟩
 rintro ⟨h1,h2⟩ x (hx | hx)
 . exact h1 x hx
 subst hx;exact h2
def zhz {C:(List (List Int))} {locks:(List Int)}  (h0:Is W0 v0 C) (e0:Ext W0 w) (h1:Is W1 v1 locks) (e1:Ext W1 w)  :
   CALL tp 32 [v0,v1] w λr w'=>Ext w w'/\(r=.bool (decide (zg3 C locks))):=by
 refine co (g:=kf [] [(4,4294935248,[15]),(8,1071645312,[7,21])] []) Tryz.func32 ?_;have g0:=zaj h1;refine zae u33 h1<|zai<|br (λc1=>?_) (λc1=>?_)
 . refine ⟨xrf w,?_⟩
   have:locks=[]:=qam oo;simp [zg3,this]
 have g1:=zaj h0;refine zae u44 h0<|zao (C.length) (λk us w'=>us=[.int .i64 (k:Int)]/\Ext w w'/\(∀ r∈C.take k,¬ ∀ x∈locks,x∈r)) (0) oo ⟨sS,xrf w,sS⟩ ?_;rintro k m4 uu4 g2 hk4 ⟨hu,y1,D⟩;try replace hu:=zbt hu
 try rw [hu]
 try clear hu
 refine zag<|br (λc2=>?_) (λc2=>?_)
 . refine zad u44 za4 h0 oo λb17 o17 g9=>?_
   refine zaa za4 g9 (e0.t y1) λv18 gb=>?_;have g3:=zaj h1;refine zae u33 h1<|zao (locks.length) (λj us w'=>∃ q:Bool,us=[.bool q,.int .i64 (j:Int)]/\Ext g2 w'/\(q=decide (∀ x∈locks.take j,x∈C[k]'(by omega)))) (0) oo ⟨true,sS,xrf g2,sS⟩ ?_;rintro j m8 uu8 w2_ hk8 ⟨q,hu,y2,hq⟩;obtain ⟨g4,g5⟩:=zcB hu;try rw [g4]
   try rw [g5]
   try clear g4 g5
   refine zag<|br (λc3=>?_) (λc3=>?_)
   . refine zad u33 ty3 h1 oo λb23 o23 gc=>?_
     refine zac ty3 gc (e1.trans (y1.t y2)) λgd=>?_;refine (zni gb (e0.t (y1.t y2))).mono ?_;rintro _ w3_ ⟨y3,rfl⟩;refine zav<|br (λc4=>?_) (λc4=>?_)
     . refine zau ?_
       refine ⟨m8-1,oo,j+1,oo,false,sS,(y2.t y3),?_⟩;have:¬ ∀ x∈locks.take (j+1),x∈C[k]'(by omega):=λh=>c4 ((zrB (show j<locks.length by omega)).1 h).2;simp [this]
     refine zau<|⟨m8-1,oo,j+1,oo,q,sS,(y2.t y3),?_⟩;rw [hq];simp only [zrB (show j<locks.length by omega),qad.1 c4,and_true]
   refine zbz (λc5=>?_) (λc5=>?_)
   . refine ⟨(y1.t y2),?_⟩
     have:zg3 C locks:=by
       rw [hq,qaf oo] at c5;simp only [decide_eq_true_eq] at c5;exact .inr ⟨_,qab _,c5⟩
     simp [this]
   refine zau<|⟨m4-1,oo,k+1,oo,sS,(y1.t y2),?_⟩;rw [hq,qaf oo] at c5;simp only [decide_eq_false_iff_not] at c5;exact zzg oo D c5
 refine ⟨y1,?_⟩;rw [qaf oo] at D
 have:¬zg3 C locks:=by
   rintro (h | ⟨r,hr,h⟩)
   . exact c1 (by rw [h];rfl)
   exact D r hr h
 simp [this]
def zno {l:List DRace} (hk:k<l.length) (h:y∉l.take k) (c:¬l[k]=y):y∉l.take (k+1):=by
 rw [tk hk];simp only [qae,qaa,qac,or_false,not_or];exact ⟨h,λe=>c e.symm⟩
def zrC {l:(List DRace)}  (h0:Is W0 v0 l) (e0:Ext W0 w) (h1:Is W1 v1 y) (e1:Ext W1 w)  :
   CALL tp 155 [v0,v1] w λr w'=>Ext w w'/\(∃ n:Int,r=.int .i64 n/\(0<=n↔y∈l)):=by
 refine co (g:=kf [] [(2,524080,[8])] [(4,[0,1,2,3,4,5],0)]) Tryz.func155 ?_;refine zat zd9 rfl h1 e1 λg0 y1 hA3 g1=>?_;have g2:=zaj h0;refine zae u39 h0<|zao (l.length) (λk us w'=>us=[.int .i64 (k:Int)]/\Ext g0 w'/\(y∉l.take k)) (0) oo ⟨sS,xrf g0,sS⟩ ?_;rintro k m2 uu2 g3 hk2 ⟨hu,y2,C⟩;try replace hu:=zbt hu
 try rw [hu]
 try clear hu
 refine zag<|br (λc1=>?_) (λc1=>?_)
 . have y3:=zah g3
   refine zaF g1 (y2.t y3)<|zad u39 zd9 h0 oo λb14 o14 g4=>zaa zd9 g4 (e0.t (y1.t (y2.t y3))) λv15 g5=>zis h1 g5<|br (λc2=>?_) (λc2=>?_)
   . refine ⟨(y1.t (y2.t y3)),?_⟩
     have:y∈l:=c2▸qab _;exact ⟨_,rfl,by simp [this]⟩
   refine zau<|⟨m2-1,oo,k+1,oo,sS,(y2.t y3),?_⟩;exact zno oo C (λe=>c2 e.symm)
 refine ⟨(y1.t y2),?_⟩;rw [qaf oo] at C;exact ⟨-1,rfl,by simp [C]⟩
def zm4 {l:(List DRace)}  (h0:Is W0 v0 l) (e0:Ext W0 w) (h1:Is W1 v1 y) (e1:Ext W1 w)  :
   CALL tp 74 [v0,v1] w λr w'=>Ext w w'/\(r=.bool (decide (y∈l))):=by
 refine co (g:=kf [] [] []) Tryz.func74 ?_;refine zat zd9 rfl h1 e1 λg0 y1 hA3 g1=>zaF g1 (xrf g0) ?_;refine (zrC h0 (e0.t y1) h1 (e1.trans y1)).mono ?_;rintro _ w2_ ⟨y2,n7,rfl,g2⟩;refine zcb<|⟨(y1.t y2),?_⟩;simp [g2]
def zhA {l:(List DRace)}  (h0:Is W0 v0 l) (e0:Ext W0 w) (h1:Is W1 v1 y) (e1:Ext W1 w)  :
   CALL tp 31 [v0,v1] w λr w'=>Ext w w'/\(r=.bool (decide (y∈l))):=by
 refine co (g:=kf [] [] []) Tryz.func31 ?_;refine zat zd9 rfl h1 e1 λg0 y1 hA3 g1=>zaF g1 (xrf g0) ?_;refine (zm4 h0 (e0.t y1) h1 (e1.trans y1)).mono ?_;rintro _ w2_ ⟨y2,rfl⟩;refine ⟨(y1.t y2),?_⟩;rfl
def zFo {α β:Type} [Rep α] [Rep β] (w w':World) (r:Value) (x:α) (y:β):Prop:=∃ a b lo hi lo2 hi2,r=.tuple #[a,b]/\OwnI lo hi w' a x/\OwnI lo2 hi2 w' b y/\w.heap.size<=lo/\w.heap.size<=lo2/\hi<=w'.heap.size/\hi2<=w'.heap.size/\(hi<=lo2\/hi2<=lo)
noncomputable def rcs (c:DCode):List DRace:=zfX (zg2 c (znn c) (znn c).length)
noncomputable def zm5 (c:DCode) (s:DState) (k:Nat):List DRace:=((zfY c s).take k).filter λx=>decide (x∉rcs c)
def zzh (hk:k<(zfY c s).length) (h:(zfY c s)[k]∉rcs c):zm5 c s (k+1)=zm5 c s k++[(zfY c s)[k]]:=by
 unfold zm5;rw [tk hk,qa7];simp [h]
def zAR (hk:k<(zfY c s).length) (h:(zfY c s)[k]∈rcs c):zm5 c s (k+1)=zm5 c s k:=by
 unfold zm5;rw [tk hk,qa7];simp [h]
def zzi (c:DCode) (s:DState) (k:Nat):(zm5 c s k).length<=k:=qan (qbt _ _) (by rw [qai];omega)
def zeu (c:DCode) (s:DState) (t:Nat):Prop:=zg3 ((zg5 c).map zaT) (zbJ (zhp c s (t:Int)))
noncomputable instance (c:DCode) (s:DState) (t:Nat):Decidable (zeu c s t):=by unfold zeu;infer_instance
noncomputable def zzj (c:DCode) (s:DState):List Int:=match (List.range s.stacks.length).find? λt=>decide (¬zeu c s t) with
 | some t=>zbJ (zhp c s (t:Int))
 | none=>[]
def zol (h:∀ t,t<s.stacks.length->zeu c s t):zzj c s=[]:=by
 unfold zzj
 have:(List.range s.stacks.length).find? (λt=>decide (¬zeu c s t))=none:=by
   rw [List.find?_eq_none];intro t ht;simp [h t (qaw.1 ht)]
 rw [this]
def zv7 (ht:t<s.stacks.length) (hn:¬zeu c s t) (h:∀ j,j<t->zeu c s j):zzj c s=zbJ (zhp c s (t:Int)):=by
 unfold zzj
 have:(List.range s.stacks.length).find? (λt=>decide (¬zeu c s t))=some t:=by
   cases e:(List.range s.stacks.length).find? (λt=>decide (¬zeu c s t)) with
   | none=>
     rw [List.find?_eq_none] at e;exact absurd (by simpa using e t (qaw.2 ht)) hn
   | some j=>
     have hj:=List.find?_some e;simp only [decide_eq_true_eq] at hj;have hjm:=qaw.1 (List.mem_of_find?_eq_some e);rw [List.find?_eq_some_iff_append] at e;obtain ⟨_,l1,l2,hr,ha⟩:=e;have h1:(List.range s.stacks.length)[l1.length]?=some j:=by rw [hr];simp
     have h2:l1.length=j:=by
       obtain ⟨h3,h4⟩:=List.getElem?_eq_some_iff.1 h1;simpa using h4
     rcases qb5 t j with hl | rfl | hl
     . exfalso
       have h3:t∈l1:=by
         have h4:(List.range s.stacks.length)[t]?=some t:=by simp [ht]
         rw [hr,List.getElem?_append_left oo] at h4;exact List.mem_of_getElem? h4
       simpa [hn] using ha t h3
     . rfl
     exact absurd (h j hl) hj
 rw [this]
open Classical in
noncomputable def ziF (c:DCode) (s:DState):List DRace:=if CodeR c/\zaE c s then zm5 c s (zfY c s).length else []
open Classical in
noncomputable def ziG (c:DCode) (s:DState):List Int:=if CodeR c/\zaE c s then zzj c s else []
def zpO (h0:Is W0 v0 c) (e0:Ext W0 w) (h1:Is W1 v1 s) (e1:Ext W1 w) :
   CALL tp 28 [v0,v1] w λr w'=>Ext w w'/\zFo w w' r (ziF c s) (ziG c s):=by
 refine co (g:=kf [] [(7,140720308488704,[9,34]),(14,147569448990049067056,[52])] []) Tryz.func28 ?_;refine za9 h0 e0 λwa gh hA=>za9 h1 (e1.trans gh) λwb gi hB=>?_;have gf:=hA.ext gi;refine zaa zbq gf (xrf _) λv16 gC=>?_;refine (zh3 gC (xrf _)).mono ?_;rintro r17 w2 ⟨g1,hr⟩;have g3:=(gh.t gi).trans g1;have hs2:=g3.size
 have gr:¬(CodeR c/\zaE c s)->∀ w9,Ext w2 w9->Ext w w9/\zFo w w9 (.tuple #[.slice none 0 0,.slice none 0 0]) (ziF c s) (ziG c s):=λh w9 g2=>by
   have gD:=g2.size;refine ⟨g3.t g2,_,_,w.heap.size,w.heap.size,w.heap.size,w.heap.size,rfl,?_,?_,lr _,qas _,oo,oo,.inl (lr _)⟩
   . unfold ziF;rw [if_neg h];exact zoz
   unfold ziG;rw [if_neg h];exact zoz
 rcases hr with ⟨hn,rfl⟩ | ⟨hc,b,rfl,hW⟩
 . refine zaY rfl ?_
   refine zaY rfl<|zaV<|zbz (λ_=>?_) (λh=>by cases h);exact gr (λh=>hn h.1) _ (xrf _)
 refine zaY rfl<|zaY rfl<|zaV<|zbz (λh=>by cases h) (λ_=>?_);refine zaa zbq gf g1 λv23 gE=>zaa zc0 hB g1 λv24 gF=>?_;refine (zgP gE g1 gF g1 hc).mono ?_;rintro _ w3 ⟨gg,rfl⟩;refine zav<|br (λhn=>gr (λh=>hn h.2) _ gg) (λhy=>?_);have hs:=qad.1 hy;have U:CodeR c/\zaE c s:=⟨hc,hs⟩;refine (zuH hW gg hc).mono ?_;rintro gG w4 ⟨gs,gt⟩;change Own w3.heap.size w4 gG (rcs c) at gt;have I:=(g1.t gg).trans gs;refine zaa zbq gf I λv30 gH=>zaa zc0 hB I λv31 gI=>?_;refine (zm3 gH I gI I hc hs).mono ?_;rintro v32 w5 ⟨gj,gx⟩;have hml:=zq3 s hc hs;have g4:=I.t gj;have g5:=(gh.t gi).trans g4;have gy:=g5.size;refine zae u39 gx.is<|zao (zfY c s).length (λk us w'=>∃ out,us=[out,.int .i64 (k:Int)]/\k<=(zfY c s).length/\Ext w5 w'/\RowI w5.heap.size w'.heap.size 58 w' out (zm5 c s k)) 0 (z0 _) ⟨_,rfl,z0 _,xrf _,by simpa [zm5] using zb6 (α:=DRace) w5.heap.size w5.heap.size 58 w5⟩ ?_;rintro k mk q w6 hkm ⟨out,hq,hkl,V,g9⟩;obtain ⟨gJ,gK⟩:=zcB hq;rw [gJ,gK];have hs6:=V.size;have hMl:=zzi c s k;refine zag<|br (λhlt=>?_) (λhge=>?_)
 . have hk:k<(zfY c s).length:=oo
   refine zad u39 zd9 gx.is hk λb3 o3 gM=>zaa zd9 gM V λv37 gN=>zck zEW rfl zd9 rfl gN V λw7 Y gb hV7=>zaa zd9 gb (xrf _) λv39 gO=>?_;refine (zhA gt.is ((gj.t V).trans Y) gO (xrf _)).mono ?_;rintro _ w8 ⟨D,rfl⟩;have M:=Y.t D;have gl:=M.size;refine zav<|br (λhn=>?_) (λhy=>?_)
   . refine zaa zd9 gb D λv43 gP=>?_
     refine zbO (lo2:=w8.heap.size) (hi2:=w8.heap.size) (x:=(zfY c s)[k]) u39 zd9 z58 zCF qd (g9.ext M) oo (zfL (gP.ext D)) oo oo (by rw [zal];omega) oo λv' w9 gQ gR=>zau<|⟨mk-1,oo,k+1,oo,v',rfl,oo,(V.t M).chgI gQ (lr _),?_⟩;rw [zzh hk hn];exact gR
   refine zau<|⟨mk-1,oo,k+1,oo,out,rfl,oo,V.t M,?_⟩;rw [zAR hk (qad.1 hy)];exact (g9.ext M).mono (lr _) gl
 have gS:k=(zfY c s).length:=oo
 rw [gS] at g9;refine (zro hW ((((gg.t gs).trans gj)).trans V) hc).mono ?_;rintro v48 w7 ⟨Y,gU⟩;have hs7:=Y.size;have O:=(g4.t V).trans Y;refine zab zbj<|zaa zeN (zaJ hB) O λv50 gV=>zae u44 gV ?_;have hn6:=hs.2.2.1;refine zao s.stacks.length (λt us w'=>us=[.int .i64 (t:Int)]/\t<=s.stacks.length/\Ext w7 w'/\∀ j,j<t->zeu c s j) 0 (z0 _) ⟨rfl,z0 _,xrf _,λj hj=>oo⟩ ?_;rintro t mt q8 w8 htm ⟨gp,htl,D,C⟩;try replace gp:=zbt gp
 rw [gp];have hs8:=D.size;have gc:=(((g5.t V).trans Y).trans D);refine zag<|br (λgW=>?_) (λgX=>?_)
 case refine_2=>
   have gY:t=s.stacks.length:=oo
   rw [gY] at C;refine ⟨gc,_,_,w5.heap.size,w6.heap.size,w6.heap.size,w6.heap.size,rfl,?_,?_,gy,oo,oo,oo,.inl (lr _)⟩
   . unfold ziF;rw [if_pos U];exact ((g9.ext Y).ext D).own
   unfold ziG;rw [if_pos U,zol C];exact zoz
 have ht:t<s.stacks.length:=oo
 refine zaa zbq gf (O.t D) λv55 gZ=>zaa zc0 hB (O.t D) λv56 h2=>?_;refine (zxZ gZ (O.t D) h2 (O.t D) hc hs).mono ?_;rintro _ w9 ⟨g2,rfl⟩;have h4:=zmk hc hs (t:Int);refine (zdr oo).mono ?_;rintro v59 w10 ⟨g0,gd⟩;have Z:=(D.t g2).trans g0;have gD:=g2.size;have h5:=g0.size;refine (zhz gU.is Z gd.is (xrf _)).mono ?_;rintro _ h6 ⟨X,rfl⟩;have gq:=X.size;refine zav<|br (λhn=>?_) (λhy=>?_)
 . have gz:=(g2.t g0).trans X
   refine ⟨gc.t gz,_,_,w5.heap.size,w6.heap.size,w9.heap.size,h6.heap.size,rfl,?_,?_,gy,oo,oo,lr _,.inl oo⟩
   . unfold ziF;rw [if_pos U];exact (((g9.ext Y).ext D).ext gz).own
   unfold ziG;rw [if_pos U,zv7 ht hn C];exact (gd.toI.ext X).mono (lr _) gq
 refine zau<|⟨mt-1,oo,t+1,oo,rfl,oo,Z.t X,λj hj=>?_⟩;rcases qa2 (qbg.1 hj) with h | rfl
 . exact C j h
 exact qad.1 hy
def zgr (s:DState) (t:Nat):Option Nat:=(zcH s t).getLast?
def zuI (c:DCode) (s:DState) (t r:Nat):Prop:=∃ x,zgr s t=some x/\zas c x=(r:Int)
structure RootI (c:DCode) (s:DState):Prop where
 zero:∀ r,zuI c s 0 r->r=zcm c
 oth:∀ t r,1<=t->zuI c s t r->zec c r≠[]
 uniq:∀ r a t u,zpM c r a->1<=t->1<=u->zuI c s t r->zuI c s u r->t=u
 past:∀ r a t x,zpM c r a->1<=t->zuI c s t r->zgr s 0=some x->¬(x=a\/RP (zaA c) x a)
theorem Frm.bot {H:Nat->Prop} (h:Frm c r L H):∃ x,L.getLast?=some x/\zaN c r x:=by
 induction h with
 | one hr hC=>exact ⟨_,rfl,hC.live⟩
 | push h h4 hC hk ih=>
   obtain ⟨x,hx,hl⟩:=ih;exact ⟨x,by rw [List.getLast?_cons_cons];exact hx,hl⟩
def Frm.hasR (hc:CodeR c) {s:DState} {t r:Nat} {H:Nat->Prop} (h:Frm c r (zcH s t) H):zuI c s t r:=by
 obtain ⟨x,hx,hl⟩:=h.bot;exact ⟨x,hx,(zca hc (h.root.lt hc) hl).2⟩
def zAS (h:zuI c s t r) (h':zuI c s t r'):r=r':=by
 obtain ⟨x,h1,h2⟩:=h;obtain ⟨y,h3,h4⟩:=h';rw [h1] at h3;have:=qaW h3;subst this;omega
def zrD (hc:CodeR c) {p i:Nat} (hu:UsedP c p) (hl:zaN c p i) (h5:(zam c i).op=5):i∈zec c (agN c i):=by
 unfold zec;have hi:=(zca hc (hu.lt hc) hl).1;exact qaE.2 ⟨p,zaH.2 ⟨hu.lt hc,hu⟩,zaH.2 ⟨hi,hl,h5,rfl⟩⟩
def zpP (hc:CodeR c) (hs:zaE c s) (g4:GoR c s t) :
   (∀ x',zgr (zba c s t) t=some x'->∃ x,zgr s t=some x/\(x'=x\/x'∈zaA c x)) /\
   (¬(atI c s t).op=4->¬(atI c s t).op=9->zgr s t=some (zbu s t).toNat->zcH s t=[(zbu s t).toNat]->∃ j,j∈zaA c (zbu s t).toNat/\zgr (zba c s t) t=some j):=by
 obtain ⟨g0,g2,htl,hne,C⟩:=zg0 hc hs g4;unfold zgr;refine ⟨λx' r=>?_,λh4 h9 _ g3=>?_⟩
 . rcases C with ⟨h4,hf,-⟩ | ⟨h9,h0,hn⟩ | ⟨h9,⟨b,g1,rfl,g5,hz,hf⟩,-⟩ | ⟨h4,h9,j,hj,hf⟩
   . rw [hf,List.getLast?_cons_cons] at r
     rw [g2];exact ⟨x',r,.inl rfl⟩
   . unfold zcH at r;rw [hn] at r;simp at r
   . rw [hf] at r
     rw [g2,List.getLast?_cons_cons];cases g1 with
     | nil=>
       refine ⟨b,rfl,.inr ?_⟩;have:b+1=x':=by simpa using r
       rw [<-this];exact zmW g5
     | cons y ys=>
       rw [List.getLast?_cons_cons] at r ⊢;exact ⟨x',r,.inl rfl⟩
   rw [hf] at r;rw [g2];cases g0 with
   | nil=>
     have:j=x':=by simpa using r
     subst this;exact ⟨_,rfl,.inr hj⟩
   | cons y ys=>
     rw [List.getLast?_cons_cons] at r ⊢;exact ⟨x',r,.inl rfl⟩
 rw [g2] at g3;obtain rfl:g0=[]:=by simpa using g3
 rcases C with ⟨h,_⟩ | ⟨h,_⟩ | ⟨h,_⟩ | ⟨_,_,j,hj,hf⟩
 . exact absurd h h4
 . exact absurd h h9
 . exact absurd h h9
 exact ⟨j,hj,by rw [hf];rfl⟩
def zzk {u x:Nat} (h:zgr s u=some x):u<s.stacks.length:=by
 refine Nat.lt_of_not_le λhn=>?_;have:stk s u=[]:=by unfold stk;rw [List.getD_eq_getElem?_getD,qah,List.getElem?_eq_none hn];rfl
 unfold zgr zcH at h;rw [this] at h;simp at h
def zEH (hc:CodeR c) (hF:zvS c s) {t x:Nat} (h:zgr s t=some x):x<c.ins.length:=by
 have hl:=zzk h;have g0:stk s t≠[]:=λe=>by unfold zgr zcH at h;rw [e] at h;simp at h
 obtain ⟨r,hf⟩:=hF t hl g0;obtain ⟨y,hy,g1⟩:=hf.bot;unfold zgr at h;rw [h] at hy;have:=qaW hy;subst this;exact (zca hc (hf.root.lt hc) g1).1
def zgs {t u r:Nat} (hc:CodeR c) (hs:zaE c s) (hF:zvS c s) (g2:GoR c s t) (h:zuI c (zba c s t) u r) :
   (u<s.stacks.length/\zuI c s u r)\/(u=s.stacks.length/\(atI c s t).op=5/\r=agN c (zbu s t).toNat):=by
 obtain ⟨x,hx,hr⟩:=h;rcases qaA u s.stacks.length with g0 | g0
 . refine .inl ⟨g0,?_⟩
   by_cases hut:u=t
   . subst hut
     obtain ⟨y,hy,g1⟩:=(zpP hc hs g2).1 x hx;refine ⟨y,hy,?_⟩;rcases g1 with rfl | g1
     . exact hr
     rw [<-(zcX hc (zEH hc hF hy) g1).2];exact hr
   unfold zgr at hx;rw [zks oo oo g0] at hx;exact ⟨x,hx,hr⟩
 obtain ⟨h5,g3,hf⟩:=zoc hc hs g2 (zzk hx) g0;refine .inr ⟨g3,h5,?_⟩;unfold zgr at hx;rw [hf] at hx;have hx:eN c (agN c (zbu s t).toNat)=x:=by simpa using hx
 have g4:(zbu s t).toNat<c.ins.length:=by have:=zh7 hs t;have:=g2.1;omega
 have hg:=zby hc g4 (.inr h5);have:=(zfU hc (p:=agN c (zbu s t).toNat) (by rw [hc.2.1.1];exact hg.2)).2.2;rw [<-hx,this] at hr;omega
def zrE {t a:Nat} (hc:CodeR c) (hs:zaE c s) (hF:zvS c s) (hR:RootI c s) (gd:GoR c s t) (h5:(atI c s t).op=5) (hO:zpM c (agN c (zbu s t).toNat) a) :
   t=0/\(zbu s t).toNat=a/\zcH s 0=[a]:=by
 obtain ⟨g4,g5,gb,gc,-⟩:=zg0 hc hs gd;obtain ⟨r,hf⟩:=hF t gb gc;have g0:=hf.hasR hc;rw [g5] at hf;obtain ⟨p,hC⟩:=hf.top;have g1:=zrD hc hC.used hC.live h5;rw [hO.1] at g1;have ha:(zbu s t).toNat=a:=by simpa using g1
 have hpm:p=zcm c:=by
   have h1:=(zca hc (hC.used.lt hc) hC.live).2;rw [ha,hO.2.1] at h1;omega
 have gf:g4=[]/\r=zcm c:=by
   cases hf with
   | one hr hC1=>
     refine ⟨rfl,?_⟩;have h1:=(zca hc (hr.lt hc) hC1.live).2;rw [ha,hO.2.1] at h1;omega
   | push h0 hb4 hC1 hk=>
     exfalso
     rename_i b rest' H0
     have h1:=(zca hc (hC1.used.lt hc) hC1.live).2;rw [ha,hO.2.1] at h1;obtain ⟨q,g3⟩:=h0.top;have g9:=(zca hc (g3.used.lt hc) g3.live).1;have hg:=zby hc g9 (.inl hb4);exact hO.2.2.2.2 ⟨q,g3.used,b,g9,g3.live,hb4,by rw [hg.1];omega⟩
 obtain ⟨g2,gg⟩:=gf
 have gh:t=0:=by
   refine qaV λhn=>?_;rw [gg] at g0;exact hR.oth t _ oo g0 hO.2.2.2.1
 subst gh;exact ⟨rfl,ha,by rw [g5,g2,ha]⟩
def zv8 (hc:CodeR c):RootI c (zdp c):=by
 have g0:(zdp c).stacks.length=1:=rfl
 have g1:∀ t r,1<=t->¬zuI c (zdp c) t r:=λt r ht ⟨x,hx,_⟩=>by
   have:=zzk hx;omega
 refine ⟨λr h=>?_,λt r ht h=>absurd h (g1 t r ht),λr a t u _ ht _ h _=>absurd h (g1 t r ht),λr a t x _ ht h _=>absurd h (g1 t r ht)⟩;obtain ⟨rr,hf⟩:=zru hc 0 (by rw [g0];omega) (by simp [stk,zdp])
 have h1:zuI c (zdp c) 0 (zcm c):=by
   refine ⟨eN c (zcm c),rfl,?_⟩;exact (zfU hc (p:=zcm c) (by rw [hc.2.1.1];exact RootP.main.lt hc)).2.2
 exact zAS h h1
def zzl {t:Int} (hc:CodeR c) (hs:zaE c s) (hF:zvS c s) (hR:RootI c s) (C:GoR c s t):RootI c (zba c s t):=by
 obtain ⟨tn,rfl,g5,g9,-,-⟩:=zfF hs C.1;have h1l:1<=s.stacks.length:=hs.2.2.1.1;have hil:(zbu s tn).toNat<c.ins.length:=by have:=zh7 hs tn;have:=C.1;omega
 have g4:∀ {x:Nat},zgr (zba c s tn) 0=some x->∃ y,zgr s 0=some y/\(x=y\/x∈zaA c y):=λ{x} hx=>by
   by_cases h0:0=tn
   . subst h0;exact (zpP hc hs C).1 x hx
   unfold zgr at hx ⊢;rw [zks oo oo oo] at hx;exact ⟨x,hx,.inl rfl⟩
 have g0:∀ {x y a:Nat},(x=y\/x∈zaA c y)->(x=a\/RP (zaA c) x a)->(y=a\/RP (zaA c) y a):=λ{x y a} h1 h2=>by
   rcases h1 with rfl | h1
   . exact h2
   rcases h2 with rfl | h2
   . exact .inr (.one h1)
   exact .inr ((RP.one h1).trans h2)
 refine ⟨λr h=>?_,λu r hu h=>?_,λr a u v hO hu hv h1 h2=>?_,λr a u x hO hu h hx D=>?_⟩
 . rcases zgs hc hs hF C h with ⟨_,h⟩ | ⟨h,_⟩
   . exact hR.zero r h
   omega
 . rcases zgs hc hs hF C h with ⟨_,h⟩ | ⟨_,h5,rfl⟩
   . exact hR.oth u r hu h
   obtain ⟨gb,gc,-,-,-⟩:=zg0 hc hs C;obtain ⟨r',hf⟩:=hF tn g5 g9;rw [gc] at hf;obtain ⟨p,hC⟩:=hf.top;exact List.ne_nil_of_mem (zrD hc hC.used hC.live h5)
 . have g1:∀ w,1<=w->zuI c s w r->(atI c s tn).op=5->r=agN c (zbu s tn).toNat->False:=λw hw hh h5 he=>by
     subst he;obtain ⟨rfl,ha,g2⟩:=zrE hc hs hF hR C h5 hO;exact hR.past _ a w a hO hw hh (by unfold zgr;rw [g2];rfl) (.inl rfl)
   rcases zgs hc hs hF C h1 with ⟨_,k1⟩ | ⟨e1,h5,er⟩
   . rcases zgs hc hs hF C h2 with ⟨_,k2⟩ | ⟨e2,h5,er⟩
     . exact hR.uniq r a u v hO hu hv k1 k2
     exact (g1 u hu k1 h5 er).elim
   rcases zgs hc hs hF C h2 with ⟨_,k2⟩ | ⟨e2,_,_⟩
   . exact (g1 v hv k2 h5 er).elim
   omega
 rcases zgs hc hs hF C h with ⟨_,k⟩ | ⟨_,h5,er⟩
 . obtain ⟨y,hy,gd⟩:=g4 hx
   exact hR.past r a u y hO hu k hy (g0 gd D)
 subst er;obtain ⟨gf,ha,g2⟩:=zrE hc hs hF hR C h5 hO;subst gf;obtain ⟨j,hj,g3⟩:=(zpP hc hs C).2 oo oo (by unfold zgr;rw [g2,ha];rfl) (by rw [g2,ha]);have g3:zgr (zba c s ((0:Nat):Int)) 0=some j:=g3;rw [hx] at g3;have:=qaW g3;subst this;rw [ha] at hj;rcases D with rfl | D
 . exact hO.2.2.1 (.one hj)
 exact hO.2.2.1 ((RP.one hj).trans D)
def zv9 {t u:Nat} (hc:CodeR c) (hs:zaE c s) (hF:zvS c s) (hR:RootI c s) (g0:t≠u) (ht:0<=zbu s t) (hu:0<=zbu s u):zhb c (zas c (zbu s t)).toNat (zas c (zbu s u)).toNat:=by
 have g3:∀ t:Nat,0<=zbu s t->∃ r,RootP c r/\zuI c s t r/\FromP c r (zas c (zbu s t)).toNat:=λt ha=>by
   obtain ⟨h0,h1⟩:=zd0 ha;have h1:t<s.stacks.length:=by simpa using h1
   have g0:stk s t≠[]:=λe=>by rw [zgQ h0 (by simpa using h1),e] at ha;simp [List.getLastD] at ha
   obtain ⟨r,hf⟩:=hF t h1 g0;have hh:=hf.hasR hc;obtain ⟨L,hL⟩:=zh4 g0;rw [<-zgQ h0 (by simpa using h1)] at hL;have g4:zcH s t=(zbu s t).toNat :: (L.map Int.toNat).reverse:=by unfold zcH;rw [hL];exact zdt
   rw [g4] at hf;obtain ⟨p,hC⟩:=hf.top;have hp:=(zca hc (hC.used.lt hc) hC.live).2;rw [qaz ha] at hp;refine ⟨r,hf.root,hh,?_⟩;rw [hp,qah];exact hC.from_
 obtain ⟨r,g5,g1,g9⟩:=g3 t ht;obtain ⟨r',gb,g2,gc⟩:=g3 u hu;refine ⟨r,r',g5,gb,g9,gc,?_⟩;by_cases he:r=r'
 . subst he
   refine .inr λhS=>?_;rcases hS with ⟨rfl,h0⟩ | ⟨hm,a,hO⟩
   . rcases qbx t with e | e
     . exact hR.oth u _ oo g2 h0
     exact hR.oth t _ e g1 h0
   rcases qbx t with e | e
   . subst e;exact hm (hR.zero _ g1)
   rcases qbx u with e2 | e2
   . subst e2;exact hm (hR.zero _ g2)
   exact g0 (hR.uniq r a t u hO e e2 g1 g2)
 exact .inl he
def zAT (h:zhb c p q):zhb c q p:=by
 obtain ⟨r,s,h1,h2,h3,h4,h5⟩:=h;refine ⟨s,r,h2,h1,h4,h3,?_⟩;rcases h5 with h5 | h5
 . exact .inl λe=>h5 e.symm
 by_cases e:s=r
 . subst e;exact .inr h5
 exact .inl e
def zwa {a b:DTouch} (h:zdO a b):zdO b a:=⟨h.1.symm,h.2.1.symm,h.2.2.2.1,h.2.2.1,by rw [qc8];exact h.2.2.2.2⟩
def zs5 {a b:DTouch} (h:a.global=b.global):zd2 a b=zd2 b a:=by
 unfold zd2;rw [h,Int.min_comm,Int.max_comm]
theorem zkV {c:DCode} {a h h':Int} {i:DIns} {x:DTouch}:∀ {k:Nat},x∈zct c a h i k->(⟨x.at_,x.global,x.write,h'⟩:DTouch)∈zct c a h' i k
 | 0,hx=>by simp [zct] at hx
 | k+1,hx=>by
   rw [zct] at hx ⊢;rcases qae.1 hx with hx | hx
   . refine qaQ _ ?_
     rcases qae.1 hx with hx | hx
     . exact qaQ _ (zkV hx)
     refine qa8 _ ?_;split at hx
     . rename_i hh
       rw [if_pos hh];simp only [qaa,qac,or_false] at hx ⊢;rw [hx]
     cases hx
   refine qa8 _ ?_;split at hx
   . rename_i hh
     rw [if_pos hh];simp only [qaa,qac,or_false] at hx ⊢;rw [hx]
   cases hx
def zrF {x:DTouch} (hc:CodeR c) (hI:RunI c s) (hx:x∈tA c s t):0<=zbu s t/\x.at_=zbu s t/\(⟨x.at_,x.global,x.write,((zay (zeD c) (zbu s t).toNat:Nat):Int)⟩:DTouch)∈znn c:=by
 have g0:=(zEB hx).1;unfold tA at hx;split at hx
 . rename_i h0
   refine ⟨h0,g0,?_⟩;have hm:=hI.at h0;refine qaE.2 ⟨(zbu s t).toNat,zaH.2 ⟨hm.lt hc,hm⟩,?_⟩;unfold zuD;rw [qaz h0];unfold zdx at hx ⊢;split at hx
   . rename_i ho
     rw [if_pos ho];exact zkV hx
   cases hx
 cases hx
def zCi {T:List DTouch} (hi:i<T.length) (hj:j<T.length) (hij:i<=j) (h:zdO T[i] T[j]) (hb:zhb c (zas c T[i].at_).toNat (zas c T[j].at_).toNat):zd2 T[i] T[j]∈zg2 c T T.length:=by
 unfold zg2;refine qaE.2 ⟨i,qaw.2 hi,?_⟩;rw [zlq hi];refine qaE.2 ⟨T[j],?_,?_⟩
 . have:T[j]=(T.drop i)[j-i]'(by rw [qa0];omega):=by
     simp only [qcP];congr 1;omega
   rw [this];exact qab _
 unfold rc1;rw [if_pos ⟨h,hb⟩];simp
def zom (hc:CodeR c) (hs:zaE c s) (hI:RunI c s) (hF:zvS c s) (hR:RootI c s):∀ x∈zfY c s,x∈rcs c:=by
 intro x hx;unfold zfY at hx;rw [zmF] at hx;unfold gT gA gL gB zkQ at hx;obtain ⟨t,ht,hx⟩:=qaE.1 hx;obtain ⟨a,ha,hx⟩:=qaE.1 hx;obtain ⟨bs,gh,hx⟩:=qaE.1 hx;obtain ⟨u,hu,rfl⟩:=qaZ.1 gh;obtain ⟨b,hb,hx⟩:=qaE.1 hx;have gi:t≠u:=by have:=qaw.1 hu;omega
 unfold clR at hx;split at hx
 . rename_i hcl
   simp only [qaa,qac,or_false] at hx;obtain ⟨g0,g4,gc⟩:=zrF hc hI ha;obtain ⟨g1,g5,gd⟩:=zrF hc hI hb;have hmt:=zcZ (zhV c) (zbu s t).toNat;have hmu:=zcZ (zhV c) (zbu s u).toNat
   have g9:zay (zeD c) (zbu s t).toNat &&& zay (zeD c) (zbu s u).toNat=0:=by
     refine qbd λl=>?_;rw [qaP,qcb];cases h1:(zay (zeD c) (zbu s t).toNat).testBit l
     . rfl
     cases h2:(zay (zeD c) (zbu s u).toNat).testBit l
     . rfl
     exfalso;obtain ⟨_,_,_,gj⟩:=zsX hF g0;obtain ⟨_,_,_,gl⟩:=zsX hF g1;have e1:s.owner[l]?=some (t:Int):=zmZ hc gj h1;have e2:s.owner[l]?=some (u:Int):=zmZ hc gl h2;rw [e1] at e2;have:=qaW e2;omega
   have gb:=zv9 hc hs hF hR gi g0 g1;obtain ⟨a',g2⟩:∃ a':DTouch,a'=⟨a.at_,a.global,a.write,((zay (zeD c) (zbu s t).toNat:Nat):Int)⟩:=⟨_,rfl⟩;obtain ⟨b',g3⟩:∃ b':DTouch,b'=⟨b.at_,b.global,b.write,((zay (zeD c) (zbu s u).toNat:Nat):Int)⟩:=⟨_,rfl⟩;rw [<-g2] at gc;rw [<-g3] at gd
   have r:zdO a' b':=by
     rw [g2,g3];refine ⟨hcl.1,hcl.2.1,⟨by simp only;omega,by simp only;omega⟩,⟨by simp only;omega,by simp only;omega⟩,?_⟩;simp only [qah];exact g9
   have gf:zhb c (zas c a'.at_).toNat (zas c b'.at_).toNat:=by rw [g2,g3];simp only;rw [g4,g5];exact gb
   have gg:x=zd2 a' b':=by rw [hx,g2,g3];rfl
   unfold rcs;rw [zmF];obtain ⟨i,hi,rfl⟩:=qcd gc;obtain ⟨j,hj,rfl⟩:=qcd gd;rcases Nat.le_total i j with h | h
   . rw [gg];exact zCi hi hj h r gf
   rw [gg,zs5 r.1];exact zCi hj hi h (zwa r) (zAT gf)
 cases hx
theorem zrG {c:DCode} {s:DState} (hc:CodeR c) (hs:zaE c s) (hI:RunI c s) {t:Int} (g0:0<=za1 c s t):∀ (n m:Nat) (u:Int),zjh c s t n m u≠0->∀ l,(zjh c s t n m u).testBit l=true ->
   m.testBit l=true\/((l=(za1 c s u).toNat\/RP (nxL c) (za1 c s u).toNat l)/\RP (nxL c) l (za1 c s t).toNat)
 | 0,m,u,h,_,_=>absurd rfl h
 | n+1,m,u,h,l,hl=>by
   rw [zjh] at h hl;split at h
   . exact absurd rfl h
   rename_i hw
   rw [if_neg hw] at hl;have hw:0<=za1 c s u:=oo
   have g1:=(zjg hc hs u).2.2 hw;have g2:ow s ((za1 c s u).toNat:Int)=ow s (za1 c s u):=by rw [qaz hw]
   split at h
   . rename_i h2
     rw [if_pos h2,qaH,qaK,qaG] at hl;rcases hl with hl | hl
     . exact .inl hl
     have:(za1 c s u).toNat=l:=by simpa using hl
     refine .inr ⟨.inl this.symm,?_⟩;rw [<-this];exact .one (zjy hc hs hI g1.1 (by rw [g2];exact h2) g0)
   rename_i h2
   rw [if_neg h2] at hl;obtain ⟨g4,x,hx,g5,g9⟩:=zkq hc hs hI t n _ _ h;have r:=zjy hc hs hI g1.1 g2 g4;have g3:=zjy hc hs hI g5 g9 g0
   have gb:RP (nxL c) (za1 c s (ow s (za1 c s u))).toNat (za1 c s t).toNat:=by
     rcases hx with rfl | hx
     . exact .one g3
     exact RP.trans hx (.one g3)
   rcases zrG hc hs hI g0 n _ _ h l hl with h3 | ⟨h3,h4⟩
   . rw [qaH,qaK,qaG] at h3
     rcases h3 with h3 | h3
     . exact .inl h3
     have:(za1 c s u).toNat=l:=by simpa using h3
     exact .inr ⟨.inl this.symm,by rw [<-this];exact (RP.one r).trans gb⟩
   refine .inr ⟨.inr ?_,h4⟩;rcases h3 with rfl | h3
   . exact .one r
   exact (RP.one r).trans h3
def zon (hc:CodeR c) (hs:zaE c s) (hI:RunI c s) (t:Int):zg3 ((zg5 c).map zaT) (zbJ (zhp c s t)):=by
 by_cases h0:zhp c s t=0
 . exact .inl (by rw [h0];exact zvn)
 right;have g0:=zmk hc hs t;obtain ⟨hw,x,hx,g9,gb⟩:=zkq hc hs hI t _ _ _ h0;have g1:=zjy hc hs hI g9 gb hw
 have g2:RP (nxL c) (za1 c s t).toNat (za1 c s t).toNat:=by
   rcases hx with rfl | hx
   . exact .one g1
   exact RP.trans hx (.one g1)
 have g3:=zrG hc hs hI hw _ _ _ h0;have hlt:=(zjg hc hs t).2.1;have hm:=zAE (c:=c) (i:=(za1 c s t).toNat) oo;unfold zED at hm;obtain ⟨p,hp,g5⟩:=List.mem_flatten.1 hm;have gc:p∈zg5 c:=zn5.2 ⟨hp,_,g5,g2⟩;refine ⟨zaT p,qaZ.2 ⟨p,gc,rfl⟩,λy hy=>?_⟩;obtain ⟨l,rfl,hl⟩:=(zmH g0).1 hy;refine zz2.2 ⟨l,?_,rfl⟩;obtain ⟨i,hi,rfl⟩:=zmM p hp;have h2:=(zaH.1 g5).2;rcases g3 l hl with h3 | ⟨h3,h4⟩
 . simp at h3
 have g4:RP (nxL c) (za1 c s t).toNat l:=by
   rcases h3 with rfl | h3
   . exact g2
   exact h3
 refine zaH.2 ⟨(zE9 (zEC hc) g4).2,?_⟩;rcases h2 with h2 | ⟨h5,h6⟩
 . rw [h2] at g4 h4
   exact .inr ⟨g4,h4⟩
 exact .inr ⟨h5.trans g4,h4.trans h6⟩
open Classical in
noncomputable def zkW (c:DCode):List DRace:=if CodeR c then zfX (zg2 c (znn c) (znn c).length) else []
def znp (h0:Is W0 v0 c) (e0:Ext W0 w) :
   CALL tp 11 [v0] w λr w'=>Ext w w'/\Own w.heap.size w' r (zkW c):=by
 refine co (g:=kf [] [] []) Tryz.func11 ?_;refine za9 h0 e0 λw1 g0 hA=>zaa zbq hA (xrf _) λv6 h6=>?_;refine (zh3 h6 (xrf _)).mono ?_;rintro r7 w2 ⟨g1,hr⟩;have hs1:=g0.size;have hs2:=g1.size;rcases hr with ⟨hn,rfl⟩ | ⟨hc,b,rfl,hW⟩
 . refine zaY rfl ?_
   refine zaY rfl<|zaV<|zbz (λ_=>?_) (λh=>by cases h);refine ⟨g0.t g1,?_⟩;unfold zkW;rw [if_neg hn];exact zfP rfl
 refine zaY rfl<|zaY rfl<|zaV<|zbz (λh=>by cases h) (λ_=>?_);refine (zuH hW (xrf _) hc).mono ?_;rintro v13 w3 ⟨g2,g3⟩;refine ⟨g0.t (g1.t g2),?_⟩;unfold zkW;rw [if_pos hc];exact g3.mono oo
def znq (h0:Is W0 v0 c) (e0:Ext W0 w) :
   CALL tp 24 [v0] w λr w'=>Ext w w'/\Own w.heap.size w' r (zkW c):=by
 refine co (g:=kf [] [] []) Tryz.func24 ?_;refine za9 h0 e0 λw1 g1 hA=>zaa zbq hA (xrf _) λv3 h3=>?_;refine (zgJ h3 (xrf _)).mono ?_;rintro _ w2 ⟨C,rfl⟩;have hs1:=g1.size;have hs2:=C.size;refine zav<|br (λhn=>?_) (λhy=>?_)
 . refine zaK (α:=DRace) u39 zd9 λa8 w3 g0 g2=>?_
   refine ⟨g1.t (C.t g0),?_⟩;unfold zkW;rw [if_neg hn];exact g2.own.own.mono (by have:=g0.size;omega)
 have hc:=qad.1 hy;refine zaa zbq hA C λv7 h7=>?_;refine (zzf h7 C hc).mono ?_;rintro v8 w3 ⟨g0,g3⟩;refine ⟨g1.t (C.t g0),?_⟩;unfold zkW;rw [if_pos hc];exact g3.mono oo
def zDr {a b c d:Value} (h:Value.tuple #[a,b]=.tuple #[c,d]):a=c/\b=d:=by
 simpa using h
def t1Q (c:DCode) (s X:DState) (v77 v22:Value) (k n j:Nat) (pk t:Int) (d:Bool) (w0:World):ParQ:=λi u T w=>match i with
 | 0=>Is w0 (u 114) c
 | 1=>Is w0 (u 115) s
 | 2=>u 116=v77
 | 3=>u 117=v22
 | 4=>u 118=.int .i64 (k:Int)
 | 5=>∃ b o,u 119=.pointer (some ⟨b,o,none⟩)/\At w0 b o pk
 | 6=>u 120=.int .i64 pk
 | 7=>u 121=v77
 | 8=>u 122=.int .i64 (n:Int)
 | 9=>u 123=.int .i64 (j:Int)
 | 10=>∃ b o,u 124=.pointer (some ⟨b,o,none⟩)/\At w0 b o t
 | 11=>u 125=.int .i64 t
 | 12=>∃ a,u 126=.tuple #[a,.bool d]/\OwnI (T 12).1 (T 12).2 w a X
 | 13=>∃ a,u 113=.tuple #[a,.bool d]/\OwnI (T 12).1 (T 12).2 w a X
 | 14=>∃ b,u 113=.tuple #[u 127,b]
 | 15=>∃ a,u 113=.tuple #[a,u 128]
 | 16=>∃ g,u 16=.pointer (some ⟨g,0,none⟩)/\(T 16).1<=g/\g<(T 16).2/\VarI (T 16).1 (T 16).2 w g (RepZ.zv:DState)
 | _=>True
def t2Q (c:DCode) (s X:DState) (v77 v22:Value) (k n j:Nat) (pk t:Int) (d:Bool) (w0:World):ParQ:=λi u T w=>match i with
 | 0=>Is w0 (u 130) c
 | 1=>Is w0 (u 131) s
 | 2=>u 132=v77
 | 3=>u 133=v22
 | 4=>u 134=.int .i64 (k:Int)
 | 5=>∃ b o,u 135=.pointer (some ⟨b,o,none⟩)/\At w0 b o pk
 | 6=>u 136=.int .i64 pk
 | 7=>u 137=v77
 | 8=>u 138=.int .i64 (n:Int)
 | 9=>u 139=.int .i64 (j:Int)
 | 10=>∃ b o,u 140=.pointer (some ⟨b,o,none⟩)/\At w0 b o t
 | 11=>u 141=.int .i64 t
 | 12=>∃ a,u 142=.tuple #[a,.bool d]/\OwnI (T 12).1 (T 12).2 w a X
 | 13=>∃ a,u 129=.tuple #[a,.bool d]/\OwnI (T 12).1 (T 12).2 w a X
 | 14=>∃ b,u 129=.tuple #[u 143,b]
 | 15=>∃ a,u 129=.tuple #[a,u 144]
 | 16=>∃ g,u 18=.pointer (some ⟨g,0,none⟩)/\(T 16).1<=g/\g<(T 16).2/\VarI (T 16).1 (T 16).2 w g (RepZ.zv:DState)
 | _=>True
def zs6 (hc:CodeR c) (hs:zaE c s) (hI:RunI c s) (hF:zvS c s) (hR:RootI c s):ziF c s=[]/\ziG c s=[]:=by
 constructor
 . unfold ziF
   rw [if_pos ⟨hc,hs⟩];unfold zm5;rw [qaD,qcp];intro x hx;have:=zom hc hs hI hF hR x hx;simp [this]
 unfold ziG;rw [if_pos ⟨hc,hs⟩];exact zol λt _=>zon hc hs hI t
set_option maxRecDepth 20000 in
theorem zEI {bs:List UInt8} (h0:Is W v0 bs) (e0:Ext W w):CALL tp 5 [v0] w λr w'=>Ext w w'/\(r=.bool true):=by
  refine co (g:=⟨extL,[(18,151115655394234608913412,[])],[(12,22835963083295358096932575511191851813380816388,[9]),(20,9902311388463427570018295812,[13]),(25,162249373308899080349378817310724,[14])],[],[(31,680554349248159857271492153870878179328,17),(32,44600809832327404406144509796081859476324352,17)],[],[]⟩) Tryz.func5 ?_;refine (zEF h0 e0).mono ?_;rintro _ w1 ⟨h6,rfl⟩;refine br (λ_=>⟨h6,rfl⟩) (λhb=>?_);have gE:bs.length<=1048576:=oo
  have hc:=(zvt bs).1;have hw:=zvv bs;have hd:=λ{w2:World} (hx:Ext w w2)=>zsE h0 (e0.t hx) gE;generalize zjo bs=c at *;have hpl:(zqV bs).length=70:=zkN bs 12 70 _;have h8:∀ x∈zqV bs,0<=x/\x<12:=zmt bs oo 70 _;have jt:=λ{w2:World} (hx:Ext w w2)=>zqW h0 (e0.t hx) gE;generalize zqV bs=ps at *;have ju:zhw c=(zg5 c).map zaT:=by unfold zhw;rw [if_pos hc]
  have jv:zkW c=rcs c:=by unfold zkW rcs;rw [if_pos hc]
  refine (hd h6).mono ?_;rintro v16 w2 ⟨jw,jx⟩;refine zck zCE rfl zbq rfl jx.is (xrf _) λw3 jy gc hV3=>?_;have gi:=h6.t (jw.t jy);refine (hd gi).mono ?_;rintro v18 w4 ⟨jz,jA⟩;refine zck zCE rfl zbq rfl jA.is (xrf _) λw5 jB h9 hV4=>?_;have X:=jz.t jB;refine (jt (gi.t X)).mono ?_;rintro h2 w6 ⟨gF,jC⟩;have ha:=jC.is;refine zaa zbq gc (X.t gF) λv28 jD=>?_;refine (znp jD (X.t gF)).mono ?_;rintro v29 w7 ⟨Z,jE⟩;have ja:=jE.is;refine zaa zbq gc (X.t (gF.t Z)) λv30 jF=>?_;refine (zmS jF (X.t (gF.t Z))).mono ?_;rintro v31 w8 ⟨he,jG⟩;have jb:=jG.is;have gd:=gF.t (Z.t he);refine zaa zbq h9 gd λv33 jH=>?_;refine (znq jH gd).mono ?_;rintro v34 w9 ⟨h4,jI⟩;refine (zrq ja (he.t h4) jI.is (xrf _)).mono ?_;rintro _ w10 ⟨gj,rfl⟩;refine zav<|br (λh=>absurd rfl h) (λ_=>?_);have gg:=gd.t (h4.t gj);refine zaa zbq h9 gg λv39 jJ=>?_;refine (zm1 jJ gg).mono ?_;rintro v40 w11 ⟨gG,jK⟩;refine (zkS jb (h4.t (gj.t gG)) jK.is (xrf _)).mono ?_;rintro _ wa ⟨hf,rfl⟩;refine zav<|br (λh=>absurd rfl h) (λ_=>?_);have gl:=h4.t (gj.t (gG.t hf));have gH:=gd.t gl;have gI:=X.t gH;refine zaa zbq gc gI λv44 jL=>?_;refine (znf jL gI hw).mono ?_;rintro v45 wb ⟨g0,jc⟩;have jd:zmg c=zdp c:=by unfold zmg;rw [if_pos hc]
  have jM:=zsr hc;have jN:=zyZ hc;have jO:=zru hc;have jP:=zv8 hc;rw [jd] at jc;generalize zdp c=s0 at *;refine zee (α:=DState) zr7 λwd gJ hg=>zbn zc0 hg (jc.toI.ext gJ) (.inr (lr _)) λwe hh hl=>?_;have hn:Ext wb we:=gJ.chgI hh (lr _);have gp:=he.t (gl.t g0);have hr:=gl.t g0;have gK:=gH.t g0;have gM:=X.t gK;have gq:=gi.t gM;refine zao 70 (λk us w'=>us=[.int .i64 (k:Int)]/\k<=70/\Ext wb w'/\∃ s lo hi,VarI lo hi w' wb.heap.size s/\zaE c s/\RunI c s/\zvS c s/\RootI c s) 0 (z0 _) ⟨rfl,z0 _,hn,s0,_,_,hl,jM,jN,jO,jP⟩ ?_;rintro k m u jQ hkm ⟨hu,jR,M,s,lo,hi,hv,hs,hI,hF,hR⟩;have hg8:=hv.lt;try replace hu:=zbt hu
  rw [hu];refine zae u33 ha<|zag<|br (λhlt=>?_) (λ_=>⟨gq.t M,rfl⟩);refine zag<|br (λh48=>?_) (λ_=>⟨gq.t M,rfl⟩);have hk:k<ps.length:=oo
  have hs6:s.stacks.length<=6:=hs.2.2.1.2;have D:=gM.t M;have gN:=gK.t M;obtain ⟨jS,jT⟩:=zs6 hc hs hI hF hR;refine JOIN.mk (λus w'=>us=[]/\Ext jQ w') ?_ ?_
  . refine zkx oo ?_
    refine zai<|br (λ_=>?_) (λ_=>⟨rfl,xrf _⟩);refine zaa zbq gc D λv60 jU=>zdb zc0 hv (xrf _) λv61 jV=>?_;refine (zpO jU D jV.is (xrf _)).mono ?_;rintro _ jW ⟨I,v63,v64,lo1,hi1,lo2,hi2,rfl,je,jf,-⟩;rw [jS] at je;rw [jT] at jf;refine zaY rfl<|zaY rfl<|zae u39 je.is<|zae u33 jf.is<|zc1 (by unfold I64;simp)<|zcK<|br (λh=>absurd h sS) (λ_=>?_);refine zaa zbq gc (D.t I) λv72 jX=>zdb zc0 hv I λv73 jY=>?_;refine (zk1 jX (D.t I) jY.is I).mono ?_;rintro _ jg ⟨gr,rfl⟩;refine zav<|br (λh=>absurd (zvT hc hs hI hF) h) (λ_=>⟨rfl,I.trans gr⟩)
  rintro u3 jW ⟨-,I⟩;refine zaa zbq gc (D.t I) λgs hy=>zdb zc0 hv I λv78 jZ=>?_;refine (zku hy (D.t I) jZ.is I).mono ?_;rintro v79 jg ⟨gr,jh⟩;have d0:zq2 c s=zfY c s:=by unfold zq2;rw [if_pos ⟨hc,hs⟩]
  have d1:=zom hc hs hI hF hR;have ji:=zq3 s hc hs;rw [d0] at jh;generalize zfY c s=ms at *;have jj:=jh.is;have g1:=I.trans gr;have gO:=gp.t (M.t g1);refine zao ms.length (λt us w'=>us=[.int .i64 (t:Int)]/\t<=ms.length/\Ext jg w') 0 (z0 _) ⟨rfl,z0 _,xrf _⟩ ?_;rintro t m2 u2 d2 hz ⟨hB,jk,g3⟩;try replace hB:=zbt hB
  rw [hB];refine zae u39 jj<|zag<|br (λd3=>?_) (λhC=>?_)
  . have ht:t<ms.length:=oo
    refine zad u39 zd9 jj ht λb89 o89 hD=>zaa zd9 hD g3 λv90 d4=>?_;refine (zhA ja (gO.t g3) d4 g3).mono ?_;rintro _ d5 ⟨g4,rfl⟩;refine zav<|br (λh=>absurd (by rw [jv];exact d1 _ (qab ht)) h) (λ_=>?_);refine zau<|⟨m2-1,oo,t+1,oo,rfl,oo,g3.t g4⟩
  have g5:=g1.t g3;have gP:=hr.t (M.t g5);clear hz jk hC;refine zao s.stacks.length (λt us w'=>us=[.int .i64 (t:Int)]/\t<=s.stacks.length/\Ext d2 w') 0 (z0 _) ⟨rfl,z0 _,xrf _⟩ ?_;rintro t3 m3 u4 d5 d6 ⟨hG,jk,g4⟩;try replace hG:=zbt hG
  rw [hG];have C:=g5.t g4;refine zab zbj<|zaa zeN (zaJ hv.at) C λv95 d7=>zae u44 d7<|zag<|br (λd8=>?_) (λd9=>?_)
  . refine zaa zbq gc (D.t C) λda hH=>?_
    refine zdb zc0 hv C λdb hJ=>?_;refine (zpf hH (D.t C) hJ.is C).mono ?_;rintro dc gQ ⟨gf,gR⟩;have dd:zx0 c s (t3:Int)=zbJ (zhp c s (t3:Int)):=by unfold zx0;rw [if_pos ⟨hc,hs⟩]
    rw [dd] at gR;refine (zhz jb (gP.t (g4.t gf)) gR.is (xrf _)).mono ?_;rintro _ de ⟨gt,rfl⟩;refine zav<|br (λh=>absurd (by rw [ju];exact zon hc hs hI _) h) (λ_=>?_);refine zau<|⟨m3-1,oo,t3+1,oo,rfl,oo,g4.t (gf.t gt)⟩
  have df:zme c s=zeQ c s:=by unfold zme;rw [if_pos ⟨hc,hs⟩]
  refine zaa zbq gc (D.t C) λdg hK=>zdb zc0 hv C λdh hL=>?_;refine (zne hK (D.t C) hL.is C).mono ?_;rintro gs gQ ⟨gf,jl⟩;rw [df] at jl;have gS:=jl.is;have Y:=C.t gf;refine zae u33 gS<|zai<|br (λ_=>⟨gq.t (M.t Y),rfl⟩) (λhnz=>?_);obtain ⟨pk,hM⟩:∃ pk,pk=ps[k]:=⟨_,rfl⟩;obtain ⟨jm,hN⟩:=h8 _ (qab hk);rw [<-hM] at jm hN
  obtain ⟨j,hj,hO⟩:∃ j:Nat,pk.tmod ((zeQ c s).length:Int)=j/\j<(zeQ c s).length:=by
    have e1:pk.tmod ((zeQ c s).length:Int)=pk%((zeQ c s).length:Int):=qbL jm;have e2:=Int.emod_nonneg pk (b:=((zeQ c s).length:Int)) oo;have e3:=Int.emod_lt_of_pos pk (b:=((zeQ c s).length:Int)) oo;exact ⟨(pk%((zeQ c s).length:Int)).toNat,oo,oo⟩
  have gU:=qab hO;obtain ⟨th,hP⟩:∃ th,th=(zeQ c s)[j]:=⟨_,rfl⟩;rw [<-hP] at gU;have gD:GoR c s th:=zmT gU;have hQ:=znU hc hs gD;have hS:=zAG hc hs gD hI;have hV:=zAK hc hs gD hF;have hW:=zzl hc hs hF hR gD;have jn:zjx c s th=zba c s th:=by unfold zjx;rw [if_pos ⟨⟨hc,hs⟩,gD⟩]
  have jo:decide ((CodeR c/\zaE c s)/\GoR c s th)=true:=decide_eq_true ⟨⟨hc,hs⟩,gD⟩;have h5:=zah gQ;have hsd:=h5.size;have V:=Y.t h5;have gV:=D.t V;have hX:Ext w6 (World.drew1 gQ):=Z.t (gp.t (M.t V));have jp:=V.size;have hs9:=M.size;refine PAR.mk (t1Q c s (zba c s th) gs h2 k (zeQ c s).length j pk th true (World.drew1 gQ)) ?_ ?_ ?_
  . intro i u u' T T' wa wb hf g0 hd hq
    match i,hd,hq with
    | 0,hd,hq=>have e1:=(hd (0,114) qd).1;show Is _ (u' 114) _;simp only [e1];exact hq
    | 1,hd,hq=>have e1:=(hd (1,115) qd).1;show Is _ (u' 115) _;simp only [e1];exact hq
    | 2,hd,hq=>exact (hd (2,116) qd).1.trans hq
    | 3,hd,hq=>exact (hd (3,117) qd).1.trans hq
    | 4,hd,hq=>exact (hd (4,118) qd).1.trans hq
    | 5,hd,⟨b,o,q1,q2⟩=>exact ⟨b,o,(hd (5,119) qd).1.trans q1,q2⟩
    | 6,hd,hq=>exact (hd (6,120) qd).1.trans hq
    | 7,hd,hq=>exact (hd (7,121) qd).1.trans hq
    | 8,hd,hq=>exact (hd (8,122) qd).1.trans hq
    | 9,hd,hq=>exact (hd (9,123) qd).1.trans hq
    | 10,hd,⟨b,o,q1,q2⟩=>exact ⟨b,o,(hd (10,124) qd).1.trans q1,q2⟩
    | 11,hd,hq=>exact (hd (11,125) qd).1.trans hq
    | 12,hd,⟨a,q1,q2⟩=>
      obtain ⟨e1,e2⟩:=hd (12,126) qd;simp only at e1 e2;exact ⟨a,e1.trans q1,by rw [e2];exact q2.ext g0⟩
    | 13,hd,⟨a,q1,q2⟩=>
      have e1:=(hd (13,113) qd).1;have e2:=(hd (12,126) qd).2;simp only at e1 e2;exact ⟨a,e1.trans q1,by rw [e2];exact q2.ext g0⟩
    | 14,hd,⟨b,q1⟩=>
      have e1:=(hd (14,127) qd).1;have e2:=(hd (13,113) qd).1;simp only at e1 e2;exact ⟨b,by rw [e1,e2];exact q1⟩
    | 15,hd,⟨b,q1⟩=>
      have e1:=(hd (15,128) qd).1;have e2:=(hd (13,113) qd).1;simp only at e1 e2;exact ⟨b,by rw [e1,e2];exact q1⟩
    | 16,hd,⟨g,q1,q2,q3,q4⟩=>
      obtain ⟨e1,e2⟩:=hd (16,16) qd;simp only at e1 e2;exact ⟨g,e1.trans q1,by rw [e2];exact q2,by rw [e2];exact q3,by rw [e2];exact q4.ext g0⟩
    | n+17,_,_=>trivial
  . refine ⟨λu T w' hx _ _=>?_,λu T w' hx _ _=>?_,λu T w' hx _ _=>?_,λu T w' hx _ _=>?_,λu T w' hx _ _=>?_,λu T w' hx _ hp=>?_,λu T w' hx _ hp=>?_,λu T w' hx _ _=>?_,λu T w' hx _ hp=>?_,λu T w' hx _ hp=>?_,λu T w' hx _ hp=>?_,λu T w' hx _ hp=>?_,λu T w' hx _ hp=>?_,λu T w' hx _ hp=>?_,λu T w' hx _ hp=>?_,λu T w' hx _ hp=>?_,λu T w' hx _ _=>?_,trivial⟩
    . exact zaa zbq gc (gV.t hx) λv h=>⟨xrf _,(h.ext gV:Is _ v c)⟩
    . exact zdb zc0 hv (V.t hx) λv h=>⟨xrf _,(h.is.ext V:Is _ v s)⟩
    . exact ⟨xrf _,rfl⟩
    . exact ⟨xrf _,rfl⟩
    . exact ⟨xrf _,rfl⟩
    . have q1:u 117=h2:=hp.1
      have q2:u 118=.int .i64 (k:Int):=hp.2.1;rw [q1,q2];refine zad u33 ty3 (ha.ext hX) hk λb o hA=>⟨xrf _,⟨b,o,rfl,?_⟩⟩;rw [<-hM] at hA;exact hA
    . obtain ⟨b,o,q1,q2⟩:=(hp.1:∃ b o,u 119=.pointer (some ⟨b,o,none⟩)/\At _ b o pk)
      rw [q1];exact zac ty3 q2 hx λ_=>⟨xrf _,rfl⟩
    . exact ⟨xrf _,rfl⟩
    . have q1:u 121=gs:=hp.1
      rw [q1];exact zae u33 gS ⟨xrf _,rfl⟩
    . have q1:u 120=.int .i64 pk:=hp.1
      have q2:u 122=.int .i64 ((zeQ c s).length:Int):=hp.2.1;rw [q1,q2];refine zkx oo ?_;rw [hj];exact ⟨xrf _,rfl⟩
    . have q1:u 116=gs:=hp.1
      have q2:u 123=.int .i64 (j:Int):=hp.2.1;rw [q1,q2];refine zad u33 ty3 (gS.ext h5) hO λb o hA=>⟨xrf _,⟨b,o,rfl,?_⟩⟩;rw [<-hP] at hA;exact hA
    . obtain ⟨b,o,q1,q2⟩:=(hp.1:∃ b o,u 124=.pointer (some ⟨b,o,none⟩)/\At _ b o th)
      rw [q1];exact zac ty3 q2 hx λ_=>⟨xrf _,rfl⟩
    . have q0:Is _ (u 114) c:=hp.1
      have q1:Is _ (u 115) s:=hp.2.1;have q2:u 125=.int .i64 th:=hp.2.2.1;rw [q2];refine (zpH q0 hx q1 hx (zpb hc hs)).mono ?_;rintro r jq ⟨g9,a,rfl,oa⟩;rw [jn] at oa;exact ⟨g9,⟨a,by rw [jo];rfl,oa.toI⟩⟩
    . exact ⟨xrf _,hp.1⟩
    . obtain ⟨a,q1,q2⟩:=(hp.1:∃ a,u 113=.tuple #[a,.bool true]/\OwnI (T 12).1 (T 12).2 w' a (zba c s th))
      rw [q1];exact zaY rfl ⟨xrf _,⟨_,q1⟩⟩
    . obtain ⟨a,q1,q2⟩:=(hp.1:∃ a,u 113=.tuple #[a,.bool true]/\OwnI (T 12).1 (T 12).2 w' a (zba c s th))
      rw [q1];exact zaY rfl ⟨xrf _,⟨a,q1⟩⟩
    refine zee (α:=DState) zr7 λw7 Z gW=>⟨Z,⟨w'.heap.size,rfl,lr _,gW.lt,gW.mono Z.size (lr _)⟩⟩
  rintro u5 T de gt hY ⟨-,-,-,-,-,-,-,-,-,-,-,-,-,⟨a,jr,oa⟩,⟨b',di⟩,⟨a',dj⟩,⟨g,dk,hg0,hg1,dl⟩,-⟩;have t12:=hY.1 12 qd;have t16:=hY.1 16 qd;have dm:=hY.2 12 qd 16 qd qd;have f1:=(zDr (jr.symm.trans di)).1;have f2:=(zDr (jr.symm.trans dj)).2;rw [<-f1,<-f2,dk];refine zbn zc0 dl oa oo λgX hZ gx=>?_;have gY:Ext (World.drew1 gQ) gX:=gt.chgI hZ oo;have gy:=zah gX;have j0:=h5.t (gY.t gy);have jd:=gy.size;have dn:=j0.size;have O:=Y.t j0;have gZ:=gN.t O;have j1:Ext w6 (World.drew1 gX):=Z.t (gp.t (M.t O));have js:=O.size;have dp:=gx.lt;refine PAR.mk (t2Q c s (zba c s th) gs h2 k (zeQ c s).length j pk th true (World.drew1 gX)) ?_ ?_ ?_
  . intro i u u' T T' wa wb hf g0 hd hq
    match i,hd,hq with
    | 0,hd,hq=>have e1:=(hd (0,130) qd).1;show Is _ (u' 130) _;simp only [e1];exact hq
    | 1,hd,hq=>have e1:=(hd (1,131) qd).1;show Is _ (u' 131) _;simp only [e1];exact hq
    | 2,hd,hq=>exact (hd (2,132) qd).1.trans hq
    | 3,hd,hq=>exact (hd (3,133) qd).1.trans hq
    | 4,hd,hq=>exact (hd (4,134) qd).1.trans hq
    | 5,hd,⟨b,o,q1,q2⟩=>exact ⟨b,o,(hd (5,135) qd).1.trans q1,q2⟩
    | 6,hd,hq=>exact (hd (6,136) qd).1.trans hq
    | 7,hd,hq=>exact (hd (7,137) qd).1.trans hq
    | 8,hd,hq=>exact (hd (8,138) qd).1.trans hq
    | 9,hd,hq=>exact (hd (9,139) qd).1.trans hq
    | 10,hd,⟨b,o,q1,q2⟩=>exact ⟨b,o,(hd (10,140) qd).1.trans q1,q2⟩
    | 11,hd,hq=>exact (hd (11,141) qd).1.trans hq
    | 12,hd,⟨a,q1,q2⟩=>
      obtain ⟨e1,e2⟩:=hd (12,142) qd;simp only at e1 e2;exact ⟨a,e1.trans q1,by rw [e2];exact q2.ext g0⟩
    | 13,hd,⟨a,q1,q2⟩=>
      have e1:=(hd (13,129) qd).1;have e2:=(hd (12,142) qd).2;simp only at e1 e2;exact ⟨a,e1.trans q1,by rw [e2];exact q2.ext g0⟩
    | 14,hd,⟨b,q1⟩=>
      have e1:=(hd (14,143) qd).1;have e2:=(hd (13,129) qd).1;simp only at e1 e2;exact ⟨b,by rw [e1,e2];exact q1⟩
    | 15,hd,⟨b,q1⟩=>
      have e1:=(hd (15,144) qd).1;have e2:=(hd (13,129) qd).1;simp only at e1 e2;exact ⟨b,by rw [e1,e2];exact q1⟩
    | 16,hd,⟨g,q1,q2,q3,q4⟩=>
      obtain ⟨e1,e2⟩:=hd (16,18) qd;simp only at e1 e2;exact ⟨g,e1.trans q1,by rw [e2];exact q2,by rw [e2];exact q3,by rw [e2];exact q4.ext g0⟩
    | n+17,_,_=>trivial
  . refine ⟨λu T w' hx _ _=>?_,λu T w' hx _ _=>?_,λu T w' hx _ _=>?_,λu T w' hx _ _=>?_,λu T w' hx _ _=>?_,λu T w' hx _ hp=>?_,λu T w' hx _ hp=>?_,λu T w' hx _ _=>?_,λu T w' hx _ hp=>?_,λu T w' hx _ hp=>?_,λu T w' hx _ hp=>?_,λu T w' hx _ hp=>?_,λu T w' hx _ hp=>?_,λu T w' hx _ hp=>?_,λu T w' hx _ hp=>?_,λu T w' hx _ hp=>?_,λu T w' hx _ _=>?_,trivial⟩
    . exact zaa zbq h9 (gZ.t hx) λv h=>⟨xrf _,(h.ext gZ:Is _ v c)⟩
    . exact zdb zc0 hv (O.t hx) λv h=>⟨xrf _,(h.is.ext O:Is _ v s)⟩
    . exact ⟨xrf _,rfl⟩
    . exact ⟨xrf _,rfl⟩
    . exact ⟨xrf _,rfl⟩
    . have q1:u 133=h2:=hp.1
      have q2:u 134=.int .i64 (k:Int):=hp.2.1;rw [q1,q2];refine zad u33 ty3 (ha.ext j1) hk λb o hA=>⟨xrf _,⟨b,o,rfl,?_⟩⟩;rw [<-hM] at hA;exact hA
    . obtain ⟨b,o,q1,q2⟩:=(hp.1:∃ b o,u 135=.pointer (some ⟨b,o,none⟩)/\At _ b o pk)
      rw [q1];exact zac ty3 q2 hx λ_=>⟨xrf _,rfl⟩
    . exact ⟨xrf _,rfl⟩
    . have q1:u 137=gs:=hp.1
      rw [q1];exact zae u33 gS ⟨xrf _,rfl⟩
    . have q1:u 136=.int .i64 pk:=hp.1
      have q2:u 138=.int .i64 ((zeQ c s).length:Int):=hp.2.1;rw [q1,q2];refine zkx oo ?_;rw [hj];exact ⟨xrf _,rfl⟩
    . have q1:u 132=gs:=hp.1
      have q2:u 139=.int .i64 (j:Int):=hp.2.1;rw [q1,q2];refine zad u33 ty3 (gS.ext j0) hO λb o hA=>⟨xrf _,⟨b,o,rfl,?_⟩⟩;rw [<-hP] at hA;exact hA
    . obtain ⟨b,o,q1,q2⟩:=(hp.1:∃ b o,u 140=.pointer (some ⟨b,o,none⟩)/\At _ b o th)
      rw [q1];exact zac ty3 q2 hx λ_=>⟨xrf _,rfl⟩
    . have q0:Is _ (u 130) c:=hp.1
      have q1:Is _ (u 131) s:=hp.2.1;have q2:u 141=.int .i64 th:=hp.2.2.1;rw [q2];refine (zpI q0 hx q1 hx (zpb hc hs)).mono ?_;rintro r jq ⟨g9,a,rfl,oa⟩;rw [jn] at oa;exact ⟨g9,⟨a,by rw [jo];rfl,oa.toI⟩⟩
    . exact ⟨xrf _,hp.1⟩
    . obtain ⟨a,q1,q2⟩:=(hp.1:∃ a,u 129=.tuple #[a,.bool true]/\OwnI (T 12).1 (T 12).2 w' a (zba c s th))
      rw [q1];exact zaY rfl ⟨xrf _,⟨_,q1⟩⟩
    . obtain ⟨a,q1,q2⟩:=(hp.1:∃ a,u 129=.tuple #[a,.bool true]/\OwnI (T 12).1 (T 12).2 w' a (zba c s th))
      rw [q1];exact zaY rfl ⟨xrf _,⟨a,q1⟩⟩
    refine zee (α:=DState) zr7 λw7 Z gW=>⟨Z,⟨w'.heap.size,rfl,lr _,gW.lt,gW.mono Z.size (lr _)⟩⟩
  rintro u6 T2 jq g9 gz ⟨-,-,-,-,-,-,-,-,-,-,-,-,-,⟨a2,dq,dr⟩,⟨b2,dt⟩,-,⟨g2,du,hh0,hh1,j2⟩,-⟩;have s12:=gz.1 12 qd;have s16:=gz.1 16 qd;have ds:=gz.2 12 qd 16 qd qd;have f3:=(zDr (dq.symm.trans dt)).1;rw [<-f3,du];refine zbn zc0 j2 dr oo λdv j3 j4=>?_;have gh:Ext (World.drew1 gX) dv:=g9.chgI j3 oo;have U:=gy.t gh;refine zaV<|zbz (λh=>by cases h) (λ_=>?_);refine zdb zc0 gx U λdw j5=>zdb zc0 j4 (xrf _) λdx j6=>?_;refine (zrr j5.is U j6.is (xrf _)).mono ?_;rintro _ w22 ⟨gC,rfl⟩;refine zav<|br (λh=>absurd rfl h) (λ_=>?_);refine zdb zc0 gx (U.t gC) λdz j7=>?_;have gb:=O.t (gh.t gC);refine zbn zc0 (hv.ext gb) (j7.ext (U.t gC)) (.inl oo) λw23 j8 j9=>zau<|⟨m-1,oo,k+1,oo,rfl,oo,(M.t gb).chgI j8 (lr _),_,_,_,j9,hQ,hS,hV,hW⟩
def zAU {t:TypeId} (ht:P.underlying t=some (.int .u8)) (n:Nat):zpY P t UInt8 n:=by
 intro H enc w g0 held cs y h;obtain ⟨m,rfl,_,hw⟩:=DataW.trod_int ht h;have hm:0<=m/\m<=255:=by simpa [Lit.wf,IntKind.min,IntKind.max,IntKind.signed,IntKind.bits] using hw
 refine ⟨[],UInt8.ofNat m.toNat,rfl,?_⟩
 have:((UInt8.ofNat m.toNat).toNat:Int)=m:=by
   have:(UInt8.ofNat m.toNat).toNat=m.toNat:=by simp;omega
   omega
 rw [this]
def zDs:∀ n,zpY tp 22 (List UInt8) n:=zly u22 kK (zAU u5)
end Go.Proofs.YtcnglfeoglgebaaGreat
namespace Go.Proofs.YtcnglfeoglgebaaGreat
open Go
def zcn {a b:Bool} (h:a=true) (k:b=true):(a&&b)=true:=by rw [h,k];rfl
def zDt:laidOutB tp=true:=by kernel_rfl
def zDu:mapsRowed tp=true:=by kernel_rfl
def zAV:(Rows.fnSerialRow.plainKeys == tp.plainKeys)=true:=by kernel_rfl
def zAW:tp.stopsHeard=true:=by kernel_rfl
def zEJ:tp.mayEnter=true:=by kernel_rfl
def zDv:(Rows.fnSerialRow.lifted == tp.liftsFinal)=true:=by kernel_rfl
def zDw:(tp.make == some Rows.fnSerialRow.make)=true:=by kernel_rfl
end Go.Proofs.YtcnglfeoglgebaaGreat
namespace Go.Proofs.YtcnglfeoglgebaaGreat.fnTop
open Go.ChangeShapes Go.WideShapes Go.ChangeAt Go.RowKit Go.Sh
def own:ownKnob tp.godebug=none:=by kernel_rfl
def zDx:laidOutB tp=true:=by kernel_rfl
set_option maxRecDepth 100000 in
theorem lifted (os:Os) (r:os.Started) (H:Type) (enc:TypeId×Value->H) :
    ReturnsInHanded {} Tryz.checked os 5 .any (Rows.fnTopSpec.pre6 enc tp Tryz.f5 Rows.fnTopRow.domain false) (Rows.fnTopSpec.post enc tp Tryz.f5 false true false false):=by
  refine returnsInHanded_of_change (C:=Tryz.checked) own r kK Tryz.func5
    (ChangeSpec.witness6 (enc:=enc) (C:=Tryz.checked) false ⟨#[],#[.slice none 0 0],[]⟩ 8 kK kK kK kK) ?_
  intro W base args ds gs g2 D hW g9 _;have g0:∀ (j:Nat) t v,Tryz.f5.params[j]?=some t->args[j]?=some v->Value.okWide tp W .any base t v:=D;have gb:=hW;obtain ⟨p,q,g3,hV,rfl,hfz,hnd⟩:=hW;have hA:DataW.TrodAll enc tp W 0 (λ_=>true) true Tryz.f5.params.toList args.toList ds p:=g3;rw [Tryz.params5] at hA g0;obtain ⟨v0,vs0,d0,ds0,p0,q0,g4,rfl,rfl,h0,r0⟩:=trodAll_cons hA;obtain ⟨rfl,rfl,rfl⟩:=trodAll_nil r0;obtain rfl:args=#[v0]:=by cases args;simp_all
  obtain ⟨rfl,rfl⟩:=trodVars_none hV;have lt0:∀ x∈p0,x.block<W.heap.size:=by obtain ⟨m,hm⟩:=h0;exact DataW.trod_lt m _ _ _ hm
  obtain ⟨x0,i0⟩:=zrY (α:=UInt8) u22 zDs (g0 0 22 v0 rfl rfl) h0;clear g3 D;obtain ⟨g1⟩:=zEI i0 (xrf W);refine g1.mono λe W' ⟨v,he,g5,hv⟩=>?_;subst he hv;exact ⟨_,rfl,_,_,_,[],_,[],gb,trodAll_mk1 (shut_bool Tryz.underlying4 _),(trodAll_cons_mk (Below.trod zDx kK (of_decide_eq_true kK) h0 g5 lt0) trodAll_mk0),rfl,g5.frame _,λh=>by cases h⟩
def zzm:(Rows.fnTopRow.inPlace == tp.inPlace 5)=true:=by kernel_rfl
def zrH:(Rows.fnTopRow.unfollowed == tp.unfollowed 5)=true:=by kernel_rfl
def zwb:(Rows.fnTopRow.recurses == tp.recurses 5)=true:=by kernel_rfl
def zDy:(Rows.fnTopRow.named == tp.varsNamed 5)=true:=by kernel_rfl
def closed:joinedFacts tp 5 Tryz.f5 Rows.fnTopSpec Rows.fnTopRow=true:=by
 unfold joinedFacts;exact (zcn (zcn (zcn (zcn (zcn (zcn (zcn (zcn (zcn (zcn (zcn (zcn (zcn (zcn (zcn (zcn (zcn (zcn (zcn (zcn (zcn (zcn (zcn (zcn (zcn (zcn (zcn (zcn (zcn (zcn (zcn kK zDt) zDu) kK) kK) kK) kK) kK) kK) zzm) zrH) zwb) zDy) kK) kK) kK) kK) kK) kK) kK) kK) kK) zAV) kK) zAW) zEJ) zDv) zDw) kK) kK) kK) kK)
def over:Rows.fnTopRow.holds Tryz.pinned (OpenSpec.ofChange Rows.fnTopSpec):=
 OpenClaim.holds_of_wide 5 Tryz.f5 rfl rfl rfl rfl rfl rfl rfl ⟨rfl,rfl,rfl,rfl,rfl⟩ rfl rfl rfl rfl rfl kK Tryz.func5 closed
   (of_decide_eq_true kK) (by unfold Func.isWrapper;first | (rw [if_pos (by decide +kernel)];kernel_rfl) | (rw [if_neg (by decide +kernel)];exact ⟨rfl,rfl⟩))
   (λos started H enc _=>lifted os started H enc)
theorem proved:Rows.FnTopSaid:=over
end Go.Proofs.YtcnglfeoglgebaaGreat.fnTop
