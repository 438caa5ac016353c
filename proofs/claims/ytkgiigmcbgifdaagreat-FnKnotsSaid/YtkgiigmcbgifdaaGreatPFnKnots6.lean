/-
  Parts of the proof, put together by program.
-/
import Derived.Test.YtkgiigmcbgifdaaGreatPFnKnots5
set_option maxRecDepth 20000
set_option linter.defProp false
set_option linter.unusedVariables false
set_option linter.unusedSimpArgs false
set_option linter.unusedSectionVars false
open Go renaming Value→vL,World→wD,Program→pG
namespace Go.Proofs.YtkgiigmcbgifdaaGreat
open Go Go.Sh Go.Proofs
open Rep (rep)
variable {W0 w w':wD} {b n p q:Nat} {c:DCode} {op x:Int} {v0:vL}
section
variable {P:pG} {w w':wD}
def zia {α:Type} [Rep α] [Flat α] {F:List Nat} {v:vL} {l:List α} (hm:Mine F w v l) (hl:l≠[]):∃ b o cap,v=.slice (some ⟨b,o,none⟩) l.length cap/\F=[b]:=by
 obtain ⟨⟨_,⟨_,cap,_,xs,rfl,_,_,hc,h4⟩,rfl⟩,_,_⟩:=hm;rcases h4 with ⟨h4,_⟩ | ⟨b,o,rfl,rfl,_,_⟩
 . exact absurd h4 hl
 have g0:=Cells.flat (xs:=xs) hc;subst g0;exact ⟨b,o,cap,rfl,rfl⟩
def zb5 {α:Type} [Rep α] [Flat α] (h1:Rep.size α=1) {t by_ m n i:Nat} {l:List α} {y:α} {u:vL} {K:wD->Prop} (ht:tyI P t=some (1,by_,Rep.agg α)) (hm:Mine [m] w (.slice (some ⟨m,0,none⟩) n n) l) (hl:l.length=n) (hi:i<n) (hu:Mine [] w u y)
   (k:∀ w',Chg [m] w w'->Mine [m] w' (.slice (some ⟨m,0,none⟩) n n) (l.set i y)->K w'):OPU P (Instr.storeAt t (.pointer (some ⟨m,i*1,none⟩)) u) w K:=by
 obtain ⟨b,_,cap,_,hv,hL⟩:=zxI hm (k:=i) oo;simp only [Value.slice.injEq,qao,Addr.mk.injEq,and_true] at hv;obtain ⟨⟨rfl,rfl⟩,_⟩:=hv;rw [h1,qa7] at hL;refine ze7 (y':=y) (by rw [h1];exact ht) hL hu λw8 F' g1 g0 g2=>?_
 have g3:F'=[m]:=by
   obtain ⟨b,_,cap,hv,g4⟩:=zia g0 (by intro e;have h:=qax List.length e;rw [qaW,hl] at h;simp only [qaC] at h;omega);subst g4;have:=g2 b sS;simpa using this
 subst g3;exact k w8 g1 g0
def zcU {α:Type} [Rep α] {t e by_ m n i:Nat} {K:vL->Prop} (h1:Rep.size α=1) (ht:P.underlying t=some (.slice e)) (he:tyI P e=some (1,by_,Rep.agg α)) (hi:i<n) (kk:K (.pointer (some ⟨m,i*1,none⟩))) :
   RD P (Instr.indexAt t (.slice (some ⟨m,0,none⟩) n n) (.int .i64 (i:Int))) w K:=zjf ht he hi kk
end
structure WI (w1 w:wD) (m n lo hi:Nat) (tv:vL) (L:List Nat) (ms:List Bool):Prop where
 chg:ChgI m (m+1) w1 w
 row:RowI lo hi 3 w tv (za5 L)
 mks:Mine [m] w (.slice (some ⟨m,0,none⟩) n n) ms
 l0:w1.heap.size<=lo
 m1:m<lo
 h2:lo<=hi
 h3:hi<=w.heap.size
section
variable {w1 w w':wD} {m n lo hi:Nat} {tv:vL} {L:List Nat} {ms:List Bool}
def WI.step (h:WI w1 w m n lo hi tv L ms) (hx:Ext w w'):WI w1 w' m n lo hi tv L ms:=
 ⟨h.chg.trans hx.toI,h.row.ext hx,h.mks.ext hx,h.l0,h.m1,h.h2,qat h.h3 hx.size⟩
def WI.push {g0:vL} {x:Nat} {lo' hi':Nat} (h:WI w1 w m n lo hi tv L ms) (hc:ChgI lo hi w w') (hr:RowI lo' hi' 3 w' g0 (za5 L++[(x:Int)])) (hd:lo'=lo/\hi'=hi\/lo'=w.heap.size/\hi'=w'.heap.size) :
   WI w1 w' m n lo' hi' g0 (L++[x]) ms:=by
 have hs:=hc.size;have:=h.l0;have:=h.h2;have:=h.h3;have h4:=h.chg.size;have:=h.m1;have g1:=h.mks.lt m sS;refine ⟨⟨hc.os.trans h.chg.os,hc.tape.trans h.chg.tape,hc.output.trans h.chg.output,qat h4 hs,λb hb ho=>(hc.block b (qap hb h4) oo).trans (h.chg.block b hb ho)⟩,by rw [zc4];exact hr,h.mks.keep λb hb=>?_,oo,oo,oo,oo⟩;simp only [qaa,qad,qaq] at hb;subst hb;exact hc.block b g1 oo
def WI.mark {g1:List Bool} (h:WI w1 w m n lo hi tv L ms) (hc:Chg [m] w w') (hm:Mine [m] w' (.slice (some ⟨m,0,none⟩) n n) g1):WI w1 w' m n lo hi tv L g1:=by
 have g0:ChgI m (m+1) w w':=hc.toI λ_ hb=>by simp only [qaa,qad,qaq] at hb;omega
 have h5:=h.m1;exact ⟨h.chg.trans g0,h.row.chg g0 oo,hm,h.l0,h5,h.h2,qat h.h3 g0.size⟩
end
def zFN:zcu tp 4=some [.bool false]:=by kernel_rfl
def zeo (lo hi:Nat) (h:I64 x):OwnI lo hi w (.int .i64 x) x:=⟨[],zbt h,sS⟩
def zcx {b:Bool}:Mine [] w (.bool b) b:=⟨⟨[.bool b],⟨rfl,rfl⟩,rfl⟩,qav,Wr.nil w⟩
def zrI {a:Nat} (h0:Is W0 v0 c) (e0:Ext W0 w) (hc:CodeR c) (ha:a<c.ins.length) :
   CALL tp 282 [v0,.int .i64 (a:Int)] w λr w'=>Ext w w'/\∃ m,r=.slice (some ⟨m,0,none⟩) c.ins.length c.ins.length/\w.heap.size<=m/\Mine [m] w' (.slice (some ⟨m,0,none⟩) c.ins.length c.ins.length) (zdQ c.ins.length (RP (zaA c) a)):=by
 refine co (g:=kf [] [(4,36028797018899392,[6,7]),(8,36028796750529088,[6,9])] [(6,[0,1,2,3,4,5,6],0)]) Tryz.func282 ?_;have hil:=hc.f.ins;have gE:=λ{i j:Nat}=>zdn hc (i:=i) (j:=j);refine zbp h0 e0 λw1 gi hA=>zaa zaY<|zab zdD (zam hA) (xrf _) λ_ gF=>zae u26 gF ?_;generalize hn:c.ins.length=n at *;refine zeY (α:=Bool) zfU ty4 rfl rfl zFN oo oo λw2 gj gG=>?_;have hs1:=gi.size;have hs2:=gj.size
 have g3:Mine [w1.heap.size] w2 (.slice (some ⟨w1.heap.size,0,none⟩) n n) (List.replicate n (RepZ.zv:Bool)):=by
   obtain ⟨_,hM,_⟩:=gG.own;obtain ⟨b,_,_,hv,gl⟩:=zia hM (by intro e;have:=qax List.length e;simp at this;omega);simp only [Value.slice.injEq,qao,Addr.mk.injEq,qbk,and_true] at hv;obtain ⟨⟨hb,ho⟩,_⟩:=hv;rw [<-hb] at gl;rwa [gl] at hM
 have gH:(List.replicate n (RepZ.zv:Bool))=List.replicate n false:=rfl;rw [gH] at g3;refine zci (x:=(a:Int)) u25 ty3 z3 qd (zbt io) λgp w3 g4 gI=>?_;have gJ:=g4.size;generalize hm:w1.heap.size=m at *;have gK:WI w1 w3 m n w2.heap.size w3.heap.size gp [a] (List.replicate n false):=⟨(gj.t g4).toI,gI,g3.ext g4,oo,by have:=g3.lt m sS;omega,gJ,qaz _⟩;refine zap (1+n) (λh us w'=>∃ (tv:vL) (lo hi:Nat) (L:List Nat) (ms:List Bool),us=[tv,.int .i64 (h:Int)]/\h<=L.length/\WI w1 w' m n lo hi tv L ms/\SInv (zaA c) n a (List.replicate n false) ms (L.drop h) h) 0 (z0 _) ⟨gp,_,_,[a],_,rfl,sS,gK,SInv.start sS ha⟩ ?_;rintro h mk _ w4 _ ⟨tv,lo,hi,L,ms,hu,_,g2,D⟩;obtain ⟨gM,gN⟩:=zcZ hu;rw [gM,gN];have gO:=D.bound;rw [qa8] at gO;refine zae u25 g2.row.is ?_;rw [zah];refine zaf<|br (λ_=>?_) (λ_=>?_)
 case refine_2=>
   have gP:h=L.length:=oo;rw [gP,qbB] at D;have g5:=D.fin λi hi=>absurd hi zb8
   have gQ:ms=zdQ n (RP (zaA c) a):=zcT D.len λi hi=>by
     rw [g5 i];exact ⟨λh=>h.resolve_left zb8,.inr⟩
   rw [<-gQ];have gR:Ext w1 w4:=(xrf w1).chgI g2.chg oo;exact ⟨gi.t gR,m,rfl,oo,g2.mks⟩
 have hh:h<L.length:=oo;have gS:=zag w4;have I:=g2.step gS;generalize World.drew1 w4=w5 at *;have gq:∀ {w:wD} {lo hi tv L ms},WI w1 w m n lo hi tv L ms->Ext w1 w:=λh=>(xrf w1).chgI h.chg oo;refine zab zbY hA (gq I) λ_ gU=>zad u25 ty3 (i:=h) I.row.is (by rw [zah];exact hh) λb1 o1 V=>?_;rw [za9] at V;refine zac ty3 V (xrf _) λ_=>?_;generalize hx:L[h]=x at *;have g9:L.drop h=x :: L.drop (h+1):=by rw [qaA hh,hx]
 have gr:x<n:=(D.tdo x (by rw [g9];simp)).2;refine (zov gU (gq I) hc (by rw [hn];exact gr)).mono ?_;rintro gb w6 ⟨gV,gW⟩;have gX:=I.step gV;have gY:=I.h3;have hm6:=I.mks.lt m sS;have gZ:SIn2 (zaA c) n a (List.replicate n false) ms (L.drop (h+1)) h x 0:=D.pop (λi=>by rw [g9];simp [or_comm]) (by rw [g9];simp);have hl2:=zgA c x;refine zap (zaA c x).length (λq us w'=>∃ (tv:vL) (lo hi:Nat) (L:List Nat) (ms:List Bool),us=[tv,.int .i64 (q:Int)]/\q<=(zaA c x).length/\h<L.length/\WI w1 w' m n lo hi tv L ms/\SIn2 (zaA c) n a (List.replicate n false) ms (L.drop (h+1)) h x q/\OwnI w5.heap.size w6.heap.size w' gb (za5 (zaA c x))/\(hi<=w5.heap.size\/w6.heap.size<=lo)/\w6.heap.size<=w'.heap.size) 0 (z0 _) ⟨tv,lo,hi,L,ms,rfl,z0 _,hh,gX,gZ,gW.toI,.inl gY,qaz _⟩ ?_;rintro q gs _ w7 _ ⟨gt,gx,gy,L7,O,h4,_,h5,X,Y,U,h6,h8⟩;obtain ⟨gc,gd⟩:=zcZ h4;rw [gc,gd];refine zae u25 U.is ?_;rw [zah];refine zaf<|br (λ_=>?_) (λ_=>?_)
 case refine_2=>refine zau<|⟨mk-1,oo,h+1,oo,gt,gx,gy,L7,O,rfl,oo,X,Y.done oo⟩
 have hq:q<(zaA c x).length:=oo
 have gf:∀ {w:wD} {K:vL->Prop} (ho:OwnI w5.heap.size w6.heap.size w gb (za5 (zaA c x))) (k:K (.int .i64 (((zaA c x)[q]:Nat):Int))),RD tp (Instr.indexAt 25 gb (.int .i64 (q:Int))) w λh9=>RD tp (Instr.loadAt 3 h9) w K:=λho k=>by
   refine zad u25 ty3 (i:=q) ho.is (by rw [zah];exact hq) λb1 o1 V=>?_;rw [za9] at V;exact zac ty3 V (xrf _) λ_=>k
 have hy:=gE gr (qac hq);refine gf U ?_;have C:=Y.len;refine zad zfU ty4 X.mks.is (by rw [C];exact hy.1) λ_ _ hd=>zbi ty4 hd (xrf _)<|za2 ?_;have g0:=zce (ms:=O) (i:=(zaA c x)[q]) (by rw [C];exact hy.1);refine zbX (λhf=>?_) (λhf=>?_)
 . have gg:¬mkd O (zaA c x)[q]:=by rw [g0];simpa using hf
   refine gf U<|zcU (α:=Bool) rfl zfU ty4 hy.1<|zb5 (α:=Bool) rfl ty4 X.mks C hy.1 zcx λw8 gz he=>?_;have gC:=X.mark gz he;have g1:ChgI m (m+1) w7 w8:=gz.toI λb hb=>by simp only [qaa,qad,qaq] at hb;omega
   have gD:=U.chg g1 oo;refine gf gD ?_;have hg:=Y.push hq hy.1 gg;generalize (zaA c x)[q]=y at *
   have hLb:L7.length<=2+n:=by
     have h1:=Y.cnt;have h2:=zhu O;rw [qa8] at h1;omega
   refine zek (x:=(y:Int)) u25 ty3 z3 zc3 qd gC.row (zeo 0 0 io) (by rw [zaj,zah];omega) (by rw [zah];omega) λhj _ hk hl gh hr hs=>?_;have ht:=gC.push gh hr hs;have hw:=g1.size;have hz:=U.is;refine zau<|⟨gs-1,oo,q+1,oo,hj,hk,hl,L7++[y],_,rfl,oo,by simp;omega,ht,?_,gD.chg gh oo,oo,by have:=gh.size;omega⟩;rw [qb0 oo];exact hg
 have gg:mkd O (zaA c x)[q]:=by rw [g0];simpa using hf
 refine zau<|⟨gs-1,oo,q+1,oo,gt,gx,gy,L7,O,rfl,oo,h5,X,Y.skip hq gg,U,h6,h8⟩
section
variable {P:pG} {w:wD} {α:Type} [Rep α] [Flat α] {lo hi e:Nat} {v:vL} {l:List α}
def zEW {t e b o n cap k by_:Nat} {K:vL->Prop} (ht:P.underlying t=some (.slice e)) (he:tyI P e=some (Rep.size α,by_,Rep.agg α)) (hk:k<=n) (hn:n<=cap) (kk:K (.slice (some ⟨b,o,none⟩) k cap)) :
   RD P (Instr.sliceAt t (.slice (some ⟨b,o,none⟩) n cap) none (some (.int .i64 (k:Int))) none) w K:=by
 refine zba (λw' _=>?_) kk
 have g0:(Instr.sliceBounds true n cap none (some (.int .i64 (k:Int))) none).run P w'=.ok (0,k,cap) w':=by
   have h5:(k:Int)<=(cap:Int):=oo;simp [Instr.sliceBounds,Instr.sliceBound,asIntOf,h5];intro _;omega
 simp only [Instr.sliceAt,Instr.slice,Sem.run_bind,run_underlying ht,Result.andThen_ok,g0,zaJ he];simp [Addr.add_mid]
def zBB (h:RowI lo hi e w v l) (hl:l≠[]) {k:Nat} (hk:k<=l.length):∃ g cap,v=.slice (some ⟨g,0,none⟩) l.length cap/\l.length<=cap/\RowI lo hi e w (.slice (some ⟨g,0,none⟩) k cap) (l.take k):=by
 rcases h with ⟨_,_,h⟩ | ⟨F,⟨xs,_,⟨g0,ho⟩,hc,hF,_⟩,hn,hb⟩
 . exact absurd h hl
 rcases ho with ⟨_,h0⟩ | ⟨g,cap,cur,rfl,_,hg,h1,h2,h3,h4⟩
 . exact absurd (qan h0) hl
 refine ⟨g,cap,rfl,h1,.inr ⟨F,⟨xs.take (k*Rep.size α),[],⟨?_,.inr ⟨g,cap,cur,?_,z0 _,hg,by rw [qaj];omega,h2,h3,?_⟩⟩,?_,?_,Wr.nil w⟩,hn,hb⟩⟩
 . rw [qaj,qaj,g0,qbv hk];exact qbv (qbg _ hk)
 . rw [qaj,qbv hk]
 . rw [qaj,qbv hk,<-h4,List.take_take,qbv (qbg _ hk)]
 . have e1:l=l.take k++l.drop k:=by simp
   have g1:=Cells.flat (xs:=xs) hc;subst g1;rw [e1] at hc;obtain ⟨_,_,x1,_,_,g2,c1,_⟩:=Cells.split hc;have g4:=Cells.flat (xs:=x1) c1;subst g4;have g3:=Cells.len c1;rw [qaj,qbv hk] at g3;rw [g2,List.take_left' g3];exact c1
 have g1:=Cells.flat (xs:=xs) hc;subst g1;rw [hF];rfl
end
def KAt (W0 w:wD) (b:Nat) (c:DCode):Prop:=∃ F cs,Rep.rep F W0 cs c/\w.rangeAt b 0 cs/\b<w.heap.size
def KAt.at (h:KAt W0 w b c) (hx:Ext W0 w):At w b 0 c:=by
 obtain ⟨F,cs,hr,hc,_⟩:=h;exact ⟨F,cs,zcp hr hx,hc⟩
def KAt.keep (h:KAt W0 w b c) (hb:w'.heap[b]?=w.heap[b]?) (hs:w.heap.size<=w'.heap.size):KAt W0 w' b c:=by
 obtain ⟨F,cs,hr,hc,_⟩:=h;exact ⟨F,cs,hr,zbo hc hb,oo⟩
def KAt.lt (h:KAt W0 w b c):b<w.heap.size:=by obtain ⟨_,_,_,_,h⟩:=h;exact h
def zrJ {b m n a:Nat} {I:List Bool} (hk:KAt W0 w b c) (e0:Ext W0 w) (hc:CodeR c) (hn:c.ins.length=n) (ha:a<n) (hM:Mine [m] w (.slice (some ⟨m,0,none⟩) n n) I) (hl:I.length=n) (h0:W0.heap.size<=m) (hb:b≠m)
   (g9:∀ i,mkd I i->i≠a->∀ j∈zaA c i,mkd I j) :
   CALL tp 70 [.pointer (some ⟨b,0,none⟩),.slice (some ⟨m,0,none⟩) n n,.int .i64 (a:Int)] w λr w'=>r=.tuple #[]/\ChgI m (m+1) w w'/\Mine [m] w' (.slice (some ⟨m,0,none⟩) n n) (zdQ n λi=>mkd I i\/RP (zaA c) a i):=by
 refine co (g:=kf [] [(1,140737488351936,[6]),(5,140736414614080,[6,30])] []) Tryz.func70 ?_;have gG:=hc.f.ins;have gh:=λ{i j:Nat}=>zdn hc (i:=i) (j:=j);rw [hn] at gh gG;refine zci (x:=(a:Int)) u25 ty3 z3 qd (zbt io) λgi w1 g4 gH=>?_;have gI:WI w w1 m n w.heap.size w1.heap.size gi [a] I:=⟨g4.toI,gH,hM.ext g4,lr _,hM.lt m sS,g4.size,qaz _⟩;have gJ:∀ {w':wD} {lo hi tv L ms},WI w w' m n lo hi tv L ms->At w' b 0 c:=λh=>(hk.keep (h.chg.block b hk.lt oo) h.chg.size).at (e0.chgI h.chg h0);refine zap (1+n) (λh us w'=>∃ (tv:vL) (lo hi:Nat) (L:List Nat) (ms:List Bool),us=[tv]/\WI w w' m n lo hi tv L ms/\SInv (zaA c) n a I ms L h) 0 (z0 _) ⟨gi,_,_,[a],_,rfl,gI,SInv.start hl ha⟩ ?_;rintro h mk _ w4 _ ⟨tv,lo,hi,L,ms,hu,C,O⟩;try replace hu:=zbv hu
 rw [hu];have hb4:=O.bound;refine zae u25 C.row.is ?_;rw [zah];refine zcO<|br (λ_=>?_) (λ_=>?_)
 case refine_2=>have gK:L=[]:=qan oo;rw [gK] at O;have g5:=O.fin g9;have gM:ms=zdQ n (λi=>mkd I i\/RP (zaA c) a i):=zcT O.len λi hi=>g5 i;rw [<-gM];exact ⟨rfl,C.chg,C.mks⟩
 obtain ⟨z,hz⟩:∃ z,L.length=z+1:=⟨L.length-1,oo⟩;have gj:z<L.length:=oo;have gN:za5 L≠[]:=λe=>by have:=qax List.length e;rw [zah,hz] at this;cases this
 refine zae u25 C.row.is ?_;rw [zah];refine zbe io ?_;have ez:(L.length:Int)-1=(z:Int):=oo;rw [ez];refine zad u25 ty3 (i:=z) C.row.is (by rw [zah];exact gj) λ_ _ gl=>?_;rw [za9] at gl;refine zac ty3 gl (xrf _) λ_=>?_;generalize hx:L[z]=x at *;refine zae u25 C.row.is ?_;rw [zah];refine zbe io ?_;rw [ez];obtain ⟨g,cap,gp,g0,gq⟩:=zBB C.row gN (k:=z) (by rw [zah];omega);rw [zah] at gp g0;rw [gp];refine zEW (α:=Int) u25 ty3 oo g0 ?_
 have gr:L=L.take z++[x]:=by
   have:=tk gj;rw [<-hz,qaB,hx] at this;exact this
 rw [<-zyW] at gq;have g3:WI w w4 m n lo hi (.slice (some ⟨g,0,none⟩) z cap) (L.take z) ms:=⟨C.chg,gq,C.mks,C.l0,C.m1,C.h2,C.h3⟩;have gs:x<n:=(O.tdo x (by rw [gr];simp)).2;refine (zjN (gJ g3) (xrf _) hc (by rw [hn];exact gs)).mono ?_;rintro gO w6 ⟨gP,gt⟩;have gQ:=g3.step gP;have gR:=g3.h3;have hm6:=g3.mks.lt m sS
 have gS:∀ i,i∈L↔i∈L.take z\/i=x:=λi=>by
   have:i∈L↔i∈L.take z++[x]:=by rw [<-gr]
   rw [this];simp
 have gU:SIn2 (zaA c) n a I ms (L.take z) h x 0:=O.pop gS (by rw [qaj];omega);have hl2:=zgA c x;refine zae u25 gt.is ?_;rw [zah];refine zap (zaA c x).length (λq us w'=>∃ (tv:vL) (lo hi:Nat) (L:List Nat) (ms:List Bool),us=[tv,.int .i64 (q:Int)]/\q<=(zaA c x).length/\WI w w' m n lo hi tv L ms/\SIn2 (zaA c) n a I ms L h x q/\OwnI w4.heap.size w6.heap.size w' gO (za5 (zaA c x))/\(hi<=w4.heap.size\/w6.heap.size<=lo)/\w6.heap.size<=w'.heap.size) 0 (z0 _) ⟨_,lo,hi,_,ms,rfl,z0 _,gQ,gU,gt.toI,.inl gR,qaz _⟩ ?_;rintro q gx _ w7 _ ⟨gy,gz,gC,L7,U,gV,_,V,X,gb,gW,gX⟩;obtain ⟨gc,gd⟩:=zcZ gV;rw [gc,gd];refine zaf<|br (λ_=>?_) (λ_=>?_)
 case refine_2=>exact ⟨mk-1,oo,h+1,oo,gy,gz,gC,L7,U,rfl,V,X.done oo⟩
 have hq:q<(zaA c x).length:=oo;have hy:=gh gs (qac hq);refine zad u25 ty3 (i:=q) gb.is (by rw [zah];exact hq) λ_ _ gD=>?_;rw [za9] at gD;refine zac ty3 gD (xrf _) λ_=>?_;have D:=X.len;refine zad zfU ty4 V.mks.is (by rw [D];exact hy.1) λ_ _ gY=>zbi ty4 gY (xrf _)<|za2 ?_;have g1:=zce (ms:=U) (i:=(zaA c x)[q]) (by rw [D];exact hy.1);refine zbX (λhf=>?_) (λhf=>?_)
 . have gf:¬mkd U (zaA c x)[q]:=by rw [g1];simpa using hf
   refine zcU (α:=Bool) rfl zfU ty4 hy.1<|zb5 (α:=Bool) rfl ty4 V.mks D hy.1 zcx λw8 gE gZ=>?_;have gF:=V.mark gE gZ;have g2:ChgI m (m+1) w7 w8:=gE.toI λb hb=>by simp only [qaa,qad,qaq] at hb;omega
   have h4:=gb.chg g2 oo;have h5:=X.push hq hy.1 gf;generalize (zaA c x)[q]=y at *
   have hLb:L7.length<=2+n:=by
     have h1:=X.cnt;have h2:=zhu U;omega
   refine zek (x:=(y:Int)) u25 ty3 z3 zc3 qd gF.row (zeo 0 0 io) (by rw [zaj,zah];omega) (by rw [zah];omega) λh6 _ h8 h9 gg hd he=>?_;have hg:=gF.push gg hd he;have hh:=g2.size;refine zau<|⟨gx-1,oo,q+1,oo,h6,h8,h9,L7++[y],_,rfl,oo,hg,h5,h4.chg gg oo,oo,by have:=gg.size;omega⟩
 have gf:mkd U (zaA c x)[q]:=by rw [g1];simpa using hf
 refine zau<|⟨gx-1,oo,q+1,oo,gy,gz,gC,L7,U,rfl,oo,V,X.skip hq gf,gb,gW,gX⟩
def zBC (ms:List Bool) (n:Nat):List Nat:=(List.range n).filter λi=>ms.getD i false
def zjO (ms:List Bool) (n:Nat):zBC ms (n+1)=zBC ms n++(if ms.getD n false then [n] else []):=by
 simp only [zBC,qbU,qbq,List.filter_cons,List.filter_nil]
def zu9 (ms:List Bool) (n:Nat):(zBC ms n).length<=n:=qat (qbK _ _) sS
def zjP (n:Nat) (p:Nat->Prop):zBC (zdQ n p) n=zbK n p:=by
 refine List.filter_congr λi hi=>?_;have hi':=qaG.1 hi;have:=zcs (n:=n) (p:=p) (i:=i);unfold mkd at this;by_cases h:p i
 . rw [this.2 ⟨hi',h⟩];simp [h]
 have h2:(zdQ n p).getD i false≠true:=λe=>h (this.1 e).2;simp only [h,qam];cases hh:(zdQ n p).getD i false
 . rfl
 exact absurd hh h2
def zhC {ms:List Bool} (h0:Is W0 v0 ms) (e0:Ext W0 w) (hn:ms.length<=1000000) :
   CALL tp 256 [v0] w λr w'=>Ext w w'/\Own w.heap.size w' r (za5 (zBC ms ms.length)):=by
 refine co (g:=kf [] [(3,1048536,[3,4])] []) Tryz.func256 ?_;refine zaD (α:=Int) u25 ty3 λ_ _ g1 g3=>?_;have g4:=g1.size;refine zap ms.length (λk us w'=>∃ (v:vL),us=[v,.int .i64 (k:Int)]/\k<=ms.length/\Ext w w'/\RowI w.heap.size w'.heap.size 3 w' v (za5 (zBC ms k))) 0 (z0 _) ⟨_,rfl,z0 _,g1,g3.mono g4 (lr _)⟩ ?_;rintro k mk _ w2 _ ⟨v,hu,_,C,g0⟩;obtain ⟨g5,g9⟩:=zcZ hu;rw [g5,g9];refine zae zfU h0<|zaf<|br (λ_=>?_) (λ_=>?_)
 case refine_2=>
   have:k=ms.length:=oo;rw [this] at g0;exact ⟨C,g0.own.own⟩
 have hk:k<ms.length:=oo;have g2:=C.size;have hg:ms.getD k false=ms[k]:=by rw [List.getD_eq_getElem?_getD,List.getElem?_eq_getElem hk];rfl
 have hil:=zu9 ms k;refine zad zfU ty4 h0 hk λ_ _ gb=>zbi ty4 gb (e0.t C)<|zbX (λhf=>?_) (λhf=>?_)
 . refine zbM (lo2:=w2.heap.size) (hi2:=w2.heap.size) (x:=(k:Int)) u25 ty3 z3 zc3 qd g0 g2 (zeo _ _ io) (lr _) g2 (by rw [zaj,zah];omega) (by rw [zah];omega) λgc _ gd gf=>?_;refine zau<|⟨mk-1,oo,k+1,oo,gc,rfl,oo,C.chgI gd (lr _),?_⟩;rw [zjO,hg,hf,qah rfl,zc4];exact gf
 refine zau<|⟨mk-1,oo,k+1,oo,v,rfl,oo,C,?_⟩;rw [zjO,hg,hf];simpa using g0
def za4 (c:DCode) (p:Nat) (i:Nat):Prop:=i=(en c p).toNat\/RP (zaA c) (en c p).toNat i
def zwx (h0:Is W0 v0 c) (e0:Ext W0 w) (hc:CodeR c) (hp:p<c.entry.length) :
   CALL tp 280 [v0,.int .i64 (p:Int)] w λr w'=>Ext w w'/\Own w.heap.size w' r (zdQ c.ins.length (za4 c p)):=by
 refine co (g:=kf [] [] [(1,[0,1,2,3,4,5,6,7],0)]) Tryz.func280 ?_;have:=zp0 hc hp;refine zbp h0 e0 λw1 g4 hA=>?_;have C:=zag w1;generalize World.drew1 w1=w2 at *;have:=g4.size;have:=C.size;obtain ⟨a,g1⟩:∃ a:Nat,en c p=(a:Int):=⟨(en c p).toNat,oo⟩
 have gc:za4 c p=λi=>i=a\/RP (zaA c) a i:=by
   funext i;unfold za4;rw [g1];rfl
 have ha:a<c.ins.length:=oo;rw [gc];refine zab zbY hA C λ_ h6=>zaa zbq<|zab zaS (zaq hA) C λ_ h8=>zad u25 ty3 h8 hp λ_ _ g5=>?_;rw [zbO hp,g1] at g5;refine zac ty3 g5 C λ_=>?_;refine (zrI h6 C hc ha).mono ?_;rintro _ w3 ⟨g0,m,rfl,_,hM⟩;have:=g0.size;refine zaa zbq<|zab zaS (zaq hA) (C.t g0) λ_ gd=>zad u25 ty3 gd hp λ_ _ g9=>?_;rw [zbO hp,g1] at g9;refine zac ty3 g9 (C.t g0) λ_=>zcU (α:=Bool) rfl zfU ty4 ha<|zb5 (α:=Bool) rfl ty4 hM zaM ha zcx λw4 gf gb=>?_
 have g2:(zdQ c.ins.length (RP (zaA c) a)).set a true=zdQ c.ins.length (λi=>i=a\/RP (zaA c) a i):=zcT (by rw [qaW,zaM]) λi hi=>by
   rw [zdj (by rw [zaM];exact ha),zcs];constructor
   . rintro (⟨_,h⟩ | h)
     . exact .inr h
     exact .inl h
   rintro (h | h)
   . exact .inr h
   exact .inl ⟨hi,h⟩
 rw [g2] at gb;have g3:ChgI m (m+1) w3 w4:=gf.toI λb hb=>by simp only [qaa,qad,qaq] at hb;omega
 exact ⟨((g4.t C).trans g0).chgI g3 oo,[m],gb,λb hb=>by simp only [qaa,qad,qaq] at hb;omega⟩
def zg3 {K:VW} (h0:0<n) (hn:n<=1000000)
   (k:∀ w',Ext w w'->Mine [w.heap.size] w' (.slice (some ⟨w.heap.size,0,none⟩) n n) (List.replicate n false)->K (.slice (some ⟨w.heap.size,0,none⟩) n n) w'):OP tp (Instr.makeSlice 105 (.int .i64 (n:Int)) (.int .i64 (n:Int))) w K:=
 zeY (α:=Bool) zfU ty4 rfl rfl zFN oo oo λw2 hx2 hr2=>by
   refine k w2 hx2 ?_;obtain ⟨F,hM,hF⟩:=hr2.own;obtain ⟨b,o,cap,hv,hF2⟩:=zia hM (by intro e;have:=qax List.length e;simp at this;omega);simp only [Value.slice.injEq,qao,Addr.mk.injEq,qbk,and_true] at hv;obtain ⟨⟨hb,ho⟩,_⟩:=hv;rw [<-hb] at hF2;rw [hF2] at hM;exact hM
def zgg (n:Nat) {p:Nat->Prop} (h:∀ i,¬p i):List.replicate n false=zdQ n p:=
 zcT sS λi _=>⟨λh=>absurd h zb8,λhp=>absurd hp (h i)⟩
def zBD {p p':Nat->Prop} (hq:q<n) (h:∀ i,p' i↔p i\/i=q):(zdQ n p).set q true=zdQ n p':=
 zcT (by rw [qaW,zaM]) λi hi=>by
   rw [zdj (by rw [zaM];exact hq),zcs,h];exact ⟨λh=>h.imp (·.2) id,λh=>h.imp (λh=>⟨hi,h⟩) id⟩
def zow (c:DCode) (p:Nat) (op:Int) (q:Nat):Prop:=∃ i,i<c.ins.length/\za4 c p i/\(zal c i).op=op/\(zal c i).arg=(q:Int)
def zrK (h0:Is W0 v0 c) (e0:Ext W0 w) (hc:CodeR c) (hp:p<c.entry.length) (hop:op=4\/op=5) :
   CALL tp 275 [v0,.int .i64 (p:Int),.int .i64 op] w λr w'=>Ext w w'/\Own w.heap.size w' r (za5 (zbK c.procs.length (zow c p op))):=by
 refine co (g:=kf [] [(4,70368744047104,[9])] []) Tryz.func275 ?_;have hil:=hc.f.ins;have h8:=hc.1.procs8;refine zbp h0 e0 λw1 gd hA=>zab zbY hA (xrf _) λ_ gj=>?_;refine (zwx gj (xrf _) hc hp).mono ?_;rintro _ w2 ⟨g2,gl⟩;refine zaa zdl<|zab zdt (zbd hA) g2 λ_ gp=>zae u24 gp ?_;have hs1:=gd.size;have hs2:=g2.size;refine zg3 h8.2 oo λw3 g3 g4=>?_;have hs3:=g3.size;have gq:=gl.toI.ext g3;have hm3:=g4.lt _ (qaK.2 rfl);have g5:=g2.t g3;generalize hm:w2.heap.size=m at *;rw [zgg c.procs.length (p:=λq=>∃ i,i<0/\za4 c p i/\(zal c i).op=op/\(zal c i).arg=(q:Int)) (λi ⟨_,h,_⟩=>oo)] at g4;refine zap c.ins.length (λk us w'=>us=[.int .i64 (k:Int)]/\k<=c.ins.length/\ChgI m (m+1) w3 w'/\Mine [m] w' (.slice (some ⟨m,0,none⟩) c.procs.length c.procs.length) (zdQ c.procs.length λq=>∃ i,i<k/\za4 c p i/\(zal c i).op=op/\(zal c i).arg=(q:Int))) 0 (z0 _) ⟨rfl,z0 _,ChgI.refl _,g4⟩ ?_;rintro k mk _ w4 _ ⟨hu,_,D,I⟩;try replace hu:=zbv hu
 rw [hu];have C:Ext w1 w4:=g5.chgI D oo;have gr:=gq.chg D oo;refine zaa zaY<|zab zdD (zam hA) C λ_ gs=>zae u26 gs<|zaf<|br (λ_=>?_) (λ_=>?_)
 case refine_2=>
   have gt:k=c.ins.length:=oo;rw [gt] at I;refine (zhC I.is (xrf _) (by rw [zaM];omega)).mono ?_;rintro r w5 ⟨gx,gf⟩;rw [zaM,zjP] at gf;have hsz:=C.size;exact ⟨(gd.t C).trans gx,gf.mono oo⟩
 have hk:k<c.ins.length:=oo
 have gg:¬(za4 c p k/\(zal c k).op=op)->(zdQ c.procs.length λq=>∃ i,i<k/\za4 c p i/\(zal c i).op=op/\(zal c i).arg=(q:Int))=zdQ c.procs.length λq=>∃ i,i<k+1/\za4 c p i/\(zal c i).op=op/\(zal c i).arg=(q:Int):=λhn=>zbW λq _=>by
   constructor
   . rintro ⟨i,h1,h2⟩;exact ⟨i,oo,h2⟩
   rintro ⟨i,h1,h2,h3,h4⟩;by_cases h:i=k
   . subst h;exact absurd ⟨h2,h3⟩ hn
   exact ⟨i,oo,h2,h3,h4⟩
 refine zad zfU ty4 (i:=k) gr.is (by rw [zaM];exact hk) λ_ _ gy=>zbi ty4 gy (xrf _) ?_;have g9:=zcs (n:=c.ins.length) (p:=za4 c p) (i:=k);rw [zce (by rw [zaM];exact hk)] at g9;refine zbX (λhf=>?_) (λhf=>?_)
 case refine_2=>refine zau<|⟨mk-1,oo,k+1,oo,rfl,oo,D,?_⟩;rw [<-gg λh=>by rw [g9.2 ⟨hk,h.1⟩] at hf;cases hf];exact I
 have g0:=(g9.1 hf).2;refine zaa zaY<|zab zdD (zam hA) C λ_ gz=>zad u26 zbm gz hk λ_ _ gh=>?_;rw [zaG] at gh;refine zaa za8<|zac ty3 (zay gh) C λ_=>zai<|br (λho=>?_) (λho=>?_)
 case refine_2=>refine zau<|⟨mk-1,oo,k+1,oo,rfl,oo,D,?_⟩;rw [<-gg λh=>ho h.2];exact I
 have g1:=(zhz hc hk).2.1;unfold zcz at g1;rw [qab oo,qah oo] at g1;obtain ⟨q,hq⟩:∃ q:Nat,(zal c k).arg=(q:Int):=⟨(zal c k).arg.toNat,oo⟩;have gb:q<c.procs.length:=oo;refine zaa zaY<|zab zdD (zam hA) C λ_ gC=>zad u26 zbm gC hk λ_ _ gi=>?_;rw [zaG] at gi;refine zaa zaZ<|zac ty3 (zat gi) C λ_=>?_;rw [hq];refine zcU (α:=Bool) rfl zfU ty4 gb<|zb5 (α:=Bool) rfl ty4 I zaM gb zcx λw5 gD gE=>?_;have gc:ChgI m (m+1) w4 w5:=gD.toI λ_ hb=>by simp only [qaa,qad,qaq] at hb;omega
 refine zau<|⟨mk-1,oo,k+1,oo,rfl,oo,D.trans gc,?_⟩;rw [<-zBD (p:=λq=>∃ i,i<k/\za4 c p i/\(zal c i).op=op/\(zal c i).arg=(q:Int)) gb λr=>?_]
 . exact gE
 constructor
 . rintro ⟨i,h1,h2,h3,h4⟩;by_cases h:i=k
   . subst h;right;omega
   exact .inl ⟨i,oo,h2,h3,h4⟩
 rintro (⟨i,h1,h2⟩ | rfl)
 . exact ⟨i,oo,h2⟩
 exact ⟨k,oo,g0,ho,hq⟩
end Go.Proofs.YtkgiigmcbgifdaaGreat
namespace Go.Sh
variable {i k m:Nat}
def zmM (m n:Nat):Nat:=Nat.bitwise (λa b=>a&&!b) m n
def zdo (m n i:Nat):(zmM m n).testBit i=(m.testBit i&&!n.testBit i):=Nat.testBit_bitwise rfl m n i
def ziZ (m n:Nat):zmM m n<=m:=Nat.le_of_testBit λi h=>by rw [zdo] at h;simp at h;exact h.1
section
variable {P:pG} {w:wD} {K:vL->Prop} {t:TypeId} {x y:Operand}
def zhD {m n:Nat} (hm:m<4611686018427387904) (hn:n<4611686018427387904) (k:K (.int .i64 ((m &&& n:Nat):Int))):RD P (bin .and t x y (.int .i64 (m:Int)) (.int .i64 (n:Int))) w K:=by
 have:m &&& n<=m:=qbm;refine zba (λw' _=>?_) k;have e1:IntKind.i64.wrap ((m &&& n:Nat):Int)=((m &&& n:Nat):Int):=IntWalk.i64_in _ oo
 have e2:((BitVec.ofInt 64 (m:Int)) &&& (BitVec.ofInt 64 (n:Int))).toNat=m &&& n:=by
   simp only [BitVec.toNat_and,BitVec.ofInt_natCast,BitVec.toNat_ofNat];rw [qbA oo,qbA oo]
 show (do eqGuard .and t x y (.int .i64 (m:Int)) (.int .i64 (n:Int));binOp .and t (.int .i64 (m:Int)) (.int .i64 (n:Int)):Sem vL).run P w'=_;simp only [eqGuard,binOp,Op.intBits];show Result.ok (Value.int .i64 (IntKind.i64.wrap (((BitVec.ofInt 64 (m:Int)) &&& (BitVec.ofInt 64 (n:Int))).toNat:Nat))) w'=_;rw [e2,e1]
def zhE {m n:Nat} (hm:m<4611686018427387904) (hn:n<4611686018427387904) (k:K (.int .i64 ((zmM m n:Nat):Int))):RD P (bin .andNot t x y (.int .i64 (m:Int)) (.int .i64 (n:Int))) w K:=by
 have hlt:zmM m n<=m:=ziZ m n;refine zba (λw' _=>?_) k;have e1:IntKind.i64.wrap ((zmM m n:Nat):Int)=((zmM m n:Nat):Int):=IntWalk.i64_in _ oo
 have e2:((BitVec.ofInt 64 (m:Int)) &&& ~~~(BitVec.ofInt 64 (n:Int))).toNat=zmM m n:=by
   apply qbi;intro i;have g0:m<2^64:=oo;have g1:n<2^64:=oo;simp only [BitVec.testBit_toNat,BitVec.getLsbD_and,BitVec.getLsbD_not,BitVec.ofInt_natCast,BitVec.getLsbD_ofNat,zdo];by_cases hi:i<64
   . simp [hi]
   have:m.testBit i=false:=qbs (qap g0 (qaE oo oo));simp [hi,this]
 show (do eqGuard .andNot t x y (.int .i64 (m:Int)) (.int .i64 (n:Int));binOp .andNot t (.int .i64 (m:Int)) (.int .i64 (n:Int)):Sem vL).run P w'=_;simp only [eqGuard,binOp,Op.intBits];show Result.ok (Value.int .i64 (IntKind.i64.wrap (((BitVec.ofInt 64 (m:Int)) &&& ~~~(BitVec.ofInt 64 (n:Int))).toNat:Nat))) w'=_;rw [e2,e1]
def zDC {m n:Nat} {ku:IntKind} (hm:m<4611686018427387904) (k:K (.int .i64 ((m >>> n:Nat):Int))):RD P (bin .shr t x y (.int .i64 (m:Int)) (.int ku (n:Int))) w K:=by
 refine zba (λw' _=>?_) k;have e0:¬((n:Int)<0):=oo
 have e1:(m:Int).fdiv (2^(min n 64))=((m >>> n:Nat):Int):=by
   rw [qby];have h2:((2:Int)^(min n 64))=((2^(min n 64):Nat):Int):=by simp
   rw [h2,qcK _ (Int.natCast_nonneg _),<-Int.natCast_ediv];by_cases h:n<=64
   . rw [qbv h]
   rw [Nat.min_eq_right oo,qck oo,qck (qap (by omega:m<2^64) (qaE oo oo))]
 show (do eqGuard .shr t x y (.int .i64 (m:Int)) (.int ku (n:Int));binOp .shr t (.int .i64 (m:Int)) (.int ku (n:Int)):Sem vL).run P w'=_;simp only [eqGuard,binOp,Op.shift,e0,if_false,qal];show Result.ok (Value.int .i64 ((m:Int).fdiv (2^(min n 64)))) w'=_;rw [e1]
end
def zdy (m:Nat):Nat->List Int
 | 0=>[]
 | k+1=>if m.testBit k then zdy m k++[(k:Int)] else zdy m k
theorem zeQ (m:Nat):∀ k,(zdy m k).length<=k
 | 0=>qaz _
 | k+1=>by
   have:=zeQ m k;rw [zdy];split
   . simp;omega
   omega
theorem zmN {m k:Nat} (h:m<2^k):∀ {j:Nat},k<=j->zdy m j=zdy m k
 | 0,hj=>by rw [Nat.le_zero.1 hj]
 | j+1,hj=>by
   by_cases e:k=j+1
   . rw [e]
   rw [zdy,qab,zmN h oo];rw [qbs (qap h (qaE oo oo))];simp
def zby (m:Nat):List Int:=zdy m 64
def zjQ (h:m<2^k) (hk:k<=64):zby m=zdy m k:=zmN h hk
theorem zd3 {m:Nat} {x:Int}:∀ {k:Nat},x∈zdy m k↔∃ i,i<k/\x=(i:Int)/\m.testBit i=true
 | 0=>by simp [zdy]
 | k+1=>by
   rw [zdy];constructor
   . intro h;split at h
     . rename_i hb;rcases qae.1 h with h | h
       . obtain ⟨i,h1,h2,h3⟩:=zd3.1 h;exact ⟨i,oo,h2,h3⟩
       simp at h;exact ⟨k,oo,h,hb⟩
     obtain ⟨i,h1,h2,h3⟩:=zd3.1 h;exact ⟨i,oo,h2,h3⟩
   rintro ⟨i,h1,h2,h3⟩;by_cases e:i=k
   . subst e;rw [qah h3];simp [h2]
   have:=(zd3 (m:=m) (x:=x) (k:=k)).2 ⟨i,oo,h2,h3⟩;split
   . simp [this]
   exact this
def zzm (m i:Nat):decide (((m >>> i &&& 1:Nat):Int)=1)=m.testBit i:=by
 have h:m >>> i &&& 1=(m.testBit i).toNat:=by
   rw [qcL,Nat.testBit_eq_decide_div_mod_eq,qby];rcases qcJ (m / 2^i) with h | h<;>simp [h]
 rw [h];cases m.testBit i<;>rfl
theorem zBE (m i:Nat):decide (((m &&& 2^i:Nat):Int)≠0)=m.testBit i:=by
 have hp:0<2^i:=Nat.pow_pos oo;cases hb:m.testBit i with
 | false=>
   have:m &&& 2^i=0:=by
     apply qbi;intro j;rw [qaX,qaN];by_cases e:i=j
     . subst e;simp [hb]
     simp [e]
   simp [this]
 | true=>
   have:m &&& 2^i≠0:=λe=>by
     have:=qax (·.testBit i) e;simp [qaX,qaN,hb] at this
   simp only [ne_eq,qau];omega
def zva:m >>> i=0↔m<2^i:=by
 rw [qby,Nat.div_eq_zero_iff];have:¬(2^i=0):=by have:0<2^i:=Nat.pow_pos oo;omega
 simp [this]
end Go.Sh
namespace Go.Proofs.YtkgiigmcbgifdaaGreat
open Go Go.Sh Go.Proofs
open Rep (rep)
variable {C F G out:List Nat} {K:vL->Prop} {P:pG} {W0 W1 w:wD} {a op:Int} {ag:Bool} {b h i j k l m n o p q r:Nat} {c:DCode} {s:DState} {v0 v1:vL}
def zgB   (hm:m<4611686018427387904) (hi:i<4611686018427387904) :
   CALL tp 54 [.int .i64 (m:Int),.int .i64 (i:Int)] w λr w'=>Ext w w'/\(r=.bool (m.testBit i)):=by
 refine co (g:=kf [] [] []) Tryz.func54 ?_;refine zcq kK u94 oo<|zDC oo<|zhD (n:=1) (qaL (Nat.shiftRight_le m i) hm) oo<|zai<|⟨xrf w,?_⟩;rw [zzm]
def zdR   (hm:m<4611686018427387904) :
   CALL tp 18 [.int .i64 (m:Int)] w λr w'=>Ext w w'/\(Own w.heap.size w' r (zby m)):=by
 refine co (g:=kf [] [(3,524280,[3,4])] []) Tryz.func18 ?_;refine zap (62) (λk us w'=>∃ v:vL,us=[v,.int .i64 (k:Int)]/\Ext w w'/\(RowI w.heap.size w'.heap.size 3 w' v (zdy m k))) (0) oo ⟨_,rfl,xrf w,zb7 _ _ _ _⟩ ?_;rintro k m3 _ _ _ ⟨_,hu,y1,C⟩;have σ1:=y1.size;obtain ⟨g1,g2⟩:=zcZ hu;try rw [g1]
 try rw [g2]
 try clear g1 g2
 have:=zeQ m k;refine zcq kK u94 oo<|zDC oo<|zaT<|br (λc1=>?_) (λc1=>?_)
 . have:k<62:=by
     rcases qay k 62 with h | h
     . exact h
     have h1:m<2^k:=qap (show m<2^62 by omega) (qaE oo h);exact absurd (by rw [zva.2 h1];rfl) c1
   refine (zgB oo oo).mono ?_;rintro _ g3 ⟨y2,rfl⟩;have σ2:=y2.size;refine zbX (λc2=>?_) (λc2=>?_)
   . refine zbM (α:=Int) u25 ty3 z3 zc3 qd (C.ext y2) oo (zbI (lo:=g3.heap.size) (hi:=g3.heap.size) (by first | assumption | (unfold I64 at *;omega))) oo oo (by rw [zaj];omega) oo λ_ _ g0 g5=>?_;have g4:=g0.size;refine zau<|⟨m3-1,oo,k+1,oo,_,rfl,(Ext.chgI (y1.t y2) g0 oo),?_⟩;rw [zdy,qah c2];exact g5
   refine zau<|⟨m3-1,oo,k+1,oo,_,rfl,(y1.t y2),?_⟩;rw [zdy,qab (by simp [c2])];exact (C.ext y2).mono oo oo
 refine ⟨y1,?_⟩;have h1:m >>> k=0:=by have:=qai.1 c1;omega
 rw [zjQ (zva.1 h1) oo];exact C.own.own
def zjR   (hi:i<62) :
   CALL tp 68 [.int .i64 (i:Int)] w λr w'=>Ext w w'/\(r=.int .i64 ((2^i:Nat):Int)):=by
 refine co (g:=kf [] [] []) Tryz.func68 ?_;refine zcq kK u94 oo<|zeA oo<|⟨xrf w,?_⟩;rfl
def zvb   (hm:m<4611686018427387904) (hi:i<62) :
   CALL tp 126 [.int .i64 (m:Int),.int .i64 (i:Int)] w λr w'=>Ext w w'/\(r=.bool (m.testBit i)):=by
 refine co (g:=kf [] [] []) Tryz.func126 ?_;refine (zjR oo).mono ?_;rintro _ _ ⟨y1,rfl⟩;have:2^i<4611686018427387904:=qap (qaT oo hi) (by omega:2^62<=4611686018427387904);refine zhD oo oo<|zaT<|⟨y1,?_⟩;rw [zBE]
def zp1    :
   CALL tp 125 [.int .i64 a] w λr w'=>Ext w w'/\(r=.bool (decide (0<=a/\a<=63))):=by
 refine co (g:=kf [] [] []) Tryz.func125 ?_;refine (l01In_ok ).mono ?_;rintro _ _ ⟨y1,rfl⟩;refine ⟨y1,?_⟩;rfl
def zzn   (hm:m<64) :
   CALL tp 69 [.int .i64 (m:Int)] w λr w'=>Ext w w'/\(Own w.heap.size w' r (zby m)):=by
 refine co (g:=kf [] [(3,2097112,[3,4])] []) Tryz.func69 ?_;refine zaD (α:=Int) u25 ty3 λ_ g0 y1 o5=>?_;have σ1:=y1.size;refine zap (6) (λk us w'=>∃ v:vL,us=[v,.int .i64 (k:Int)]/\Ext g0 w'/\(RowI g0.heap.size w'.heap.size 3 w' v (zdy m k))) (0) oo ⟨_,rfl,xrf g0,zcd _ _ _ _ _⟩ ?_;rintro k m3 _ _ _ ⟨_,hu,y2,C⟩;have σ2:=y2.size;obtain ⟨g1,g2⟩:=zcZ hu;try rw [g1]
 try rw [g2]
 try clear g1 g2
 have hrl:=zeQ m k;refine (zp1 ).mono ?_;rintro _ _ ⟨y3,rfl⟩;have σ3:=y3.size;refine br (λc1=>?_) (λc1=>?_)
 . refine zaf ?_;refine br (λc2=>?_) (λc2=>?_)
   . refine (zvb oo oo).mono ?_;rintro _ g3 ⟨y4,rfl⟩;have σ4:=y4.size;refine zbX (λc3=>?_) (λc3=>?_)
     . refine zbM (α:=Int) u25 ty3 z3 zc3 qd (C.ext (y3.t y4)) oo (zbI (lo:=g3.heap.size) (hi:=g3.heap.size) (by first | assumption | (unfold I64 at *;omega))) oo oo (by rw [zaj];omega) oo λ_ _ D g5=>?_;have g4:=D.size;have o5_c5:=(o5.ext (y2.t (y3.t y4))).chg D oo;refine zau<|⟨m3-1,oo,k+1,oo,_,rfl,(Ext.chgI ((y2.t y3).trans y4) D oo),?_⟩;rw [zdy,qah c3];exact g5
     refine zau<|⟨m3-1,oo,k+1,oo,_,rfl,(y2.t (y3.t y4)),?_⟩;rw [zdy,qab (by simp [c3])];exact (C.ext (y3.t y4)).mono oo oo
   refine ⟨(y1.t (y2.t y3)),?_⟩;rw [zjQ (k:=6) oo oo];have:k=6:=oo;subst this;exact (C.own.ext y3).own.mono oo
 refine ⟨(y1.t (y2.t y3)),?_⟩;exact absurd c1 oo
def zib (hc:CodeR c) (hs:zaV c s) (t:Int):-1<=zaO c s t/\zaO c s t<c.locks.length/\(0<=zaO c s t->(zaO c s t).toNat<s.owner.length/\0<=ow s (zaO c s t)/\ow s (zaO c s t)<s.stacks.length):=by
 unfold zaO;split
 . rename_i h;have h1:=zdm hc hs h.1 (.inl h.2.1);have h2:=zpW hs h1.1 h1.2;have:=hs.2.1;refine ⟨oo,oo,λ_=>⟨h1.2,h.2.2,h2.2⟩⟩
 exact ⟨oo,oo,λh=>oo⟩
def zhg (c:DCode) (s:DState) (t:Int):Nat->Nat->Int->Nat
 | 0,_,_=>0
 | n+1,m,u=>if zaO c s u<0 then 0 else if ow s (zaO c s u)=t then m ||| 2^(zaO c s u).toNat else zhg c s t n (m ||| 2^(zaO c s u).toNat) (ow s (zaO c s u))
def ze9 (c:DCode) (s:DState) (t:Int):Nat:=zhg c s t s.stacks.length 0 t
def zox (hm:m<64) (hi:i<6):m ||| 2^i<64:=qa2 (n:=6) hm (qaT oo hi)
theorem zvc {c:DCode} {s:DState} (hc:CodeR c) (hs:zaV c s) (t:Int):∀ n m u,m<64->zhg c s t n m u<64
 | 0,_,_,_=>by rw [zhg];omega
 | n+1,m,u,hm=>by
   have h1:=zib hc hs u;have h2:=hc.1.locks6;rw [zhg];split
   . omega
   have h3:=zox hm (i:=(zaO c s u).toNat) oo;split
   . exact h3
   exact zvc hc hs t n _ _ h3
def zrL (hc:CodeR c) (hs:zaV c s) (t:Int):ze9 c s t<64:=zvc hc hs t _ _ _ oo
def zEX {t:Int}  (h0:Is W0 v0 c) (e0:Ext W0 w) (h1:Is W1 v1 s) (e1:Ext W1 w) (hc:CodeR c) (hs:zaV c s) :
   CALL tp 19 [v0,v1,.int .i64 t] w λr w'=>Ext w w'/\(r=.int .i64 (ze9 c s t:Int)):=by
 refine co (g:=kf [] [(3,34359722944,[7,8,14])] []) Tryz.func19 ?_;refine zax zbY rfl h0 e0 λ_ y1 _ gc=>zax zch rfl h1 (e1.trans y1) λg0 y2 gd g1=>zaa zbc<|zab zeV (zaB gd) (xrf g0) λ_ g2=>?_;have:=zak g2;refine zae u31 g2<|zap (s.stacks.length) (λk us w'=>∃ q:Nat×Int,us=[.int .i64 (q.1:Int),.int .i64 q.2,.int .i64 (k:Int)]/\Ext g0 w'/\(q.1<64/\zhg c s t (s.stacks.length-k) q.1 q.2=ze9 c s t)) (0) oo ⟨(0,t),rfl,xrf g0,sS,rfl⟩ ?_;rintro k m3 _ _ _ ⟨q,hu,y3,g3,C⟩;obtain ⟨g4,g5,g9⟩:=zFG hu;try rw [g4]
 try rw [g5]
 try rw [g9]
 try clear g4 g5 g9
 obtain ⟨q,u⟩:=q;simp only at g3 C ⊢;have hw:=zib hc hs u;have:=hc.1.locks6;have:=hs.2.2.1;refine zaf<|br (λc1=>?_) (λc1=>?_)
 . refine zbr gc (y2.t y3) ?_;refine zbr g1 y3 ?_;refine (zBy h0 (e0.t (y1.t (y2.t y3))) h1 (e1.trans (y1.t (y2.t y3))) aA aA).mono ?_;rintro _ _ ⟨y4,rfl⟩;refine zaf<|br (λc2=>?_) (λc2=>?_)
   . refine ⟨(y1.t (y2.t (y3.t y4))),?_⟩;rw [show s.stacks.length-k=(s.stacks.length-k-1)+1 by omega,zhg,qah oo] at C;rw [<-C];rfl
   rw [show s.stacks.length-k=(s.stacks.length-k-1)+1 by omega,zhg,qab oo] at C;obtain ⟨l,hl⟩:∃ l:Nat,zaO c s u=(l:Int):=⟨(zaO c s u).toNat,oo⟩;have gb:=hw.2.2 oo;rw [hl] at hw gb C ⊢;simp only [qal] at C gb;have gf:=zox g3 (i:=l) oo;have:2^l<64:=qaT (n:=6) oo oo;refine zcq kK u94 oo<|zeA oo<|zhk oo oo<|zbr g1 (y3.t y4) ?_;refine (ziX h1 (e1.trans (y1.t (y2.t (y3.t y4)))) oo oo).mono ?_;rintro _ _ ⟨y5,rfl⟩;refine zai<|br (λc3=>?_) (λc3=>?_)
   . refine ⟨(y1.t (y2.t (y3.t (y4.t y5)))),?_⟩;rw [qah oo] at C;rw [C]
   refine zau<|⟨m3-1,oo,k+1,oo,(q ||| 2^l,max (ow s (l:Int)) (-1)),rfl,(y3.t (y4.t y5)),?_⟩;rw [qab oo] at C;refine ⟨gf,?_⟩;rw [<-C];simp only;rw [show max (ow s (l:Int)) (-1)=ow s (l:Int) by omega,Nat.sub_sub]
 refine ⟨(y1.t (y2.t y3)),?_⟩;rw [show s.stacks.length-k=0 by omega,zhg] at C;rw [<-C];rfl
def zrM {t:Int}  (h0:Is W0 v0 c) (e0:Ext W0 w) (h1:Is W1 v1 s) (e1:Ext W1 w) (hc:CodeR c) (hs:zaV c s) :
   CALL tp 27 [v0,v1,.int .i64 t] w λr w'=>Ext w w'/\(Own w.heap.size w' r (zby (ze9 c s t))):=by
 refine co (g:=kf [] [(4,1099511625664,[7,8,9])] []) Tryz.func27 ?_;have σe0:=e0.size;have σe1:=e1.size;refine zax zbY rfl h0 e0 λ_ y1 _ gf=>?_;have σ1:=y1.size;refine zax zch rfl h1 (e1.trans y1) λg2 y2 g3 gg=>?_;have σ2:=y2.size;refine zap (s.stacks.length) (λk us w'=>∃ q:Nat×Int,us=[.int .i64 (q.1:Int),.int .i64 q.2,.int .i64 (k:Int)]/\Ext g2 w'/\(q.1<64/\zhg c s t (s.stacks.length-k) q.1 q.2=ze9 c s t)) (0) oo ⟨(0,t),rfl,xrf g2,sS,rfl⟩ ?_;rintro k m4 _ _ _ ⟨q,hu,y3,g4,C⟩;have σ3:=y3.size;obtain ⟨g5,g9,gb⟩:=zFG hu;try rw [g5]
 try rw [g9]
 try rw [gb]
 try clear g5 g9 gb
 obtain ⟨q,u⟩:=q;simp only at g4 C ⊢;have hw:=zib hc hs u;have:=hc.1.locks6;have:=hs.2.2.1;refine zaa zbc<|zab zeV (zaB g3) y3 λ_ gc=>?_;have:=zak gc;refine zae u31 gc<|zaf<|br (λc1=>?_) (λc1=>?_)
 . refine zbr gf (y2.t y3) ?_;refine zbr gg y3 ?_;refine (ztu h0 (e0.t (y1.t (y2.t y3))) h1 (e1.trans (y1.t (y2.t y3))) aA aA).mono ?_;rintro _ _ ⟨y4,rfl⟩;have σ4:=y4.size;refine zaf<|br (λc2=>?_) (λc2=>?_)
   . refine zaD (α:=Int) u25 ty3 λ_ _ y5 gh=>?_;have σ5:=y5.size;refine ⟨(y1.t (y2.t (y3.t (y4.t y5)))),?_⟩;rw [show s.stacks.length-k=(s.stacks.length-k-1)+1 by omega,zhg,qah oo] at C;rw [<-C];exact gh.own.own.mono oo
   rw [show s.stacks.length-k=(s.stacks.length-k-1)+1 by omega,zhg,qab oo] at C;obtain ⟨l,hl⟩:∃ l:Nat,zaO c s u=(l:Int):=⟨(zaO c s u).toNat,oo⟩;have g0:=hw.2.2 oo;rw [hl] at hw g0 C ⊢;simp only [qal] at C g0;have gi:=zox g4 (i:=l) oo;have:2^l<64:=qaT (n:=6) oo oo;refine (zjR oo).mono ?_;rintro _ _ ⟨y6,rfl⟩;have σ6:=y6.size;refine zhk oo oo<|zaa zdN<|zab zaS (zcy g3) (y3.t (y4.t y6)) λ_ gj=>zaC u25 ty3 gj oo oo λ_ _ gd=>?_;rw [zkE oo (by simpa using g0.1)] at gd;refine zac ty3 gd (y3.t (y4.t y6)) λ_=>zai<|br (λc3=>?_) (λc3=>?_)
   . rw [qah c3] at C;refine (zzn oo).mono ?_;rintro _ _ ⟨y7,g1⟩;have g1:=g1.toI;have σ7:=y7.size;refine ⟨(y1.t (y2.t (y3.t (y4.t (y6.t y7))))),?_⟩;rw [<-C];exact g1.own.mono oo
   refine zau<|⟨m4-1,oo,k+1,oo,(q ||| 2^l,ow s (l:Int)),rfl,(y3.t (y4.t y6)),?_⟩;rw [qab c3] at C;refine ⟨gi,?_⟩;rw [<-C,Nat.sub_sub]
 refine zaD (α:=Int) u25 ty3 λ_ _ y8 gl=>?_;have σ8:=y8.size;refine ⟨(y1.t (y2.t (y3.t y8))),?_⟩;rw [show s.stacks.length-k=0 by omega,zhg] at C;rw [<-C];exact gl.own.own.mono oo
def zwy:zby 0=[]:=by rw [zjQ (k:=0) oo oo];rfl
def zty (c:DCode) (s:DState):Nat->Nat
 | 0=>0
 | k+1=>if ze9 c s k≠0 then zty c s k ||| 2^(zaO c s k).toNat else zty c s k
def orL (sets:List Nat) (l:List Int):Nat:=l.foldl (λa i=>a ||| sets.getD i.toNat 0) 0
def zBF (r:List Nat) (l:List Int) (i:Int):orL r (l++[i])=orL r l ||| r.getD i.toNat 0:=by simp [orL]
def zvd {r:List Nat} (hs:∀ x∈r,x<256) (l:List Int):orL r l<256:=by
 have g0:∀ (l:List Int) (a:Nat),a<256->l.foldl (λa i=>a ||| r.getD i.toNat 0) a<256:=λl=>by
   induction l with
   | nil=>exact λa h=>h
   | cons i l ih=>
     intro a ha;rw [qbt];refine ih _ (qa2 (n:=8) ha ?_);rw [List.getD_eq_getElem?_getD];cases h:r[i.toNat]? with
     | none=>simp
     | some x=>exact hs x (List.mem_of_getElem? h)
 exact g0 l 0 oo
def zic (h0:Is W0 v0 (za5 C)) (e0:Ext W0 w) (hs:∀ x∈C,x<256) (hl:C.length<=8) (hm:m<2^C.length) :
   CALL tp 129 [v0,.int .i64 (m:Int)] w λr w'=>Ext w w'/\r=.int .i64 (orL C (zby m):Nat):=by
 refine co (g:=kf [] [(3,4192416,[5,11])] []) Tryz.func129 ?_;have gb:2^C.length<=2^8:=qaE oo hl;refine (zdR (m:=m) oo).mono ?_;rintro _ w1 ⟨g3,g4⟩;have hbl:(zby m).length<=64:=zeQ m 64;refine zae u25 g4.is<|zap (zby m).length (λk us w'=>us=[.int .i64 ((orL C ((zby m).take k):Nat):Int),.int .i64 (k:Int)]/\k<=(zby m).length/\Ext w1 w') 0 (z0 _) ⟨rfl,z0 _,xrf _⟩ ?_;rintro k mk _ _ _ ⟨hu,_,g0⟩;obtain ⟨gc,gd⟩:=zcZ hu;rw [gc,gd];refine zaf<|br (λ_=>?_) (λ_=>?_)
 case refine_2=>
   have:k=(zby m).length:=oo;rw [this,qaB];exact ⟨g3.t g0,rfl⟩
 have hk:k<(zby m).length:=oo;have g1:(zby m)[k]∈zby m:=qac hk;obtain ⟨i,_,hi2,g5⟩:=zd3.1 g1
 have g2:i<C.length:=qbf λ_=>by
   have:=qbs (qap hm (qaE oo (by omega:C.length<=i)));rw [this] at g5;cases g5
 refine zad u25 ty3 (i:=k) g4.is hk λ_ _ gf=>zac ty3 gf g0 λ_=>?_;rw [hi2];refine zad u25 ty3 (i:=i) h0 (by rw [zah];exact g2) λ_ _ g9=>?_;rw [za9] at g9;refine zac ty3 g9 ((e0.t g3).trans g0) λ_=>?_;have h1:=zvd hs ((zby m).take k);have h2:=hs C[i] (qac g2);refine zhk oo oo<|zau<|⟨mk-1,oo,k+1,oo,?_,oo,g0⟩;rw [tk hk,zBF,hi2,qal,List.getD_eq_getElem?_getD,List.getElem?_eq_getElem g2];rfl
noncomputable def zrN (c:DCode) (p:Nat):List Nat:=zbK c.procs.length (zow c p 4)
def ztz {a:Nat} (h0:Is W0 v0 c) (e0:Ext W0 w) (hc:CodeR c) (ha:a<c.procs.length) :
   CALL tp 274 [v0,.int .i64 (a:Int)] w λr w'=>Ext w w'/\∃ m,r=.slice (some ⟨m,0,none⟩) c.procs.length c.procs.length/\w.heap.size<=m/\Mine [m] w' (.slice (some ⟨m,0,none⟩) c.procs.length c.procs.length) (zdQ c.procs.length λi=>i=a\/RP (zrN c) a i):=by
 refine co (g:=kf [] [(5,288230376151188416,[6,7]),(9,288230374004228672,[6,9])] [(7,[0,1,2,3,4,5,6],0)]) Tryz.func274 ?_;have h8:=hc.1.procs8;have hep:=hc.2.1.1;have g5:∀ x,zrN c x=zbK c.procs.length (zow c x 4):=λ_=>rfl;refine zbp h0 e0 λw1 gq hA=>zaa zdl<|zab zdt (zbd hA) (xrf _) λ_ gJ=>zae u24 gJ ?_;generalize hn:c.procs.length=n at *;have gK:∀ {i j:Nat},i<n->j∈zrN c i->j<n/\True:=λ{i j} _ hj=>by rw [g5] at hj;exact ⟨(zaI.1 hj).1,trivial⟩
 have g9:∀ x,(zrN c x).length<=n:=λx=>by rw [g5];exact zbz
 refine zg3 h8.2 oo λw2 gr gM=>?_;have hs1:=gq.size;have hs2:=gr.size;refine zcU (α:=Bool) rfl zfU ty4 ha<|zb5 (α:=Bool) rfl ty4 gM sS ha zcx λgs gN g0=>?_;have g1:ChgI w1.heap.size (w1.heap.size+1) w2 gs:=gN.toI λb hb=>by simp only [qaa,qad,qaq] at hb;omega
 have gO:=g1.size;have gb:((List.replicate n false).set a true).length=n:=by simp
 have gt:∀ i,mkd ((List.replicate n false).set a true) i↔i=a:=λi=>by
   rw [zdj (by simp;exact ha)];exact ⟨λh=>h.resolve_left zb8,.inr⟩
 generalize (List.replicate n false).set a true=M0 at *;refine zci (x:=(a:Int)) u25 ty3 z3 qd (zbt io) λgx w3 gc gP=>?_;have gQ:=gc.size;generalize hm:w1.heap.size=m at *;have gR:WI w1 w3 m n gs.heap.size w3.heap.size gx [a] M0:=⟨(gr.toI.trans g1).trans gc.toI,gP,g0.ext gc,oo,by have:=g0.lt m sS;omega,gQ,qaz _⟩;generalize zrN c=nx at *;refine zap (1+n) (λh us w'=>∃ (tv:vL) (lo hi:Nat) (L:List Nat) (ms:List Bool),us=[tv,.int .i64 (h:Int)]/\h<=L.length/\WI w1 w' m n lo hi tv L ms/\SInv nx n a M0 ms (L.drop h) h) 0 (z0 _) ⟨gx,_,_,[a],_,rfl,sS,gR,SInv.start gb ha⟩ ?_;rintro h mk _ w4 _ ⟨tv,lo,hi,L,ms,hu,_,g4,D⟩;obtain ⟨gS,gU⟩:=zcZ hu;rw [gS,gU];have gV:=D.bound;rw [qa8] at gV;refine zae u25 g4.row.is ?_;rw [zah];refine zaf<|br (λ_=>?_) (λ_=>?_)
 case refine_2=>
   have gW:h=L.length:=oo;rw [gW,qbB] at D;have gd:=D.fin λi hi gX=>absurd ((gt i).1 hi) gX;have gY:ms=zdQ n (λi=>i=a\/RP nx a i):=zcT D.len λi hi=>by rw [gd i,gt]
   rw [<-gY];have gZ:Ext w1 w4:=(xrf w1).chgI g4.chg oo;exact ⟨gq.t gZ,m,rfl,oo,g4.mks⟩
 have hh:h<L.length:=oo;have h4:=zag w4;have I:=g4.step h4;generalize World.drew1 w4=w5 at *;have gy:∀ {w:wD} {lo hi tv L ms},WI w1 w m n lo hi tv L ms->Ext w1 w:=λh=>(xrf w1).chgI h.chg oo;refine zab zbY hA (gy I) λ_ h5=>zad u25 ty3 (i:=h) I.row.is (by rw [zah];exact hh) λb1 o1 V=>?_;rw [za9] at V;refine zac ty3 V (xrf _) λ_=>?_;generalize hx:L[h]=x at *;have gf:L.drop h=x :: L.drop (h+1):=by rw [qaA hh,hx]
 have h6:x<n:=(D.tdo x (by rw [gf];simp)).2;refine (zrK h5 (gy I) hc oo (.inl rfl)).mono ?_;rintro gg w6 ⟨h9,gz⟩;rw [hn,<-g5] at gz;have hd:=I.step h9;have he:=I.h3;have hm6:=I.mks.lt m sS;have hg:SIn2 nx n a M0 ms (L.drop (h+1)) h x 0:=D.pop (λi=>by rw [gf];simp [or_comm]) (by rw [gf];simp);have hl2:=g9 x;refine zap (nx x).length (λq us w'=>∃ (tv:vL) (lo hi:Nat) (L:List Nat) (ms:List Bool),us=[tv,.int .i64 (q:Int)]/\q<=(nx x).length/\h<L.length/\WI w1 w' m n lo hi tv L ms/\SIn2 nx n a M0 ms (L.drop (h+1)) h x q/\OwnI w5.heap.size w6.heap.size w' gg (za5 (nx x))/\(hi<=w5.heap.size\/w6.heap.size<=lo)/\w6.heap.size<=w'.heap.size) 0 (z0 _) ⟨tv,lo,hi,L,ms,rfl,z0 _,hh,hd,hg,gz.toI,.inl he,qaz _⟩ ?_;rintro q gC _ w7 _ ⟨gD,gE,gF,L7,O,hk,_,hl,X,Y,U,hr,hs⟩;obtain ⟨gh,gi⟩:=zcZ hk;rw [gh,gi];refine zae u25 U.is ?_;rw [zah];refine zaf<|br (λ_=>?_) (λ_=>?_)
 case refine_2=>refine zau<|⟨mk-1,oo,h+1,oo,gD,gE,gF,L7,O,rfl,oo,X,Y.done oo⟩
 have hq:q<(nx x).length:=oo
 have gj:∀ {w:wD} {K:vL->Prop} (ho:OwnI w5.heap.size w6.heap.size w gg (za5 (nx x))) (k:K (.int .i64 (((nx x)[q]:Nat):Int))),RD tp (Instr.indexAt 25 gg (.int .i64 (q:Int))) w λht=>RD tp (Instr.loadAt 3 ht) w K:=λho k=>by
   refine zad u25 ty3 (i:=q) ho.is (by rw [zah];exact hq) λb1 o1 V=>?_;rw [za9] at V;exact zac ty3 V (xrf _) λ_=>k
 have hy:=gK h6 (qac hq);refine gj U ?_;have C:=Y.len;refine zad zfU ty4 X.mks.is (by rw [C];exact hy.1) λ_ _ hv=>zbi ty4 hv (xrf _)<|za2 ?_;have g2:=zce (ms:=O) (i:=(nx x)[q]) (by rw [C];exact hy.1);refine zbX (λhf=>?_) (λhf=>?_)
 . have gl:¬mkd O (nx x)[q]:=by rw [g2];simpa using hf
   refine gj U<|zcU (α:=Bool) rfl zfU ty4 hy.1<|zb5 (α:=Bool) rfl ty4 X.mks C hy.1 zcx λw8 gG hw=>?_;have gH:=X.mark gG hw;have g3:ChgI m (m+1) w7 w8:=gG.toI λb hb=>by simp only [qaa,qad,qaq] at hb;omega
   have gI:=U.chg g3 oo;refine gj gI ?_;have hz:=Y.push hq hy.1 gl;generalize (nx x)[q]=y at *
   have hLb:L7.length<=2+n:=by
     have h1:=Y.cnt;have h2:=zhu O;rw [qa8] at h1;omega
   refine zek (x:=(y:Int)) u25 ty3 z3 zc3 qd gH.row (zeo 0 0 io) (by rw [zaj,zah];omega) (by rw [zah];omega) λhB _ hC hD gp hF hG=>?_;have hH:=gH.push gp hF hG;have hI:=g3.size;have hJ:=U.is;refine zau<|⟨gC-1,oo,q+1,oo,hB,hC,hD,L7++[y],_,rfl,oo,by simp;omega,hH,?_,gI.chg gp oo,oo,by have:=gp.size;omega⟩;rw [qb0 oo];exact hz
 have gl:mkd O (nx x)[q]:=by rw [g2];simpa using hf
 refine zau<|⟨gC-1,oo,q+1,oo,gD,gE,gF,L7,O,rfl,oo,hl,X,Y.skip hq gl,U,hr,hs⟩
noncomputable def m6 (p:Nat->Prop):Nat:=zc0 p 6
def zhd {p:Nat->Prop}:(m6 p).testBit l=true↔l<6/\p l:=za6
def zp2 {p:Nat->Prop}:m6 p<64:=zkv (n:=6)
def zg4 (h:m<64) (hb:m.testBit l=true):l<6:=qbf λhc=>by
 have:=qbs (qap (show m<2^6 from h) (qaE oo (by omega:6<=l)));rw [this] at hb;cases hb
def zzo {p:Nat->Prop} (h:m<64) (hb:∀ l,l<6->(m.testBit l=true↔p l)):m=m6 p:=
 zeP λl=>⟨λe=>⟨zg4 h e,(hb l (zg4 h e)).1 e⟩,λe=>(hb l e.1).2 e.2⟩
def zBG {p q:Nat->Prop} (h:∀ l,l<6->(p l↔q l)):m6 p=m6 q:=zbE h
def zgC (h:¬m.testBit l=false):m.testBit l=true:=by simpa using h
def zaE (l:List Nat) (i:Nat):Nat:=l.getD i 0
def zbn {l:List Nat} (h:i<l.length):l[i]=zaE l i:=by unfold zaE;rw [List.getD_eq_getElem?_getD,List.getElem?_eq_getElem h];rfl
def zcj {l:List Nat} {i j v:Nat} (hi:i<l.length):zaE (l.set i v) j=if i=j then v else zaE l j:=by
 unfold zaE;rw [List.getD_eq_getElem?_getD,List.getD_eq_getElem?_getD,List.getElem?_set];by_cases h:i=j
 . subst h;simp [hi]
 simp [h]
theorem zkI:∀ {l:List Nat} {i v:Nat},i<l.length->(l.set i v).sum+zaE l i=l.sum+v
 | x :: l,0,v,_=>by simp [zaE];omega
 | x :: l,i+1,v,h=>by
   have:=zkI (l:=l) (i:=i) (v:=v) (by simpa using h);simp only [zaE,List.set_cons_succ,qc0,List.getD_cons_succ] at this ⊢;omega
def zid (l:List Nat) (i v:Nat):za5 (l.set i v)=(za5 l).set i (v:Int):=by simp [za5,qcp]
theorem sum_le {l:List Nat} (h:∀ x∈l,x<=b):l.sum<=l.length*b:=by
 induction l with
 | nil=>simp
 | cons x l ih=>
   have:=ih λy hy=>h y (by simp [hy]);have:=h x sS;rw [qc0,qak,qbp];omega
def zp3 {l:List Nat} (h:i<l.length):zaE l i∈l:=by rw [<-zbn h];exact qac h
def zbk {l:List Nat} (h:i<(za5 l).length):(za5 l)[i]=(zaE l i:Int):=by rw [za9,zbn]
def eN (c:DCode) (p:Nat):Nat:=(en c p).toNat
def zN (c:DCode) (p:Nat):Nat:=(zeX c p-1).toNat
def agN (c:DCode) (i:Nat):Nat:=(zal c i).arg.toNat
def zhF (hc:CodeR c) {p:Nat} (hp:p<c.entry.length):en c p=(eN c p:Int)/\eN c p<c.ins.length/\zas c (eN c p)=p:=by
 have h:=zp0 hc hp;unfold eN;rw [qaI h.1];exact ⟨rfl,oo,h.2.2⟩
def ztA (hc:CodeR c) {p:Nat} (hp:p<c.entry.length):zeX c p=(zN c p:Int)+1/\eN c p<=zN c p/\zN c p<c.ins.length:=by
 have:=hc.f.lt p hp;have:=hc.f.nonneg hp;have h4:=hc.f.lt p hp;have:zeX c p<=c.ins.length:=h4.2;unfold zN eN;omega
def zcF (hc:CodeR c) {p i:Nat} (hp:p<c.entry.length) (h:za4 c p i):i<c.ins.length/\zas c i=p:=by
 have he:=zhF hc hp;rcases h with rfl | h
 . exact ⟨he.2.1,he.2.2⟩
 refine h.keeps (p:=λi=>i<c.ins.length/\zas c i=p) ⟨he.2.1,he.2.2⟩ λi _ hi hj=>?_;have:=zdn hc hi.1 hj;exact ⟨this.1,this.2.trans hi.2⟩
def zzp (h:za4 c p i) (hj:j∈zaA c i):za4 c p j:=by
 rcases h with rfl | h
 . exact .inr (.one hj)
 exact .inr (.more h hj)
def zzq (hc:CodeR c) {p i:Nat} (hi:i<c.ins.length) (hp:p<c.entry.length) (h:zas c i=p):eN c p<=i/\i<=zN c p:=by
 obtain ⟨q,_,_,_,_⟩:=hc.f.find hc.1.procs8.2 (a:=(i:Int)) oo oo;have:q=p:=oo;subst this;have h4:=ztA hc hp;have h5:=zhF hc hp;omega
def zzr (hc:CodeR c) {p i:Nat} (hp:p<c.entry.length) (h1:eN c p<=i) (h2:i<=zN c p):zas c i=p:=by
 have:=ztA hc hp;have:=zhF hc hp;exact hc.f.proc hp oo oo
def zbS (hc:CodeR c) {i:Nat} (hi:i<c.ins.length) (ho:(zal c i).op=4\/(zal c i).op=5):(zal c i).arg=(agN c i:Int)/\agN c i<c.procs.length:=by
 have g0:=(zhz hc hi).2.1;unfold zcz at g0;rw [qab oo,qah oo] at g0;unfold agN;omega
def zdz (hc:CodeR c) {i:Nat} (hi:i<c.ins.length) (ho:(zal c i).op=6\/(zal c i).op=7):(zal c i).arg=(agN c i:Int)/\agN c i<c.locks.length/\agN c i<6:=by
 have:=zu5 hc hi ho;have:=hc.1.locks6;unfold agN;omega
def zGF (c:DCode) (K G:Nat->Nat->Prop) (i l:Nat):Prop:=((zal c i).op=7/\agN c i=l)\/((zal c i).op=4/\¬K (agN c i) l/\¬G (agN c i) l)
def zzs (c:DCode) (G:Nat->Nat->Prop) (i l:Nat):Prop:=¬((zal c i).op=6/\agN c i=l)/\¬((zal c i).op=4/\G (agN c i) l)
inductive LostP (c:DCode) (K G:Nat->Nat->Prop) (p:Nat) (h:Nat->Prop):Nat->Nat->Prop
 | ent {l:Nat} (h0:¬h l):LostP c K G p h (eN c p) l
 | gen {i j l:Nat} (h0:za4 c p i) (hj:j∈zaA c i) (h1:zGF c K G i l):LostP c K G p h j l
 | pass {i j l:Nat} (h0:za4 c p i) (hj:j∈zaA c i) (h1:LostP c K G p h i l) (h2:zzs c G i l):LostP c K G p h j l
theorem LostP.mono {K K' G G':Nat->Nat->Prop} {h h':Nat->Prop} (hK:∀ q l,K' q l->K q l) (hG:∀ q l,G' q l->G q l) (hh:∀ l,h' l->h l) {i l:Nat} (hl:LostP c K G p h i l):LostP c K' G' p h' i l:=by
 induction hl with
 | ent h0=>exact .ent λe=>h0 (hh _ e)
 | gen h0 hj h1=>exact .gen h0 hj (h1.imp id λ⟨a,b,d⟩=>⟨a,λe=>b (hK _ _ e),λe=>d (hG _ _ e)⟩)
 | pass h0 hj _ h2 ih=>exact .pass h0 hj ih ⟨h2.1,λ⟨a,b⟩=>h2.2 ⟨a,hG _ _ b⟩⟩
abbrev Tab:=List (Nat×Nat)
def tbl (T:Tab) (q:Nat):Nat×Nat:=T.getD q (0,0)
def tK (T:Tab) (q l:Nat):Prop:=(tbl T q).1.testBit l=true
def tG (T:Tab) (q l:Nat):Prop:=(tbl T q).2.testBit l=true
def zkJ {T:Tab} (h:q<T.length):T[q]=tbl T q:=by unfold tbl;rw [List.getD_eq_getElem?_getD,List.getElem?_eq_getElem h];rfl
def zEY {T:Tab} {v:Nat×Nat} (h:q<T.length):tbl (T.set q v) r=if q=r then v else tbl T r:=by
 unfold tbl;rw [List.getD_eq_getElem?_getD,List.getD_eq_getElem?_getD,List.getElem?_set];by_cases e:q=r
 . subst e;simp [h]
 simp [e]
def zDD (c:DCode) (T:Tab):Prop:=T.length=c.procs.length/\∀ q,(tbl T q).1<64/\(tbl T q).2<64
def aft (c:DCode) (T:Tab) (i m:Nat):Nat:=
 if (zal c i).op=6 then m ||| 2^agN c i else if (zal c i).op=7 then zmM m (2^agN c i) else if (zal c i).op=4 then (m &&& (tbl T (agN c i)).1) ||| (tbl T (agN c i)).2 else m
def zGG {T:Tab} (hc:CodeR c) (hT:zDD c T) {i m:Nat} (hi:i<c.ins.length) (hm:m<64):aft c T i m<64:=by
 unfold aft;split
 . rename_i h;exact zox hm (zdz hc hi (.inl h)).2.2
 split
 . exact qaL (ziZ _ _) hm
 split
 . exact qa2 (n:=6) (qaL qbm hm) (hT.2 _).2
 exact hm
def zmO {T:Tab}:(aft c T i m).testBit l=false↔zGF c (tK T) (tG T) i l\/(zzs c (tG T) i l/\m.testBit l=false):=by
 unfold aft zGF zzs tK tG;split
 . rename_i h;rw [qaV,qaN];have e6:((zal c i).op=6)=True:=eq_true h;have e4:((zal c i).op=4)=False:=eq_false oo;have e7:((zal c i).op=7)=False:=eq_false oo;simp only [e6,e4,e7,true_and,false_and,false_or,qaq,not_false_eq_true,and_true,Bool.or_eq_false_iff,decide_eq_false_iff_not];exact ⟨λ⟨a,b⟩=>⟨b,a⟩,λ⟨a,b⟩=>⟨b,a⟩⟩
 rename_i h6;have e6:((zal c i).op=6)=False:=eq_false h6;split
 . rename_i h;have e7:((zal c i).op=7)=True:=eq_true h;have e4:((zal c i).op=4)=False:=eq_false oo;rw [zdo,qaN];simp only [e6,e4,e7,true_and,false_and,false_or,qaq,not_false_eq_true,and_true,qbL,qb8,qau];exact ⟨λh=>h.elim .inr .inl,λh=>h.elim .inr .inl⟩
 rename_i h7;have e7:((zal c i).op=7)=False:=eq_false h7;split
 . rename_i h;have e4:((zal c i).op=4)=True:=eq_true h;rw [qaV,qaX];simp only [e6,e4,e7,true_and,false_and,false_or,not_false_eq_true];cases (tbl T (agN c i)).1.testBit l<;>cases (tbl T (agN c i)).2.testBit l<;>cases m.testBit l<;>simp
 rename_i h4;simp [h6,h7,h4]
noncomputable def zd8 (c:DCode) (T:Tab) (p h:Nat):List Nat:=(List.range c.ins.length).map λi=>m6 λl=>¬LostP c (tK T) (tG T) p (λl=>h.testBit l=true) i l
def zhG (c:DCode) (T:Tab) (p h:Nat):(zd8 c T p h).length=c.ins.length:=by simp [zd8]
def zjS {T:Tab} (hi:i<c.ins.length):zaE (zd8 c T p h) i=m6 λl=>¬LostP c (tK T) (tG T) p (λl=>h.testBit l=true) i l:=by
 rw [<-zbn (by rw [zhG];exact hi)];simp [zd8]
def zp4 {T:Tab}:∀ x∈zd8 c T p h,x<64:=λx hx=>by
 unfold zd8 at hx;obtain ⟨i,_,rfl⟩:=qa3.1 hx;exact zp2
structure FL (c:DCode) (T:Tab) (p h:Nat) (out:List Nat):Prop where
 len:out.length=c.ins.length
 lt:∀ x∈out,x<64
 snd:∀ i l,i<c.ins.length->l<6->(zaE out i).testBit l=false->LostP c (tK T) (tG T) p (λl=>h.testBit l=true) i l
 ent:∀ l,l<6->h.testBit l=false->(zaE out (eN c p)).testBit l=false
def FL.lt0 {T:Tab} (h:FL c T p h out) (i:Nat):zaE out i<64:=by
 rcases qay i out.length with hi | hi
 . exact h.lt _ (zp3 hi)
 unfold zaE;rw [List.getD_eq_getElem?_getD,List.getElem?_eq_none hi];simp
def zjT (h:l<6):(63:Nat).testBit l=true:=by
 have:l=0\/l=1\/l=2\/l=3\/l=4\/l=5:=oo;rcases this with rfl | rfl | rfl | rfl | rfl | rfl<;>rfl
def FL.start {T:Tab} (hc:CodeR c) (hp:p<c.entry.length) (hh:h<64):FL c T p h ((List.replicate c.ins.length 63).set (eN c p) h):=by
 have he:=(zhF hc hp).2.1;have hr:(List.replicate c.ins.length 63).length=c.ins.length:=by simp
 have hg:∀ i,i<c.ins.length->zaE (List.replicate c.ins.length 63) i=63:=λi hi=>by rw [<-zbn (by rw [hr];exact hi)];simp
 refine ⟨sS,λ_ hx=>?_,λi l hi hl hb=>?_,λl hl hb=>?_⟩
 . rcases zdx hx with rfl | hx
   . exact hh
   rw [(qcM.1 hx).2];omega
 . rw [zcj (by rw [hr];exact he)] at hb;split at hb
   . rename_i e;subst e;exact .ent (by rw [hb];simp)
   rw [hg i hi,zjT hl] at hb;cases hb
 rw [zcj (by rw [hr];exact he),qah rfl];exact hb
def FL.upd {T:Tab} (hF:FL c T p h out) (hc:CodeR c) (hp:p<c.entry.length) (hT:zDD c T) {i j:Nat} (hi:za4 c p i) (hj:j∈zaA c i) :
   FL c T p h (out.set j (zaE out j &&& aft c T i (zaE out i))):=by
 have g0:=(zcF hc hp hi).1;have g1:=(zdn hc g0 hj).1;refine ⟨by simp [hF.len],λx hx=>?_,λk l hk hl hb=>?_,λl hl hb=>?_⟩
 . rcases zdx hx with rfl | hx
   . exact qaL qbm (hF.lt0 j)
   exact hF.lt x hx
 . rw [zcj (by rw [hF.len];exact g1)] at hb;split at hb
   . rename_i e;subst e;rw [qaX,qbL] at hb;rcases hb with hb | hb
     . exact hF.snd j l hk hl hb
     rcases zmO.1 hb with h1 | ⟨h1,h2⟩
     . exact .gen hi hj h1
     exact .pass hi hj (hF.snd i l g0 hl h2) h1
   exact hF.snd k l hk hl hb
 rw [zcj (by rw [hF.len];exact g1)];split
 . rename_i e;rw [qaX,e,hF.ent l hl hb];rfl
 exact hF.ent l hl hb
def zDE {a b:Nat} (h:a &&& b≠a):a &&& b<a:=by
 have:a &&& b<=a:=qbm;omega
def zG6 (c:DCode) (T:Tab) (out:List Nat) (i:Nat):Prop:=∀ j∈zaA c i,zaE out j &&& aft c T i (zaE out i)=zaE out j
def FL.fin {T:Tab} (hF:FL c T p h out) (hc:CodeR c) (hp:p<c.entry.length) (hs:∀ i,za4 c p i->zG6 c T out i):out=zd8 c T p h:=by
 refine qaU (by rw [hF.len,zhG]) λi h1 h2=>?_;rw [zbn h1,zbn h2,zjS (by rw [<-hF.len];exact h1)];refine zzo (hF.lt0 i) λl hl=>⟨λhb hn=>?_,λhn=>zgC λhb=>hn (hF.snd i l (by rw [<-hF.len];exact h1) hl hb)⟩
 have g0:∀ {i l:Nat},LostP c (tK T) (tG T) p (λl=>h.testBit l=true) i l->l<6->(zaE out i).testBit l=false:=λ{i l} hn=>by
   induction hn with
   | ent h0=>exact λhl=>hF.ent _ hl (by simpa using h0)
   | gen h0 hj h1=>
     intro hl;rw [<-hs _ h0 _ hj,qaX,zmO.2 (.inl h1),qbu]
   | pass h0 hj _ h2 ih=>
     intro hl;rw [<-hs _ h0 _ hj,qaX,zmO.2 (.inr ⟨h2,ih hl⟩),qbu]
 rw [g0 hn hl] at hb;cases hb
def FromP (c:DCode) (p q:Nat):Prop:=q=p\/RP (zrN c) p q
def FromP.lt (hp:p<c.procs.length) (h:FromP c p q):q<c.procs.length:=by
 rcases h with rfl | h
 . exact hp
 exact h.keeps (p:=λi=>i<c.procs.length) hp λi _ _ hj=>(zaI.1 hj).1
def FromP.trans (h:FromP c p q) (k:FromP c q r):FromP c p r:=by
 rcases h with rfl | h
 . exact k
 rcases k with rfl | k
 . exact .inr h
 exact .inr (h.trans k)
def FromP.call (h:FromP c p q) (hr:r<c.procs.length) (k:zow c q 4 r):FromP c p r:=h.trans (.inr (.one (zaI.2 ⟨hr,k⟩)))
noncomputable def zfP (c:DCode) (p:Nat):Nat:=m6 λl=>¬ ∃ q i,q<c.procs.length/\FromP c p q/\za4 c q i/\(zal c i).op=7/\agN c i=l
inductive LostE (c:DCode):Nat->Nat->Nat->Prop
 | ent {p l:Nat}:LostE c p (eN c p) l
 | unl {p i j l:Nat} (h0:za4 c p i) (hj:j∈zaA c i) (ho:(zal c i).op=7) (ha:agN c i=l):LostE c p j l
 | cal {p i j l:Nat} (h0:za4 c p i) (hj:j∈zaA c i) (ho:(zal c i).op=4) (hk:(zfP c (agN c i)).testBit l=false) (h1:LostE c (agN c i) (zN c (agN c i)) l):LostE c p j l
 | bck {p i j l:Nat} (h0:za4 c p i) (hj:j∈zaA c i) (ho:(zal c i).op=4) (h2:LostE c p i l) (h1:LostE c (agN c i) (zN c (agN c i)) l):LostE c p j l
 | pass {p i j l:Nat} (h0:za4 c p i) (hj:j∈zaA c i) (h6:¬((zal c i).op=6/\agN c i=l)) (h4:¬(zal c i).op=4) (h1:LostE c p i l):LostE c p j l
noncomputable def zeR (c:DCode):Tab:=(List.range c.procs.length).map λp=>(zfP c p,m6 λl=>¬LostE c p (zN c p) l)
def zp5 (c:DCode):(zeR c).length=c.procs.length:=by simp [zeR]
def zp6 (hp:p<c.procs.length):tbl (zeR c) p=(zfP c p,m6 λl=>¬LostE c p (zN c p) l):=by
 rw [<-zkJ (by rw [zp5];exact hp)];simp [zeR]
def zzt {T:Tab} (hl:T.length=c.procs.length) (h:∀ q,q<c.procs.length->(tbl T q).1<64/\(tbl T q).2<64):zDD c T:=⟨hl,λq=>by
 rcases qay q c.procs.length with hq | hq
 . exact h q hq
 unfold tbl;rw [List.getD_eq_getElem?_getD,List.getElem?_eq_none oo];simp⟩
def zoy (c:DCode):zDD c (zeR c):=zzt (zp5 c) λq hq=>by rw [zp6 hq];exact ⟨zp2,zp2⟩
noncomputable def zfs (c:DCode) (T:Tab) (p:Nat):Nat:=zaE (zd8 c T p 0) (zN c p)
def zjU (hc:CodeR c) {T:Tab} {p l:Nat} (hp:p<c.procs.length) (hl:l<6):(zfs c T p).testBit l=false↔LostP c (tK T) (tG T) p (λl=>(0:Nat).testBit l=true) (zN c p) l:=by
 have hz:=(ztA hc (p:=p) (by rw [hc.2.1.1];exact hp)).2.2;unfold zfs;rw [zjS hz];constructor
 . intro h;refine qa1 λhn=>?_;rw [zhd.2 ⟨hl,hn⟩] at h;cases h
 intro h;cases e:(m6 λl=>¬LostP c (tK T) (tG T) p (λl=>(0:Nat).testBit l=true) (zN c p) l).testBit l
 . rfl
 exact absurd h (zhd.1 e).2
def zp7 (hc:CodeR c) {T:Tab} {p:Nat} (hp:p<c.procs.length):zfs c T p<64:=by
 have hz:=(ztA hc (p:=p) (by rw [hc.2.1.1];exact hp)).2.2;unfold zfs;rw [zjS hz];exact zp2
structure EI (c:DCode) (T:Tab):Prop where
 tab:zDD c T
 keep:∀ p,p<c.procs.length->(tbl T p).1=zfP c p
 snd:∀ p l,p<c.procs.length->l<6->(tbl T p).2.testBit l=false->LostE c p (zN c p) l
 desc:∀ p l,p<c.procs.length->l<6->(tbl T p).2.testBit l=false->(zfs c T p).testBit l=false
theorem EI.lost (hc:CodeR c) {T:Tab} (h:EI c T) {p i l:Nat} (hp:p<c.procs.length) (hl:l<6) (k:LostP c (tK T) (tG T) p (λl=>(0:Nat).testBit l=true) i l):LostE c p i l:=by
 have he:=hc.2.1.1
 induction k with
 | ent _=>exact .ent
 | gen h0 hj h1=>
   have hi:=(zcF hc (by rw [he];exact hp) h0).1;rcases h1 with ⟨h1,h2⟩ | ⟨h1,h2,h3⟩
   . exact .unl h0 hj h1 h2
   have hq:=(zbS hc hi (.inl h1)).2;refine .cal h0 hj h1 ?_ (h.snd _ _ hq hl (by unfold tG at h3;simpa using h3));unfold tK at h2;rw [h.keep _ hq] at h2;simpa using h2
 | @pass i j l h0 hj _ h2 ih=>
   have hi:=(zcF hc (by rw [he];exact hp) h0).1;by_cases h4:(zal c i).op=4
   . have hq:=(zbS hc hi (.inl h4)).2;refine .bck h0 hj h4 (ih hl) (h.snd _ _ hq hl ?_);have:=h2.2;unfold tG at this;simpa [h4] using this
   exact .pass h0 hj h2.1 h4 (ih hl)
def EI.start (c:DCode) (hc:CodeR c):EI c ((List.range c.procs.length).map λp=>(zfP c p,63)):=by
 have hl:((List.range c.procs.length).map λp=>(zfP c p,63)).length=c.procs.length:=by simp
 have g0:∀ p,p<c.procs.length->tbl ((List.range c.procs.length).map λp=>(zfP c p,63)) p=(zfP c p,63):=λp hp=>by
   rw [<-zkJ (by rw [hl];exact hp)];simp
 refine ⟨zzt hl λq hq=>by rw [g0 q hq];exact ⟨zp2,oo⟩,λp hp=>by rw [g0 p hp],λp l hp h6 hb=>?_,λp l hp h6 hb=>?_⟩
 . rw [g0 p hp,zjT h6] at hb;cases hb
 rw [g0 p hp,zjT h6] at hb;cases hb
def EI.upd (hc:CodeR c) {T:Tab} (h:EI c T) {p:Nat} (hp:p<c.procs.length):EI c (T.set p ((tbl T p).1,zfs c T p)):=by
 have g0:p<T.length:=by rw [h.tab.1];exact hp
 have D:=λr=>zEY (T:=T) (q:=p) (r:=r) (v:=((tbl T p).1,zfs c T p)) g0
 have g1:∀ q l,l<6->(tbl T q).2.testBit l=false->(tbl (T.set p ((tbl T p).1,zfs c T p)) q).2.testBit l=false:=λq l hl hb=>by
   rw [D];split
   . rename_i e;subst e;exact h.desc p l hp hl hb
   exact hb
 have C:∀ {q l:Nat},q<c.procs.length->l<6->(zfs c T q).testBit l=false->(zfs c (T.set p ((tbl T p).1,zfs c T p)) q).testBit l=false:=λ{q l} hq hl hb=>by
   rw [zjU hc hq hl] at hb ⊢
   have g2:∀ {i l:Nat},l<6->LostP c (tK T) (tG T) q (λl=>(0:Nat).testBit l=true) i l->LostP c (tK (T.set p ((tbl T p).1,zfs c T p))) (tG (T.set p ((tbl T p).1,zfs c T p))) q (λl=>(0:Nat).testBit l=true) i l:=λ{i l} hl k=>by
     have hK:∀ r l,tK (T.set p ((tbl T p).1,zfs c T p)) r l↔tK T r l:=λr l=>by
       unfold tK;rw [D];split
       . rename_i e;rw [<-e]
       exact Iff.rfl
     have hG:∀ r,tG (T.set p ((tbl T p).1,zfs c T p)) r l->tG T r l:=λr e=>by
       unfold tG at e ⊢;refine zgC λhf=>?_;rw [g1 r l hl hf] at e;cases e
     clear hb
     induction k with
     | ent h0=>exact .ent h0
     | gen h0 hj h1=>exact .gen h0 hj (h1.imp id λ⟨a,b,d⟩=>⟨a,λe=>b ((hK _ _).1 e),λe=>d (hG _ e)⟩)
     | pass h0 hj _ h2 ih=>exact .pass h0 hj (ih hl hG) ⟨h2.1,λ⟨a,b⟩=>h2.2 ⟨a,hG _ b⟩⟩
   exact g2 hl hb
 refine ⟨⟨by simp [h.tab.1],λq=>?_⟩,λq hq=>?_,λq l hq hl hb=>?_,λq l hq hl hb=>?_⟩
 . rw [D];split
   . exact ⟨(h.tab.2 p).1,zp7 hc hp⟩
   exact h.tab.2 q
 . rw [D];split
   . rename_i e;subst e;exact h.keep p hp
   exact h.keep q hq
 . rw [D] at hb;split at hb
   . rename_i e;subst e;exact h.lost hc hp hl ((zjU hc hp hl).1 hb)
   exact h.snd q l hq hl hb
 rw [D] at hb;split at hb
 . rename_i e;subst e;exact C hp hl hb
 exact C hq hl (h.desc q l hq hl hb)
def EI.le (hc:CodeR c) {T:Tab} (h:EI c T) {p:Nat} (hp:p<c.procs.length):zfs c T p<=(tbl T p).2:=by
 refine Nat.le_of_testBit λl hb=>?_;have hl:=zg4 (zp7 hc hp) hb;refine zgC λhf=>?_;rw [h.desc p l hp hl hf] at hb;cases hb
def EI.fin (hc:CodeR c) {T:Tab} (h:EI c T) (hs:∀ p,p<c.procs.length->zfs c T p=(tbl T p).2):T=zeR c:=by
 refine qaU (by rw [h.tab.1,zp5]) λp h1 h2=>?_;have hp:p<c.procs.length:=by rw [<-h.tab.1];exact h1
 rw [zkJ h1,zkJ h2,zp6 hp]
 have g0:∀ {p i l:Nat},LostE c p i l->p<c.procs.length->l<6->LostP c (tK T) (tG T) p (λl=>(0:Nat).testBit l=true) i l:=λ{p i l} k=>by
   have hz:∀ {i l:Nat},(zal c i).op=4->i<c.ins.length->l<6->(agN c i<c.procs.length->l<6->LostP c (tK T) (tG T) (agN c i) (λl=>(0:Nat).testBit l=true) (zN c (agN c i)) l)->¬tG T (agN c i) l:=λ{i l} ho hi hl k1=>by
     have hq:=(zbS hc hi (.inl ho)).2;have:=(zjU hc hq hl).2 (k1 hq hl);rw [hs _ hq] at this;unfold tG;rw [this];simp
   induction k with
   | ent=>exact λ_ _=>.ent sS
   | unl h0 hj ho ha=>exact λ_ _=>.gen h0 hj (.inl ⟨ho,ha⟩)
   | cal h0 hj ho hk _ ih=>
     intro hp hl;have hi:=(zcF hc (by rw [hc.2.1.1];exact hp) h0).1;have hq:=(zbS hc hi (.inl ho)).2;refine .gen h0 hj (.inr ⟨ho,?_,hz ho hi hl ih⟩);unfold tK;rw [h.keep _ hq,hk];simp
   | bck h0 hj ho _ _ ih2 ih1=>
     intro hp hl;have hi:=(zcF hc (by rw [hc.2.1.1];exact hp) h0).1;exact .pass h0 hj (ih2 hp hl) ⟨λh=>oo,λh=>hz ho hi hl ih1 h.2⟩
   | pass h0 hj h6 h4 _ ih=>exact λhp hl=>.pass h0 hj (ih hp hl) ⟨h6,λh=>h4 h.1⟩
 refine Prod.ext (h.keep p hp) (zzo (h.tab.2 p).2 λl hl=>⟨λhb hn=>?_,λhn=>zgC λhb=>hn (h.snd p l hp hl hb)⟩);have:=(zjU hc hp hl).2 (g0 hn hp hl);rw [hs p hp] at this;rw [this] at hb;cases hb
def zDF (T:Tab):Nat:=(T.map (·.2)).sum
def zBH {T:Tab} {v:Nat×Nat} (hp:p<T.length):zDF (T.set p v)+(tbl T p).2=zDF T+v.2:=by
 unfold zDF;rw [qcp];have:=zkI (l:=T.map (·.2)) (i:=p) (v:=v.2) (by simpa using hp);rw [<-zbn (by simpa using hp)] at this;rw [<-zkJ hp];simpa using this
def zdr (c:DCode):Nat:=(plc zip c.procs).toNat
inductive RootP (c:DCode):Nat->Prop
 | main:RootP c (zdr c)
 | spawn {r p q:Nat} (h0:RootP c r) (h1:FromP c r p) (h2:zow c p 5 q) (hq:q<c.procs.length):RootP c q
def UsedP (c:DCode) (p:Nat):Prop:=∃ r,RootP c r/\FromP c r p
def zg5 (hc:CodeR c):plc zip c.procs=(zdr c:Int)/\zdr c<c.procs.length:=by
 have:=zpY hc;have:=hc.2.1.1;unfold zdr;omega
theorem RootP.lt (hc:CodeR c) {r:Nat} (h:RootP c r):r<c.procs.length:=by
 cases h with
 | main=>exact (zg5 hc).2
 | spawn _ _ _ hq=>exact hq
def UsedP.lt (hc:CodeR c) {p:Nat} (h:UsedP c p):p<c.procs.length:=by
 obtain ⟨_,h1,h2⟩:=h;exact h2.lt (h1.lt hc)
def RootP.used (h:RootP c r):UsedP c r:=⟨r,h,.inl rfl⟩
def UsedP.call (h:UsedP c p) (hq:q<c.procs.length) (k:zow c p 4 q):UsedP c q:=by
 obtain ⟨r,h1,h2⟩:=h;exact ⟨r,h1,h2.call hq k⟩
inductive LostM (c:DCode) (K G:Nat->Nat->Prop):Nat->Option Nat->Nat->Prop
 | root {p l:Nat} (h:RootP c p):LostM c K G p none l
 | call {p i l:Nat} (hu:UsedP c p) (h0:za4 c p i) (ho:(zal c i).op=4) (h:LostM c K G p (some i) l):LostM c K G (agN c i) none l
 | ent {p l:Nat} (h:LostM c K G p none l):LostM c K G p (some (eN c p)) l
 | gen {p i j l:Nat} (h0:za4 c p i) (hj:j∈zaA c i) (h1:zGF c K G i l):LostM c K G p (some j) l
 | pass {p i j l:Nat} (h0:za4 c p i) (hj:j∈zaA c i) (h1:LostM c K G p (some i) l) (h2:zzs c G i l):LostM c K G p (some j) l
noncomputable def zxr (c:DCode) (p:Nat):Nat:=m6 λl=>¬LostM c (tK (zeR c)) (tG (zeR c)) p none l
noncomputable def zFO (c:DCode):List Nat:=(List.range c.procs.length).map (zxr c)
def zp8 (c:DCode):(zFO c).length=c.procs.length:=by simp [zFO]
def zzu (hp:p<c.procs.length):zaE (zFO c) p=zxr c p:=by rw [<-zbn (by rw [zp8];exact hp)];simp [zFO]
structure BI (c:DCode) (out:List Nat):Prop where
 len:out.length=c.procs.length
 lt:∀ x∈out,x<64
 snd:∀ p l,p<c.procs.length->l<6->(zaE out p).testBit l=false->LostM c (tK (zeR c)) (tG (zeR c)) p none l
 root:∀ p l,RootP c p->l<6->(zaE out p).testBit l=false
def BI.lt0 (h:BI c out) (i:Nat):zaE out i<64:=by
 rcases qay i out.length with hi | hi
 . exact h.lt _ (zp3 hi)
 unfold zaE;rw [List.getD_eq_getElem?_getD,List.getElem?_eq_none hi];simp
def zp9 {T:Tab} (hi:i<c.ins.length) (hl:l<6):(zaE (zd8 c T p h) i).testBit l=false↔LostP c (tK T) (tG T) p (λl=>h.testBit l=true) i l:=by
 rw [zjS hi];constructor
 . intro h;refine qa1 λhn=>?_;rw [zhd.2 ⟨hl,hn⟩] at h;cases h
 intro k;cases e:(m6 λl=>¬LostP c (tK T) (tG T) p (λl=>h.testBit l=true) i l).testBit l
 . rfl
 exact absurd k (zhd.1 e).2
def BI.start (hc:CodeR c) (out:List Nat) (hl:out.length=c.procs.length) (h:∀ p,p<c.procs.length->(RootP c p->zaE out p=0)/\(¬RootP c p->zaE out p=63)):BI c out:=by
 refine ⟨hl,λ_ hx=>?_,λp l hp h6 hb=>?_,λp l hr h6=>?_⟩
 . obtain ⟨i,hi,rfl⟩:=qbY hx;rw [zbn hi];have:=h i oo;by_cases hr:RootP c i
   . rw [this.1 hr];omega
   rw [this.2 hr];omega
 . by_cases hr:RootP c p
   . exact .root hr
   rw [(h p hp).2 hr,zjT h6] at hb;cases hb
 rw [(h p (hr.lt hc)).1 hr];simp
theorem BI.lost (h:BI c out) {p i l:Nat} (hp:p<c.procs.length) (hl:l<6) (k:LostP c (tK (zeR c)) (tG (zeR c)) p (λl=>(zaE out p).testBit l=true) i l):LostM c (tK (zeR c)) (tG (zeR c)) p (some i) l:=by
 induction k with
 | ent h0=>exact .ent (h.snd p _ hp hl (by simpa using h0))
 | gen h0 hj h1=>exact .gen h0 hj h1
 | pass h0 hj _ h2 ih=>exact .pass h0 hj (ih hl) h2
def BI.upd (hc:CodeR c) {out:List Nat} (h:BI c out) {p i:Nat} (hu:UsedP c p) (hi:za4 c p i) (ho:(zal c i).op=4) :
   BI c (out.set (agN c i) (zaE out (agN c i) &&& zaE (zd8 c (zeR c) p (zaE out p)) i)):=by
 have hp:=hu.lt hc;have g0:=(zcF hc (by rw [hc.2.1.1];exact hp) hi).1;have hq:=(zbS hc g0 (.inl ho)).2;refine ⟨by simp [h.len],λx hx=>?_,λr l hr hl hb=>?_,λr l hr hl=>?_⟩
 . rcases zdx hx with rfl | hx
   . exact qaL qbm (h.lt0 _)
   exact h.lt x hx
 . rw [zcj (by rw [h.len];exact hq)] at hb;split at hb
   . rename_i e;subst e;rw [qaX,qbL] at hb;rcases hb with hb | hb
     . exact h.snd _ l hr hl hb
     refine .call hu hi ho<|h.lost hp hl ((zp9 g0 hl).1 hb)
   exact h.snd r l hr hl hb
 rw [zcj (by rw [h.len];exact hq)];split
 . rename_i e;rw [qaX,e,h.root r l hr hl];rfl
 exact h.root r l hr hl
def BI.fin (hc:CodeR c) {out:List Nat} (h:BI c out) (hs:∀ p i,UsedP c p->za4 c p i->(zal c i).op=4->zaE out (agN c i) &&& zaE (zd8 c (zeR c) p (zaE out p)) i=zaE out (agN c i)):out=zFO c:=by
 refine qaU (by rw [h.len,zp8]) λp h1 h2=>?_;have hp:p<c.procs.length:=by rw [<-h.len];exact h1
 rw [zbn h1,zbn h2,zzu hp]
 have g0:∀ {p:Nat} {o:Option Nat} {l:Nat},LostM c (tK (zeR c)) (tG (zeR c)) p o l->l<6->match o with
     | none=>(zaE out p).testBit l=false
     | some i=>LostP c (tK (zeR c)) (tG (zeR c)) p (λl=>(zaE out p).testBit l=true) i l:=λ{p o l} k=>by
   induction k with
   | root hr=>exact λhl=>h.root _ _ hr hl
   | @call p i l hu h0 ho _ ih=>
     intro hl;have g1:=(zcF hc (by rw [hc.2.1.1];exact hu.lt hc) h0).1;simp only;rw [<-hs p i hu h0 ho,qaX,(zp9 g1 hl).2 (ih hl),qbu]
   | ent _ ih=>exact λhl=>.ent (by have:=ih hl;simp only at this;rw [this];simp)
   | gen h0 hj h1=>exact λhl=>.gen h0 hj h1
   | pass h0 hj _ h2 ih=>exact λhl=>.pass h0 hj (ih hl) h2
 refine zzo (h.lt0 p) λl hl=>⟨λhb hn=>?_,λhn=>zgC λhb=>hn (h.snd p l hp hl hb)⟩;have:=g0 hn hl;simp only at this;rw [this] at hb;cases hb
noncomputable def zhH (c:DCode) (i:Nat):Nat:=@ite _ (UsedP c (zas c i).toNat) (Classical.propDecidable _) (zaE (zd8 c (zeR c) (zas c i).toNat (zxr c (zas c i).toNat)) i) 63
noncomputable def zg6 (c:DCode):List Nat:=(List.range c.ins.length).map (zhH c)
def zmP (c:DCode):(zg6 c).length=c.ins.length:=by simp [zg6]
def zve (hi:i<c.ins.length):zaE (zg6 c) i=zhH c i:=by rw [<-zbn (by rw [zmP];exact hi)];simp [zg6]
def zep {l:List Nat} (h:∀ x∈l,x<64) (i:Nat):zaE l i<64:=by
 rcases qay i l.length with hi | hi
 . exact h _ (zp3 hi)
 unfold zaE;rw [List.getD_eq_getElem?_getD,List.getElem?_eq_none hi];simp
def zzv (c:DCode) (i:Nat):zhH c i<64:=by
 unfold zhH;split
 . exact zep zp4 i
 omega
def zlB (c:DCode):∀ x∈zg6 c,x<64:=λx hx=>by
 obtain ⟨i,_,rfl⟩:=qa3.1 hx;exact zzv c i
def zmQ (hp:zas c i=p) (hu:UsedP c p):zhH c i=zaE (zd8 c (zeR c) p (zxr c p)) i:=by
 unfold zhH;rw [hp,qal,qah hu]
def zwz (hp:zas c i=p) (hu:¬UsedP c p):zhH c i=63:=by
 unfold zhH;rw [hp,qal,qab hu]
inductive MetP (c:DCode):Nat->Prop
 | root {p:Nat} (h:RootP c p):MetP c (eN c p)
 | call {i:Nat} (h:MetP c i) (ho:(zal c i).op=4):MetP c (eN c (agN c i))
 | next {i j:Nat} (h:MetP c i) (ho:¬(zal c i).op=4) (hj:j∈zaA c i):MetP c j
 | back {i j:Nat} (h:MetP c i) (ho:(zal c i).op=4) (hz:MetP c (zN c (agN c i))) (hj:j∈zaA c i):MetP c j
theorem MetP.lt (hc:CodeR c) {i:Nat} (h:MetP c i):i<c.ins.length:=by
 induction h with
 | root h=>exact (zhF hc (by rw [hc.2.1.1];exact h.lt hc)).2.1
 | call _ ho ih=>exact (zhF hc (by rw [hc.2.1.1];exact (zbS hc ih (.inl ho)).2)).2.1
 | next _ _ hj ih=>exact (zdn hc ih hj).1
 | back _ _ _ hj ih _=>exact (zdn hc ih hj).1
inductive MayP (c:DCode):Nat->Nat->Prop
 | lock {i j l:Nat} (h:MetP c i) (ho:(zal c i).op=6) (ha:agN c i=l) (hj:j∈zaA c i):MayP c j l
 | pass {i j l:Nat} (h:MetP c i) (ho:¬(zal c i).op=4) (ha:¬((zal c i).op=7/\agN c i=l)) (hm:MayP c i l) (hj:j∈zaA c i):MayP c j l
 | call {i l:Nat} (h:MetP c i) (ho:(zal c i).op=4) (hm:MayP c i l):MayP c (eN c (agN c i)) l
 | back {i j l:Nat} (h:MetP c i) (ho:(zal c i).op=4) (hz:MetP c (zN c (agN c i))) (hm:MayP c (zN c (agN c i)) l) (hj:j∈zaA c i):MayP c j l
noncomputable def zi0 (c:DCode):List Bool:=zdQ c.ins.length (MetP c)
noncomputable def zqD (c:DCode):List Nat:=(List.range c.ins.length).map λi=>m6 (MayP c i)
def zlC (c:DCode):(zqD c).length=c.ins.length:=by simp [zqD]
def ztB (hi:i<c.ins.length):zaE (zqD c) i=m6 (MayP c i):=by rw [<-zbn (by rw [zlC];exact hi)];simp [zqD]
def zzw (c:DCode):∀ x∈zqD c,x<64:=λx hx=>by
 obtain ⟨i,_,rfl⟩:=qa3.1 hx;exact zp2
structure MetC (c:DCode) (M:Nat->Prop):Prop where
 root:∀ p,RootP c p->M (eN c p)
 call:∀ i,M i->(zal c i).op=4->M (eN c (agN c i))
 next:∀ i j,M i->¬(zal c i).op=4->j∈zaA c i->M j
 back:∀ i j,M i->(zal c i).op=4->M (zN c (agN c i))->j∈zaA c i->M j
theorem MetC.all {M:Nat->Prop} (h:MetC c M) {i:Nat} (k:MetP c i):M i:=by
 induction k with
 | root h1=>exact h.root _ h1
 | call _ ho ih=>exact h.call _ ih ho
 | next _ ho hj ih=>exact h.next _ _ ih ho hj
 | back _ ho _ hj ih1 ih2=>exact h.back _ _ ih1 ho ih2 hj
structure MayC (c:DCode) (H:Nat->Nat->Prop):Prop where
 lock:∀ i j,MetP c i->(zal c i).op=6->j∈zaA c i->H j (agN c i)
 pass:∀ i j l,MetP c i->l<6->¬(zal c i).op=4->¬((zal c i).op=7/\agN c i=l)->H i l->j∈zaA c i->H j l
 call:∀ i l,MetP c i->l<6->(zal c i).op=4->H i l->H (eN c (agN c i)) l
 back:∀ i j l,MetP c i->l<6->(zal c i).op=4->MetP c (zN c (agN c i))->H (zN c (agN c i)) l->j∈zaA c i->H j l
theorem MayC.all {H:Nat->Nat->Prop} (h:MayC c H) {i l:Nat} (hl:l<6) (k:MayP c i l):H i l:=by
 induction k with
 | lock hm ho ha hj=>exact ha▸h.lock _ _ hm ho hj
 | pass hm ho ha _ hj ih=>exact h.pass _ _ _ hm hl ho ha (ih hl) hj
 | call hm ho _ ih=>exact h.call _ _ hm hl ho (ih hl)
 | back hm ho hz _ hj ih=>exact h.back _ _ _ hm hl ho hz (ih hl) hj
structure DEffect where
 keep:Int
 gen:Int
def DEffect.ext_iff {x y:DEffect}:x=y↔(x.keep=y.keep/\x.gen=y.gen):=⟨λh=>by rw [h];exact ⟨rfl,rfl⟩,λh=>by obtain ⟨h0,h1⟩:=h;cases x;cases y;simp only at h0 h1;simp only [h0,h1]⟩
instance:DecidableEq DEffect:=λx y=>decidable_of_iff (x.keep=y.keep/\x.gen=y.gen) DEffect.ext_iff.symm
instance:Rep DEffect:=Rep.via λx=>(x.keep,x.gen)
def zrO {x:DEffect} (h:At w b o x):At w b (o+0) x.keep:=zcn (α:=Int) (β:=Int) (p:=(x.keep,x.gen)) h
def zlc {x:DEffect} (h:At w b o x):At w b (o+1) x.gen:=za7 (α:=Int) (β:=Int) (p:=(x.keep,x.gen)) h
instance:RepZ DEffect:=⟨⟨(RepZ.zv:Int),(RepZ.zv:Int)⟩,RepZ.zc (Int×Int),λw=>RepZ.zr (α:=Int×Int) w⟩
def znG {γ:Type} {H:List Nat->wD->γ->Prop} {x:DEffect} {upd:DEffect->γ} (h:Lens H F w b o G x upd) :
   ∃ G1,Lens H F w b (o+1) G1 x.gen (λy=>upd ⟨x.keep,y⟩):=by
 have h':Lens H F w b o G (x.keep,x.gen) (λp:Int×Int=>upd ⟨p.1,p.2⟩):=⟨h.here,h.sub,λw' G' _ hc hO hs=>h.back w' G' _ hc hO hs⟩;obtain ⟨_,h'⟩:=h'.snd;exact ⟨_,h'⟩
def zwA {x:DEffect} (h_keep:I64 x.keep) (h_gen:I64 x.gen):Mine [] w (.agg #[.int .i64 x.keep,.int .i64 x.gen]) x:=⟨⟨[.int .i64 x.keep,.int .i64 x.gen],⟨[],[],[.int .i64 x.keep],[.int .i64 x.gen],rfl,rfl,⟨rfl,rfl,h_keep⟩,⟨rfl,rfl,h_gen⟩⟩,rfl⟩,qav,Wr.nil w⟩
instance:Flat DEffect:=⟨λh=>Flat.flat (α:=Int×Int) h⟩
def zBI (x:Nat×Nat):DEffect:=⟨(x.1:Int),(x.2:Int)⟩
def zlD (T:Tab):List DEffect:=T.map zBI
def zie (T:Tab):(zlD T).length=T.length:=by simp [zlD]
def zlE {T:Tab} (h:q<(zlD T).length):(zlD T)[q]=zBI (tbl T q):=by
 have h':q<T.length:=by rw [<-zie];exact h
 rw [<-zkJ h'];simp [zlD]
def zBJ (T:Tab) (q:Nat) (v:Nat×Nat):zlD (T.set q v)=(zlD T).set q (zBI v):=by simp [zlD,qcp]
def zi1 (h:n<6):2^n<64:=qaT (n:=6) oo h
def FL.updM {T:Tab} (hF:FL c T p h out) (hc:CodeR c) (hp:p<c.entry.length) {i j:Nat} (hi:za4 c p i) (hj:j∈zaA c i)
   (hm:∀ l,l<6->m.testBit l=false->LostP c (tK T) (tG T) p (λl=>h.testBit l=true) i l):FL c T p h (out.set j (zaE out j &&& aft c T i m)):=by
 have g1:=(zcF hc hp hi).1;have g0:=(zdn hc g1 hj).1;refine ⟨by simp [hF.len],λx hx=>?_,λk l hk hl hb=>?_,λl hl hb=>?_⟩
 . rcases zdx hx with rfl | hx
   . exact qaL qbm (hF.lt0 j)
   exact hF.lt x hx
 . rw [zcj (by rw [hF.len];exact g0)] at hb;split at hb
   . rename_i e;subst e;rw [qaX,qbL] at hb;rcases hb with hb | hb
     . exact hF.snd j l hk hl hb
     rcases zmO.1 hb with h1 | ⟨h1,h2⟩
     . exact .gen hi hj h1
     exact .pass hi hj (hm l hl h2) h1
   exact hF.snd k l hk hl hb
 rw [zcj (by rw [hF.len];exact g0)];split
 . rename_i e;rw [qaX,e,hF.ent l hl hb];rfl
 exact hF.ent l hl hb
def zzx {T:Tab} (h0:Is W0 v0 (zal c i)) (e0:Ext W0 w) (h1:Is W1 v1 (zlD T)) (e1:Ext W1 w) (hc:CodeR c) (hT:zDD c T) (hi:i<c.ins.length) (hm:m<64) :
   CALL tp 252 [v0,v1,.int .i64 (m:Int)] w λr w'=>Ext w w'/\r=.int .i64 (aft c T i m:Nat):=by
 refine co (g:=kf [] [] [(7,[0,1,2,3,4,5,6,7,8,9,10,11,12,13,14,15],0)]) Tryz.func252 ?_;refine zbp h0 e0 λw1 g2 hA=>?_;have g3:=λh=>zbS hc hi (.inl h);have g0:=λh=>zdz hc hi h;have:=hc.1.procs8;have g1:aft c T i m=if (zal c i).op=6 then m ||| 2^agN c i else if (zal c i).op=7 then zmM m (2^agN c i) else if (zal c i).op=4 then (m &&& (tbl T (agN c i)).1) ||| (tbl T (agN c i)).2 else m:=rfl;rw [g1];clear g1;generalize agN c i=q at *;generalize zal c i=I at *;refine zaa za8<|zac ty3 (zay hA) (xrf _) λ_=>zai<|br (λc6=>?_) (λc6=>?_)
 . obtain ⟨ha,_,hq⟩:=g0 (.inl c6);have hp:=zi1 hq;rw [qah c6];refine zaa zaZ<|zac ty3 (zat hA) (xrf _) λ_=>?_;rw [ha];refine zcq kK u94 oo<|zeA oo<|zhk oo oo<|⟨g2,rfl⟩
 rw [qab c6];refine zai<|br (λc7=>?_) (λc7=>?_)
 . obtain ⟨ha,_,hq⟩:=g0 (.inr c7);have hp:=zi1 hq;rw [qah c7];refine zaa zaZ<|zac ty3 (zat hA) (xrf _) λ_=>?_;rw [ha];refine zcq kK u94 oo<|zeA oo<|zhE oo oo<|⟨g2,rfl⟩
 rw [qab c7];refine zai<|br (λc4=>?_) (λc4=>?_)
 . obtain ⟨ha,hq⟩:=g3 c4;rw [qah c4];have g4:=zag w1;generalize World.drew1 w1=w2 at *;have g5:q<(zlD T).length:=by rw [zie,hT.1];exact hq
   have:=hT.2 q;have C:=g2.t g4;refine zaa zaZ<|zac ty3 (zat hA) g4 λ_=>?_;rw [ha];refine zad zFJ zyx h1 g5 λ_ _ hE=>?_;rw [zlE] at hE;refine zaa zEs<|zac ty3 (zrO hE) (e1.trans C) λ_=>zhD (n:=(tbl T q).1) oo oo<|zaa zaZ<|zac ty3 (zat hA) g4 λ_=>?_;rw [ha];refine zad zFJ zyx h1 g5 λ_ _ g9=>?_;rw [zlE] at g9;refine zaa zta<|zac ty3 (zlc g9) (e1.trans C) λ_=>?_;have:=qbm (n:=m) (m:=(tbl T q).1);refine zhk (n:=(tbl T q).2) oo oo<|⟨C,rfl⟩
 rw [qab c4];exact ⟨g2,rfl⟩
def zwB {a:Nat}   (ha:a<64) (hb:b<64) :
   CALL tp 259 [.int .i64 (a:Int),.int .i64 (b:Int)] w λr w'=>Ext w w'/\(r=.int .i64 ((a &&& (63-b):Nat):Int)):=by
 refine co (g:=kf [] [] []) Tryz.func259 ?_;refine (zp1 ).mono ?_;rintro _ _ ⟨y1,rfl⟩;refine zav<|br (λc1=>?_) (λc1=>?_)
 . refine ⟨y1,?_⟩
   first | rfl | (exfalso;omega)
 refine (zp1 ).mono ?_;rintro _ _ ⟨y2,rfl⟩;refine zav<|br (λc2=>?_) (λc2=>?_)
 . refine ⟨(y1.t y2),?_⟩
   first | rfl | (exfalso;omega)
 have g0:(63:Int)-(b:Int)=((63-b:Nat):Int):=oo;refine zbe io ?_;rw [g0];refine zhD oo oo<|⟨(y1.t y2),?_⟩
 first | rfl | (exfalso;omega)
def ztC {a b:Nat} (ha:a<64) (hb:b<64):a &&& (63-b)=zmM a b:=by
 refine qbi λl=>?_;rw [qaX,zdo];cases h:a.testBit l
 . rfl
 have hl:=zg4 ha h;have:=Nat.testBit_two_pow_sub_succ (n:=6) (x:=b) hb l;rw [show 2^6-(b+1)=63-b by omega] at this;rw [this,decide_eq_true hl,qbX]
def zgh (c:DCode) (i:Nat):Prop:=∃ p,p<c.procs.length/\za4 c p i
structure WL (W0:wD) (b:Nat) (c:DCode):Prop where
 code:At W0 b 0 c
 live:At W0 b (0+5) (zdQ c.ins.length (zgh c))
theorem zrP {p:Nat->Prop} (h:n<=m) (hp:∀ i,n<=i->i<m->¬p i):zbK m p=zbK n p:=by
 induction m with
 | zero=>(have:n=0:=by omega);subst this;rfl
 | succ m ih=>
   by_cases e:n=m+1
   . rw [e]
   rw [zeO (hp m oo oo),ih oo λi h1 _=>hp i h1 oo]
def zhI (hW:WL W0 b c) (e0:Ext W0 w) (hc:CodeR c) (hp:p<c.procs.length) :
   CALL tp 128 [.pointer (some ⟨b,0,none⟩),.int .i64 (p:Int)] w λr w'=>Ext w w'/\Own w.heap.size w' r (za5 (zbK c.ins.length (za4 c p))):=by
 refine co (g:=kf [] [(3,68719444064,[5,6])] []) Tryz.func128 ?_;have D:p<c.entry.length:=by rw [hc.2.1.1];exact hp
 have hil:=hc.f.ins;have h8:=hc.1.procs8;obtain ⟨g9,_,_⟩:=zhF hc D;obtain ⟨gb,_,_⟩:=ztA hc D
 have g4:∀ i,za4 c p i->eN c p<=i/\i<=zN c p:=λi h=>by
   have:=zcF hc D h;exact zzq hc this.1 D this.2
 refine NIL.mk rfl<|zaa zbf<|zaa zbq<|zab zaS (zaq hW.code) e0 λ_ gc=>zad u25 ty3 gc D λ_ _ g5=>?_;rw [zbO D,g9] at g5;refine zac ty3 g5 e0 λ_=>?_;generalize hE:eN c p=E at *;generalize hZ:zN c p=Z at *
 have h0:zbK E (za4 c p)=[]:=by
   rw [zrP (n:=0) (z0 _) λi _ h2 h3=>by have:=g4 i h3;omega];rfl
 refine zap (Z+1-E) (λk us w'=>∃ (v:vL),us=[v,.int .i64 ((E+k:Nat):Int)]/\E+k<=Z+1/\Ext w w'/\RowI w.heap.size w'.heap.size 3 w' v (za5 (zbK (E+k) (za4 c p)))) 0 (z0 _) ⟨_,rfl,oo,xrf _,by rw [qco,h0];exact zb7 _ _ _ _⟩ ?_;rintro k mk _ _ _ ⟨v,hu,_,O,g2⟩;obtain ⟨gd,gf⟩:=zcZ hu;rw [gd,gf];have I:=e0.t O;have hs2:=O.size;refine NIL.mk rfl<|zaa zbf<|zab zbY hW.code I λ_ gg=>?_;refine (zd1 gg I oo).mono ?_;rintro _ w3 ⟨C,rfl⟩;rw [gb];have g0:=I.t C;refine zaf<|br (λ_=>?_) (λ_=>?_)
 case refine_2=>
   have hk:E+k=Z+1:=oo;refine ⟨O.t C,?_⟩;rw [zrP (n:=Z+1) oo λi h1 _ h3=>by have:=g4 i h3;omega,<-hk];exact (g2.ext C).own.own
 have hk:E+k<c.ins.length:=oo;refine NIL.mk rfl<|zaa zpi<|zab zef hW.live g0 λ_ gh=>zad zfU ty4 (i:=E+k) gh (by rw [zaM];exact hk) λ_ _ gi=>zbi ty4 gi g0 ?_;have g3:=zcs (n:=c.ins.length) (p:=zgh c) (i:=E+k);rw [zce (by rw [zaM];exact hk)] at g3
 have g1:zgh c (E+k)↔za4 c p (E+k):=by
   constructor
   . rintro ⟨q,hq,hl⟩;have h1:=zcF hc (by rw [hc.2.1.1];exact hq) hl;have h2:=zzr hc (p:=p) (i:=E+k) D oo oo;have:q=p:=oo;rwa [this] at hl
   exact λh=>⟨p,hp,h⟩
 have hsl:=zbz (n:=E+k) (p:=za4 c p);refine zbX (λhf=>?_) (λhf=>?_)
 . refine zbM (lo2:=w3.heap.size) (hi2:=w3.heap.size) (x:=((E+k:Nat):Int)) u25 ty3 z3 zc3 qd (g2.ext C) (by have:=C.size;omega) (zeo _ _ io) (by have:=C.size;omega) (by have:=C.size;omega) (by rw [zaj,zah];omega) (by rw [zah];omega) λgj _ gl gp=>?_;refine zau<|⟨mk-1,oo,k+1,oo,gj,rfl,oo,(O.t C).chgI gl oo,?_⟩;rw [<-qcr,zel (g1.1 (g3.1 hf).2),zc4];exact gp
 refine zau<|⟨mk-1,oo,k+1,oo,v,rfl,oo,O.t C,?_⟩;rw [<-qcr,zeO λh=>by rw [g3.2 ⟨hk,g1.2 h⟩] at hf;cases hf];exact (g2.ext C).mono (lr _) C.size
def zft {K:VW} (h0:0<n) (hn:n<=1000000)
   (k:∀ w',Ext w w'->Mine [w.heap.size] w' (.slice (some ⟨w.heap.size,0,none⟩) n n) (za5 (List.replicate n 0))->K (.slice (some ⟨w.heap.size,0,none⟩) n n) w'):OP tp (Instr.makeSlice 25 (.int .i64 (n:Int)) (.int .i64 (n:Int))) w K:=
 zeY (α:=Int) u25 ty3 rfl rfl zHB oo oo λw2 hx2 hr2=>by
   refine k w2 hx2 ?_;obtain ⟨_,hM,_⟩:=hr2.own;obtain ⟨_,_,_,hv,hF2⟩:=zia hM (by intro e;have:=qax List.length e;simp at this;omega);simp only [Value.slice.injEq,qao,Addr.mk.injEq,qbk,and_true] at hv;obtain ⟨⟨hb,_⟩,_⟩:=hv;rw [<-hb] at hF2;rw [hF2] at hM;have e:za5 (List.replicate n 0)=List.replicate n (RepZ.zv:Int):=by simp only [za5,List.map_replicate];rfl
   rw [e];exact hM
def zqa {t ty e:TypeId} {a:Option Addr} {n c:Nat} (ht:P.underlying t=some (.slice e)) (k:K (.int .i64 (n:Int))) :
   RD P (Builtin.len_ #[t] ty [Value.slice a n c].toArray) w K:=zba (λw' _=>by simp [Builtin.len_,run_underlying ht];rfl) k
structure FW (w1 w:wD) (g n:Nat) (out:List Nat):Prop where
 ext:Ext w1 w
 mine:Mine [g] w (.slice (some ⟨g,0,none⟩) n n) (za5 out)
 g0:w1.heap.size<=g
section
variable {w1 w w':wD} {g n:Nat} {out:List Nat}
def FW.step (h:FW w1 w g n out) (hx:Ext w w'):FW w1 w' g n out:=⟨h.ext.trans hx,h.mine.ext hx,h.g0⟩
def zkK (hc:Chg [g] w w'):ChgI g (g+1) w w':=hc.toI λb hb=>by simp only [qaa,qad,qaq] at hb;omega
def FW.set {i v:Nat} (h:FW w1 w g n out) (hc:Chg [g] w w') (hm:Mine [g] w' (.slice (some ⟨g,0,none⟩) n n) ((za5 out).set i (v:Int))):FW w1 w' g n (out.set i v):=
 ⟨h.ext.chgI (zkK hc) h.g0,by rw [zid];exact hm,h.g0⟩
def FW.lt (h:FW w1 w g n out):g<w.heap.size:=h.mine.lt g sS
def FW.own (h:FW w1 w g n out):Own w1.heap.size w (.slice (some ⟨g,0,none⟩) n n) (za5 out):=⟨[g],h.mine,λb hb=>by simp only [qaa,qad,qaq] at hb;have:=h.g0;omega⟩
end
def zc5 {v:Nat} (h:v<9223372036854775808):Mine [] w (.int .i64 (v:Int)) (v:Int):=zbt io
def fil (n k:Nat):List Nat:=List.replicate k 63++List.replicate (n-k) 0
def zzy (h:k<=n):(fil n k).length=n:=by simp [fil];omega
def zzz (h:k<n):(fil n k).set k 63=fil n (k+1):=by
 obtain ⟨m,hm⟩:∃ m,n-k=m+1:=⟨n-k-1,oo⟩;unfold fil;rw [qbb _ _ sS,hm,qbl,qcE,List.replicate_succ,List.set_cons_zero,qcg,show n-(k+1)=m by omega];simp
def zvf (n:Nat):fil n n=List.replicate n 63:=by simp [fil]
structure FP (c:DCode) (T:Tab) (p h:Nat) (out0 L:List Nat) (k:Nat) (ag:Bool) (out:List Nat):Prop where
 fl:FL c T p h out
 yes:ag=true->out.sum<out0.sum
 no:ag=false->out=out0/\∀ i∈L.take k,zG6 c T out0 i
structure FQ (c:DCode) (T:Tab) (p h:Nat) (out0 L:List Nat) (k i q:Nat) (ag:Bool) (out:List Nat):Prop where
 fl:FL c T p h out
 yes:ag=true->out.sum<out0.sum
 no:ag=false->out=out0/\(∀ i∈L.take k,zG6 c T out0 i)/\∀ j∈(zaA c i).take q,zaE out0 j &&& aft c T i (zaE out0 i)=zaE out0 j
section
variable {c:DCode} {T:Tab} {p h k i q m:Nat} {out0 L out:List Nat} {ag:Bool}
def FP.enter (H:FP c T p h out0 L k ag out) (i:Nat):FQ c T p h out0 L k i 0 ag out:=⟨H.fl,H.yes,λe=>⟨(H.no e).1,(H.no e).2,sS⟩⟩
theorem FQ.set (H:FQ c T p h out0 L k i q ag out) (hc:CodeR c) (hp:p<c.entry.length) (hi:za4 c p i) (hq:q<(zaA c i).length) (hm:∀ l,l<6->m.testBit l=false->LostP c (tK T) (tG T) p (λl=>h.testBit l=true) i l)
   (g1:zaE out (zaA c i)[q] &&& aft c T i m≠zaE out (zaA c i)[q]):FQ c T p h out0 L k i (q+1) true (out.set (zaA c i)[q] (zaE out (zaA c i)[q] &&& aft c T i m)):=by
 have hj:=qac hq;have g0:=(zdn hc (zcF hc hp hi).1 hj).1;refine ⟨H.fl.updM hc hp hi hj hm,λ_=>?_,λe=>by cases e⟩;have h1:=zkI (l:=out) (i:=(zaA c i)[q]) (v:=zaE out (zaA c i)[q] &&& aft c T i m) (by rw [H.fl.len];exact g0);have h2:=zDE g1;cases ag with
 | true=>have:=H.yes rfl;omega
 | false=>rw [(H.no rfl).1] at h1 h2 ⊢;omega
def FQ.skip (H:FQ c T p h out0 L k i q ag out) (hq:q<(zaA c i).length) (hz:ag=false->m=zaE out0 i) (he:zaE out (zaA c i)[q] &&& aft c T i m=zaE out (zaA c i)[q]):FQ c T p h out0 L k i (q+1) ag out:=by
 refine ⟨H.fl,H.yes,λe=>⟨(H.no e).1,(H.no e).2.1,λj hj=>?_⟩⟩;rw [tk hq] at hj;rcases qae.1 hj with hj | hj
 . exact (H.no e).2.2 j hj
 simp only [qaa,qad,qaq] at hj;rw [(H.no e).1,hz e] at he;rw [hj];exact he
def FQ.done (H:FQ c T p h out0 L k i q ag out) (hk:k<L.length) (hi:L[k]=i) (hq:(zaA c i).length<=q):FP c T p h out0 L (k+1) ag out:=by
 refine ⟨H.fl,H.yes,λe=>⟨(H.no e).1,λi' hi'=>?_⟩⟩;rw [tk hk] at hi';rcases qae.1 hi' with h1 | h1
 . exact (H.no e).2.1 i' h1
 simp only [qaa,qad,qaq] at h1;rw [h1,hi];have:=(H.no e).2.2;rw [qaf hq] at this;exact this
end
def ztD {T:Tab} (hW:WL W0 b c) (e0:Ext W0 w) (h1:Is W1 v1 (zlD T)) (e1:Ext W1 w) (hc:CodeR c) (hT:zDD c T) (hp:p<c.procs.length) (hh:h<64) :
   CALL tp 203 [.pointer (some ⟨b,0,none⟩),v1,.int .i64 (p:Int),.int .i64 (h:Int)] w λr w'=>Ext w w'/\Own w.heap.size w' r (za5 (zd8 c T p h)):=by
 refine co (g:=kf [] [(3,17045652480,[27]),(10,158456325028528393712111374336,[12]),(13,158456325028526423387274399744,[12,51]),(17,79228153069531371854253658112,[12,73])] [(15,[0,1,2,3,4,5,6,7,8,9,10,11,12,13,14],0),(19,[0,1,2,3,4,5,6,7,8,9,10],0)]) Tryz.func203 ?_;have V:p<c.entry.length:=by rw [hc.2.1.1];exact hp
 have hw:=hc.f.ins;obtain ⟨hx,gr,_⟩:=zhF hc V;have gs:=FL.start (T:=T) hc V hh;have gt:=λ{out}=>FL.fin (c:=c) (T:=T) (p:=p) (h:=h) (out:=out);refine NIL.mk rfl<|zaa zbf<|zaa zaY<|zab zdD (zam hW.code) e0 λ_ hy=>zae u26 hy ?_;have hn:c.ins.length=c.ins.length:=rfl;generalize hnn:c.ins.length=n at hn;rw [hnn] at gr gs hw;refine zft oo oo λw2 gU gV=>?_;have hs2:=gU.size;generalize hg:w.heap.size=g at *;have gW:FW w w2 g n (fil n 0):=⟨gU,by simpa [fil] using gV,oo⟩;refine zqa u25<|zap n (λk us w'=>us=[.int .i64 (k:Int)]/\k<=n/\FW w w' g n (fil n k)) 0 (z0 _) ⟨rfl,z0 _,gW⟩ ?_;rintro k mk u _ gX ⟨hu,gY,Y⟩;try replace hu:=zbv hu
 rw [hu];refine zaf<|br (λgZ=>?_) (λh2=>?_)
 . have hk:k<n:=oo;refine zcU (α:=Int) rfl u25 ty3 hk<|zb5 (α:=Int) rfl ty3 Y.mine (by rw [zah,zzy gY]) hk (zc5 (v:=63) oo) λw4 gx gy=>?_;have g1:=Y.set (v:=63) gx gy;rw [zzz hk] at g1;refine zau<|⟨mk-1,oo,k+1,oo,rfl,oo,g1⟩
 have hk:k=n:=oo;rw [hk,zvf] at Y;clear gW gV hu gX;refine NIL.mk rfl<|zaa zbf<|zaa zbq<|zab zaS (zaq hW.code) (e0.t Y.ext) λ_ hz=>zad u25 ty3 hz V λb1 o1 g3=>?_;rw [zbO V,hx] at g3;refine zac ty3 g3 (e0.t Y.ext) λ_=>zcU (α:=Int) rfl u25 ty3 gr<|zb5 (α:=Int) rfl ty3 Y.mine (by rw [zah];simp) gr (zc5 (v:=h) oo) λw4 gx gy=>?_;have g1:=Y.set (v:=h) gx gy;refine (zhI hW (e0.t g1.ext) hc hp).mono ?_;rintro gz w5 ⟨hB,hC⟩;have h4:=g1.step hB;have hg4:=g1.lt;have hL:∀ i∈zbK c.ins.length (za4 c p),za4 c p i:=λi hi=>(zaI.1 hi).2;have hD:∀ i,za4 c p i->i∈zbK c.ins.length (za4 c p):=λi hi=>zaI.2 ⟨(zcF hc V hi).1,hi⟩;have hLl:(zbK c.ins.length (za4 c p)).length<=1500:=qat zbz (by rw [hnn];omega);generalize zbK c.ins.length (za4 c p)=L at *;generalize (List.replicate n 63).set (eN c p) h=out at gs h4;have hG:=hC.toI;generalize hlo:w4.heap.size=lo at *;generalize hhi:w5.heap.size=hi at *;refine LOOPI.mk (λm us w'=>∃ (ag:Bool) (out:List Nat),us=[.bool ag]/\m=out.sum+(if ag then 1 else 0)/\FW w w' g n out/\OwnI lo hi w' gz (za5 L)/\FL c T p h out/\(ag=false->∀ i,za4 c p i->zG6 c T out i)) (out.sum+1) ⟨true,out,rfl,rfl,h4,hG,gs,λe=>by cases e⟩ ?_;rintro m u _ ⟨ag,out,hu,hm,gC,h5,h6,hH⟩;try replace hu:=zbv hu
 rw [hu];refine zbX (λgD=>?_) (λgD=>?_)
 case refine_2=>have:=gt h6 hc V (hH gD);rw [<-this];have h8:=gC.own;rw [hg] at h8;exact ⟨gC.ext,h8⟩
 rw [gD,qah rfl] at hm;refine zae u25 h5.is ?_;rw [zah];refine zap L.length (λk us w'=>∃ (ag:Bool) (out':List Nat),us=[.bool ag,.int .i64 (k:Int)]/\k<=L.length/\FW w w' g n out'/\OwnI lo hi w' gz (za5 L)/\FP c T p h out L k ag out') 0 (z0 _) ⟨false,out,rfl,z0 _,gC,h5,h6,λe=>(by cases e),λ_=>⟨rfl,sS⟩⟩ ?_;rintro k mk u w7 gX ⟨g4,D,hu,gY,h9,gE,U⟩;obtain ⟨gF,gG⟩:=zcZ hu;clear hu;rw [gF,gG];refine zaf<|br (λgZ=>?_) (λh2=>?_)
 case refine_2=>
   refine ⟨D.sum+(if g4 then 1 else 0),?_,g4,D,rfl,rfl,h9,gE,U.fl,λe i hi=>?_⟩
   . cases g4 with
     | true=>have:=U.yes rfl;simp;omega
     | false=>rw [(U.no rfl).1];simp;omega
   have:=U.no e;rw [this.1];exact this.2 i (by rw [qaf oo];exact hD i hi)
 have hk:k<L.length:=oo;refine zad u25 ty3 (i:=k) gE.is (by rw [zah];exact hk) λ_ _ ha=>?_;rw [za9] at ha;refine zac ty3 ha (xrf _) λ_=>?_;generalize hix:L[k]=i at *;have hd:za4 c p i:=hL i (by rw [<-hix];exact qac hk);have Z:=(zcF hc V hd).1;have he:=zag w7;have g2:=h9.step he;have hI:=gE.ext he;generalize World.drew1 w7=w8 at *;refine NIL.mk rfl<|zaa zbf<|zaa zaY<|zab zdD (zam hW.code) (e0.t g2.ext) λ_ hJ=>zad u26 zbm hJ Z λ_ _ hf=>?_;rw [zaG] at hf;refine zab zbm hf (e0.t g2.ext) λ_ hK=>?_;have hM:=U.fl.len;refine zad u25 ty3 (i:=i) g2.mine.is (by rw [zah,hM];exact Z) λ_ _ hr=>?_;rw [zbk] at hr;refine zac ty3 hr (xrf _) λ_=>?_;have g5:=U.fl.lt0 i;have hN:∀ l,l<6->(zaE D i).testBit l=false->LostP c (tK T) (tG T) p (λl=>h.testBit l=true) i l:=λl hl hb=>U.fl.snd i l Z hl hb;have hO:g4=false->zaE D i=zaE out i:=λe=>by rw [(U.no e).1]
 generalize zaE D i=mm at *;refine (zzx hK (e0.t g2.ext) h1 (e1.trans g2.ext) hc hT Z g5).mono ?_;rintro _ w9 ⟨hs,rfl⟩;have gH:=g2.step hs;have hP:=hI.ext hs;have haf:=zGG hc hT Z g5;refine (zjN hW.code (e0.t gH.ext) hc Z).mono ?_;rintro hQ hR ⟨g9,gb⟩;have gI:=gH.step g9;have gJ:=hP.ext g9;have hg9:=gH.lt;have gK:=gb.toI;have hl2:=zgA c i;refine zae u25 gb.is ?_;rw [zah];have gM:=U.enter i;refine zap (zaA c i).length (λq us w'=>∃ (ag:Bool) (out':List Nat),us=[.bool ag,.int .i64 (q:Int)]/\q<=(zaA c i).length/\FW w w' g n out'/\OwnI lo hi w' gz (za5 L)/\OwnI w9.heap.size hR.heap.size w' hQ (za5 (zaA c i))/\FQ c T p h out L k i q ag out'/\(ag=false->mm=zaE out i)) 0 (z0 _) ⟨g4,D,rfl,z0 _,gI,gJ,gK,gM,hO⟩ ?_;rintro q mq u ht _ ⟨gc,C,hu,_,gd,gf,gg,O,gh⟩;obtain ⟨gF,gG⟩:=zcZ hu;rw [gF,gG];refine zaf<|br (λgZ=>?_) (λh2=>?_)
 case refine_2=>refine zau<|⟨mk-1,oo,k+1,oo,gc,C,rfl,oo,gd,gf,O.done hk hix oo⟩
 have hq:q<(zaA c i).length:=oo;refine zad u25 ty3 (i:=q) gg.is (by rw [zah];exact hq) λ_ _ hv=>?_;rw [za9] at hv;refine zac ty3 hv (xrf _) λ_=>?_;have g0:=zag ht;have I:=gd.step g0;have gi:=gf.ext g0;have gj:=gg.ext g0;generalize World.drew1 ht=w12 at *;have hj:=zdn hc Z (qac hq);have gl:=O.fl.len;have gN:=O.set (m:=mm) hc V hd hq hN;have gp:=O.skip (m:=mm) hq gh;have hS:=O.fl.lt0 (zaA c i)[q];have gO:=hj.1;rw [hnn] at gO;generalize (zaA c i)[q]=j at *
 have gP:∀ {w':wD} {K:vL->Prop} (hF:FW w w' g n C) (k:K (.int .i64 (zaE C j:Int))),RD tp (Instr.indexAt 25 (.slice (some ⟨g,0,none⟩) n n) (.int .i64 (j:Int))) w' λhV=>RD tp (Instr.loadAt 3 hV) w' K:=λhF k=>by
   refine zad u25 ty3 (i:=j) hF.mine.is (by rw [zah,gl];exact hj.1) λb1 o1 g3=>?_;rw [zbk] at g3;exact zac ty3 g3 (xrf _) λ_=>k
 refine gP I<|zhD oo oo<|gP I<|zaT<|br (λhX=>?_) (λhY=>?_)
 . have gQ:zaE C j &&& aft c T i mm≠zaE C j:=λe=>hX (by rw [e]);refine gP I<|zhD oo oo<|zcU (α:=Int) rfl u25 ty3 gO ?_;have hvl:=qbm (n:=zaE C j) (m:=aft c T i mm);refine zb5 (α:=Int) rfl ty3 I.mine (by rw [zah,gl,hnn]) gO (zc5 (v:=zaE C j &&& aft c T i mm) oo) λ_ gq gR=>?_;have gS:=I.set (v:=zaE C j &&& aft c T i mm) gq gR;have X:=zkK gq;refine zau<|⟨mq-1,oo,q+1,oo,true,_,rfl,oo,gS,gi.chg X oo,gj.chg X oo,gN gQ,λe=>by cases e⟩
 refine zau<|⟨mq-1,oo,q+1,oo,gc,C,rfl,oo,I,gi,gj,gp (qbo.1 (qai.1 hY)),gh⟩
theorem zmR {p:Nat->Prop} {n:Nat}:∀ {k:Nat},k<=n->zdy (zc0 p n) k=za5 (zbK k p)
 | 0,_=>rfl
 | k+1,h=>by
   rw [zdy,zmR (k:=k) oo];by_cases hp:p k
   . rw [qah (za6.2 ⟨oo,hp⟩),zel hp,zc4];rfl
   rw [qab λe=>hp (za6.1 e).2,zeO hp]
def zeS {p:Nat->Prop} (h:n<=62):zby (zc0 p n)=za5 (zbK n p):=by
 rw [zjQ (k:=n) zkv oo,zmR (lr _)]
def zbu {p:Nat->Prop} (h:n<=8):zc0 p n<256:=qap zkv (qaE (n:=2) oo h)
noncomputable def cls (c:DCode) (op:Int):List Nat:=(List.range c.procs.length).map λp=>zc0 (zow c p op) c.procs.length
noncomputable def frs (c:DCode):List Nat:=(List.range c.procs.length).map λp=>zc0 (FromP c p) c.procs.length
def zhJ (c:DCode) (op:Int):(cls c op).length=c.procs.length:=by simp [cls]
def zkL (c:DCode):(frs c).length=c.procs.length:=by simp [frs]
def zDG (hp:p<c.procs.length):zaE (cls c op) p=zc0 (zow c p op) c.procs.length:=by rw [<-zbn (by rw [zhJ];exact hp)];simp [cls]
def zvg (hp:p<c.procs.length):zaE (frs c) p=zc0 (FromP c p) c.procs.length:=by rw [<-zbn (by rw [zkL];exact hp)];simp [frs]
noncomputable def zdp (c:DCode):Nat:=zc0 (RootP c) c.procs.length
noncomputable def zfg (c:DCode):Nat:=zc0 (UsedP c) c.procs.length
structure WAt (W0:wD) (b:Nat) (c:DCode):Prop where
 wl:WL W0 b c
 calls:At W0 b (0+6) (za5 (cls c 4))
 spawns:At W0 b (0+7) (za5 (cls c 5))
 frm:At W0 b (0+8) (za5 (frs c))
 roots:At W0 b (0+9) (zdp c:Int)
 used:At W0 b (0+10) (zfg c:Int)
def KI (m:Nat) (P:Nat->Prop):Prop:=m<64/\∀ l,l<6->(m.testBit l=false↔P l)
def KI.start {P:Nat->Prop} (h:∀ l,¬P l):KI 63 P:=⟨oo,λl hl=>by rw [zjT hl];exact ⟨λe=>(by cases e),λe=>absurd e (h l)⟩⟩
def KI.drop {m a:Nat} {P P':Nat->Prop} (h:KI m P) (hP:∀ l,P' l↔P l\/a=l):KI (zmM m (2^a)) P':=by
 refine ⟨qaL (ziZ _ _) h.1,λl hl=>?_⟩;rw [zdo,qaN,hP,<-h.2 l hl];simp only [qbL,qb8,qau]
def KI.congr {P P':Nat->Prop} (h:KI m P) (hP:∀ l,P' l↔P l):KI m P':=⟨h.1,λl hl=>by rw [h.2 l hl,hP]⟩
def KI.eq {P:Nat->Prop} (h:KI m P):m=m6 λl=>¬P l:=zzo h.1 λl hl=>by rw [<-h.2 l hl];simp
def zbG {α:Type} {l:List α} (hk:k<l.length) {x:α}:x∈l.take (k+1)↔x∈l.take k\/x=l[k]:=by
 rw [tk hk,qae];simp
def zDH (c:DCode) (q l:Nat):Prop:=∃ i,za4 c q i/\(zal c i).op=7/\agN c i=l
def zzA (hW:WAt W0 b c) (e0:Ext W0 w) (hc:CodeR c) (hp:p<c.procs.length) :
   CALL tp 273 [.pointer (some ⟨b,0,none⟩),.int .i64 (p:Int)] w λr w'=>Ext w w'/\r=.int .i64 (zfP c p:Nat):=by
 refine co (g:=kf [] [(3,72057594037404320,[5,19]),(6,36028796884746784,[5,27])] []) Tryz.func273 ?_;have h8:=hc.1.procs8;have hil:=hc.f.ins;refine NIL.mk rfl<|zaa zlZ<|zab zaS hW.frm e0 λ_ gj=>zad u25 ty3 gj (by rw [zah,zkL];exact hp) λ_ _ g9=>?_;rw [zbk,zvg hp] at g9;refine zac ty3 g9 e0 λ_=>?_;have hsm:=zbu (p:=FromP c p) h8.1;refine (zdR (m:=zc0 (FromP c p) c.procs.length) oo).mono ?_;rintro _ w1 ⟨gb,g2⟩;rw [zeS oo] at g2;have hL:∀ q,q∈zbK c.procs.length (FromP c p)↔q<c.procs.length/\FromP c p q:=λq=>zaI;have hLl:=zbz (n:=c.procs.length) (p:=FromP c p);generalize zbK c.procs.length (FromP c p)=L at *;refine zae u25 g2.is ?_;rw [zah];refine zap L.length (λk us w'=>∃ m:Nat,us=[.int .i64 (m:Int),.int .i64 (k:Int)]/\k<=L.length/\Ext w1 w'/\KI m (λl=>∃ q∈L.take k,zDH c q l)) 0 (z0 _) ⟨63,rfl,z0 _,xrf _,KI.start sS⟩ ?_;rintro k mk u _ _ ⟨m,hu,_,g1,hK⟩;obtain ⟨g3,g4⟩:=zcZ hu;clear hu;rw [g3,g4];refine zaf<|br (λgl=>?_) (λgp=>?_)
 case refine_2=>
   rw [show L.take k=L from qaf oo] at hK;refine ⟨gb.t g1,?_⟩
   have:m=zfP c p:=by
     rw [hK.eq];refine zBG λl _=>not_congr ?_;constructor
     . rintro ⟨q,hq,i,h1,h2,h3⟩;exact ⟨q,i,((hL q).1 hq).1,((hL q).1 hq).2,h1,h2,h3⟩
     rintro ⟨q,i,h0,hf,h1,h2,h3⟩;exact ⟨q,(hL q).2 ⟨h0,hf⟩,i,h1,h2,h3⟩
   rw [this]
 have hk:k<L.length:=oo;refine zad u25 ty3 (i:=k) (g2.is) (by rw [zah];exact hk) λ_ _ gc=>?_;rw [za9] at gc;refine zac ty3 gc g1 λ_=>?_;have hq:=(hL L[k]).1 (qac hk);have g5:=λx=>zbG hk (x:=x);generalize L[k]=q at *;have g0:=(e0.t gb).trans g1;refine (zhI hW.wl g0 hc hq.1).mono ?_;rintro _ w3 ⟨gd,gf⟩;have hM:∀ i,i∈zbK c.ins.length (za4 c q)↔i<c.ins.length/\za4 c q i:=λi=>zaI;have hMl:=zbz (n:=c.ins.length) (p:=za4 c q);generalize zbK c.ins.length (za4 c q)=M at *;refine zae u25 gf.is ?_;rw [zah];refine zap M.length (λj us w'=>∃ m:Nat,us=[.int .i64 (m:Int),.int .i64 (j:Int)]/\j<=M.length/\Ext w3 w'/\KI m (λl=>(∃ q∈L.take k,zDH c q l)\/∃ i∈M.take j,(zal c i).op=7/\agN c i=l)) 0 (z0 _) ⟨m,rfl,z0 _,xrf _,hK.congr λl=>by simp⟩ ?_;rintro j mj u _ _ ⟨m4,hu,_,D,I⟩;obtain ⟨g3,g4⟩:=zcZ hu;rw [g3,g4];refine zaf<|br (λgl=>?_) (λgp=>?_)
 case refine_2=>
   rw [show M.take j=M from qaf oo] at I;refine zau<|⟨mk-1,oo,k+1,oo,m4,rfl,oo,g1.t (gd.t D),I.congr λl=>?_⟩;constructor
   . rintro ⟨r,hr,h1⟩;rcases (g5 r).1 hr with hr | rfl
     . exact .inl ⟨r,hr,h1⟩
     obtain ⟨i,h1,h2,h3⟩:=h1;exact .inr ⟨i,(hM i).2 ⟨(zcF hc (by rw [hc.2.1.1];exact hq.1) h1).1,h1⟩,h2,h3⟩
   rintro (⟨r,hr,h1⟩ | ⟨i,hi,h2,h3⟩)
   . exact ⟨r,(g5 r).2 (.inl hr),h1⟩
   exact ⟨q,(g5 q).2 (.inr rfl),i,((hM i).1 hi).2,h2,h3⟩
 have hj:j<M.length:=oo;refine zad u25 ty3 (i:=j) (gf.is) (by rw [zah];exact hj) λ_ _ gg=>?_;rw [za9] at gg;refine zac ty3 gg D λ_=>?_;have hi:=(hM M[j]).1 (qac hj);have O:=λx=>zbG hj (x:=x);generalize M[j]=i at *;have C:=g0.t (gd.t D);refine NIL.mk rfl<|zaa zbf<|zaa zaY<|zab zdD (zam hW.wl.code) C λ_ gq=>zad u26 zbm gq hi.1 λ_ _ gh=>?_;rw [zaG] at gh;refine zaa za8<|zac ty3 (zay gh) C λ_=>zai<|br (λc7=>?_) (λc7=>?_)
 . obtain ⟨ha,_,gr⟩:=zdz hc hi.1 (.inr c7);have hpw:=zi1 gr;refine NIL.mk rfl<|zaa zbf<|zaa zaY<|zab zdD (zam hW.wl.code) C λ_ gs=>zad u26 zbm gs hi.1 λ_ _ gi=>?_;rw [zaG] at gi;refine zaa zaZ<|zac ty3 (zat gi) C λ_=>?_;rw [ha];refine zcq kK u94 oo<|zeA oo ?_;have h64:=I.1;refine zhE (m:=m4) (n:=2^agN c i) oo oo<|zau<|⟨mj-1,oo,j+1,oo,_,rfl,oo,D,I.drop λl=>?_⟩;constructor
   . rintro (h | ⟨r,hr,h1,h2⟩)
     . exact .inl (.inl h)
     rcases (O r).1 hr with hr | rfl
     . exact .inl (.inr ⟨r,hr,h1,h2⟩)
     exact .inr h2
   rintro ((h | ⟨r,hr,h1⟩) | h)
   . exact .inl h
   . exact .inr ⟨r,(O r).2 (.inl hr),h1⟩
   exact .inr ⟨i,(O i).2 (.inr rfl),c7,h⟩
 refine zau<|⟨mj-1,oo,j+1,oo,_,rfl,oo,D,I.congr λl=>?_⟩;constructor
 . rintro (h | ⟨r,hr,h1,h2⟩)
   . exact .inl h
   rcases (O r).1 hr with hr | rfl
   . exact .inr ⟨r,hr,h1,h2⟩
   exact absurd h1 c7
 rintro (h | ⟨r,hr,h1⟩)
 . exact .inl h
 exact .inr ⟨r,(O r).2 (.inl hr),h1⟩
def zhe (hc:CodeR c) {p:Nat} (hp:p<c.procs.length):zeX c p=((zN c p+1:Nat):Int)/\zgd c p=(zN c p:Int)/\zN c p<c.ins.length:=by
 have h:=ztA hc (p:=p) (by rw [hc.2.1.1];exact hp);refine ⟨oo,?_,h.2.2⟩;rw [zeh];omega
def zBK {T:Tab} (hW:WL W0 b c) (e0:Ext W0 w) (h1:Is W1 v1 (zlD T)) (e1:Ext W1 w) (hc:CodeR c) (hT:zDD c T) (hp:p<c.procs.length) :
   CALL tp 251 [.pointer (some ⟨b,0,none⟩),v1,.int .i64 (p:Int)] w λr w'=>Ext w w'/\r=.int .i64 (zfs c T p:Nat):=by
 refine co (g:=kf [] [] [(1,[0,1,2,4,5,6,7,8,3,9,10,11,12,13],8)]) Tryz.func251 ?_;obtain ⟨g3,_,g4⟩:=zhe hc hp;have:=hc.f.ins;have:=hc.1.procs8;have C:=zag w;generalize World.drew1 w=w1 at *;refine NIL.mk rfl<|zaa zbf<|zab zbY hW.code (e0.t C) λ_ g5=>?_;refine (ztD hW (e0.t C) h1 (e1.trans C) hc hT hp (h:=0) oo).mono ?_;rintro _ _ ⟨g0,g9⟩;refine ⟨g0,?_⟩;refine (zd1 g5 ((e0.t C).trans g0) oo).mono ?_;rintro _ _ ⟨g1,rfl⟩;rw [g3];refine zbe io ?_;rw [show ((zN c p+1:Nat):Int)-1=(zN c p:Int) by omega];refine zad u25 ty3 g9.is (by rw [zah,zhG];exact g4) λ_ _ g2=>?_;rw [zbk] at g2;refine zac ty3 g2 g1 λ_=>⟨C.t (g0.t g1),rfl⟩
noncomputable def zBL (c:DCode) (k:Nat):Tab:=(List.range k).map λp=>(zfP c p,63)
def zzB (c:DCode) (k:Nat):zlD (zBL c (k+1))=zlD (zBL c k)++[zBI (zfP c k,63)]:=by simp [zBL,zlD,qbU]
def zvh (c:DCode) (k:Nat):(zlD (zBL c k)).length=k:=by simp [zBL,zlD]
def zBM (lo hi:Nat) {x:Nat×Nat} (h1:x.1<64) (h2:x.2<64):OwnI lo hi w (.agg #[.int .i64 (x.1:Int),.int .i64 (x.2:Int)]) (zBI x):=
 ⟨[],zwA (x:=zBI x) (by unfold zBI I64;simp only;omega) (by unfold zBI I64;simp only;omega),sS⟩
def zmS (hW:WAt W0 b c) (e0:Ext W0 w) (hc:CodeR c) :
   CALL tp 250 [.pointer (some ⟨b,0,none⟩)] w λr w'=>Ext w w'/\Own w.heap.size w' r (zlD (zBL c c.procs.length)):=by
 refine co (g:=kf [] [(3,4192280,[3,11])] []) Tryz.func250 ?_;have h8:=hc.1.procs8;refine NIL.mk rfl<|zaa zbf<|zaa zdl<|zab zdt (zbd hW.wl.code) e0 λ_ h9=>zae u24 h9<|zap c.procs.length (λk us w'=>∃ v:vL,us=[v,.int .i64 (k:Int)]/\k<=c.procs.length/\Ext w w'/\RowI w.heap.size w'.heap.size 269 w' v (zlD (zBL c k))) 0 (z0 _) ⟨_,rfl,z0 _,xrf _,zb7 _ _ _ _⟩ ?_;rintro k mk _ _ _ ⟨v,hu,_,g0,g1⟩;obtain ⟨g3,g4⟩:=zcZ hu;rw [g3,g4];refine zaf<|br (λ_=>?_) (λ_=>?_)
 case refine_2=>
   have:k=c.procs.length:=oo;rw [this] at g1;exact ⟨g0,g1.own.own⟩
 have hk:k<c.procs.length:=oo;have hs2:=g0.size;refine (zzA hW (e0.t g0) hc hk).mono ?_;rintro _ w3 ⟨g2,rfl⟩;have hs3:=g2.size;refine zaF (cells:=#[.int .i64 (zfP c k:Nat),.int .i64 63]) kK<|zbM (lo2:=w3.heap.size) (hi2:=w3.heap.size) (x:=zBI (zfP c k,63)) zFJ zyx zIc zHk qd (g1.ext g2) oo (zBM _ _ (x:=(zfP c k,63)) zp2 oo) oo oo (by rw [zaj,zvh];omega) (by rw [zvh];omega) λg5 _ g9 gb=>zau<|⟨mk-1,oo,k+1,oo,g5,rfl,oo,(g0.t g2).chgI g9 (lr _),?_⟩;rw [zzB];exact gb
structure FE (w1 w:wD) (g:Nat) (v:vL) (T:Tab):Prop where
 ext:Ext w1 w
 mine:Mine [g] w v (zlD T)
 g0:w1.heap.size<=g
section
variable {w1 w w':wD} {g:Nat} {v:vL} {T:Tab}
def FE.step (h:FE w1 w g v T) (hx:Ext w w'):FE w1 w' g v T:=⟨h.ext.trans hx,h.mine.ext hx,h.g0⟩
def FE.own (h:FE w1 w g v T):Own w1.heap.size w v (zlD T):=⟨[g],h.mine,λb hb=>by simp only [qaa,qad,qaq] at hb;have:=h.g0;omega⟩
def FE.make (ho:Own w1.heap.size w v (zlD T)) (hx:Ext w1 w) (hT:T≠[]):∃ g,FE w1 w g v T:=by
 obtain ⟨_,hm,hF⟩:=ho;obtain ⟨b,_,_,_,rfl⟩:=zia hm (by intro e;exact hT (List.map_eq_nil_iff.1 e));exact ⟨b,hx,hm,hF b sS⟩
def zEZ {q m:Nat} {K:wD->Prop} (h:FE w1 w g v T) (hT:T≠[]) (hq:q<T.length) (hm:m<64) (k:∀ w',FE w1 w' g v (T.set q ((tbl T q).1,m))->ChgI g (g+1) w w'->K w') :
   RD tp (Instr.indexAt 229 v (.int .i64 (q:Int))) w λa=>RD tp (Instr.fieldAt 269 a 1) w λf=>OPU tp (Instr.storeAt 3 f (.int .i64 (m:Int))) w K:=by
 refine zGt (α:=DEffect) (β:=Int) (sel:=DEffect.gen) (g:=λa y=>⟨a.keep,y⟩) zFJ zyx zta ty3 (λh=>znG h) h.mine (by rw [zie];exact hq) (zc5 (v:=m) oo) λw2 F2 g3 g1 g4=>?_
 have hF:F2=[g]:=by
   obtain ⟨b,_,_,_,rfl⟩:=zia g1 (by intro e;have:=qax List.length e;rw [qaW,zie] at this;simp only [qaC] at this;omega);have:=g4 b sS;simpa using this
 subst hF;have g2:=zkK g3;refine k w2 ⟨h.ext.chgI g2 h.g0,?_,h.g0⟩ g2;rw [zBJ];rw [zlE] at g1;exact g1
end
def zE0 (hc:CodeR c):EI c (zBL c c.procs.length):=EI.start c hc
def EI.len {T:Tab} (h:EI c T):T.length=c.procs.length:=h.tab.1
def EI.ne (hc:CodeR c) {T:Tab} (h:EI c T):T≠[]:=λe=>by
 have h1:=h.len;have h2:=hc.1.procs8;rw [e] at h1;simp at h1;omega
structure EP (c:DCode) (T0:Tab) (k:Nat) (ag:Bool) (T:Tab):Prop where
 ei:EI c T
 yes:ag=true->zDF T<zDF T0
 no:ag=false->T=T0/\∀ p,p<k->zfs c T0 p=(tbl T0 p).2
theorem EP.set (hc:CodeR c) {T0 T:Tab} {k:Nat} {ag:Bool} (H:EP c T0 k ag T) (hk:k<c.procs.length) (g0:zfs c T k≠(tbl T k).2):EP c T0 (k+1) true (T.set k ((tbl T k).1,zfs c T k)):=by
 refine ⟨H.ei.upd hc hk,λ_=>?_,λe=>by cases e⟩;have h1:=zBH (T:=T) (p:=k) (v:=((tbl T k).1,zfs c T k)) (by rw [H.ei.len];exact hk);have h2:=H.ei.le hc hk;simp only at h1;cases ag with
 | true=>have:=H.yes rfl;omega
 | false=>rw [(H.no rfl).1] at h1 h2 g0 ⊢;omega
def EP.skip {T0 T:Tab} (H:EP c T0 k ag T) (he:zfs c T k=(tbl T k).2):EP c T0 (k+1) ag T:=
 ⟨H.ei,H.yes,λe=>⟨(H.no e).1,λp hp=>by
   by_cases h:p=k
   . subst h;rw [(H.no e).1] at he;exact he
   exact (H.no e).2 p oo⟩⟩
def zwC (hW:WAt W0 b c) (e0:Ext W0 w) (hc:CodeR c) :
   CALL tp 201 [.pointer (some ⟨b,0,none⟩)] w λr w'=>Ext w w'/\Own w.heap.size w' r (zlD (zeR c)):=by
 refine co (g:=kf [] [(3,4294966896,[4]),(6,4294963312,[4,12])] []) Tryz.func201 ?_;have h8:=hc.1.procs8;refine (zmS hW e0 hc).mono ?_;rintro v8 _ ⟨gc,gd⟩;have g5:=zE0 hc;obtain ⟨g,gf⟩:=FE.make gd gc (g5.ne hc);generalize zBL c c.procs.length=T at *;refine LOOPI.mk (λm us w'=>∃ (ag:Bool) (T:Tab),us=[.bool ag]/\m=zDF T+(if ag then 1 else 0)/\FE w w' g v8 T/\EI c T/\(ag=false->∀ p,p<c.procs.length->zfs c T p=(tbl T p).2)) (zDF T+1) ⟨true,T,rfl,rfl,gf,g5,λe=>by cases e⟩ ?_;rintro m u _ ⟨ag,T,hu,hm,D,g2,gg⟩;try replace hu:=zbv hu
 rw [hu];refine zbX (λg3=>?_) (λg3=>?_)
 case refine_2=>rw [g2.fin hc (gg g3)] at D;exact ⟨D.ext,D.own⟩
 rw [g3,qah rfl] at hm;refine zae zFJ D.mine.is ?_;rw [zie,g2.len];refine zap c.procs.length (λk us w'=>∃ (ag:Bool) (T':Tab),us=[.bool ag,.int .i64 (k:Int)]/\k<=c.procs.length/\FE w w' g v8 T'/\EP c T k ag T') 0 (z0 _) ⟨false,T,rfl,z0 _,D,g2,λe=>(by cases e),λ_=>⟨rfl,λp hp=>oo⟩⟩ ?_;rintro k mk u _ _ ⟨g0,T3,hu,_,g1,C⟩;obtain ⟨gh,gi⟩:=zcZ hu;rw [gh,gi];refine zaf<|br (λ_=>?_) (λ_=>?_)
 case refine_2=>
   refine ⟨zDF T3+(if g0 then 1 else 0),?_,g0,T3,rfl,rfl,g1,C.ei,λe p hp=>?_⟩
   . cases g0 with
     | true=>have:=C.yes rfl;simp;omega
     | false=>rw [(C.no rfl).1];simp;omega
   have:=C.no e;rw [this.1];exact this.2 p oo
 have hk:k<c.procs.length:=oo;refine (zBK hW.wl (e0.t g1.ext) g1.mine.is (xrf _) hc C.ei.tab hk).mono ?_;rintro _ _ ⟨gj,rfl⟩;have g4:=g1.step gj;have gl:=zp7 (T:=T3) hc hk;have hgl:=C.ei.tab.2 k;have g9:k<T3.length:=by rw [C.ei.len];exact hk
 refine zad zFJ zyx g4.mine.is (by rw [zie];exact g9) λ_ _ gb=>?_;rw [zlE] at gb;refine zaa zta<|zac ty3 (zlc gb) (xrf _) λ_=>zaT<|br (λgp=>?_) (λgq=>?_)
 . refine zEZ g4 (C.ei.ne hc) g9 gl λ_ gr _=>?_;refine zau<|⟨mk-1,oo,k+1,oo,true,_,rfl,oo,gr,C.set hc hk λe=>gp (by rw [e];rfl)⟩
 refine zau<|⟨mk-1,oo,k+1,oo,g0,T3,rfl,oo,g4,C.skip (qbo.1 (qai.1 gq))⟩
noncomputable def zxs (c:DCode) (p:Nat):List Nat:=zbK c.procs.length (zow c p 5)
noncomputable def zBN (c:DCode) (r:Nat):List Nat:=zbK c.procs.length (FromP c r)
noncomputable def zoz (c:DCode) (r:Nat):List Nat:=(zBN c r).flatMap (zxs c)
def zzC (hc:CodeR c) (q:Nat):RootP c q↔q=zdr c\/RP (zoz c) (zdr c) q:=by
 have g0:∀ r q,q∈zoz c r↔∃ p,p<c.procs.length/\FromP c r p/\q<c.procs.length/\zow c p 5 q:=λr q=>by
   unfold zoz zBN zxs;simp only [qaJ,zaI];exact ⟨λ⟨p,⟨h1,h2⟩,h3,h4⟩=>⟨p,h1,h2,h3,h4⟩,λ⟨p,h1,h2,h3,h4⟩=>⟨p,⟨h1,h2⟩,h3,h4⟩⟩
 constructor
 . intro h
   induction h with
   | main=>exact .inl rfl
   | @spawn r p q h0 h1 h2 hq ih=>
     have hm:=(g0 r q).2 ⟨p,h1.lt (h0.lt hc),h1,hq,h2⟩;rcases ih with rfl | ih
     . exact .inr (.one hm)
     exact .inr (.more ih hm)
 rintro (rfl | h)
 . exact .main
 refine h.keeps (p:=RootP c) .main λi j hi hj=>?_;obtain ⟨p,_,h1,h2,h3⟩:=(g0 i j).1 hj;exact .spawn hi h1 h3 h2
def zBO {α β:Type} {f:α->List β} {L:List α} (hi:i<L.length) (hj:j<(f L[i]).length):∃ h:((L.take i).flatMap f).length+j<(L.flatMap f).length,(L.flatMap f)[((L.take i).flatMap f).length+j]=(f L[i])[j]:=by
 have e:L.flatMap f=(L.take i).flatMap f++(f L[i]++(L.drop (i+1)).flatMap f):=by
   rw [<-qbD,<-qbc];congr 1;rw [<-qaA hi,qcC]
 have g0:((L.take i).flatMap f).length+j<(L.flatMap f).length:=by rw [e];simp only [qag];omega
 refine ⟨g0,?_⟩
 have:(L.flatMap f)[((L.take i).flatMap f).length+j]?=some (f L[i])[j]:=by
   rw [e,List.getElem?_append_right oo,qcu,List.getElem?_append_left hj,List.getElem?_eq_getElem hj]
 rw [List.getElem?_eq_getElem g0] at this;exact qa0 this
def zzD {α β:Type} {f:α->List β} {L:List α} (hi:i<L.length):((L.take (i+1)).flatMap f).length=((L.take i).flatMap f).length+(f L[i]).length:=by
 rw [tk hi,qbc,qag];simp
def ztE (h0:Is W0 v0 c) (e0:Ext W0 w) (hc:CodeR c) :
   CALL tp 257 [v0] w λr w'=>Ext w w'/\Own w.heap.size w' r (zdQ c.procs.length (RootP c)):=by
 refine co (g:=kf [] [(5,9444732965739288331248,[4,5]),(9,9444732965722110559120,[4,7]),(13,9444732895370546250256,[4,9])] [(7,[0,1,2,3,4,5,6,7],0),(11,[0,1,2,3,4,5,6],0)]) Tryz.func257 ?_;have h8:=hc.1.procs8;obtain ⟨hg,gC⟩:=zg5 hc;have hR:=zzC hc;have hl:∀ x,zoz c x=(zBN c x).flatMap (zxs c):=λ_=>rfl
 have hP:∀ {i j:Nat},i<c.procs.length->j∈zoz c i->j<c.procs.length/\True:=λ{i j} _ hj=>by
   rw [hl] at hj;obtain ⟨p,_,h⟩:=qaJ.1 hj;exact ⟨(zaI.1 h).1,trivial⟩
 refine zbp h0 e0 λw1 hr hA=>?_;have hs1:=hr.size;refine zaa zdl<|zab zdt (zbd hA) (xrf _) λ_ hQ=>zae u24 hQ<|zg3 h8.2 oo λ_ g9 hS=>?_;have hs2:=g9.size;refine zab zbY hA g9 λ_ hV=>?_;refine (zkG hV g9).mono ?_;rintro _ hW ⟨X,rfl⟩;rw [hg];have hX:=X.size;have gH:=hS.ext X;generalize hn:c.procs.length=n at *;generalize zdr c=a at *;refine zcU (α:=Bool) rfl zfU ty4 gC<|zb5 (α:=Bool) rfl ty4 gH sS gC zcx λhs hY gb=>?_;have g1:ChgI w1.heap.size (w1.heap.size+1) hW hs:=hY.toI λb hb=>by simp only [qaa,qad,qaq] at hb;omega
 have hZ:=g1.size;have gI:((List.replicate n false).set a true).length=n:=by simp
 have ht:∀ i,mkd ((List.replicate n false).set a true) i↔i=a:=λi=>by
   rw [zdj (by simp;exact gC)];exact ⟨λh=>h.resolve_left zb8,.inr⟩
 generalize (List.replicate n false).set a true=M0 at *;have Z:Ext w1 hs:=(g9.t X).chgI g1 oo;refine zab zbY hA Z λ_ j0=>?_;refine (zkG j0 Z).mono ?_;rintro _ j1 ⟨g2,rfl⟩;rw [hg];have j2:=g2.size;refine zci (x:=(a:Int)) u25 ty3 z3 qd (zbt io) λhv w3 gJ j3=>?_;have j4:=gJ.size;generalize hm:w1.heap.size=m at *;have j5:WI w1 w3 m n j1.heap.size w3.heap.size hv [a] M0:=⟨(((g9.t X).toI.trans g1).trans g2.toI).trans gJ.toI,j3,(gb.ext g2).ext gJ,oo,by have:=gb.lt m sS;omega,j4,qaz _⟩;have j6:∀ x p,p∈zBN c x->p<n:=λx p hp=>by have:=(zaI.1 hp).1;omega
 have gK:∀ x,(zBN c x).length<=n:=λx=>by have:=zbz (n:=c.procs.length) (p:=FromP c x);rw [hn] at this;unfold zBN;rw [hn];exact this
 have gM:∀ x,(zxs c x).length<=n:=λx=>by have:=zbz (n:=c.procs.length) (p:=zow c x 5);rw [hn] at this;unfold zxs;rw [hn];exact this
 generalize hnx:zoz c=nx at *;refine zap (1+n) (λh us w'=>∃ (tv:vL) (lo hi:Nat) (L:List Nat) (ms:List Bool),us=[tv,.int .i64 (h:Int)]/\h<=L.length/\WI w1 w' m n lo hi tv L ms/\SInv nx n a M0 ms (L.drop h) h) 0 (z0 _) ⟨hv,_,_,[a],_,rfl,sS,j5,SInv.start gI gC⟩ ?_;rintro h mk u w4 _ ⟨tv,lo,hi,L,ms,hu,_,gD,g4⟩;obtain ⟨gc,gd⟩:=zcZ hu;clear hu;rw [gc,gd];have j7:=g4.bound;rw [qa8] at j7;refine zae u25 gD.row.is ?_;rw [zah];refine zaf<|br (λ_=>?_) (λ_=>?_)
 case refine_2=>
   have j8:h=L.length:=oo;rw [j8,qbB] at g4;have gN:=g4.fin λi hi j9=>absurd ((ht i).1 hi) j9;have ja:ms=zdQ n (RootP c):=zcT g4.len λi hi=>by rw [gN i,ht,hR]
   rw [<-ja];have jb:Ext w1 w4:=(xrf w1).chgI gD.chg oo;exact ⟨hr.t jb,[m],gD.mks,λb hb=>by simp only [qaa,qad,qaq] at hb;omega⟩
 have hh:h<L.length:=oo;have jc:=zag w4;have g5:=gD.step jc;generalize World.drew1 w4=w5 at *;have gE:∀ {w:wD} {lo hi tv L ms},WI w1 w m n lo hi tv L ms->Ext w1 w:=λh=>(xrf w1).chgI h.chg oo;refine zab zbY hA (gE g5) λ_ jd=>zad u25 ty3 (i:=h) g5.row.is (by rw [zah];exact hh) λb1 o1 gf=>?_;rw [za9] at gf;refine zac ty3 gf (xrf _) λ_=>?_;generalize hx:L[h]=x at *;have gO:L.drop h=x :: L.drop (h+1):=by rw [qaA hh,hx]
 have hw:x<n:=(g4.tdo x (by rw [gO];simp)).2;refine (ztz jd (gE g5) hc (by rw [hn];exact hw)).mono ?_;rintro _ gg ⟨gh,_,rfl,_,je⟩;refine (zhC je.is (xrf _) (by rw [zaM];omega)).mono ?_;rintro gP w6 ⟨hz,hB⟩;have jf:(λi=>i=x\/RP (zrN c) x i)=FromP c x:=rfl;rw [zaM,zjP,jf] at hB;have gQ:Own gg.heap.size w6 gP (za5 (zBN c x)):=hB;have jg:=(g5.step gh).step hz;have hI6:=g5.h3;have jh:=gh.size;have hs6:=hz.size;have ji:SIn2 nx n a M0 ms (L.drop (h+1)) h x 0:=g4.pop (λi=>by rw [gO];simp [or_comm]) (by rw [gO];simp);have hfx:=gK x;have gR:=j6 x;have gi:nx x=(zBN c x).flatMap (zxs c):=hl x;generalize zBN c x=Fl at *;refine zap Fl.length (λk us w'=>∃ (tv:vL) (lo hi:Nat) (L:List Nat) (ms:List Bool),us=[tv,.int .i64 (k:Int)]/\k<=Fl.length/\h<L.length/\WI w1 w' m n lo hi tv L ms/\SIn2 nx n a M0 ms (L.drop (h+1)) h x ((Fl.take k).flatMap (zxs c)).length/\OwnI gg.heap.size w6.heap.size w' gP (za5 Fl)/\(hi<=gg.heap.size\/w6.heap.size<=lo)/\w6.heap.size<=w'.heap.size) 0 (z0 _) ⟨tv,lo,hi,L,ms,rfl,z0 _,hh,jg,ji,gQ.toI,.inl oo,qaz _⟩ ?_;rintro k jj u w7 _ ⟨hC,hD,hF,L7,hG,hu,_,jk,hH,hI,hJ,jl,_⟩;obtain ⟨gc,gd⟩:=zcZ hu;clear hu;rw [gc,gd];refine zae u25 hJ.is ?_;rw [zah];refine zaf<|br (λ_=>?_) (λ_=>?_)
 case refine_2=>refine zau<|⟨mk-1,oo,h+1,oo,hC,hD,hF,L7,hG,rfl,oo,hH,hI.done ?_⟩;rw [gi,show Fl.take k=Fl from qaf oo];exact qaz _
 have hk:k<Fl.length:=oo;have gS:=zag w7;have gF:=hH.step gS;have hK:=hJ.ext gS;have hs8:=gS.size;generalize World.drew1 w7=w8 at *;refine zab zbY hA (gE gF) λ_ jm=>zad u25 ty3 (i:=k) hK.is (by rw [zah];exact hk) λ_ _ hL=>?_;rw [za9] at hL;refine zac ty3 hL (xrf _) λ_=>?_;have hM:=λj=>zBO (f:=zxs c) (L:=Fl) (i:=k) (j:=j) hk;have jn:=zzD (f:=zxs c) (L:=Fl) (i:=k) hk;have jo:=gR _ (qac hk);rw [<-gi] at hM;generalize Fl[k]=p at *;refine (zrK jm (gE gF) hc (p:=p) (op:=5) (by rw [hc.2.1.1,hn];exact jo) (.inr rfl)).mono ?_;rintro gG w9 ⟨gU,jp⟩;have gV:Own w8.heap.size w9 gG (za5 (zxs c p)):=jp;have jq:=gF.step gU;have hs9:=gU.size;have hop:=gM p;generalize zxs c p=Ol at *;generalize hq0:((Fl.take k).flatMap (zxs c)).length=q0 at *;have jr:=gF.h3;refine zap Ol.length (λj us w'=>∃ (tv:vL) (lo hi:Nat) (L:List Nat) (ms:List Bool),us=[tv,.int .i64 (j:Int)]/\j<=Ol.length/\h<L.length/\WI w1 w' m n lo hi tv L ms/\SIn2 nx n a M0 ms (L.drop (h+1)) h x (q0+j)/\OwnI gg.heap.size w6.heap.size w' gP (za5 Fl)/\(hi<=gg.heap.size\/w6.heap.size<=lo)/\OwnI w8.heap.size w9.heap.size w' gG (za5 Ol)/\(hi<=w8.heap.size\/w9.heap.size<=lo)/\w9.heap.size<=w'.heap.size) 0 (z0 _) ⟨hC,hD,hF,L7,hG,rfl,z0 _,jk,jq,hI,hK.ext gU,jl,gV.toI,.inl jr,qaz _⟩ ?_;rintro j gj u js _ ⟨gl,gp,gq,L10,D,hu,_,gr,I,O,g3,gs,U,gt,gW⟩;obtain ⟨gc,gd⟩:=zcZ hu;rw [gc,gd];refine zae u25 U.is ?_;rw [zah];refine zaf<|br (λ_=>?_) (λ_=>?_)
 case refine_2=>refine zau<|⟨jj-1,oo,k+1,oo,gl,gp,gq,L10,D,rfl,oo,gr,I,?_,g3,gs,oo⟩;rw [jn,show Ol.length=j by omega];exact O
 have hj:j<Ol.length:=oo;obtain ⟨hq,jt⟩:=hM j hj
 have gX:∀ {w:wD} {K:vL->Prop} (ho:OwnI w8.heap.size w9.heap.size w gG (za5 Ol)) (kk:K (.int .i64 (((nx x)[q0+j]:Nat):Int))),RD tp (Instr.indexAt 25 gG (.int .i64 (j:Int))) w λju=>RD tp (Instr.loadAt 3 ju) w K:=λho kk=>by
   refine zad u25 ty3 (i:=j) ho.is (by rw [zah];exact hj) λb1 o1 gf=>?_;rw [za9,<-jt] at gf;exact zac ty3 gf (xrf _) λ_=>kk
 have hy:=hP hw (qac hq);refine gX U ?_;have C:=O.len;refine zad zfU ty4 I.mks.is (by rw [C];exact hy.1) λ_ _ jv=>zbi ty4 jv (xrf _)<|za2 ?_;have g0:=zce (ms:=D) (i:=(nx x)[q0+j]) (by rw [C];exact hy.1);refine zbX (λhf=>?_) (λhf=>?_)
 . have gY:¬mkd D (nx x)[q0+j]:=by rw [g0];simpa using hf
   refine gX U<|zcU (α:=Bool) rfl zfU ty4 hy.1<|zb5 (α:=Bool) rfl ty4 I.mks C hy.1 zcx λjw gx gZ=>?_;have gy:=I.mark gx gZ;have V:ChgI m (m+1) js jw:=gx.toI λb hb=>by simp only [qaa,qad,qaq] at hb;omega
   have hm4:=g5.mks.lt m sS;have h4:=g3.chg V oo;have gz:=U.chg V oo;refine gX gz ?_;have h5:=O.push hq hy.1 gY;generalize (nx x)[q0+j]=y at *
   have hLb:L10.length<=2+n:=by
     have h1:=O.cnt;have h2:=zhu D;rw [qa8] at h1;omega
   refine zek (x:=(y:Int)) u25 ty3 z3 zc3 qd gy.row (zeo 0 0 io) (by rw [zaj,zah];omega) (by rw [zah];omega) λjx _ h6 h9 Y ha hd=>?_;have he:=gy.push Y ha hd;have hN:=V.size;have hO:=Y.size;refine zau<|⟨gj-1,oo,j+1,oo,jx,h6,h9,L10++[y],_,rfl,oo,by simp;omega,he,?_,h4.chg Y oo,oo,gz.chg Y oo,oo,oo⟩;rw [qb0 oo];exact h5
 have gY:mkd D (nx x)[q0+j]:=by rw [g0];simpa using hf
 refine zau<|⟨gj-1,oo,j+1,oo,gl,gp,gq,L10,D,rfl,oo,gr,I,O.skip hq gY,g3,gs,U,gt,gW⟩
def BI.updM (hc:CodeR c) {out:List Nat} (h:BI c out) {p i hh:Nat} (hu:UsedP c p) (hi:za4 c p i) (ho:(zal c i).op=4) (g2:∀ l,l<6->hh.testBit l=false->LostM c (tK (zeR c)) (tG (zeR c)) p none l) :
   BI c (out.set (agN c i) (zaE out (agN c i) &&& zaE (zd8 c (zeR c) p hh) i)):=by
 have hp:=hu.lt hc;have g0:=(zcF hc (by rw [hc.2.1.1];exact hp) hi).1;have hq:=(zbS hc g0 (.inl ho)).2;refine ⟨by simp [h.len],λx hx=>?_,λr l hr hl hb=>?_,λr l hr hl=>?_⟩
 . rcases zdx hx with rfl | hx
   . exact qaL qbm (h.lt0 _)
   exact h.lt x hx
 . rw [zcj (by rw [h.len];exact hq)] at hb;split at hb
   . rename_i e;subst e;rw [qaX,qbL] at hb;rcases hb with hb | hb
     . exact h.snd _ l hr hl hb
     refine .call hu hi ho ?_;have k:=(zp9 g0 hl).1 hb
     have g1:∀ {i l:Nat},l<6->LostP c (tK (zeR c)) (tG (zeR c)) p (λl=>hh.testBit l=true) i l->LostM c (tK (zeR c)) (tG (zeR c)) p (some i) l:=λ{i l} hl k=>by
       induction k with
       | ent h0=>exact .ent (g2 _ hl (by simpa using h0))
       | gen h0 hj h1=>exact .gen h0 hj h1
       | pass h0 hj _ h2 ih=>exact .pass h0 hj (ih hl) h2
     exact g1 hl k
   exact h.snd r l hr hl hb
 rw [zcj (by rw [h.len];exact hq)];split
 . rename_i e;rw [qaX,e,h.root r l hr hl];rfl
 exact h.root r l hr hl
def CL (c:DCode) (out:List Nat) (p i:Nat):Prop:=zaE out (agN c i) &&& zaE (zd8 c (zeR c) p (zaE out p)) i=zaE out (agN c i)
structure BQ (c:DCode) (out0:List Nat) (ag:Bool) (out:List Nat) (D:Nat->Nat->Prop):Prop where
 bi:BI c out
 yes:ag=true->out.sum<out0.sum
 no:ag=false->out=out0/\∀ p i,D p i->UsedP c p->za4 c p i->(zal c i).op=4->CL c out0 p i
def BQ.mono {out0 out:List Nat} {D D':Nat->Nat->Prop} (H:BQ c out0 ag out D) (h:∀ p i,UsedP c p->za4 c p i->(zal c i).op=4->D' p i->D p i):BQ c out0 ag out D':=
 ⟨H.bi,H.yes,λe=>⟨(H.no e).1,λp i hd hu hl ho=>(H.no e).2 p i (h p i hu hl ho hd) hu hl ho⟩⟩
theorem BQ.set (hc:CodeR c) {out0 out:List Nat} {ag:Bool} {D D':Nat->Nat->Prop} (H:BQ c out0 ag out D) {p i hh:Nat} (hu:UsedP c p) (hi:za4 c p i) (ho:(zal c i).op=4) (hb:∀ l,l<6->hh.testBit l=false->LostM c (tK (zeR c)) (tG (zeR c)) p none l)
   (g1:zaE out (agN c i) &&& zaE (zd8 c (zeR c) p hh) i≠zaE out (agN c i)):BQ c out0 true (out.set (agN c i) (zaE out (agN c i) &&& zaE (zd8 c (zeR c) p hh) i)) D':=by
 have g0:=(zcF hc (by rw [hc.2.1.1];exact hu.lt hc) hi).1;have hq:=(zbS hc g0 (.inl ho)).2;refine ⟨H.bi.updM hc hu hi ho hb,λ_=>?_,λe=>by cases e⟩;have h1:=zkI (l:=out) (i:=agN c i) (v:=zaE out (agN c i) &&& zaE (zd8 c (zeR c) p hh) i) (by rw [H.bi.len];exact hq);have h2:=zDE g1;cases ag with
 | true=>have:=H.yes rfl;omega
 | false=>rw [(H.no rfl).1] at h1 h2 ⊢;omega
def BQ.skip {out0 out:List Nat} {D D':Nat->Nat->Prop} (H:BQ c out0 ag out D) {p i hh:Nat} (hz:ag=false->hh=zaE out0 p) (hD:∀ q j,D' q j->D q j\/(q=p/\j=i)) (he:zaE out (agN c i) &&& zaE (zd8 c (zeR c) p hh) i=zaE out (agN c i)):BQ c out0 ag out D':=
 ⟨H.bi,H.yes,λe=>⟨(H.no e).1,λq j hd hu hl ho=>by
   rcases hD q j hd with h | ⟨rfl,rfl⟩
   . exact (H.no e).2 q j h hu hl ho
   unfold CL;rw [<-hz e,<-(H.no e).1];exact he⟩⟩
def BS (c:DCode) (k:Nat) (out:List Nat):Prop:=out.length=c.procs.length/\∀ p,p<c.procs.length->(¬(p<k/\¬RootP c p)->zaE out p=0)/\(p<k->¬RootP c p->zaE out p=63)
def BS.fin (hc:CodeR c) {out:List Nat} (h:BS c c.procs.length out):BI c out:=BI.start hc out h.1 λp hp=>⟨λhr=>(h.2 p hp).1 λhn=>hn.2 hr,λhr=>(h.2 p hp).2 hp hr⟩
def zwD (hW:WAt W0 b c) (e0:Ext W0 w) (h1:Is W1 v1 (zlD (zeR c))) (e1:Ext W1 w) (hc:CodeR c) :
   CALL tp 202 [.pointer (some ⟨b,0,none⟩),v1] w λr w'=>Ext w w'/\Own w.heap.size w' r (za5 (zFO c)):=by
 refine co (g:=kf [] [(3,137430564928,[23]),(9,81129638414606681695651566204544,[7]),(12,81129638414606681678196819113600,[7,44]),(16,40564819207302187926389895737472,[7,60])] [(19,[0,1,2,3,4,5,6,7,8,9,10,11,12,13,14,15,16,17,18,19,20],0),(20,[0,1,2,3,4,5,6,7,8,9,10,11],0)]) Tryz.func202 ?_;have h8:=hc.1.procs8;have hQ:=hc.f.ins;have hR:=zoy c;refine NIL.mk rfl<|zaa zbf<|zaa zdl<|zab zdt (zbd hW.wl.code) e0 λ_ hS=>zae u24 hS ?_;have hn:c.procs.length=c.procs.length:=rfl;generalize hnn:c.procs.length=n at hn;rw [hnn] at h8;refine zft oo oo λw2 ha hd=>?_;have hs2:=ha.size;generalize hg:w.heap.size=g at *;have he:FW w w2 g n (List.replicate n 0):=⟨ha,hd,oo⟩;have hq:BS c 0 (List.replicate n 0):=⟨by simp [hnn],λp hp=>⟨λ_=>by rw [<-zbn so];simp,λh=>oo⟩⟩;refine zqa u25 ?_;have hrs:zdp c<256:=zbu (by rw [hnn];omega);refine zap n (λk us w'=>∃ out,us=[.int .i64 (k:Int)]/\k<=n/\FW w w' g n out/\BS c k out) 0 (z0 _) ⟨_,rfl,z0 _,he,hq⟩ ?_;rintro k mk u _ hs ⟨out,hu,hV,gF,gg⟩;try replace hu:=zbv hu
 rw [hu];have gG:=gg.1;refine zaf<|br (λht=>?_) (λhv=>?_)
 . have hk:k<n:=oo;refine NIL.mk rfl<|zaa ziC<|zac ty3 hW.roots (e0.t gF.ext) λ_=>?_;refine (zgB (m:=zdp c) (i:=k) oo oo).mono ?_;rintro _ _ ⟨hX,rfl⟩;have gH:=gF.step hX
   have gj:(zdp c).testBit k=true↔RootP c k:=by
     unfold zdp;rw [za6];exact ⟨λh=>h.2,λh=>⟨oo,h⟩⟩
   refine za2<|zbX (λhf=>?_) (λhf=>?_)
   . have hY:¬RootP c k:=λh=>by rw [gj.2 h] at hf;cases hf
     refine zcU (α:=Int) rfl u25 ty3 hk<|zb5 (α:=Int) rfl ty3 gH.mine (by rw [zah];omega) hk (zc5 (v:=63) oo) λ_ hZ j0=>?_;have j1:=gH.set (v:=63) hZ j0;refine zau<|⟨mk-1,oo,k+1,oo,_,rfl,oo,j1,by simp [gG],λp hp=>?_⟩;rw [zcj (by rw [gG,hnn];exact hk)];have:=gg.2 p hp;by_cases e:k=p
     . subst e;exact ⟨λh=>absurd ⟨oo,hY⟩ h,λ_ _=>by rw [qah rfl]⟩
     rw [qab e];exact ⟨λh=>this.1 λh2=>h ⟨oo,h2.2⟩,λh=>this.2 oo⟩
   have hr:RootP c k:=gj.1 (by simpa using hf);refine zau<|⟨mk-1,oo,k+1,oo,_,rfl,oo,gH,gG,λp hp=>?_⟩;have:=gg.2 p hp;by_cases e:k=p
   . subst e;exact ⟨λ_=>this.1 λh=>h.2 hr,λ_ h=>absurd hr h⟩
   exact ⟨λh=>this.1 λh2=>h ⟨oo,h2.2⟩,λh=>this.2 oo⟩
 have hk:k=n:=oo;rw [hk,<-hnn] at gg;have j2:=gg.fin hc;clear he hd hq hu hs gg;have hus:zfg c<256:=zbu (by rw [hnn];omega);refine LOOPI.mk (λm us w'=>∃ (ag:Bool) (out:List Nat),us=[.bool ag]/\m=out.sum+(if ag then 1 else 0)/\FW w w' g n out/\BI c out/\(ag=false->∀ p i,UsedP c p->za4 c p i->(zal c i).op=4->CL c out p i)) (out.sum+1) ⟨true,out,rfl,rfl,gF,j2,λe=>by cases e⟩ ?_;rintro m u w6 ⟨ag,out,hu,hm,gh,hw,j3⟩;try replace hu:=zbv hu
 rw [hu];refine zbX (λgI=>?_) (λgI=>?_)
 case refine_2=>rw [hw.fin hc (j3 gI)] at gh;have hx:=gh.own;rw [hg] at hx;exact ⟨gh.ext,hx⟩
 rw [gI,qah rfl] at hm;refine NIL.mk rfl<|zaa ziD<|zac ty3 hW.used (e0.t gh.ext) λ_=>?_;refine (zdR (m:=zfg c) oo).mono ?_;rintro hy w7 ⟨j4,gE⟩;unfold zfg at gE;rw [zeS (by rw [hnn];omega)] at gE;have j5:=gh.step j4;have hg6:=gh.lt;have hL:∀ p,p∈zbK c.procs.length (UsedP c)↔UsedP c p:=λp=>by rw [zaI];exact ⟨λh=>h.2,λh=>⟨h.lt hc,h⟩⟩
 have hLl:(zbK c.procs.length (UsedP c)).length<=8:=qat zbz (by rw [hnn];omega);generalize zbK c.procs.length (UsedP c)=L at *;have j6:=gE.toI;generalize hlo:w6.heap.size=lo at *;generalize hhi:w7.heap.size=hi at *;refine zae u25 gE.is ?_;rw [zah];refine zap L.length (λk us w'=>∃ (ag:Bool) (out':List Nat),us=[.bool ag,.int .i64 (k:Int)]/\k<=L.length/\FW w w' g n out'/\OwnI lo hi w' hy (za5 L)/\BQ c out ag out' (λp i=>p∈L.take k)) 0 (z0 _) ⟨false,out,rfl,z0 _,j5,j6,hw,λe=>(by cases e),λ_=>⟨rfl,λp i h=>by simp at h⟩⟩ ?_;rintro k mk u w8 hs ⟨gl,I,hu,hV,gi,hz,g1⟩;obtain ⟨gJ,gK⟩:=zcZ hu;clear hu;rw [gJ,gK];refine zaf<|br (λht=>?_) (λhv=>?_)
 case refine_2=>
   refine ⟨I.sum+(if gl then 1 else 0),?_,gl,I,rfl,rfl,gi,g1.bi,λe p i hu hl ho=>?_⟩
   . cases gl with
     | true=>have:=g1.yes rfl;simp;omega
     | false=>rw [(g1.no rfl).1];simp;omega
   have:=g1.no e;rw [this.1];exact this.2 p i (by rw [qaf oo];exact (hL p).2 hu) hu hl ho
 have hk:k<L.length:=oo;refine zad u25 ty3 (i:=k) hz.is (by rw [zah];exact hk) λ_ _ hB=>?_;rw [za9] at hB;refine zac ty3 hB (xrf _) λ_=>?_;have j7:=λx=>zbG hk (x:=x);have hC:=(hL L[k]).1 (qac hk);generalize L[k]=p at *;have gp:=hC.lt hc;have hD:p<c.entry.length:=by rw [hc.2.1.1];exact gp
 have j8:=g1.bi.len;refine zad u25 ty3 (i:=p) gi.mine.is (by rw [zah,j8];exact gp) λ_ _ hG=>?_;rw [zbk] at hG;refine zac ty3 hG (xrf _) λ_=>?_;have gM:=g1.bi.lt0 p;have j9:∀ l,l<6->(zaE I p).testBit l=false->LostM c (tK (zeR c)) (tG (zeR c)) p none l:=λl hl hb=>g1.bi.snd p l gp hl hb;have ja:gl=false->zaE I p=zaE out p:=λe=>by rw [(g1.no e).1]
 generalize zaE I p=hh at *;refine (ztD hW.wl (e0.t gi.ext) h1 (e1.trans gi.ext) hc hR gp gM).mono ?_;rintro gN w9 ⟨hH,jb⟩;have gO:=gi.step hH;have jc:=hz.ext hH;have hg8:=gi.lt;refine (zhI hW.wl (e0.t gO.ext) hc gp).mono ?_;rintro jd je ⟨g9,gq⟩;have gP:=gO.step g9;have gQ:=jc.ext g9;have hg9:=gO.lt;have gR:=jb.toI.ext g9;have hM:∀ i,i∈zbK c.ins.length (za4 c p)↔za4 c p i:=λi=>by rw [zaI];exact ⟨λh=>h.2,λh=>⟨(zcF hc hD h).1,h⟩⟩
 have hMl:(zbK c.ins.length (za4 c p)).length<=1500:=qat zbz hQ;generalize zbK c.ins.length (za4 c p)=M at *;have gr:=gq.toI;generalize hl9:w9.heap.size=lo9 at *;generalize hl10:je.heap.size=hi10 at *;generalize hl8':w8.heap.size=lo8 at *;refine zae u25 gq.is ?_;rw [zah];have jf:(zd8 c (zeR c) p hh).length=c.ins.length:=zhG _ _ _ _;have gS:=zp4 (c:=c) (T:=zeR c) (p:=p) (h:=hh);refine zap M.length (λj us w'=>∃ (ag:Bool) (out':List Nat),us=[.bool ag,.int .i64 (j:Int)]/\j<=M.length/\FW w w' g n out'/\OwnI lo hi w' hy (za5 L)/\OwnI lo8 lo9 w' gN (za5 (zd8 c (zeR c) p hh))/\OwnI lo9 hi10 w' jd (za5 M)/\BQ c out ag out' (λq i=>q∈L.take k\/(q=p/\i∈M.take j))/\(ag=false->hh=zaE out p)) 0 (z0 _) ⟨gl,I,rfl,z0 _,gP,gQ,gR,gr,g1.mono λq i _ _ _ h=>h.elim id λh=>by simp at h,ja⟩ ?_;rintro j mj u _ _ ⟨g2,C,hu,_,U,gs,gU,g5,O,gb⟩;obtain ⟨gJ,gK⟩:=zcZ hu;clear hu;rw [gJ,gK];refine zaf<|br (λht=>?_) (λhv=>?_)
 case refine_2=>
   refine zau<|⟨mk-1,oo,k+1,oo,g2,C,rfl,oo,U,gs,O.mono λq i hu hl ho h=>?_⟩;rcases (j7 q).1 h with h | rfl
   . exact .inl h
   exact .inr ⟨rfl,by rw [qaf oo];exact (hM i).2 hl⟩
 have hj:j<M.length:=oo;refine zad u25 ty3 (i:=j) g5.is (by rw [zah];exact hj) λ_ _ hI=>?_;rw [za9] at hI;refine zac ty3 hI (xrf _) λ_=>?_;have hJ:=λx=>zbG hj (x:=x);have hK:=(hM M[j]).1 (qac hj);generalize M[j]=i at *;have gV:=(zcF hc hD hK).1;refine NIL.mk rfl<|zaa zbf<|zaa zaY<|zab zdD (zam hW.wl.code) (e0.t U.ext) λ_ jg=>zad u26 zbm jg gV λ_ _ hN=>?_;rw [zaG] at hN;refine zab zbm hN (e0.t U.ext) λ_ jh=>zcP ziG rfl zbm rfl jh (e0.t U.ext) λhO gW g3 _=>?_;have V:=zag hO;have D:=gW.t V;have X:=U.step D;have gc:=gs.ext D;have g4:=gU.ext D;have Y:=g5.ext D;generalize World.drew1 hO=w13 at *;refine zaa za8<|zac ty3 (zay g3) V λ_=>zai ?_
 have ji:¬(zal c i).op=4->BQ c out g2 C (λq i=>q∈L.take k\/(q=p/\i∈M.take (j+1))):=λhn=>O.mono λq i' _ _ ho h=>h.imp id λ⟨h1,h2⟩=>⟨h1,by
   rcases (hJ i').1 h2 with h | rfl
   . exact h
   exact absurd ho hn⟩
 refine br (λc4=>?_) (λc4=>?_)
 case refine_2=>refine zau<|⟨mj-1,oo,j+1,oo,g2,C,rfl,oo,X,gc,g4,Y,ji c4,gb⟩
 obtain ⟨gd,gX⟩:=zbS hc gV (.inl c4);have gt:=O.bi.len;have gY:=λD'=>O.set (D':=D') hc hC hK c4 j9
 have gx:=O.skip (D':=λq i=>q∈L.take k\/(q=p/\i∈M.take (j+1))) (p:=p) (i:=i) gb λq j' h=>by
   rcases h with h | ⟨h1,h2⟩
   . exact .inl (.inl h)
   rcases (hJ j').1 h2 with h | h
   . exact .inl (.inr ⟨h1,h⟩)
   exact .inr ⟨h1,h⟩
 have jj:=O.bi.lt0 (agN c i);have jk:=zep gS i
 have gZ:∀ {w':wD} {K:vL->Prop} (hF:FW w w' g n C) (k:K (.int .i64 (zaE C (agN c i):Int))),RD tp (Instr.indexAt 25 (.slice (some ⟨g,0,none⟩) n n) (.int .i64 (agN c i:Int))) w' λh4=>RD tp (Instr.loadAt 3 h4) w' K:=λhF k=>by
   refine zad u25 ty3 (i:=agN c i) hF.mine.is (by rw [zah,gt];exact gX) λb1 o1 gy=>?_;rw [zbk] at gy;exact zac ty3 gy (xrf _) λ_=>k
 have hP:∀ {w':wD} {K:vL->Prop} (hA:OwnI lo8 lo9 w' gN (za5 (zd8 c (zeR c) p hh))) (k:K (.int .i64 (zaE (zd8 c (zeR c) p hh) i:Int))),RD tp (Instr.indexAt 25 gN (.int .i64 (i:Int))) w' λh4=>RD tp (Instr.loadAt 3 h4) w' K:=λhA k=>by
   refine zad u25 ty3 (i:=i) hA.is (by rw [zah,jf];exact gV) λb1 o1 gy=>?_;rw [zbk] at gy;exact zac ty3 gy (xrf _) λ_=>k
 refine zaa zaZ<|zac ty3 (zat g3) V λ_=>?_;rw [gd];refine gZ X<|hP g4<|zhD oo oo<|zaa zaZ<|zac ty3 (zat g3) V λ_=>?_;rw [gd];refine gZ X<|zaT<|br (λjl=>?_) (λjm=>?_)
 . have Z:=zag w13;have gf:=X.step Z;have h5:=gc.ext Z;have gz:=g4.ext Z;have gC:=Y.ext Z;generalize World.drew1 w13=w14 at *;refine zaa zaZ<|zac ty3 (zat g3) (V.t Z) λ_=>?_;rw [gd];refine gZ gf<|hP gz<|zhD oo oo ?_;have hvl:=qbm (n:=zaE C (agN c i)) (m:=zaE (zd8 c (zeR c) p hh) i);refine zcU (α:=Int) rfl u25 ty3 oo<|zb5 (α:=Int) rfl ty3 gf.mine (by rw [zah,gt,hnn]) oo (zc5 (v:=zaE C (agN c i) &&& zaE (zd8 c (zeR c) p hh) i) oo) λ_ gD h6=>?_;have h9:=gf.set (v:=zaE C (agN c i) &&& zaE (zd8 c (zeR c) p hh) i) gD h6;have g0:=zkK gD;refine zau<|⟨mj-1,oo,j+1,oo,true,_,rfl,oo,h9,h5.chg g0 oo,gz.chg g0 oo,gC.chg g0 oo,gY _ λe=>jl (by rw [e]),λe=>by cases e⟩
 refine zau<|⟨mj-1,oo,j+1,oo,g2,C,rfl,oo,X,gc,g4,Y,gx (qbo.1 (qai.1 jm)),gb⟩
def MS (c:DCode) (out:List Nat) (D:Nat->Prop):Prop:=out.length=c.ins.length/\∀ i,i<c.ins.length->D i->zaE out i=zhH c i
def MS.set {D D':Nat->Prop} (h:MS c out D) {i v:Nat} (hi:i<c.ins.length) (hv:v=zhH c i) (hD:∀ j,D' j->D j\/j=i):MS c (out.set i v) D':=by
 refine ⟨by simp [h.1],λj hj hd=>?_⟩;rw [zcj (by rw [h.1];exact hi)];by_cases e:i=j
 . subst e;rw [qah rfl];exact hv
 rw [qab e];exact h.2 j hj ((hD j hd).resolve_right λe'=>e e'.symm)
def MS.mono {D D':Nat->Prop} (h:MS c out D) (hD:∀ j,j<c.ins.length->D' j->D j):MS c out D':=⟨h.1,λj hj hd=>h.2 j hj (hD j hj hd)⟩
def MS.fin {D:Nat->Prop} (h:MS c out D) (hD:∀ j,j<c.ins.length->D j):out=zg6 c:=by
 refine qaU (by rw [h.1,zmP]) λi h1 h2=>?_;have hi:i<c.ins.length:=by rw [<-h.1];exact h1
 rw [zbn h1,zbn h2,zve hi,h.2 i hi (hD i hi)]
def zmT (hc:CodeR c) {i:Nat} (hi:i<c.ins.length):∃ p,p<c.procs.length/\zas c i=p/\eN c p<=i/\i<=zN c p:=by
 obtain ⟨q,hq,_,_,h3⟩:=hc.f.find hc.1.procs8.2 (a:=(i:Int)) oo oo;have g0:=zzq hc hi hq h3;exact ⟨q,by have:=hc.2.1.1;omega,h3,g0⟩
def zE1 (hW:WAt W0 b c) (e0:Ext W0 w) (hc:CodeR c) :
   CALL tp 139 [.pointer (some ⟨b,0,none⟩)] w λr w'=>Ext w w'/\Own w.heap.size w' r (za5 (zg6 c)):=by
 refine co (g:=kf [] [(5,4261412928,[25]),(10,75557863725639445513984,[38]),(14,37778643632581009998848,[10])] []) Tryz.func139 ?_;have h8:=hc.1.procs8;have gP:=hc.f.ins;have gQ:=zoy c;refine (zwC hW e0 hc).mono ?_;rintro _ _ ⟨gd,gr⟩;have hs1:=gd.size;refine (zwD hW (e0.t gd) gr.is (xrf _) hc).mono ?_;rintro _ w2 ⟨gf,gR⟩;have hs2:=gf.size;have g0:=gd.t gf;have e2:=e0.t g0;have gS:=gr.is.ext gf;have gU:=gR.is;refine NIL.mk rfl<|zaa zbf<|zaa zaY<|zab zdD (zam hW.wl.code) e2 λ_ gV=>zae u26 gV ?_;have hn:c.ins.length=c.ins.length:=rfl;generalize hnn:c.ins.length=n at hn;rw [hnn] at gP;have hz0:=(zhe hc h8.2).2.2;refine zft oo oo λw3 gs gW=>?_;have hs3:=gs.size;generalize hg:w2.heap.size=g at *;have gX:FW w2 w3 g n (fil n 0):=⟨gs,by simpa [fil] using gW,oo⟩;refine zqa u25<|zap n (λk us w'=>us=[.int .i64 (k:Int)]/\k<=n/\FW w2 w' g n (fil n k)) 0 (z0 _) ⟨rfl,z0 _,gX⟩ ?_;rintro k mk u w4 gt ⟨hu,gx,V⟩;try replace hu:=zbv hu
 rw [hu];refine zaf<|br (λgy=>?_) (λgz=>?_)
 . have hk:k<n:=oo;refine zcU (α:=Int) rfl u25 ty3 hk<|zb5 (α:=Int) rfl ty3 V.mine (by rw [zah,zzy gx]) hk (zc5 (v:=63) oo) λw5 gY gZ=>?_;have g9:=V.set (v:=63) gY gZ;rw [zzz hk] at g9;refine zau<|⟨mk-1,oo,k+1,oo,rfl,oo,g9⟩
 have hk:k=n:=oo;rw [hk,zvf] at V
 have h4:MS c (List.replicate n 63) (λi=>¬UsedP c (zas c i).toNat):=⟨by simp [hnn],λi hi hd=>by
   rw [<-zbn so];obtain ⟨p,_,h1,_⟩:=zmT hc hi;have gC:¬UsedP c (zas c i).toNat:=hd;rw [h1,qal] at gC;rw [zwz (p:=p) h1 gC];simp⟩
 generalize List.replicate n 63=out at *;clear hu gt;have hus:zfg c<256:=zbu h8.1;refine NIL.mk rfl<|zaa ziD<|zac ty3 hW.used (e2.trans V.ext) λ_=>?_;refine (zdR (m:=zfg c) oo).mono ?_;rintro gD w5 ⟨h5,gb⟩;unfold zfg at gb;rw [zeS oo] at gb;have g9:=V.step h5;have hg4:=V.lt;have hL:∀ p,p∈zbK c.procs.length (UsedP c)↔UsedP c p:=λp=>by rw [zaI];exact ⟨λh=>h.2,λh=>⟨h.lt hc,h⟩⟩
 have hLl:(zbK c.procs.length (UsedP c)).length<=8:=qat zbz h8.1;generalize zbK c.procs.length (UsedP c)=L at *;have h6:=gb.toI;generalize hlo:w4.heap.size=lo at *;generalize hhi:w5.heap.size=hi at *;refine zae u25 gb.is ?_;rw [zah];refine zap L.length (λk us w'=>∃ (out':List Nat),us=[.int .i64 (k:Int)]/\k<=L.length/\FW w2 w' g n out'/\OwnI lo hi w' gD (za5 L)/\MS c out' (λi=>¬UsedP c (zas c i).toNat\/(zas c i).toNat∈L.take k)) 0 (z0 _) ⟨out,rfl,z0 _,g9,h6,h4.mono λj _ h=>h.elim id λh=>by simp at h⟩ ?_;rintro k mk u w8 gt ⟨gg,hu,gx,D,gE,gF⟩;try replace hu:=zbv hu
 rw [hu];refine zaf<|br (λgy=>?_) (λgz=>?_)
 case refine_2=>
   rw [gF.fin λj _=>by
     by_cases hu:UsedP c (zas c j).toNat
     . exact .inr (by rw [qaf oo];exact (hL _).2 hu)
     exact .inl hu] at D
   exact ⟨g0.t D.ext,D.own.mono oo⟩
 have hk:k<L.length:=oo;refine zad u25 ty3 (i:=k) gE.is (by rw [zah];exact hk) λ_ _ gG=>?_;rw [za9] at gG;refine zac ty3 gG (xrf _) λ_=>?_;have h9:=λx=>zbG hk (x:=x);have gH:=(hL L[k]).1 (qac hk);generalize L[k]=p at *;have X:=gH.lt hc;have Y:p<c.entry.length:=by rw [hc.2.1.1];exact X
 have e8:=e2.trans D.ext;refine zad u25 ty3 (i:=p) gU (by rw [zah,zp8];exact X) λ_ _ gI=>?_;rw [zbk,zzu X] at gI;refine zac ty3 gI D.ext λ_=>?_;refine (ztD hW.wl e8 gS D.ext hc gQ X (h:=zxr c p) zp2).mono ?_;rintro ha w9 ⟨gJ,hb⟩;have gK:=D.step gJ;have he:=gE.ext gJ;have hg8:=D.lt;have hf:=hb.toI;have e9:=e2.trans gK.ext;generalize hl8':w8.heap.size=lo8 at *;generalize hl9:w9.heap.size=lo9 at *;obtain ⟨hh,_,_⟩:=zhF hc Y;obtain ⟨hj,_,_⟩:=zhe hc X;obtain ⟨_,_,_⟩:=ztA hc Y;have gh:∀ i,eN c p<=i->i<=zN c p->zaE (zd8 c (zeR c) p (zxr c p)) i=zhH c i:=λi h1 h2=>(zmQ (zzr hc Y h1 h2) gH).symm
 have hl:∀ i,i<c.ins.length->(zas c i).toNat=p->eN c p<=i/\i<=zN c p:=λi hi h=>by
   obtain ⟨q,_,h1,h2⟩:=zmT hc hi;have:q=p:=by rw [h1,qal] at h;exact h
   subst this;exact h2
 have hq:(zd8 c (zeR c) p (zxr c p)).length=c.ins.length:=zhG _ _ _ _;have gi:=zp4 (c:=c) (T:=zeR c) (p:=p) (h:=zxr c p);generalize zd8 c (zeR c) p (zxr c p)=fl at *;refine NIL.mk rfl<|zaa zbf<|zaa zbq<|zab zaS (zaq hW.wl.code) e9 λ_ hr=>zad u25 ty3 hr Y λ_ _ gM=>?_;rw [zbO Y,hh] at gM;refine zac ty3 gM e9 λ_=>?_;generalize hE:eN c p=E at *;generalize hZ:zN c p=Z at *;refine zap (Z+1-E) (λj us w'=>∃ (out':List Nat),us=[.int .i64 ((E+j:Nat):Int)]/\E+j<=Z+1/\FW w2 w' g n out'/\OwnI lo hi w' gD (za5 L)/\OwnI lo8 lo9 w' ha (za5 fl)/\MS c out' (λi=>¬UsedP c (zas c i).toNat\/(zas c i).toNat∈L.take k\/(E<=i/\i<E+j))) 0 (z0 _) ⟨gg,rfl,oo,gK,he,hf,gF.mono λi _ h=>h.imp id λh=>h.resolve_right λh=>oo⟩ ?_;rintro j mj u _ _ ⟨g1,hu,_,g2,gj,gl,O⟩;try replace hu:=zbv hu
 rw [hu];have gN:=e2.trans g2.ext;refine NIL.mk rfl<|zaa zbf<|zab zbY hW.wl.code gN λ_ hs=>?_;refine (zd1 hs gN oo).mono ?_;rintro _ _ ⟨C,rfl⟩;rw [hj];have U:=g2.step C;have g3:=gj.ext C;have g4:=gl.ext C;refine zaf<|br (λgy=>?_) (λgz=>?_)
 case refine_2=>
   refine zau<|⟨mk-1,oo,k+1,oo,g1,rfl,oo,U,g3,O.mono λi hi h=>?_⟩;rcases h with h | h
   . exact .inl h
   rcases (h9 _).1 h with h | h
   . exact .inr (.inl h)
   have:=hl i hi h;exact .inr (.inr oo)
 have gc:E+j<n:=oo;have hv:=gh (E+j) oo oo;have ht:=zep gi (E+j);refine zad u25 ty3 (i:=E+j) g4.is (by rw [zah,hq,hnn];exact gc) λ_ _ gO=>?_;rw [zbk] at gO;refine zac ty3 gO (xrf _) λ_=>zcU (α:=Int) rfl u25 ty3 gc<|zb5 (α:=Int) rfl ty3 U.mine (by rw [zah,O.1,hnn]) gc (zc5 (v:=zaE fl (E+j)) oo) λ_ g5 gp=>?_;have gq:=U.set (v:=zaE fl (E+j)) g5 gp;have I:=zkK g5;refine zau<|⟨mj-1,oo,j+1,oo,_,rfl,oo,gq,g3.chg I oo,g4.chg I oo,O.set (by rw [hnn];exact gc) hv λi h=>?_⟩;by_cases e:i=E+j
 . exact .inr e
 exact .inl (h.imp id λh=>h.imp id λh=>oo)
def MC (c:DCode) (ms:List Bool) (i:Nat):Prop:=
 ((zal c i).op=4->mkd ms (eN c (agN c i))/\(mkd ms (zN c (agN c i))->∀ j∈zaA c i,mkd ms j))/\(¬(zal c i).op=4->∀ j∈zaA c i,mkd ms j)
structure TP (c:DCode) (ms0:List Bool) (ag:Bool) (ms:List Bool) (k:Nat):Prop where
 len:ms.length=c.ins.length
 snd:∀ i,mkd ms i->MetP c i
 root:∀ p,RootP c p->mkd ms (eN c p)
 yes:ag=true->zlw ms0<zlw ms
 no:ag=false->ms=ms0/\∀ i,i<k->mkd ms0 i->MC c ms0 i
def zf3 {ms:List Bool} (h:mkd ms j):mkd (ms.set i true) j:=by
 have:=zuN h;by_cases hi:i<ms.length
 . exact (zdj hi).2 (.inl h)
 rw [qcY oo];exact h
def zmU {ms:List Bool} (h:mkd ms i):ms.set i true=ms:=by
 have hl:=zuN h;rw [zce hl] at h;rw [<-h];exact qda hl
def zFP (ms:List Bool) (i:Nat) (ag:Bool):Bool:=ag || !ms.getD i false
def zvi {ms:List Bool} (h:mkd ms i):zFP ms i ag=ag:=by
 unfold mkd at h;unfold zFP;rw [h];simp
def zvj {ms:List Bool} (h:¬mkd ms i):zFP ms i ag=true:=by
 unfold mkd at h;unfold zFP;rw [qci] at h;rw [h];simp
theorem TP.meet {g0 ms:List Bool} (h:TP c g0 ag ms k) (hi:i<c.ins.length) (hm:MetP c i):TP c g0 (zFP ms i ag) (ms.set i true) k:=by
 by_cases hk:mkd ms i
 . rw [zvi hk,zmU hk];exact h
 rw [zvj hk];have:=zjy (by rw [h.len];exact hi) hk;refine ⟨by simp [h.len],λj hj=>?_,λp hp=>zf3 (h.root p hp),λ_=>?_,λe=>by cases e⟩
 . rcases (zdj (by rw [h.len];exact hi)).1 hj with h1 | h1
   . exact h.snd j h1
   rw [h1];exact hm
 cases ag with
 | true=>have:=h.yes rfl;omega
 | false=>rw [<-(h.no rfl).1];omega
def TP.next {ms0 ms:List Bool} (h:TP c ms0 ag ms k) (hk:mkd ms k->MC c ms k):TP c ms0 ag ms (k+1):=
 ⟨h.len,h.snd,h.root,h.yes,λe=>⟨(h.no e).1,λi hi hm=>by
   by_cases e2:i=k
   . subst e2;rw [(h.no e).1] at hk;exact hk hm
   exact (h.no e).2 i oo hm⟩⟩
def TP.fin (hc:CodeR c) {g1 ms:List Bool} (h:TP c g1 false ms c.ins.length):ms=zi0 c:=by
 obtain ⟨h1,h2⟩:=h.no rfl;refine zcT h.len λi hi=>⟨h.snd i,λhm=>?_⟩;have hC:MetC c (mkd ms):=⟨h.root,λi hi ho=>?_,λi j hi ho hj=>?_,λi j hi ho hz hj=>?_⟩
 . exact hC.all hm
 all_goals
   have g0:=zuN hi;rw [h.len] at g0;have:=h2 i g0 (by rw [<-h1];exact hi);rw [<-h1] at this
 . exact (this.1 ho).1
 . exact this.2 ho j hj
 exact (this.1 ho).2 hz j hj
def TP.again {ms0 ms:List Bool} (h:TP c ms0 ag ms k):TP c ms false ms 0:=
 ⟨h.len,h.snd,h.root,λe=>(by cases e),λ_=>⟨rfl,λi hi=>oo⟩⟩
def zhi (m n:Nat):Prop:=∀ l,l<6->m.testBit l=true->n.testBit l=true
def HC (c:DCode) (out:List Nat) (i:Nat):Prop:=
 ((zal c i).op=4->zhi (zaE out i) (zaE out (eN c (agN c i)))/\(MetP c (zN c (agN c i))->∀ j∈zaA c i,zhi (zaE out (zN c (agN c i))) (zaE out j)))/\(¬(zal c i).op=4->∀ j∈zaA c i,zhi (aft c [] i (zaE out i)) (zaE out j))
structure HP (c:DCode) (out0:List Nat) (ag:Bool) (out:List Nat) (k:Nat):Prop where
 len:out.length=c.ins.length
 lt:∀ x∈out,x<64
 snd:∀ i l,i<c.ins.length->(zaE out i).testBit l=true->MayP c i l/\MetP c i
 yes:ag=true->out0.sum<out.sum
 no:ag=false->out=out0/\∀ i,i<k->MetP c i->HC c out0 i
def HP.lt0 {out0 out:List Nat} (h:HP c out0 ag out k) (i:Nat):zaE out i<64:=zep h.lt i
def zzE (h:n ||| m=n):zhi m n:=λl _ hb=>by
 rw [<-h,qaV,hb];simp
def zDI:zhi m (n ||| m):=λl _ hb=>by rw [qaV,hb];simp
def zmV (h:zhi k n):zhi k (n ||| m):=λl hl hb=>by rw [qaV,h l hl hb];rfl
def zrQ (hm:m<64) (hn:n<64):zmM m n=0↔zhi m n:=by
 constructor
 . intro h l _ hb;have:=qax (·.testBit l) h;simp only [zdo,hb,qbX,qcj,qb8] at this;exact this
 intro h;refine qbi λl=>?_;rw [zdo,qcj];cases e:m.testBit l
 . rfl
 rw [h l (zg4 hm e) e];rfl
def zqb (hm:m<64) (hn:n<64):n ||| m<64:=qa2 (n:=6) hn hm
def zBP (h:¬n ||| m=n):n<n ||| m:=by
 have:n<=n ||| m:=Nat.left_le_or;omega
theorem HP.add {out0 out:List Nat} (h:HP c out0 ag out k) (hi:i<c.ins.length) (hm:m<64) (g1:MetP c i) (g0:∀ l,l<6->m.testBit l=true->MayP c i l) (hn:¬zhi m (zaE out i)):HP c out0 true (out.set i (zaE out i ||| m)) k:=by
 have g2:=h.lt0 i;refine ⟨by simp [h.len],λx hx=>?_,λj l hj hb=>?_,λ_=>?_,λe=>by cases e⟩
 . rcases zdx hx with rfl | hx
   . exact zqb hm g2
   exact h.lt x hx
 . rw [zcj (by rw [h.len];exact hi)] at hb;split at hb
   . rename_i e;subst e;rw [qaV,qaR] at hb;rcases hb with hb | hb
     . exact h.snd i l hj hb
     exact ⟨g0 l (zg4 hm hb) hb,g1⟩
   exact h.snd j l hj hb
 have:=zkI (l:=out) (i:=i) (v:=zaE out i ||| m) (by rw [h.len];exact hi);have:=zBP (m:=m) (n:=zaE out i) λe=>hn (zzE e);cases ag with
 | true=>have:=h.yes rfl;omega
 | false=>rw [<-(h.no rfl).1];omega
def HP.next {out0 out:List Nat} (h:HP c out0 ag out k) (hk:ag=false->MetP c k->HC c out k):HP c out0 ag out (k+1):=
 ⟨h.len,h.lt,h.snd,h.yes,λe=>⟨(h.no e).1,λi hi hm=>by
   by_cases e2:i=k
   . subst e2;have:=hk e hm;rw [(h.no e).1] at this;exact this
   exact (h.no e).2 i oo hm⟩⟩
def zqc (h4:¬(zal c i).op=4):(aft c [] i m).testBit l=true↔¬((zal c i).op=7/\agN c i=l)/\(((zal c i).op=6/\agN c i=l)\/m.testBit l=true):=by
 rw [<-Bool.not_eq_false,zmO];unfold zGF zzs;have e4:((zal c i).op=4)=False:=eq_false h4;simp only [e4,false_and,qaq,not_false_eq_true,and_true,not_or,not_and,Bool.not_eq_false];constructor
 . rintro ⟨h1,h2⟩;refine ⟨h1,?_⟩;by_cases e:(zal c i).op=6/\agN c i=l
   . exact .inl e
   exact .inr (h2 λa b=>e ⟨a,b⟩)
 rintro ⟨h1,h2⟩;refine ⟨h1,λh3=>?_⟩;rcases h2 with h2 | h2
 . exact absurd h2.2 (h3 h2.1)
 exact h2
def zzF (h4:¬(zal c i).op=4) (hm:MetP c i) (hj:j∈zaA c i) (g0:m.testBit l=true->MayP c i l) (hb:(aft c [] i m).testBit l=true):MayP c j l:=by
 obtain ⟨h1,h2⟩:=(zqc h4).1 hb;rcases h2 with h2 | h2
 . exact .lock hm h2.1 h2.2 hj
 exact .pass hm h4 h1 (g0 h2) hj
def HC.may (hc:CodeR c) (h:∀ i,MetP c i->HC c out i):MayC c λi l=>(zaE out i).testBit l=true:=by
 refine ⟨λi j hm ho hj=>?_,λi j l hm hl ho ha hb hj=>?_,λi l hm hl ho hb=>?_,λi j l hm hl ho hz hb hj=>?_⟩
 . have ha:=zdz hc (hm.lt hc) (.inl ho);exact (h i hm).2 oo j hj _ ha.2.2 ((zqc oo).2 ⟨λh=>oo,.inl ⟨ho,rfl⟩⟩)
 . exact (h i hm).2 ho j hj l hl ((zqc ho).2 ⟨ha,.inr hb⟩)
 . exact ((h i hm).1 ho).1 l hl hb
 exact ((h i hm).1 ho).2 hz j hj l hl hb
def zzG (hc:CodeR c) {out:List Nat} (g0:out.length=c.ins.length) (g1:∀ x∈out,x<64) (hs:∀ i l,i<c.ins.length->(zaE out i).testBit l=true->MayP c i l) (h:∀ i,MetP c i->HC c out i):out=zqD c:=by
 have hC:=HC.may hc h;refine qaU (by rw [g0,zlC]) λi h1 h2=>?_;have hi:i<c.ins.length:=by rw [<-g0];exact h1
 rw [zbn h1,zbn h2,ztB hi];exact zzo (zep g1 i) λl hl=>⟨hs i l hi,λhm=>hC.all hl hm⟩
def HP.fin (hc:CodeR c) {out0 out:List Nat} (h:HP c out0 false out c.ins.length):out=zqD c:=by
 obtain ⟨h1,h2⟩:=h.no rfl;exact zzG hc h.len h.lt (λi l hi hb=>(h.snd i l hi hb).1) λi hm=>by rw [h1];exact h2 i (hm.lt hc) hm
def HP.again {out0 out:List Nat} (h:HP c out0 ag out k):HP c out false out 0:=
 ⟨h.len,h.lt,h.snd,λe=>(by cases e),λ_=>⟨rfl,λi hi=>oo⟩⟩
def HP.start:HP c (List.replicate c.ins.length 0) false (List.replicate c.ins.length 0) 0:=
 ⟨sS,λx hx=>by rw [(qcM.1 hx).2];omega,λi l hi hb=>by rw [<-zbn (by simp;exact hi)] at hb;simp at hb,λe=>(by cases e),λ_=>⟨rfl,λi hi=>oo⟩⟩
def HP.sum_le {out0 out:List Nat} (h:HP c out0 ag out k):out.sum<=c.ins.length*63:=by
 rw [<-h.len];exact Go.Proofs.YtkgiigmcbgifdaaGreat.sum_le λx hx=>by have:=h.lt x hx;omega
end Go.Proofs.YtkgiigmcbgifdaaGreat
namespace Go.Sh
open Rep (rep)
variable {F:List Nat} {cs:List vL} {g:Nat} {w w' w0:wD}
def ChgI.one (h:ChgI g (g+1) w w'):Chg [g] w w':=⟨h.os,h.tape,h.output,h.size,λb hb hn=>h.block b hb (by simp at hn;omega)⟩
def OwnI.chgF {α:Type} [Rep α] {w w':wD} {lo hi:Nat} {v:vL} {x:α} {F:List Nat} (h:OwnI lo hi w v x) (hc:Chg F w w') (hd:∀ b∈F,b<lo\/hi<=b):OwnI lo hi w' v x:=by
 obtain ⟨G,hm,hG⟩:=h;exact ⟨G,hm.keep λb hb=>hc.block b (hm.lt b hb) λhF=>by have:=hG b hb;have:=hd b hF;omega,hG⟩
def Blk.chgF {g e:Nat} (h:Blk g e w cs) (hc:Chg F w w') (hd:g∉F):Blk g e w' cs:=h.keep (hc.block g h.lt hd)
def Ext.chgF (h:Ext w0 w) (hc:Chg F w w') (hd:∀ b∈F,w0.heap.size<=b):Ext w0 w':=
 ⟨hc.os.trans h.os,hc.tape.trans h.tape,hc.output.trans h.output,qat h.size hc.size,λb hb=>(hc.block b (qap hb h.size) λhF=>by have:=hd b hF;omega).trans (h.block b hb)⟩
end Go.Sh
namespace Go.Proofs.YtkgiigmcbgifdaaGreat
open Go Go.Sh Go.Proofs
open Rep (rep)
variable {P:pG} {W0 w:wD} {b by_ f hi k lo t:Nat} {c:DCode} {u v z:vL}
def zvk {args caps:List vL} {K:VW} (hE:zea P f=true) (h:CALL P f (args++caps) w K):OPN P (zlM (.func (.func f) #[] caps.toArray) args) w K:=by
 obtain ⟨h⟩:=h;refine .enter f (args++caps).toArray w ?_ h;simp [zlM,Deferred.ofValue,invoke,zds hE]
def zDJ:zea tp 190=true:=by kernel_rfl
def zDK:zea tp 191=true:=by kernel_rfl
def zIf:zcu tp 105=some [.slice none 0 0]:=by kernel_rfl
def zHR:zcu tp 25=some [.slice none 0 0]:=by kernel_rfl
def zdq (h:u.oneCell'=true):OwnI lo hi w u (⟨u⟩:Raw):=⟨[],⟨⟨[u],⟨rfl,rfl,h⟩,rfl⟩,qav,Wr.nil _⟩,sS⟩
def zi2 {K:VW} (hz:zcu tp t=some [z]) (ht:tyI tp t=some (1,by_,false)) (hu:u.oneCell'=true) (k:∀ w',Ext w w'->Blk w.heap.size t w' [u]->K (.pointer (some ⟨w.heap.size,0,none⟩)) w') :
   OP tp (Instr.alloc t true (.tuple #[])) w λp w1=>OPU tp (Instr.storeAt t p u) w1 λw2=>K p w2:=by
 refine zaL hz λw1 g0 g1=>za3 (α:=Raw) (lo:=0) (hi:=0) ht rfl rfl g1 sS (zdq hu) λw2 g2 g3=>k w2 (g0.chgI g2 (lr _)) g3
structure MW (w1 w:wD) (gv g ga n:Nat) (ms:List Bool) (ag:Bool):Prop where
 ext:Ext w1 w
 var:Blk gv 105 w [.slice (some ⟨g,0,none⟩) n n]
 mks:Mine [g] w (.slice (some ⟨g,0,none⟩) n n) ms
 agn:Blk ga 4 w [.bool ag]
 n1:gv≠g
 n2:gv≠ga
 n3:g≠ga
 g0:w1.heap.size<=g
 g1:w1.heap.size<=gv
 g2:w1.heap.size<=ga
section
variable {w1 w w':wD} {gv g ga n:Nat} {ms:List Bool} {ag:Bool}
def MW.step (h:MW w1 w gv g ga n ms ag) (hx:Ext w w'):MW w1 w' gv g ga n ms ag:=⟨h.ext.trans hx,h.var.ext hx,h.mks.ext hx,h.agn.ext hx,h.n1,h.n2,h.n3,h.g0,h.g1,h.g2⟩
def MW.mark {ms':List Bool} (h:MW w1 w gv g ga n ms ag) (hc:Chg [g] w w') (hm:Mine [g] w' (.slice (some ⟨g,0,none⟩) n n) ms'):MW w1 w' gv g ga n ms' ag:=
 ⟨h.ext.chgF hc (by simp [h.g0]),h.var.chgF hc (by simp [h.n1]),hm,h.agn.chgF hc (by simp [Ne.symm h.n3]),h.n1,h.n2,h.n3,h.g0,h.g1,h.g2⟩
def MW.agains {ag':Bool} (h:MW w1 w gv g ga n ms ag) (hc:Chg [ga] w w') (hB:Blk ga 4 w' [.bool ag']):MW w1 w' gv g ga n ms ag':=
 ⟨h.ext.chgF hc (by simp [h.g2]),h.var.chgF hc (by simp [h.n2]),h.mks.keep λb hb=>by
   simp only [qaa,qad,qaq] at hb;subst hb;exact hc.block b (h.mks.lt b sS) (by simp [h.n3]),hB,h.n1,h.n2,h.n3,h.g0,h.g1,h.g2⟩
def MW.cell {ga':Nat} {ag':Bool} (h:MW w1 w gv g ga n ms ag) (hx:Ext w w') (hB:Blk ga' 4 w' [.bool ag']) (hg:w.heap.size<=ga'):MW w1 w' gv g ga' n ms ag':=
 ⟨h.ext.trans hx,h.var.ext hx,h.mks.ext hx,hB,h.n1,by have:=h.var.lt;omega,by have:=h.mks.lt g sS;omega,h.g0,h.g1,by have:=h.ext.size;omega⟩
def zzH {i:Nat} (h:MW w1 w gv g ga n ms ag) (hi:i<n) (hl:ms.length=n) :
   CALL tp 190 [.int .i64 (i:Int),.pointer (some ⟨gv,0,none⟩),.pointer (some ⟨ga,0,none⟩)] w λr w'=>r=.tuple #[]/\MW w1 w' gv g ga n (ms.set i true) (zFP ms i ag)/\Chg [g,ga] w w':=by
 refine co (g:=kf [] [] []) Tryz.func190 ?_;refine zan zef h.var rfl<|zad zfU ty4 h.mks.is (by rw [hl];exact hi) λ_ _ g3=>zbi ty4 g3 (xrf _) ?_;have g0:=zce (ms:=ms) (i:=i) (by rw [hl];exact hi);refine za2<|zbX (λhf=>?_) (λhf=>?_)
 . have hn:¬mkd ms i:=by rw [g0];simpa using hf
   rw [zvj hn];refine zan zef h.var rfl<|zcU (α:=Bool) rfl zfU ty4 hi<|zb5 (α:=Bool) rfl ty4 h.mks hl hi zcx λ_ g1 g4=>?_;have h2:=h.mark g1 g4;refine za3 (α:=Raw) (lo:=0) (hi:=0) ty4 rfl rfl h2.agn sS (zdq rfl) λ_ g2 g5=>⟨rfl,h2.agains g2.one g5,(g1.mono sS).trans (g2.one.mono sS)⟩
 have hy:mkd ms i:=by rw [g0];simpa using hf
 rw [zvi hy,zmU hy];exact ⟨rfl,h,Chg.refl _ _⟩
end
def zDL (hW:WAt W0 b c) (e0:Ext W0 w) (hc:CodeR c) :
   CALL tp 132 [.pointer (some ⟨b,0,none⟩)] w λr w'=>Ext w w'/\Own w.heap.size w' r (zi0 c):=by
 refine co (g:=kf [(18,19342812825603690643587072,[])] [(3,1099478073376,[25]),(8,316912650057057349274664176576,[6]),(12,158456325028528393712111192832,[48]),(19,78918677504442992524819171328,[88])] [(5,[0,1,2,3,4,5,6,7,8,9,10],0),(16,[0,1,2,3,4,5,6,7,8,9,10],0),(17,[0,1,2,3,4,5,6,7,8,9,10,11],128)]) Tryz.func132 ?_;have h8:=hc.1.procs8;have hV:=hc.f.ins;have C:=hW.wl.code;refine NIL.mk rfl<|zaa zbf<|zaa zaY<|zab zdD (zam C) e0 λ_ hX=>zae u26 hX ?_;have hz0:=(zhe hc h8.2).2.2;have hn:c.ins.length=c.ins.length:=rfl;generalize hnn:c.ins.length=n at hn;rw [hnn] at hV;refine zg3 oo oo λw1 gK hv=>?_;have hs1:=gK.size;have hg1:=hv.lt _ (qaK.2 rfl);generalize hg:w.heap.size=g at *;refine zi2 zIf zef rfl λw2 gG hw=>?_;have hs2:=gG.size;have hY:=hv.ext gG;generalize hgv:w1.heap.size=gv at *;refine NIL.mk rfl<|zaa ziC<|zac ty3 hW.roots (e0.t (gK.t gG)) λ_=>?_;have hrs:zdp c<256:=zbu h8.1;refine (zdR (m:=zdp c) oo).mono ?_;rintro hZ w3 ⟨gH,gc⟩;unfold zdp at gc;rw [zeS oo] at gc;have hL:∀ p,p∈zbK c.procs.length (RootP c)↔RootP c p:=λp=>by rw [zaI];exact ⟨λh=>h.2,λh=>⟨h.lt hc,h⟩⟩
 have hLl:(zbK c.procs.length (RootP c)).length<=8:=qat zbz h8.1;generalize zbK c.procs.length (RootP c)=L at *;have hs3:=gH.size;have j0:=hw.lt;refine zae u25 gc.is ?_;rw [zah];refine zap L.length (λk us w'=>∃ ms,us=[.int .i64 (k:Int)]/\k<=L.length/\Ext w w'/\Blk gv 105 w' [.slice (some ⟨g,0,none⟩) n n]/\Mine [g] w' (.slice (some ⟨g,0,none⟩) n n) ms/\OwnI w2.heap.size w3.heap.size w' hZ (za5 L)/\ms.length=n/\(∀ i,mkd ms i->MetP c i)/\∀ p∈L.take k,mkd ms (eN c p)) 0 (z0 _) ⟨_,rfl,z0 _,gK.t (gG.t gH),hw.ext gH,hY.ext gH,gc.toI,sS,λi h=>absurd h zb8,sS⟩ ?_;rintro k mk u w4 hx ⟨ms,hu,j1,gM,gN,gO,gP,gd,gf,gg⟩;try replace hu:=zbv hu
 rw [hu];refine zaf<|br (λhy=>?_) (λhz=>?_)
 . have hk:k<L.length:=oo;refine zad u25 ty3 (i:=k) gP.is (by rw [zah];exact hk) λ_ _ hB=>?_;rw [za9] at hB;refine zac ty3 hB (xrf _) λ_=>?_;have j2:=λx=>zbG hk (x:=x);have hC:=(hL L[k]).1 (qac hk);generalize L[k]=p at *;have Z:p<c.entry.length:=by rw [hc.2.1.1];exact hC.lt hc
   obtain ⟨gQ,hD,_⟩:=zhF hc Z;have U:=zag w4;have g0:=gM.t U;have gI:=gN.ext U;have j3:=gO.ext U;have j4:=gP.ext U;generalize World.drew1 w4=w5 at *;refine zan zef gI rfl<|NIL.mk rfl<|zaa zbf<|zaa zbq<|zab zaS (zaq C) (e0.t g0) λ_ j5=>zad u25 ty3 j5 Z λb5 o5 gh=>?_;rw [zbO Z,gQ] at gh;refine zac ty3 gh (e0.t g0) λ_=>zcU (α:=Bool) rfl zfU ty4 oo<|zb5 (α:=Bool) rfl ty4 j3 gd oo zcx λw6 gR j6=>zau<|⟨mk-1,oo,k+1,oo,_,rfl,oo,g0.chgF gR (by simp [hg]),gI.chgF gR so,j6,j4.chgF gR so,by simp [gd],λi hi=>?_,λq hq=>?_⟩
   . rcases (zdj (by rw [gd];omega)).1 hi with h | h
     . exact gf i h
     rw [h];exact .root hC
   rcases (j2 q).1 hq with h | h
   . exact zf3 (gg q h)
   rw [h];exact (zdj (by rw [gd];omega)).2 (.inr rfl)
 have j7:∀ p,RootP c p->mkd ms (eN c p):=λp hp=>gg p (by rw [qaf oo];exact (hL p).2 hp);have hT:TP c ms false ms 0:=⟨by rw [gd,hnn],gf,j7,λe=>(by cases e),λ_=>⟨rfl,λi hi=>oo⟩⟩;clear hu hx gP gc;refine zi2 zFN ty4 rfl λw5 g0 gI=>?_;have hs4:=gM.size;have j8:MW w w5 gv g w4.heap.size n ms true:=⟨gM.t g0,gN.ext g0,gO.ext g0,gI,oo,by have:=gN.lt;omega,by have:=gO.lt g sS;omega,oo,oo,oo⟩;generalize w4.heap.size=ga at *;refine LOOPI.mk (λm us w'=>∃ (ga:Nat) (ms:List Bool) (ag:Bool),us=[.pointer (some ⟨ga,0,none⟩)]/\m=(n-zlw ms)+(if ag then 1 else 0)/\MW w w' gv g ga n ms ag/\TP c ms false ms 0/\(ag=false->ms=zi0 c)) (n-zlw ms+1) ⟨ga,ms,true,rfl,rfl,j8,hT,λe=>by cases e⟩ ?_;rintro m u w6 ⟨ga,ms,ag,hu,hm,gb,hF,gS⟩;try replace hu:=zbv hu
 rw [hu];have j9:=zhu ms;rw [hF.len,hnn] at j9;refine zan ty4 gb.agn rfl<|zbX (λgU=>?_) (λgU=>?_)
 case refine_2=>refine zan zef gb.var rfl ?_;rw [<-gS gU];exact ⟨gb.ext,[g],gb.mks,λb hb=>by simp only [qaa,qad,qaq] at hb;omega⟩
 rw [gU,qah rfl] at hm;refine za3 (α:=Raw) (lo:=0) (hi:=0) ty4 rfl rfl gb.agn sS (zdq rfl) λ_ ja jb=>?_;have hG:=gb.agains ja.one jb;refine zba (v:=.func (.func 190) #[] #[.pointer (some ⟨gv,0,none⟩),.pointer (some ⟨ga,0,none⟩)]) (λw' _=>by simp [Instr.makeFunc])<|NIL.mk rfl<|zaa zbf<|zaa zaY<|zab zdD (zam C) (e0.t hG.ext) λ_ hH=>zae u26 hH ?_;rw [hnn];refine zap n (λk us w'=>∃ (ms':List Bool) (ag':Bool),us=[.int .i64 (k:Int)]/\k<=n/\MW w w' gv g ga n ms' ag'/\TP c ms ag' ms' k) 0 (z0 _) ⟨ms,false,rfl,z0 _,hG,hF⟩ ?_;rintro k mk u w8 hx ⟨D,gi,hu,j1,g1,I⟩;try replace hu:=zbv hu
 rw [hu];refine zaf<|br (λhy=>?_) (λhz=>?_)
 case refine_2=>
   have jc:k=n:=oo;rw [jc] at I;refine zan ty4 g1.agn rfl<|zi2 zFN ty4 rfl λw9 gV jd=>?_;have gW:=zhu D;rw [I.len,hnn] at gW;refine ⟨(n-zlw D)+(if gi then 1 else 0),?_,_,D,gi,rfl,rfl,g1.cell gV jd (lr _),I.again,λe=>?_⟩
   . cases gi with
     | true=>have:=I.yes rfl;simp;omega
     | false=>rw [(I.no rfl).1];simp;omega
   rw [e,<-hnn] at I;exact I.fin hc
 have hk:k<n:=oo;have gJ:k<c.ins.length:=oo;have gj:D.length=n:=by rw [I.len,hnn]
 refine zad u26 zbm hH gJ λ_ _ hI=>?_;rw [zaG] at hI;refine zab zbm hI (e0.t g1.ext) λ_ hJ=>zcP ziG rfl zbm rfl hJ (e0.t g1.ext) λw9 gV hK hM=>?_;have gl:=g1.step gV;have gX:=zga hJ hM rfl;refine zan zef gl.var rfl<|zad zfU ty4 (i:=k) gl.mks.is (by rw [gj];exact hk) λ_ _ je=>zbi ty4 je (xrf _)<|za2 ?_;have gp:=zce (ms:=D) (i:=k) (by rw [gj];exact hk);refine zbX (λhf=>?_) (λhf=>?_)
 . have gY:¬mkd D k:=by rw [gp];simpa using hf
   refine zau<|⟨mk-1,oo,k+1,oo,D,gi,rfl,oo,gl,I.next λh=>absurd h gY⟩
 have jf:mkd D k:=by rw [gp];simpa using hf
 have gZ:=I.snd k jf;refine JOIN.mk (λus w'=>∃ (ms':List Bool) (ag':Bool),MW w w' gv g ga n ms' ag'/\TP c ms ag' ms' k/\((zal c k).op=4->mkd ms' (eN c (agN c k)))/\∀ j∈zaA c k,MetP c j) ?_ ?_
 . refine zaa za8 ?_;refine zac ty3 (zay hK) (xrf _) λ_=>zai<|br (λc4=>?_) (λc4=>?_)
   . obtain ⟨hN,hO⟩:=zbS hc gJ (.inl c4);have Z:agN c k<c.entry.length:=by rw [hc.2.1.1];exact hO
     obtain ⟨gQ,hD,_⟩:=zhF hc Z;obtain ⟨jg,_,_⟩:=zhe hc hO;have U:=zag w9;have g2:=gl.step U;generalize World.drew1 w9=w10 at *;refine NIL.mk rfl<|zaa zbf<|zaa zbq<|zab zaS (zaq C) (e0.t g2.ext) λ_ jh=>zaa zaZ<|zac ty3 (zat hK) U λ_=>?_;rw [hN];refine zad u25 ty3 jh Z λb5 o5 gh=>?_;rw [zbO Z,gQ] at gh;refine zac ty3 gh (e0.t g2.ext) λ_=>zvk (args:=[_]) (caps:=[_,_]) zDJ ((zzH (i:=eN c (agN c k)) g2 oo gj).mono ?_);rintro _ hP ⟨rfl,h5,h6⟩;have g3:=I.meet hD (.call gZ c4);have hQ:mkd (D.set (eN c (agN c k)) true) (eN c (agN c k)):=(zdj (by rw [gj];omega)).2 (.inr rfl);have gq:=zag hP;have O:=h5.step gq;have ji:w8.heap.size<w10.heap.size:=by have:=hM.lt;have:=U.size;omega
     have jj:w8.heap.size∉[g,ga]:=by have h1:=g1.mks.lt g sS;have h2:=g1.agn.lt;simp;omega
     have gr:=(gX.ext U).keep (h6.block _ ji jj);have gs:=(gr.ext gq).at (e0.t O.ext);generalize World.drew1 hP=w12 at *;refine zan zef O.var rfl<|NIL.mk rfl<|zaa zbf<|zab zbY C (e0.t O.ext) λ_ jk=>zaa zaZ<|zac ty3 (zat gs) (xrf _) λ_=>?_;rw [hN];refine (zd1 jk (e0.t O.ext) oo).mono ?_;rintro _ _ ⟨gt,rfl⟩;refine ⟨gt,?_⟩;have g4:=O.step gt;rw [jg];refine zbe io ?_;rw [show ((zN c (agN c k)+1:Nat):Int)-1=(zN c (agN c k):Int) by omega];have gx:(D.set (eN c (agN c k)) true).length=n:=by rw [qaW,gj]
     generalize D.set (eN c (agN c k)) true=ms13 at *;refine zad zfU ty4 (i:=zN c (agN c k)) g4.mks.is (by rw [gx];omega) λ_ _ jl=>zbi ty4 jl (xrf _)<|za2 ?_;have Y:=zce (ms:=ms13) (i:=zN c (agN c k)) (by rw [gx];omega);refine zbX (λg5=>?_) (λg5=>?_)
     . have gY:¬mkd ms13 (zN c (agN c k)):=by rw [Y];simpa using g5
       refine zau<|⟨mk-1,oo,k+1,oo,ms13,_,rfl,oo,g4,g3.next λ_=>⟨λ_=>⟨hQ,λh=>absurd h gY⟩,λh=>absurd c4 h⟩⟩
     have jm:mkd ms13 (zN c (agN c k)):=by rw [Y];simpa using g5
     exact ⟨ms13,_,g4,g3,λ_=>hQ,λj hj=>.back gZ c4 (g3.snd _ jm) hj⟩
   exact ⟨D,gi,gl,I,λh=>absurd h c4,λj hj=>.next gZ c4 hj⟩
 rintro us jn ⟨h9,ha,V,hd,he,jo⟩;refine (zjN C (e0.t V.ext) hc gJ).mono ?_;rintro jp jq ⟨hh,gy⟩;have hl:=V.step hh;have hl2:=zgA c k;have jr:=λ{j:Nat} (hj:j∈zaA c k)=>(zdn hc gJ hj).1;generalize hNx:zaA c k=N at *;refine zae u25 gy.is ?_;rw [zah];refine zap N.length (λq us w'=>∃ (ms':List Bool) (ag':Bool),us=[.int .i64 (q:Int)]/\q<=N.length/\MW w w' gv g ga n ms' ag'/\TP c ms ag' ms' k/\((zal c k).op=4->mkd ms' (eN c (agN c k)))/\(∀ j∈N.take q,mkd ms' j)/\OwnI jn.heap.size jq.heap.size w' jp (za5 N)) 0 (z0 _) ⟨h9,ha,rfl,z0 _,hl,hd,he,sS,gy.toI⟩ ?_;rintro q mq u _ _ ⟨gz,hr,hu,_,gC,g9,gD,X,gE⟩;try replace hu:=zbv hu
 rw [hu];refine zaf<|br (λhy=>?_) (λhz=>?_)
 case refine_2=>refine zau ?_;rw [qaf oo] at X;exact ⟨mk-1,oo,k+1,oo,gz,hr,rfl,oo,gC,g9.next λ_=>⟨λh4=>⟨gD h4,λ_=>hNx▸X⟩,λ_=>hNx▸X⟩⟩
 have hq:q<N.length:=oo;refine zad u25 ty3 (i:=q) gE.is (by rw [zah];exact hq) λ_ _ hR=>?_;rw [za9] at hR;refine zac ty3 hR (xrf _) λ_=>?_;have js:=λx=>zbG hq (x:=x);have hj:=qac hq;have jt:=jr hj;have ju:=jo _ hj;generalize N[q]=j at *;have gF:gz.length=n:=by rw [g9.len,hnn]
 refine zvk (args:=[_]) (caps:=[_,_]) zDJ ((zzH (i:=j) gC oo gF).mono ?_);rintro _ _ ⟨rfl,hs,ht⟩;refine zau ?_;have jv:=V.mks.lt g sS;have hS:=V.agn.lt;refine ⟨mq-1,oo,q+1,oo,_,_,rfl,oo,hs,g9.meet jt ju,λh4=>zf3 (gD h4),λi hi=>?_,gE.chgF ht so⟩;rcases (js i).1 hi with h | h
 . exact zf3 (X i h)
 rw [h];exact (zdj (by rw [gF];omega)).2 (.inr rfl)
abbrev Raw5:=Raw×Raw×Raw×Raw×Raw
def zrR {a b c d e:vL} (ha:a.oneCell'=true) (hb:b.oneCell'=true) (hc:c.oneCell'=true) (hd:d.oneCell'=true) (he:e.oneCell'=true):OwnI lo hi w (.agg #[a,b,c,d,e]) ((⟨a⟩,⟨b⟩,⟨c⟩,⟨d⟩,⟨e⟩):Raw5):=by
 refine ⟨[],⟨⟨[a,b,c,d,e],?_,rfl⟩,qav,Wr.nil _⟩,sS⟩;have r:∀ {v:vL},v.oneCell'=true->rep [] w [v] (⟨v⟩:Raw):=λh=>⟨rfl,rfl,h⟩;exact zaR (F:=[]) (r ha) (zaR (F:=[]) (r hb) (zaR (F:=[]) (r hc) (zaR (F:=[]) (r hd) (r he))))
def zzI {p:DProg} (h:Is w v p):∃ c0 c1 c2,v=.agg #[c0,c1,c2]/\c0.oneCell'=true/\c1.oneCell'=true/\c2.oneCell'=true:=by
 obtain ⟨_,_,hr,rfl⟩:=h;have r:=Rep.one hr;obtain ⟨_,_,x1,_,rfl,rfl,h1,_,_,x3,x4,rfl,rfl,h2,h3⟩:=hr;have e1:∃ a,x1=[a]:=by obtain ⟨a,cap,Fi,xs,rfl,_⟩:=h1;exact ⟨_,rfl⟩
 have e2:∃ a,x3=[a]:=by obtain ⟨a,cap,Fi,xs,rfl,_⟩:=h2;exact ⟨_,rfl⟩
 have e3:∃ a,x4=[a]:=by obtain ⟨a,cap,Fi,xs,rfl,_⟩:=h3;exact ⟨_,rfl⟩
 obtain ⟨a1,rfl⟩:=e1;obtain ⟨a2,rfl⟩:=e2;obtain ⟨a3,rfl⟩:=e3;exact ⟨a1,a2,a3,rfl,r a1 sS,r a2 sS,r a3 sS⟩
def zzJ {α:Type} [Rep α] (ha:Rep.agg α=false) {lo hi:Nat} {w:wD} {v:vL} {x:α} (h:OwnI lo hi w v x):v.oneCell'=true:=by
 obtain ⟨_,⟨hm,_,_⟩,_⟩:=h;exact Rep.one (zbC ha hm) v sS
def cdQ (p:DProg) (g1:Nat) (w0:wD):ParQ:=λi u T w=>match i with
 | 0=>∃ a,u 11=.slice (some a) 0 0
 | 1=>u 12=.pointer (some ⟨g1,0+0,none⟩)
 | 2=>Is w0 (u 13) p.globals
 | 3=>OwnI (T 3).1 (T 3).2 w (u 14) p.globals
 | 4=>∃ a,u 15=.slice (some a) 0 0
 | 5=>u 16=.pointer (some ⟨g1,0+1,none⟩)
 | 6=>Is w0 (u 17) p.locks
 | 7=>OwnI (T 7).1 (T 7).2 w (u 18) p.locks
 | 8=>u 19=.agg #[u 14,u 18,.slice none 0 0,.slice none 0 0,.slice none 0 0]
 | 9=>∃ g,u 4=.pointer (some ⟨g,0,none⟩)/\(T 9).1<=g/\g<(T 9).2/\Blk g 28 w [.slice none 0 0,.slice none 0 0,.slice none 0 0,.slice none 0 0,.slice none 0 0]
 | _=>True
structure CdS (W:wD) (p:DProg) (gk ge bs x2 l3 h3 l7 h7:Nat) (v14 v18 vp ve:vL) (N:List ByteArray) (E:List Int) (L:List DIns) (Fp Fe Fi:List Nat) (w:wD):Prop where
 bk:Blk gk 28 w [v14,v18,vp,ve,.slice none 0 0]
 g:OwnI l3 h3 w v14 p.globals
 l:OwnI l7 h7 w v18 p.locks
 n:RowG Fp 9 w vp N
 e:RowG Fe 3 w ve E
 nn:Fp.Nodup
 en:Fe.Nodup
 em:EmF W ge p L Fi w
 x:Blk x2 28 w [.slice none 0 0,.slice none 0 0,.slice none 0 0,.slice none 0 0,.slice none 0 0]
 dpe:∀ c∈Fp,c∉Fe
 dpi:∀ c∈Fp,c∉Fi
 dei:∀ c∈Fe,c∉Fi
 bp:∀ c∈Fp,bs<=c
 be:∀ c∈Fe,bs<=c
 bi:∀ c∈Fi,bs<=c
section
variable {W:wD} {p:DProg} {gk ge bs x2 l3 h3 l7 h7:Nat} {v14 v18 vp ve:vL} {N:List ByteArray} {E:List Int} {L:List DIns} {Fp Fe Fi:List Nat} {w w':wD}
def zfz {α:Type} [Rep α] {lo hi:Nat} {v:vL} {x:α} {S:List Nat} (h:OwnI lo hi w v x) (hc:Chg S w w') (hd:∀ c∈S,c<lo\/hi<=c):OwnI lo hi w' v x:=by
 obtain ⟨F,hm,hF⟩:=h;exact ⟨F,hm.keep λc g0=>hc.block c (hm.lt c g0) λhs=>by have:=hF c g0;have:=hd c hs;omega,hF⟩
def CdS.ext (h:CdS W p gk ge bs x2 l3 h3 l7 h7 v14 v18 vp ve N E L Fp Fe Fi w) (hx:Ext w w'):CdS W p gk ge bs x2 l3 h3 l7 h7 v14 v18 vp ve N E L Fp Fe Fi w':=
 ⟨h.bk.ext hx,h.g.ext hx,h.l.ext hx,h.n.keep λc hc=>hx.heap (h.n.lt c hc),h.e.keep λc hc=>hx.heap (h.e.lt c hc),h.nn,h.en,h.em.ext hx,h.x.ext hx,h.dpe,h.dpi,h.dei,h.bp,h.be,h.bi⟩
variable (ho:gk<bs/\ge<bs/\gk≠ge/\x2<bs/\x2≠gk/\x2≠ge/\h3<=bs/\h7<=bs/\(gk<l3\/h3<=gk)/\(gk<l7\/h7<=gk)/\(ge<l3\/h3<=ge)/\(ge<l7\/h7<=ge)/\W.heap.size<=gk/\W.heap.size<=ge)
include ho
def CdS.names (h:CdS W p gk ge bs x2 l3 h3 l7 h7 v14 v18 vp ve N E L Fp Fe Fi w) {vp':vL} {N':List ByteArray} {Fp':List Nat} (hc:Chg (gk :: Fp) w w') (hB:Blk gk 28 w' [v14,v18,vp',ve,.slice none 0 0])
   (hR:RowG Fp' 9 w' vp' N') (hn:Fp'.Nodup) (hs:∀ c∈Fp',c∈Fp\/w.heap.size<=c) (hb:bs<=w.heap.size):CdS W p gk ge bs x2 l3 h3 l7 h7 v14 v18 vp' ve N' E L Fp' Fe Fi w':=by
 have g0:=h.em.lt
 have hS:∀ c∈gk :: Fp,c=gk\/bs<=c:=λc hc=>by
   rcases qaa.1 hc with e | hc
   . exact .inl e
   exact .inr (h.bp c hc)
 refine ⟨hB,zfz h.g hc λc r=>by have:=hS c r;omega,zfz h.l hc λc r=>by have:=hS c r;omega,hR,h.e.keep λc r=>hc.block c (h.e.lt c r) λhm=>?_,hn,h.en,h.em.keep (λc r=>hc.block c ?_ λhm=>?_) (h.em.old.chgL hc λc r=>?_),h.x.chg hc λhm=>?_,λc r g1=>?_,λc r g2=>?_,h.dei,λc r=>?_,h.be,h.bi⟩
 . rcases qaa.1 hm with e | hm
   . have:=h.be c r;omega
   exact h.dpe c hm r
 . rcases qaa.1 r with rfl | r
   . exact g0.1
   exact g0.2.1 c r
 . rcases qaa.1 r with _ | r
   . rcases qaa.1 hm with e | hm
     . omega
     have:=h.bp c hm;omega
   rcases qaa.1 hm with e | hm
   . have:=h.bi c r;omega
   exact h.dpi c hm r
 . rcases qaa.1 r with e | r
   . omega
   have:=h.bp c r;omega
 . have:=hS _ hm;omega
 . rcases hs c r with k | k
   . exact h.dpe c k g1
   have:=h.e.lt c g1;omega
 . rcases hs c r with k | k
   . exact h.dpi c k g2
   have:=g0.2.1 c g2;omega
 rcases hs c r with k | k
 . exact h.bp c k
 omega
def CdS.ents (h:CdS W p gk ge bs x2 l3 h3 l7 h7 v14 v18 vp ve N E L Fp Fe Fi w) {ve':vL} {E':List Int} {Fe':List Nat} (hc:Chg (gk :: Fe) w w') (hB:Blk gk 28 w' [v14,v18,vp,ve',.slice none 0 0])
   (hR:RowG Fe' 3 w' ve' E') (hn:Fe'.Nodup) (hs:∀ c∈Fe',c∈Fe\/w.heap.size<=c) (hb:bs<=w.heap.size):CdS W p gk ge bs x2 l3 h3 l7 h7 v14 v18 vp ve' N E' L Fp Fe' Fi w':=by
 have g0:=h.em.lt
 have hS:∀ c∈gk :: Fe,c=gk\/bs<=c:=λc hc=>by
   rcases qaa.1 hc with e | hc
   . exact .inl e
   exact .inr (h.be c hc)
 refine ⟨hB,zfz h.g hc λc r=>by have:=hS c r;omega,zfz h.l hc λc r=>by have:=hS c r;omega,h.n.keep λc r=>hc.block c (h.n.lt c r) λhm=>?_,hR,h.nn,hn,h.em.keep (λc r=>hc.block c ?_ λhm=>?_) (h.em.old.chgL hc λc r=>?_),h.x.chg hc λhm=>?_,λc r g2=>?_,h.dpi,λc r g1=>?_,h.bp,λc r=>?_,h.bi⟩
 . rcases qaa.1 hm with e | hm
   . have:=h.bp c r;omega
   exact h.dpe c r hm
 . rcases qaa.1 r with rfl | r
   . exact g0.1
   exact g0.2.1 c r
 . rcases qaa.1 r with _ | r
   . rcases qaa.1 hm with e | hm
     . omega
     have:=h.be c hm;omega
   rcases qaa.1 hm with e | hm
   . have:=h.bi c r;omega
   exact h.dei c hm r
 . rcases qaa.1 r with e | r
   . omega
   have:=h.be c r;omega
 . have:=hS _ hm;omega
 . rcases hs c g2 with k | k
   . exact h.dpe c r k
   have:=h.n.lt c r;omega
 . rcases hs c r with k | k
   . exact h.dei c k g1
   have:=g0.2.1 c g1;omega
 rcases hs c r with k | k
 . exact h.be c k
 omega
def CdS.ems (h:CdS W p gk ge bs x2 l3 h3 l7 h7 v14 v18 vp ve N E L Fp Fe Fi w) {L':List DIns} {g1:List Nat} (hc:Chg (ge :: Fi) w w') (hE:EmF W ge p L' g1 w') (hs:∀ c∈g1,c∈Fi\/w.heap.size<=c) (hb:bs<=w.heap.size) :
   CdS W p gk ge bs x2 l3 h3 l7 h7 v14 v18 vp ve N E L' Fp Fe g1 w':=by
 have hS:∀ c∈ge :: Fi,c=ge\/bs<=c:=λc hc=>by
   rcases qaa.1 hc with e | hc
   . exact .inl e
   exact .inr (h.bi c hc)
 refine ⟨h.bk.chg hc λhm=>?_,zfz h.g hc λc r=>by have:=hS c r;omega,zfz h.l hc λc r=>by have:=hS c r;omega,h.n.keep λc r=>hc.block c (h.n.lt c r) λhm=>?_,h.e.keep λc r=>hc.block c (h.e.lt c r) λhm=>?_,h.nn,h.en,hE,h.x.chg hc λhm=>?_,h.dpe,λc r g0=>?_,λc r g0=>?_,h.bp,h.be,λc r=>?_⟩
 . have:=hS _ hm;omega
 . rcases qaa.1 hm with e | hm
   . have:=h.bp c r;omega
   exact h.dpi c r hm
 . rcases qaa.1 hm with e | hm
   . have:=h.be c r;omega
   exact h.dei c r hm
 . have:=hS _ hm;omega
 . rcases hs c g0 with k | k
   . exact h.dpi c r k
   have:=h.n.lt c r;omega
 . rcases hs c g0 with k | k
   . exact h.dei c r k
   have:=h.e.lt c r;omega
 rcases hs c r with k | k
 . exact h.bi c k
 omega
end
def zBQ {G L P:List ByteArray} {l:List DProc} (hk:k<l.length) (a:Nat):emP G L P (l.drop k) a=emL G L P l[k].body a++(zER :: emP G L P (l.drop (k+1)) (a+(emL G L P l[k].body a).length+1)):=by
 rw [qaA hk,emP]
def zzK {G L P:List ByteArray} {l:List DProc} (hk:k<l.length) (a:Nat):zrv G L P (l.drop k) a=(a:Int) :: zrv G L P (l.drop (k+1)) (a+(emL G L P l[k].body a).length+1):=by
 rw [qaA hk,zrv]
def zmW {α:Type} [Rep α] {e:TypeId} {F:List Nat} {w:wD} {v:vL} {l:List α} (h:RowG F e w v l) (hn:F.Nodup):Mine F w v l:=⟨h.own,hn,h.wr⟩
end Go.Proofs.YtkgiigmcbgifdaaGreat
