/-
  Parts of the proof, put together by program.
-/
import Derived.Test.YtkgiigmcbgifdaaGreatPFnKnots6
set_option maxRecDepth 20000
set_option linter.defProp false
set_option linter.unusedVariables false
set_option linter.unusedSimpArgs false
set_option linter.unusedSectionVars false
open Go renaming Value→vL,World→wD,Program→pG
namespace Go.Proofs.YtkgiigmcbgifdaaGreat
open Go Go.Sh Go.Proofs
open Rep (rep)
variable {G:List Nat} {K:vL->Prop} {P:pG} {W W0 W1 w:wD} {by_ g k:Nat} {c:DCode} {s:DState} {u v v0 v1:vL}
def zjV {p:DProg} (h:Is W v p) (e:Ext W w) (hp:ProgR p) :
   CALL tp 42 [v] w λr w'=>Ext w w'/\∃ a,r=.tuple #[a,.bool true]/\OwnI w.heap.size w'.heap.size w' a (zcf p):=by
 have hcl:=(zh5 hp).2;obtain ⟨_,_,_,_⟩:=hp.facts;refine co (g:=⟨extL,[],[(6,4611686018418999360,[6])],[(8,[0,1,2,3,4,5,6,7,8,9,10,11],256),(9,[0,1,2,3,4,5,6,7,8,9,10],128)],[(3,1046544,10)],[],[]⟩) Tryz.func42 ?_;refine zbp h e λw1 hO hA=>?_;have hs1:=hO.size;refine zaL zxm λ_ gP hP=>?_;have hs2:=gP.size;have hg2:=hP.lt;refine zab zlY hA gP λ_ h7=>?_;refine (zrz h7 gP hp).mono ?_;rintro _ w3 ⟨gR,rfl⟩;have hs3:=gR.size;refine zaT<|br (λhc=>absurd rfl hc) (λ_=>?_);have g0:=gP.t gR;have gS:=zag w3;have hs4:=gS.size;generalize World.drew1 w3=w4 at *;have V:=g0.t gS
 have hQ:w.heap.size<w1.heap.size:=by
   obtain ⟨F,_,hr,j4⟩:=hA;exact zkd j4 (by rw [Rep.len hr];decide)
 refine PAR.mk (cdQ p w.heap.size w4) ?_ ?_ ?_
 . intro i u u' T T' _ wb _ gU hd hq
   match i,hd,hq with
   | 0,hd,⟨a,hq⟩=>exact ⟨a,(hd (0,11) qd).1.trans hq⟩
   | 1,hd,hq=>exact (hd (1,12) qd).1.trans hq
   | 2,hd,hq=>have:=(hd (2,13) qd).1;show Is _ (u' 13) _;simp only [this];exact hq
   | 3,hd,hq=>
     obtain ⟨e1,e2⟩:=hd (3,14) qd;simp only at e1 e2;show OwnI (T' 3).1 (T' 3).2 wb (u' 14) p.globals;rw [e1,e2];exact OwnI.ext hq gU
   | 4,hd,⟨a,hq⟩=>exact ⟨a,(hd (4,15) qd).1.trans hq⟩
   | 5,hd,hq=>exact (hd (5,16) qd).1.trans hq
   | 6,hd,hq=>have:=(hd (6,17) qd).1;show Is _ (u' 17) _;simp only [this];exact hq
   | 7,hd,hq=>
     obtain ⟨e1,e2⟩:=hd (7,18) qd;simp only at e1 e2;show OwnI (T' 7).1 (T' 7).2 wb (u' 18) p.locks;rw [e1,e2];exact OwnI.ext hq gU
   | 8,hd,hq=>
     have e1:=(hd (8,19) qd).1;have e2:=(hd (3,14) qd).1;have e3:=(hd (7,18) qd).1;simp only at e1 e2 e3;show u' 19=.agg #[u' 14,u' 18,.slice none 0 0,.slice none 0 0,.slice none 0 0];rw [e1,e2,e3];exact hq
   | 9,hd,⟨g,q1,q2,q3,q4⟩=>
     obtain ⟨e1,e2⟩:=hd (9,4) qd;simp only at e1 e2;exact ⟨g,e1.trans q1,by rw [e2];exact q2,by rw [e2];exact q3,q4.ext gU⟩
   | n+10,_,_=>trivial
 . refine ⟨λu T w' hx _ _=>?_,λu T w' hx _ _=>?_,λu T w' hx _ U=>?_,λu T w' hx _ U=>?_,λu T w' hx _ _=>?_,λu T w' hx _ _=>?_,λu T w' hx _ U=>?_,λu T w' hx _ U=>?_,λu T w' hx _ U=>?_,λu T w' hx _ _=>?_,trivial⟩
   . exact zaD (α:=ByteArray) u24 ty9 λa w5 O _=>⟨O,a,rfl⟩
   . exact zaa zn6 ⟨xrf _,rfl⟩
   . have q0:u 12=_:=U.1;rw [q0];exact zab zdt (zgp hA) (V.t hx) λv6 h6=>⟨xrf _,h6.ext V⟩
   . obtain ⟨a,q0⟩:∃ a,u 11=.slice (some a) 0 0:=U.1;have q1:Is _ (u 13) p.globals:=U.2.1;rw [q0];exact zfy (α:=ByteArray) u24 ty9 zc9 q1 hx (by rcases hp.g with e | e<;>(rw [e,zaj];decide)) (by rcases hp.g with e | e<;>(rw [e];decide)) λv5 w5 O r5=>⟨O,r5.own⟩
   . exact zaD (α:=ByteArray) u24 ty9 λa w5 O _=>⟨O,a,rfl⟩
   . exact zaa zn7 ⟨xrf _,rfl⟩
   . have q0:u 16=_:=U.1;rw [q0];exact zab zdt (zhW hA) (V.t hx) λv6 h6=>⟨xrf _,h6.ext V⟩
   . obtain ⟨a,q0⟩:∃ a,u 15=.slice (some a) 0 0:=U.1;have q1:Is _ (u 17) p.locks:=U.2.1;rw [q0];exact zfy (α:=ByteArray) u24 ty9 zc9 q1 hx (by rcases hp.l with e | e | e<;>(rw [e,zaj];decide)) (by rcases hp.l with e | e | e<;>(rw [e];decide)) λv5 w5 O r5=>⟨O,r5.own⟩
   . have o1:OwnI _ _ _ (u 14) p.globals:=U.1;have o2:OwnI _ _ _ (u 18) p.locks:=U.2.1;obtain ⟨a,n,cap,q1⟩:=zda o1;obtain ⟨a',n',gV,hR⟩:=zda o2;rw [q1,hR];refine zaF (cells:=#[.slice a n cap,.slice a' n' gV,.slice none 0 0,.slice none 0 0,.slice none 0 0]) kK ⟨xrf _,?_⟩;show _=Value.agg #[u 14,u 18,.slice none 0 0,.slice none 0 0,.slice none 0 0];rw [q1,hR];rfl
   exact zaL zxm λw5 O hB=>⟨O,w'.heap.size,rfl,lr _,hB.lt,hB⟩
 rintro u T w5 O gp ⟨-,-,-,gx,-,-,-,gy,gW,⟨gk,q4,_,_,j5⟩,-⟩;have gx:OwnI (T 3).1 (T 3).2 w5 (u 14) p.globals:=gx;have gy:OwnI (T 7).1 (T 7).2 w5 (u 18) p.locks:=gy;have gW:u 19=.agg #[u 14,u 18,.slice none 0 0,.slice none 0 0,.slice none 0 0]:=gW;have t3:=gp.1 3 qd;have t7:=gp.1 7 qd;have t9:=gp.1 9 qd;have hS:=gp.2 3 qd 7 qd qd;have j6:=gp.2 3 qd 9 qd qd;have j7:=gp.2 7 qd 9 qd qd;have hs5:=O.size;obtain ⟨l3,j8⟩:∃ x,(T 3).1=x:=⟨_,rfl⟩;obtain ⟨h3,j9⟩:∃ x,(T 3).2=x:=⟨_,rfl⟩;obtain ⟨l7,ja⟩:∃ x,(T 7).1=x:=⟨_,rfl⟩;obtain ⟨h7,jb⟩:∃ x,(T 7).2=x:=⟨_,rfl⟩;rw [j8,j9] at gx t3 hS j6;rw [ja,jb] at gy t7 hS j7;generalize u 14=v14 at *;generalize u 18=v18 at *;rw [gW,q4];have g4:=zzJ rfl gx;have g5:=zzJ rfl gy;refine zaz (α:=Raw5) (x:=(⟨v14⟩,⟨v18⟩,⟨.slice none 0 0⟩,⟨.slice none 0 0⟩,⟨.slice none 0 0⟩)) (lo:=0) (hi:=0) zbY rfl j5 rfl (zrR g4 g5 rfl rfl rfl) λw6 gz jc=>?_;have hs6:=gz.size;have gC:Ext w1 w6:=Ext.chgI (V.t O) gz oo;refine zab zlY hA gC λ_ hV=>?_;obtain ⟨c0,c1,c2,rfl,gX,gY,gZ⟩:=zzI hV;refine zaF (cells:=#[c0,c1,c2,.slice none 0 0]) kK<|zmn λw7 gq h4=>?_;have hs7:=gq.size;have hg7:=h4.lt
 have jd:EmF w1 w6.heap.size p [] [] w7:=by
   refine ⟨c0,c1,c2,.slice none 0 0,hV,⟨[c0,c1,c2,.slice none 0 0],?_,h4.range,qav,Wr.nil _,sS,_,_,h4⟩,gC.t gq,oo,sS⟩;have r:∀ {v:vL},v.oneCell'=true->rep [] w7 [v] (⟨v⟩:Raw):=λh=>⟨rfl,rfl,h⟩;exact zaR (F:=[]) (r gX) (zaR (F:=[]) (r gY) (zaR (F:=[]) (r gZ) (show rep [] w7 [Value.slice none 0 0] (⟨.slice none 0 0,[]⟩:RIns) from ⟨rfl,.inl ⟨none,rfl,rfl,rfl⟩⟩)))
 have g1:gk<w7.heap.size/\w6.heap.size<w7.heap.size/\gk≠w6.heap.size/\w1.heap.size<w7.heap.size/\w1.heap.size≠gk/\w1.heap.size≠w6.heap.size/\h3<=w7.heap.size/\h7<=w7.heap.size/\(gk<l3\/h3<=gk)/\(gk<l7\/h7<=gk) /\
     (w6.heap.size<l3\/h3<=w6.heap.size)/\(w6.heap.size<l7\/h7<=w6.heap.size)/\w1.heap.size<=gk/\w1.heap.size<=w6.heap.size:=oo
 have je:CdS w1 p gk w6.heap.size w7.heap.size w1.heap.size l3 h3 l7 h7 v14 v18 (.slice none 0 0) (.slice none 0 0) [] [] [] [] [] [] w7:=
   ⟨jc.ext gq,(gx.chg gz oo).ext gq,(gy.chg gz oo).ext gq,.inl ⟨none,rfl,rfl,rfl⟩,.inl ⟨none,rfl,rfl,rfl⟩,qav,qav,jd,((((hP.ext gR).ext gS).ext O).chgI gz oo).ext gq,sS,sS,sS,sS,sS,sS⟩
 generalize hge:w6.heap.size=ge at *;generalize hbs:w7.heap.size=bs at *;obtain ⟨G,hG⟩:∃ G,G=p.globals:=⟨_,rfl⟩;obtain ⟨Lk,h5⟩:∃ G,G=p.locks:=⟨_,rfl⟩;obtain ⟨Pn,h8⟩:∃ G,G=p.procs.map DProc.name:=⟨_,rfl⟩;have hW:zcf p=⟨G,Lk,Pn,zrv G Lk Pn p.procs 0,emP G Lk Pn p.procs 0⟩:=by rw [hG,h5,h8];rfl
 refine zap p.procs.length (λk us w'=>us=[.int .i64 (k:Int)]/\∃ vp ve E L Fp Fe Fi,k<=p.procs.length/\E.length=k/\CdS w1 p gk ge bs w1.heap.size l3 h3 l7 h7 v14 v18 vp ve ((p.procs.take k).map DProc.name) E L Fp Fe Fi w'/\bs<=w'.heap.size /\
     zrv G Lk Pn p.procs 0=E++zrv G Lk Pn (p.procs.drop k) L.length/\emP G Lk Pn p.procs 0=L++emP G Lk Pn (p.procs.drop k) L.length) 0 (z0 _)
     ⟨rfl,_,_,[],[],[],[],[],z0 _,rfl,by simpa using je,oo,sS,sS⟩ ?_
 rintro k m _ w8 _ ⟨hu,vp,ve,E,L,Fp,Fe,Fi,_,h9,C,_,g2,gD⟩;try replace hu:=zbv hu
 rw [hu];have gb:=C.em.old;refine zaa zex<|zab zqB (zcw hA) gb λ_ jf=>zae u68 jf<|zaf ?_
 have hLl:L.length<=436:=by
   have h1:=qax List.length gD;have h2:(zcf p).ins.length=(emP G Lk Pn p.procs 0).length:=by rw [hW]
   rw [qag] at h1;omega
 refine br (λ_=>?_) (λ_=>?_)
 . have hk:k<p.procs.length:=oo;have X:=hp.b _ (qac hk);rw [zzK hk] at g2;rw [zBQ hk] at gD;have gE:=zag w8;have gr:=C.ext gE;have jg:=gE.size;generalize World.drew1 w8=w9 at *;have gF:=gb.t gE;refine zaa zdl<|zan zdt gr.bk rfl<|zaa zex<|zab zqB (zcw hA) gF λ_ jh=>zad u68 zl1 jh hk λ_ _ he=>zaa zpn<|zar ty9 (zhV he) gF λhf=>?_;have hX:((p.procs.take k).map DProc.name).length=k:=by rw [qaD,qaj];omega
   refine zdU (β:=ByteArray) (G:=Fp) u24 ty9 z9 zc9 qd gr.n gr.nn (zuF hf) sS (by rw [zaj,hX];omega) (by rw [hX];omega) (λhg ji _ Fp' gc gd gf hh gG=>?_) λs' w' hj h'=>⟨hj,h'⟩;have hl:=gc.size;have hY:=gd.size;have gH:gk∉Fp:=λhm=>by have:=gr.bp _ hm;omega
   have hn:=(gr.bk.ext gc).chg gd gH;refine zaa zdl<|za3 (α:=Raw) (lo:=0) (hi:=0) zdt rfl rfl hn sS (zdq gf.one) λhs gg ht=>?_;have jj:=gg.size
   have gI:gk∉Fp':=λhm=>by
     rcases gG _ hm with h | h | h
     . exact gH h
     . simp at h
     omega
   have hv:=gr.names g1 (vp':=ji) (N':=(p.procs.take (k+1)).map DProc.name) (Fp':=Fp') (w':=hs) ((((gc.chg Fp).trans gd).mono sc).trans (gg.toC.mono sS)) ht
     (by rw [tk hk,qbx];exact gf.keep λc hc=>gg.block c (gf.lt c hc) (by have:c≠gk:=λe=>gI (e▸hc);omega)) hh (λc hc=>by
       rcases gG c hc with h | h | h
       . exact .inl h
       . simp at h
       exact .inr h) oo
   have g0:=zag hs;have D:=hv.ext g0;have jk:=g0.size;generalize World.drew1 hs=w13 at *;have hZ:=D.em.old;refine zaa zbq<|zan zaS D.bk rfl<|NIL.mk rfl ?_;obtain ⟨d0,d1,d2,rv,jl,gQ,jm,jn,jo⟩:=D.em;refine zaa ziF<|zab (α:=RIns) zdD (zpT gQ.at) (xrf _) λjp jq=>?_;obtain ⟨hw,hy⟩:=znE jq;have hw:jp=rv:=hw;have hy:Is w13 rv L:=hy;rw [hw];refine zae u26 hy<|zdU (β:=Int) (G:=Fe) (x:=(L.length:Int)) u25 ty3 z3 zc3 qd D.e D.en (zbt io) sS (by rw [zaj,h9];omega) (by rw [h9];omega) (λ_ jr _ Fe' Y gh gi hz gJ=>?_) λs' w' hj h'=>⟨hj,h'⟩;have js:=Y.size;have j0:=gh.size;have gK:gk∉Fe:=λhm=>by have:=D.be _ hm;omega
   have hC:=(D.bk.ext Y).chg gh gK;refine zaa zbq<|za3 (α:=Raw) (lo:=0) (hi:=0) zaS rfl rfl hC sS (zdq gi.one) λjt gj hD=>?_;have ju:=gj.size
   have gM:gk∉Fe':=λhm=>by
     rcases gJ _ hm with h | h | h
     . exact gK h
     . simp at h
     omega
   have gl:=D.ents g1 (ve':=jr) (E':=E++[(L.length:Int)]) (Fe':=Fe') (w':=jt) ((((Y.chg Fe).trans gh).mono sc).trans (gj.toC.mono sS)) hD
     (gi.keep λc hc=>gj.block c (gi.lt c hc) (by have:c≠gk:=λe=>gM (e▸hc);omega)) hz (λc hc=>by
       rcases gJ c hc with h | h | h
       . exact .inl h
       . simp at h
       exact .inr h) oo
   have g9:=gl.em.old;refine zaa zex<|zab zqB (zcw hA) g9 λ_ jv=>zad u68 zl1 jv hk λ_ _ hF=>zaa zpo<|zab zd6 (zke hF) g9 λ_ jw=>?_;have hbl:=zkD G Lk Pn (p.procs[k]).body L.length;refine (zmI _ 2 _ gl.em jw X.1 (by have:=X.2;omega)).mono ?_;rintro _ j1 ⟨gN,_,g3,hH⟩;have jx:=gN.size;rw [<-hG,<-h5,<-h8] at g3;have hI:=gl.ems g1 gN g3 hH oo;obtain ⟨z1,z2,z3,_,_⟩:=g3.lt;refine zmH (lo:=j1.heap.size) (hi:=j1.heap.size) io λ_ jy=>?_;refine (zjG g3 jy z1 z2 (lr _) (by have:=X.2;rw [qag];omega)).mono ?_;rintro _ _ ⟨-,gO,_,hJ,hK⟩;have jz:=gO.size;have hL:=hI.ems g1 gO hJ hK oo;refine zau<|⟨m-1,oo,k+1,oo,rfl,_,_,_,_,_,_,_,oo,by simp [h9],hL,oo,?_,?_⟩
   . rw [g2];simp [qcr]
   rw [gD];simp [qcr,zER]
 have hk:k=p.procs.length:=oo;subst hk;rw [qbB,zrv,qaF] at g2;rw [qbB,emP,qaF] at gD;rw [qaB] at C;refine NIL.mk rfl ?_;obtain ⟨d0,d1,d2,rv,jl,gQ,jm,jn,jo⟩:=C.em;refine zaa ziF<|zab (α:=RIns) zdD (zpT gQ.at) (xrf _) λjA jB=>?_;obtain ⟨hM,-⟩:=znE jB;have hM:jA=rv:=hM;rw [hM];obtain ⟨Gi,j2⟩:=zkC (Lens.var gQ);obtain ⟨_,⟨rfl,I⟩,_,j3,_,hQ,_⟩:=j2.here;have I:RowG Gi 151 w8 rv L:=I
 have gs:∀ c∈Gi,c∈Fi:=λc hc=>by
   rcases qaa.1 (j2.sub c (by simp [hc])) with e | h
   . exact absurd (e▸hc) hQ
   exact h
 refine zaa zaY<|za3 (α:=Raw) (lo:=0) (hi:=0) zdD rfl rfl C.bk sS (zdq I.one) λw9 gt jC=>?_;have jg:=gt.size;refine zck jC zbY ?_;have gE:=C.x.chgI gt oo;refine zaz (α:=Raw5) (x:=(⟨v14⟩,⟨v18⟩,⟨vp⟩,⟨ve⟩,⟨rv⟩)) (lo:=0) (hi:=0) zbY rfl gE rfl (zrR g4 g5 C.n.one C.e.one I.one) λhg Z hN=>?_;have hl:=Z.size;refine zcl hN zbY ?_;have jD:Ext w hg:=Ext.chgI (Ext.chgI (hO.t gb) gt oo) Z oo;refine ⟨jD,_,rfl,?_⟩;obtain ⟨F3,M3,B3⟩:=(C.g.chg gt oo).chg Z oo;obtain ⟨F7,M7,B7⟩:=(C.l.chg gt oo).chg Z oo;have keep:∀ c,bs<=c->c<w8.heap.size->hg.heap[c]?=w8.heap[c]?:=λc h1 h2=>(Z.block c oo oo).trans (gt.block c h2 oo);have Mp:=zmW (C.n.keep λc hc=>keep c (C.bp c hc) (C.n.lt c hc)) C.nn;have Me:=zmW (C.e.keep λc hc=>keep c (C.be c hc) (C.e.lt c hc)) C.en;have Mi:=zmW (I.keep λc hc=>keep c (C.bi c (gs c hc)) (I.lt c hc)) j3;rw [hW,g2,gD,hG,h5,h8];refine ⟨F3++(F7++(Fp++(Fe++Gi))),⟨⟨[v14,v18,vp,ve,rv],zaR (zbC rfl M3.own) (zaR (zbC rfl M7.own) (zaR (zbC rfl Mp.own) (zaR (zbC rfl Me.own) (zbC rfl Mi.own)))),rfl⟩,?_,M3.wr.append (M7.wr.append (Mp.wr.append (Me.wr.append Mi.wr)))⟩,λc hc=>?_⟩
 . simp only [qas,qae];refine ⟨M3.nodup,⟨M7.nodup,⟨C.nn,⟨C.en,j3,λa ha b hb e=>?_⟩,λa ha b hb e=>?_⟩,λa ha b hb e=>?_⟩,λa ha b hb e=>?_⟩
   . exact C.dei a ha (gs a (e▸hb))
   . subst e;rcases hb with h | h
     . exact C.dpe a ha h
     exact C.dpi a ha (gs a h)
   . subst e;have:=B7 a ha;rcases hb with h | h | h
     . have:=C.bp a h;omega
     . have:=C.be a h;omega
     have:=C.bi a (gs a h);omega
   subst e;have:=B3 a ha;rcases hb with h | h | h | h
   . have:=B7 a h;omega
   . have:=C.bp a h;omega
   . have:=C.be a h;omega
   have:=C.bi a (gs a h);omega
 simp only [qae] at hc;rcases hc with h | h | h | h | h
 . have:=B3 c h;omega
 . have:=B7 c h;omega
 . have:=C.bp c h;have:=C.n.lt c h;omega
 . have:=C.be c h;have:=C.e.lt c h;omega
 have:=C.bi c (gs c h);have:=I.lt c h;omega
def zG7 (c:Scp) (L:List DSign):Nat->List Nat->Bool
 | _,[]=>true
 | i,k :: ks=>decide ((k=4\/k=5)/\sgT L (i+1)∈c.pr\/(k=6\/k=7)/\sgT L (i+1)∈c.lk)&&zG7 c L (i+3) ks
theorem zzL {c:Scp} {L:List DSign}:∀ {ks:List Nat} {i:Nat},zG7 c L i ks=true->(∀ x∈zqC L i ks,StR c 2 x)/\szL (zqC L i ks)=ks.length
 | [],i,_=>⟨λx hx=>(by cases hx),by simp [zqC,szL]⟩
 | k :: ks,i,h=>by
   unfold zG7 at h;rw [qar] at h;have ih:=zzL h.2;have h1:=of_decide_eq_true h.1;refine ⟨λx hx=>?_,by simp only [zqC,szL,szS,qak,ih.2];omega⟩;rw [zqC] at hx;rcases qaa.1 hx with rfl | hx
   . rcases h1 with ⟨hk,hn⟩ | ⟨hk,hn⟩
     . exact StR.base (.inr (.inl ⟨by show (k:Int)=4\/(k:Int)=5;omega,hn,rfl,rfl,rfl⟩))
     exact StR.base (.inr (.inr (.inl ⟨by show (k:Int)=6\/(k:Int)=7;omega,hn,rfl,rfl,rfl⟩)))
   exact ih.1 x hx
def zE2 (c:Scp) (L:List DSign):Nat->List (List Nat)->Bool
 | _,[]=>true
 | i,ks :: r=>zG7 c L (i+3) ks&&decide (ks.length<=54)&&zE2 c L (i+4+3*ks.length) r
theorem zlF {c:Scp} {L:List DSign}:∀ {N:List (List Nat)} {i:Nat},zE2 c L i N=true->∀ x∈zxq L i N,ztg c x.body
 | [],i,_,x,hx=>by cases hx
 | ks :: r,i,h,x,hx=>by
   unfold zE2 at h;rw [qar,qar] at h;rw [zxq] at hx;rcases qaa.1 hx with rfl | hx
   . have:=zzL h.1.1;exact ⟨this.1,by show szL (zqC L (i+3) ks)<=54;rw [this.2];exact of_decide_eq_true h.1.2⟩
   exact zlF h.2 x hx
def zGH:DProg:=zuX zFK 1 1 [[6,6]]
def zGI:DProg:=zuX zFL 1 2 [[5,6,6,7,7],[6,6]]
def zGJ:DProg:=zuX zGz 1 3 [[5,5,6,6],[6,6],[6,6]]
def zE3:ProgR zGH:=⟨.inr (by decide +kernel),.inr (.inl (by decide +kernel)),⟨0,qd,by decide +kernel⟩,zlF (by decide +kernel)⟩
def zE4:ProgR zGI:=⟨.inr (by decide +kernel),.inr (.inr (by decide +kernel)),⟨1,qd,by decide +kernel⟩,zlF (by decide +kernel)⟩
def zE5:ProgR zGJ:=⟨.inr (by decide +kernel),.inl (by decide +kernel),⟨2,qd,by decide +kernel⟩,zlF (by decide +kernel)⟩
def zzM {bs:List UInt8} (hk:k<(bs.take 4000).length) (h:Int):((bs.take 4000).take (k+1)).foldl (λh (b:UInt8)=>zv3 (h*131+(b.toNat:Int)+7) 1073741823) h =
   zv3 (((bs.take 4000).take k).foldl (λh (b:UInt8)=>zv3 (h*131+(b.toNat:Int)+7) 1073741823) h*131+(((bs.take 4000)[k]).toNat:Int)+7) 1073741823:=by
 rw [tk hk,qcA];rfl
set_option maxRecDepth 100000 in
theorem zrS {bs:List UInt8} (h:Is W v bs) (e:Ext W w) (hl:bs.length<=1048576) :
    CALL tp 37 [v] w λr w'=>Ext w w'/\∃ g,r=.pointer (some ⟨g,0,none⟩)/\w.heap.size<=g/\CurAt w g bs (ze6 bs) w':=by
  have fin:∀ {w1:wD} {hh:Int},Ext w w1->hh=zHp bs->I64 hh->RD tp (Instr.build 125 #[(0,v),(2,.int .i64 hh)]) w1 λg3=>OP tp (Instr.box 125 g3) w1 λg4 w2=>
      Ext w w2/\∃ g,g4=.pointer (some ⟨g,0,none⟩)/\w.heap.size<=g/\CurAt w g bs (ze6 bs) w2:=by
    intro w1 hh C g5 _;obtain ⟨a,cap,_,_,rfl,_⟩:=zcE h;refine zaF (cells:=#[.slice a bs.length cap,.int .i64 0,.int .i64 hh]) kK<|zmn λw2 g0 g1=>⟨C.t g0,_,rfl,C.size,.slice a bs.length cap,h.ext e,C.t g0,C.size,?_,z0 _,hl⟩;rw [g5] at g1;exact g1
  refine co (g:=kf [] [(3,268435224,[3,4])] []) Tryz.func37 ?_;refine zae u22 h<|zcY io ?_
  refine zap (bs.take 4000).length (λk us w'=>∃ hh:Int,us=[.int .i64 hh,.int .i64 (k:Int)]/\Ext w w'/\k<=(bs.take 4000).length/\0<=hh/\hh<=1073741823/\hh=((bs.take 4000).take k).foldl (λh (b:UInt8)=>zv3 (h*131+(b.toNat:Int)+7) 1073741823) (94701+(bs.length:Int))) 0 (z0 _)
    ⟨_,rfl,xrf w,z0 _,oo,oo,sS⟩ ?_
  rintro k m _ w1 _ ⟨hh,hu,C,_,_,_,hf⟩;obtain ⟨g9,gb⟩:=zcZ hu;rw [g9,gb];have:(bs.take 4000).length=min 4000 bs.length:=qaj
  have D:(bs.take 4000).length<=k->hh=zHp bs:=λhk=>by
    rw [hf,qaf hk];rfl
  have g2:I64 hh:=by unfold I64;omega
  refine zae u22 h<|zaf<|br (λ_=>?_) (λgc=>fin C (D oo) g2);refine zaf<|br (λ_=>?_) (λgc=>fin C (D oo) g2);have hk:k<(bs.take 4000).length:=oo;have gd:k<bs.length:=oo;refine zn1 io<|zad u22 ty5 (i:=k) h gd λb _ hA=>zuG ty5 hA (e.trans C) ?_;have:=UInt8.toNat_lt (bs[k]);refine zxW kK u3 oo<|zcY io<|zcY io<|zs3<|zau ?_;have hb:=zph (hh*131+((bs[k]).toNat:Int)+7) (n:=1073741823) oo;refine ⟨m-1,oo,k+1,oo,_,rfl,C,oo,hb.1,hb.2,?_⟩;rw [zzM hk,<-hf,qcB]
def zc6 (bs:List UInt8):DCode:=zcf (zdT bs (ze6 bs)).1
def zoA (bs:List UInt8):CodeR (zc6 bs)/\(zc6 bs).ins.length<=436:=zh5 (zkp bs _)
set_option maxRecDepth 20000 in
theorem zwE {bs:List UInt8} {s:Cur} (hC:CurAt W g bs s w) :
    CALL tp 89 [.pointer (some ⟨g,0,none⟩)] w λr w'=>ChgI g (g+1) w w'/\OwnI w.heap.size w'.heap.size w' r (zcf (zdT bs s).1)/\CurAt W g bs (zdT bs s).2 w':=by
  have hgl:=hC.lt;refine co (g:=kf [] [] []) Tryz.func89 ?_;refine zaL zxm λ_ g3 gb=>?_;have hs1:=g3.size;have hg1:=gb.lt;refine (zwk (hC.ext g3)).mono ?_;rintro _ _ ⟨g4,gf,o9⟩;have hs2:=g4.size;refine (zjV o9.is (xrf _) (zkp bs s)).mono ?_;rintro _ _ ⟨g1,a,rfl,C⟩;have hs3:=g1.size;refine zaN rfl<|zaN rfl<|zaL zxm λw4 D gc=>?_;have hs4:=D.size;have hg4:=gc.lt;have C:=C.ext D
  have g0:∃ us:Array vL,a=.agg us:=by
    obtain ⟨F,⟨⟨cs,hr,hv⟩,_⟩,_⟩:=C;exact ⟨cs.toArray,by simpa [mkv,Rep.agg] using hv⟩
  obtain ⟨us,rfl⟩:=g0;have g5:Blk w.heap.size 28 w4 _:=((gb.chgI g4 oo).ext g1).ext D
  have gd:us.toList.length=5:=by
    obtain ⟨F,⟨⟨cs,hr,hv⟩,_⟩,_⟩:=C;have:us=cs.toArray:=by simpa [mkv,Rep.agg] using hv
    rw [this];exact Rep.len hr
  refine zaz zbY rfl gc rfl C λ_ I gg=>?_;have hs5:=I.size;have C:=C.chg I oo;refine za2<|zbX (λhc=>by simp at hc) (λ_=>?_);refine zck gg (by rw [gd];exact zbY) ?_;have g9:=g5.chgI I oo;refine zaz zbY rfl g9 rfl C λ_ g2 gh=>?_;have hs6:=g2.size;refine zcl gh (by rw [gd];exact zbY)<|⟨?_,(C.chg g2 oo).mono oo oo,?_⟩
  . exact ChgI.out (ChgI.out (((g3.toI.trans g4).trans g1.toI).trans D.toI) I oo) g2 oo
  exact (((gf.ext g1).ext D).chg I oo oo).chg g2 oo oo
theorem zHS {G L P:List ByteArray} {c:Scp} (hG:G=c.gl) (hL:L=c.lk) (hP:∀ x∈c.pr,x∈P):∀ (l:List DProc) (a:Nat),(∀ x∈l,ztg c x.body)->∀ y∈emP G L P l a,wT y.term<=24
 | [],_,_,y,h=>by rw [emP] at h;cases h
 | x :: l,a,hb,y,h=>by
   have w0:wT term0<=24:=by decide
   rw [emP] at h;rcases qae.1 h with h | h
   . have:=((zHx hG hL hP 2).2 x.body a (hb x sS).1).1 y h;obtain ⟨_,_,_,q4,_⟩:=this;split at q4
     . exact q4.2.2
     rw [q4];exact w0
   rcases qaa.1 h with rfl | h
   . exact w0
   exact zHS hG hL hP l _ (λz hz=>hb z (by simp [hz])) y h
theorem zDM {α:Type} {f:α->Nat} {b:Nat}:∀ {l:List α},(∀ x∈l,f x<=b)->sm f l<=l.length*b
 | [],_=>by simp [sm]
 | x :: l,h=>by
   have h1:=zDM (l:=l) λy hy=>h y (qbS _ hy);have h2:=h x List.mem_cons_self;simp only [sm,qbI,qc0,qak,qbp] at h1 ⊢;omega
def zDN {p:DProg} (hp:ProgR p):zjq (zcf p)<=1048576:=by
 have:=(zh5 hp).2;obtain ⟨_,_,_,_⟩:=hp.facts;obtain ⟨k,hk,hn⟩:=hp.n
 have:zyA (zcf p).globals<=100:=by
   show zyA p.globals<=100;rcases hp.g with e | e<;>(rw [e];decide)
 have:zyA (zcf p).locks<=100:=by
   show zyA p.locks<=100;rcases hp.l with e | e | e<;>(rw [e];decide)
 have:zyA (zcf p).procs<=100:=by
   show zyA (p.procs.map DProc.name)<=100;rw [hn]
   match k,hk with
   | 0,_=>decide
   | 1,_=>decide
   | 2,_=>decide
   | 3,_=>decide
 have:(zcf p).entry.length<=4:=by
   have:(zcf p).entry.length=p.procs.length:=zly _ _ _ _ _;omega
 have:zHn (zcf p).ins<=20000:=by
   have:=zDM (f:=λi:DIns=>wT i.term) (b:=24) (l:=(zcf p).ins) (zHS rfl rfl (λ_ hx=>qbO hx) _ _ hp.b);unfold zHn;omega
 unfold zjq;omega
def zoB (bs:List UInt8):zjq (zc6 bs)<=1048576:=zDN (zkp bs (ze6 bs))
def zE6 {t e:TypeId} {l:List Int} (ht:P.underlying t=some (.slice e)) (he:tyI P e=some (1,by_,false)) (hm:Mine G w u l) (hk:k<=l.length) (g4:l≠[])
   (kk:∀ b a cap v G',u=.slice (some ⟨b,a,none⟩) l.length cap->Mine G' w v (l.take k)->(∀ c∈G',c∈G)->(0<k->v=.slice (some ⟨b,a,none⟩) k cap)->K v):RD P (Instr.sliceAt t u none (some (.int .i64 (k:Int))) none) w K:=by
 obtain ⟨⟨_,⟨a,cap,_,xs,rfl,_,h2,hc,h4⟩,rfl⟩,_,hw⟩:=hm;rcases h4 with ⟨h4,_⟩ | ⟨b,o,rfl,rfl,hr,hb⟩
 . exact absurd h4 g4
 have g5:=Cells.flat (xs:=xs) hc;subst g5
 have g9:∀ w',(Instr.sliceBounds true l.length cap none (some (.int .i64 (k:Int))) none).run P w'=.ok (0,k,cap) w':=λw'=>by
   have h5:(k:Int)<=(cap:Int):=oo;simp [Instr.sliceBounds,Instr.sliceBound,asIntOf,h5];intro _;omega
 have e0:l=l.take k++l.drop k:=by simp
 have g2:=hc;rw [e0] at g2;obtain ⟨_,_,x1,_,gb,rfl,c1,_⟩:=Cells.split g2;obtain ⟨rfl,rfl⟩:=qbQ.1 gb.symm;have g3:(l.take k).length=k:=by simp;omega
 have g0:∃ v:vL,(∀ w',(Instr.sliceAt t (.slice (some ⟨b,o,none⟩) l.length cap) none (some (.int .i64 (k:Int))) none).run P w'=.ok v w')/\v=.slice (some ⟨b,o,none⟩) k cap:=by
   refine ⟨_,λw'=>?_,rfl⟩;simp only [Instr.sliceAt,Instr.slice,Sem.run_bind,run_underlying ht,Result.andThen_ok,g9,zaJ he];simp [Addr.add_mid]
 obtain ⟨v,g1,rfl⟩:=g0;refine zba (λw' _=>g1 w') ?_;by_cases h0:k=0
 . subst h0;refine kk b o cap _ [] rfl ?_ sS (λ_=>oo);have:l.take 0=[]:=by simp
   rw [this];exact ⟨⟨_,⟨some ⟨b,o,none⟩,cap,[],[],rfl,z0 _,h2,⟨rfl,rfl⟩,.inl ⟨rfl,rfl⟩⟩,rfl⟩,qav,Wr.nil w⟩
 refine kk b o cap _ [b] rfl ?_ sS (λ_=>rfl);refine ⟨⟨_,⟨some ⟨b,o,none⟩,cap,[],x1,rfl,by rw [g3];omega,h2,c1,.inr ⟨b,o,rfl,rfl,(zaK hr).1,hb⟩⟩,by rw [g3];rfl⟩,sS,hw.sub sS⟩
def zkM {t:Int} (h0:Is W0 v0 c) (e0:Ext W0 w) (h1:Is W1 v1 s) (e1:Ext W1 w) (hc:CodeR c) (hs:zaV c s) (j4:GoR c s t) :
   CALL tp 45 [v0,v1,.int .i64 t] w λr w'=>Ext w w'/\Own w.heap.size w' r (za1 c s t):=by
 obtain ⟨tn,rfl,gK,jP,_,d6⟩:=zf2 hs j4.1;have h9:=ziq hs tn;have gg:0<=zbg s tn:=j4.1;have d7:=qaO.2 jP;refine co (g:=⟨extL,[(30,91343852333181432387730302044767688659776309248,[11])],[],[(8,[0,1,2,3,4,5,6,7,8,9,10,11,12],1024),(15,[0,1,2,3,4,5,6,7,8,9,10,11,12,13,14,15,16,17],49152),(19,[0,1,2,3,4,5,6,7,8,9,10,11,12],768),(26,[0,1,2,3,4,5,6,7,8,9,10,11],0)],[],[15],[]⟩) Tryz.func45 ?_;refine zbp h0 e0 λw1 ja ha=>zbp h1 (e1.trans ja) λw2 hb jb=>zaL zu1 λw3 gU jQ=>?_;have hg3:=jQ.lt;have hs1:=ja.size;have hs2:=hb.size;refine zab zch jb gU λ_ d8=>?_;refine (zwn d8 gU (zzj hc hs)).mono ?_;rintro _ w4 ⟨jR,z,d9,hz⟩;have hs4:=jR.size;refine zeC (α:=DStV) zu1 λ_ jc jS=>?_;have hs5:=jc.size;have hg5:=jS.lt;refine zbH zch jS (d9.ext jc) oo λw6 jT hd=>?_;have hs6:=jT.size;have gV:Ext w3 w6:=Ext.chgI (jR.t jc) jT oo;have gi:z.stacks.l.map RV.l=s.stacks:=qax DState.stacks hz;have gy:tn<z.stacks.l.length:=by have:=qax List.length gi;simp at this;omega
 refine zaa zbc<|zab (α:=RIntss) zeV (zfM hd.at) (xrf w6) λ_ da=>?_;obtain ⟨rfl,jU⟩:=znE da;refine zad (α:=RInts) u31 zaS jU gy λ_ _ jd=>zab (α:=RInts) zaS jd (xrf w6) λ_ db=>?_;obtain ⟨rfl,je⟩:=znE db;obtain ⟨x,hx⟩:∃ x,x=z.stacks.l[tn]:=⟨_,rfl⟩
 have gd:x.l=stk s tn:=by
   have e1:(z.stacks.l.map RV.l)[tn]?=s.stacks[tn]?:=by rw [gi]
   rw [List.getElem?_map,List.getElem?_eq_getElem gy,List.getElem?_eq_getElem gK] at e1;have e2:=qa0 e1;rw [hx,e2];exact zem (t:=(tn:Int)) (by simpa using gK)
 rw [<-hx] at je ⊢;refine zae u25 je<|zbe (by unfold I64;rw [gd];omega) ?_;obtain ⟨top,hf⟩:∃ top:Nat,(x.l.length:Int)-1=top:=⟨x.l.length-1,by rw [gd];omega⟩;have jf:top<x.l.length:=oo;rw [hf];have jg:=xrf w6;have hs7:=jg.size;have g2:Ext w1 w6:=hb.t (gU.t gV);have gz:Ext w2 w6:=gU.t gV;refine zaa zbc<|zbR zeV (zfM hd.at) (xrf w6)<|zad (α:=RInts) u31 zaS jU gy λ_ _ hh=>?_;rw [<-hx] at hh;refine zbR zaS hh (xrf w6)<|zad u25 ty3 je jf λ_ _ hj=>?_
 have jh:x.l[top]=zbg s tn:=by
   rw [zrD,d6,gd];congr 1;rw [gd] at hf;omega
 rw [jh] at hj;refine zac ty3 hj jg λ_=>zaa zaY<|zab zdD (zam ha) g2 λ_ dc=>zaC u26 zbm dc j4.1 oo λ_ _ hk=>?_;rw [zaG] at hk;refine zab zbm hk g2 λ_ dd=>zcP ziG rfl zbm rfl dd g2 λw8 jV Y _=>?_;have hs8:=jV.size;have de:=hc.f.ins;refine zcY io ?_;have hR:=zjI hc hs j4.1;obtain ⟨I,hI⟩:∃ I,I=atI c s tn:=⟨_,rfl⟩;have Y:At w8 w6.heap.size 0 I:=by rw [hI];exact Y
 have V:=jg.t jV;have gb:VarI w3.heap.size w8.heap.size w8 w4.heap.size z:=(hd.ext V).mono (lr _) oo;have Z:Ext w3 w8:=gV.t V
 have gC:∀ (zz:DState) (w9:wD),Ext w3 w9->VarI w3.heap.size w9.heap.size w9 w4.heap.size zz->zz=za1 c s tn ->
     RD tp (Instr.loadAt 43 (.pointer (some ⟨w4.heap.size,0,none⟩))) w9 λji=>OPU tp (Instr.storeAt 43 (.pointer (some ⟨w2.heap.size,0,none⟩)) ji) w9 λw'=>
       RD tp (zfA 43 (.pointer (some ⟨w2.heap.size,0,none⟩))) w' λr6=>Ext w w'/\Own w.heap.size w' r6 (za1 c s tn):=by
   intro zz w9 D j5 he;have hl:=D.size;refine zfE zch j5 (xrf w9) λ_ gW=>?_;obtain ⟨a,b,_,rfl⟩:=zBA gW;refine zaz (α:=DState) zch rfl (jQ.ext D) rfl gW λg1 gj jj=>zcl jj zch<|⟨Ext.chgI (ja.t (hb.t (gU.t D))) gj oo,?_⟩;have:=gW.chg gj oo;rw [he] at this;exact this.own.mono oo
 refine JOIN.mk (λus w'=>us=[.int .i64 (zcJ c s tn)]/\Ext w3 w'/\∃ z':DStV,VarI w3.heap.size w'.heap.size w' w4.heap.size z'/\z'.vars=(zaP c s tn).vars/\z'.owner=(zaP c s tn).owner/\z'.stacks.l.map RV.l=(zaP c s tn).stacks/\z'.stacks.l[tn]?=some x/\(I.op≠4/\I.op≠9)) ?_ ?_
 . refine zaa za8 ?_;refine zac ty3 (zay Y) (xrf w8) λ_=>?_;have gD:z.vars=s.vars:=qax DState.vars hz;have gl:z.owner=s.owner:=qax DState.owner hz;have gX:z.stacks.l[tn]?=some x:=by rw [List.getElem?_eq_getElem gy,hx]
   have gE:∀ w9,Ext w8 w9->(I.op≠1/\I.op≠4/\I.op≠5/\I.op≠6/\I.op≠7/\I.op≠9)->∃ z':DStV,VarI w3.heap.size w9.heap.size w9 w4.heap.size z'/\z'.vars=(zaP c s tn).vars/\z'.owner=(zaP c s tn).owner/\z'.stacks.l.map RV.l=(zaP c s tn).stacks/\z'.stacks.l[tn]?=some x/\(I.op≠4/\I.op≠9):=by
     rintro w9 D ⟨q1,q4,q5,q6,q7,q9⟩;have he:zaP c s tn=s:=by unfold zaP;rw [<-hI,qab q1,qab q5,qab q6,qab q7]
     rw [he];exact ⟨z,(gb.ext D).mono (lr _) D.size,gD,gl,gi,gX,q4,q9⟩
   have gM:I.op≠2->I.op≠3->zcJ c s tn=zbg s tn+1:=λq2 q3=>by unfold zcJ;rw [<-hI,qab q2,qab q3]
   refine zai<|br (λq1=>?_) (λq1=>?_)
   . have D:=zag w8;have hl:=D.size;have gN:=gb.lt;obtain ⟨g3,g4⟩:=zzl hc hs gg (hI▸q1);rw [<-hI] at g3 g4;obtain ⟨ar,g9⟩:∃ ar:Nat,I.arg=ar:=⟨I.arg.toNat,oo⟩;have g0:ar<z.vars.length:=by rw [gD];omega
     obtain ⟨u,b,a,cap,hr,jk,hu,hq⟩:=zu7 (gb.ext D) oo g0;refine zaa zhc<|zcN zaS hr<|zaa zaZ<|zac ty3 (zat Y) D λ_=>zaa zdL<|zab zbl (zco Y) D λdf jl=>zaa zee<|zab zdt (zbs ha) (g2.t (V.t D)) λdg jm=>zaa zhc<|zab zaS (zcK jb) (gz.t (V.t D)) λdh jn=>?_
     have jo:zbj 6 I.term=true:=by
       have:=hR.2.2.1;rw [<-hI,qah (.inl q1)] at this;exact this.1
     refine (zjL jl D jm (g2.t (V.t D)) jn (gz.t (V.t D)) jo).mono ?_;rintro _ g1 ⟨X,rfl⟩;refine ⟨X,?_⟩;have gF:=X.size;rw [g9];refine zdk u25 ty3 hu g0 ?_;have hwr:=zdY c.globals s.vars 6 I.term;refine hq g1 X _ io _ λgG U gc=>?_;have gp:=U.size;have C:zaP c s tn=⟨s.vars.set I.arg.toNat (workT c.globals s.vars 6 I.term),s.owner,s.stacks⟩:=by unfold zaP;rw [<-hI,qah q1]
     refine ⟨by rw [gM oo oo],Ext.chgI ((Z.t D).trans X) U oo,_,gc.mono (lr _) oo,?_,?_,?_,gX,oo,oo⟩
     . rw [C,gD,g9];rfl
     . rw [C];exact gl
     rw [C];exact gi
   refine zai<|br (λq2=>?_) (λq2=>?_)
   . refine zaa zdL ?_;refine zab zbl (zco Y) (xrf w8) λdf jl=>zaa zee<|zab zdt (zbs ha) (g2.t V) λdg jm=>zaa zhc<|zab zaS (zcK jb) (gz.t V) λdh jn=>?_
     have jo:zbj 6 I.term=true:=by
       have:=hR.2.2.1;rw [<-hI,qah (.inr q2)] at this;exact this.1
     refine (zjL jl (xrf w8) jm (g2.t V) jn (gz.t V) jo).mono ?_;rintro _ w9 ⟨D,rfl⟩;refine zai<|br (λq=>?_) (λq=>?_)
     . refine zaa zdg ?_;refine zac ty3 (zcc Y) D λ_=>⟨by unfold zcJ;rw [<-hI,qah q2,qah q],Z.t D,gE w9 D oo⟩
     exact ⟨by unfold zcJ;rw [<-hI,qah q2,qab q],Z.t D,gE w9 D oo⟩
   refine zai<|br (λq3=>?_) (λq3=>?_)
   . refine zaa zdg ?_;refine zac ty3 (zcc Y) (xrf w8) λ_=>⟨by unfold zcJ;rw [<-hI,qab q2,qah q3],Z,gE w8 (xrf w8) oo⟩
   have hn:=gM q2 q3;refine zai<|br (λq4=>?_) (λq4=>?_)
   . have D:=zag w8;have hl:=D.size;have gN:=gb.lt;obtain ⟨g3,g4⟩:=zh9 hc hs gg (.inl (hI▸q4));rw [<-hI] at g3 g4;obtain ⟨ar,g9⟩:∃ ar:Nat,I.arg=ar:=⟨I.arg.toNat,oo⟩;obtain ⟨F,hO,hF⟩:=hd.ext (V.t D);have h6:=hO.lts;obtain ⟨G1,gh⟩:=zdv (Lens.var hO);obtain ⟨b2,a2,ht,G2,j6,jp,gf⟩:=gh.elemV gy;rw [<-hx] at gf;obtain ⟨jW,⟨rfl,_⟩,gx,_,_,di,_⟩:=gh.here;obtain ⟨cs,⟨rfl,gY⟩,jq,jr,_,dj,_⟩:=gf.here
     have js:∀ c∈G2,c∈F:=λc O=>by
       rcases qaa.1 (gf.sub c (by simp [O])) with rfl | h
       . exact absurd (jp _ (by simp [O])) di
       exact h
     have hv:∀ c∈G2,w3.heap.size<=c/\c<w4.heap.size:=λc O=>hF c (js c O);have hw:∀ c,c∈G2->w3.heap.size<=c:=λc O=>(hv c O).1;have g5:=Z.t D;refine XR.mk (λc=>c∈G2)<|zeN zbc<|zfr zeV gx (λh=>by have:=hv _ h;omega)<|zeN zbc<|zfr zeV gx (λh=>by have:=hv _ h;omega)<|zej (w0:=w3) hw g5<|zdk u31 zaS j6 gy<|zfr zaS jq dj<|zeN zbq<|zej (w0:=w3) hw g5<|zab zaS (zaq ha) (hb.t gU) λ_ dk=>zeN zaZ<|zfr ty3 (zbQ (zyN (zat Y)) D) (λh=>by have:=hv _ h;omega) ?_;rw [g9];refine zej (w0:=w3) hw g5<|zad u25 ty3 dk oo λ_ _ hy=>?_;rw [zbO] at hy;refine zej (w0:=w3) hw g5<|zac ty3 hy (hb.t gU) λjt=>zdU (β:=Int) (G:=G2) u25 ty3 z3 zc3 qd gY jr (zbt jt) sS (by rw [zaj,gd];omega) (by rw [gd];omega) (λg1 _ gG G' X U ju jv gp=>?_) λsv g1 X jw=>⟨X.toX,jw⟩;refine ⟨U.toX (λc h=>h),?_⟩;have gF:=X.size;have jX:=U.size;have gO:Chg G2 (World.drew1 w8) gG:=(X.chg G2).trans U;have hB:Ext w3 gG:=Ext.chgI g5 (gO.toI (lo:=w3.heap.size) (hi:=w4.heap.size) hv) (lr _);refine zej (w0:=w3) hw hB<|zdk u31 zaS j6 gy<|zgy zaS gf h6 gO ju jv (λc O=>?_) λj7 gH ⟨F',gq,hC⟩=>?_
     . rcases gp c O with h | h | h
       . exact .inl h
       . simp at h
       exact .inr h
     have hD:=gH.size
     have hG:ChgI w3.heap.size w8.heap.size (World.drew1 w8) j7:=gH.toI λc O=>by
       have:=gf.sub c O;rcases qaa.1 this with rfl | h
       . exact ⟨oo,gN⟩
       have:=hF c h;omega
     refine gC _ j7 (Ext.chgI g5 hG (lr _)) (zpX ⟨F',gq,λc O=>?_⟩) ?_
     . have h1:=gq.lts c (by simp [O]);rcases hC c O with h | h
       . rcases qaa.1 h with rfl | h
         . obtain ⟨_,_,_,_,_,hH,_⟩:=gq;exact absurd O hH
         have:=hF c h;omega
       omega
     unfold za1 DStV.er;have e1:((tn:Int)).toNat=tn:=oo;rw [<-hI,qah q4];simp only [DState.mk.injEq,gD,gl,true_and];rw [qcp,gi,gd,e1,g9,qal]
   refine zai<|br (λq5=>?_) (λq5=>?_)
   . have gN:=gb.lt;obtain ⟨g3,g4⟩:=zh9 hc hs gg (.inr (hI▸q5));rw [<-hI] at g3 g4;obtain ⟨ar,g9⟩:∃ ar:Nat,I.arg=ar:=⟨I.arg.toNat,oo⟩;have gr:z.stacks.l.length=s.stacks.length:=by have:=qax List.length gi;simpa using this
     refine zaa zbc<|zab (α:=RIntss) zeV (zfM gb.at) (xrf w8) λ_ dl=>?_;obtain ⟨rfl,dm⟩:=znE dl;refine zae u31 dm ?_;rw [gr];refine zaf<|br (λqq=>?_) (λqq=>?_)
     . have D:=zag w8;have hl:=D.size;obtain ⟨F,hO,hF⟩:=gb.ext D;have h6:=hO.lts;obtain ⟨G1,gh⟩:=zdv (Lens.var hO);refine zaa zbc<|zbR zeV (zfM gb.at) D<|zaa zbq<|zab zaS (zaq ha) (g2.t (V.t D)) λ_ dn=>zaa zaZ<|zac ty3 (zat Y) D λ_=>?_;rw [g9];refine zad u25 ty3 dn oo λ_ _ hJ=>?_;rw [zbO] at hJ;refine zac ty3 hJ (g2.t (V.t D)) λjx=>zci (β:=Int) u25 ty3 z3 qd (zbt jx) λ_ g1 X dp=>⟨X,?_⟩;have gF:=X.size;obtain ⟨_,dq,jY⟩:=zff dp;obtain ⟨cs,⟨rfl,gY⟩,_,jr,_⟩:=gh.here;have hK:∀ c∈G1,c<(World.drew1 w8).heap.size:=λc O=>h6 c (gh.sub c (by simp [O]));refine zdU (β:=RInts) (G:=G1) (w:=g1) u31 zaS z25 zyq qd (gY.keep λc O=>X.heap (hK c O)) jr dq (λc O hg=>by have:=jY c O;have:=hK c hg;omega) (by rw [zaj,gr];omega) (by rw [gr];omega) (λgG _ j7 G' gZ hL jy jz hD=>?_) λsv gG gZ jw=>⟨gZ,jw⟩;have gH:Chg G1 g1 j7:=(gZ.chg G1).trans hL;refine zaa zbc<|zgy zeV gh h6 ((X.chg G1).trans gH) jy jz (λc O=>?_) λdr hM ⟨F',gq,hC⟩=>?_
       . rcases hD c O with h | h | h
         . exact .inl h
         . exact .inr (jY c h).1
         exact .inr oo
       have ds:=hM.size
       have hG:ChgI w3.heap.size w8.heap.size (World.drew1 w8) dr:=hM.toI λc O=>by
         have:=gh.sub c O;rcases qaa.1 this with rfl | h
         . exact ⟨oo,gN⟩
         exact hF c h
       have C:zaP c s tn=⟨s.vars,s.owner,s.stacks++[[en c I.arg.toNat]]⟩:=by unfold zaP;rw [<-hI,qab q1,qah q5,qah oo]
       refine ⟨by rw [hn],Ext.chgI (Z.t D) hG (lr _),_,⟨F',gq,λc O=>?_⟩,?_,?_,?_,?_,oo,oo⟩
       . have h1:=gq.lts c (by simp [O]);rcases hC c O with h | h
         . rcases qaa.1 h with rfl | h
           . obtain ⟨_,_,_,_,_,hH,_⟩:=gq;exact absurd O hH
           have:=hF c h;omega
         omega
       . rw [C];exact gD
       . rw [C];exact gl
       . rw [C];simp only [qbx,qbI,qca,gi,g9,qal]
       show (z.stacks.l++_)[tn]?=some x;rw [List.getElem?_append_left gy];exact gX
     have C:zaP c s tn=s:=by unfold zaP;rw [<-hI,qab q1,qah q5,qab oo]
     refine ⟨by rw [hn],Z,z,gb,?_,?_,?_,gX,oo,oo⟩
     . rw [C];exact gD
     . rw [C];exact gl
     rw [C];exact gi
   refine zai<|br (λq6=>?_) (λq6=>?_)
   . have gN:=gb.lt;obtain ⟨g3,g4⟩:=zdm hc hs gg (.inl (hI▸q6));rw [<-hI] at g3 g4;obtain ⟨ar,g9⟩:∃ ar:Nat,I.arg=ar:=⟨I.arg.toNat,oo⟩;have g0:ar<z.owner.length:=by rw [gl];omega
     obtain ⟨u,b,a,cap,hr,jk,hu,hq⟩:=zjM gb oo g0;refine zaa zdN<|zcN zaS hr<|zaa zaZ<|zac ty3 (zat Y) (xrf w8) λ_=>?_;rw [g9];refine zdk u25 ty3 hu g0 ?_;have jZ:=hs.2.2.1;refine hq w8 (xrf w8) _ io _ λgG U gc=>?_;have gp:=U.size;have C:zaP c s tn=⟨s.vars,s.owner.set I.arg.toNat tn,s.stacks⟩:=by unfold zaP;rw [<-hI,qab q1,qab q5,qah q6]
     refine ⟨by rw [hn],Ext.chgI Z U oo,_,gc.mono (lr _) oo,?_,?_,?_,gX,oo,oo⟩
     . rw [C];exact gD
     . rw [C,gl,g9];rfl
     rw [C];exact gi
   refine zai<|br (λq7=>?_) (λq7=>?_)
   . have gN:=gb.lt;obtain ⟨g3,g4⟩:=zdm hc hs gg (.inr (hI▸q7));rw [<-hI] at g3 g4;obtain ⟨ar,g9⟩:∃ ar:Nat,I.arg=ar:=⟨I.arg.toNat,oo⟩;have g0:ar<z.owner.length:=by rw [gl];omega
     obtain ⟨u,b,a,cap,hr,jk,hu,hq⟩:=zjM gb oo g0;refine zaa zdN<|zcN zaS hr<|zaa zaZ<|zac ty3 (zat Y) (xrf w8) λ_=>?_;rw [g9];refine zad u25 ty3 jk g0 λ_ _ hN=>zac ty3 hN (xrf w8) λ_=>?_
     have dt:z.owner[ar]=ow s I.arg:=by
       have:ar<s.owner.length:=by rw [<-gl];exact g0
       rw [g9,<-zu4 this];congr 1
     rw [dt];refine zai<|br (λqq=>?_) (λqq=>?_)
     . refine zaa zdN ?_;refine zcN zaS hr<|zaa zaZ<|zac ty3 (zat Y) (xrf w8) λ_=>?_;rw [g9];refine zdk u25 ty3 hu g0<|hq w8 (xrf w8) _ io _ λgG U gc=>?_;have gp:=U.size;have C:zaP c s tn=⟨s.vars,s.owner.set I.arg.toNat (-1),s.stacks⟩:=by unfold zaP;rw [<-hI,qab q1,qab q5,qab q6,qah q7,qah qq]
       refine ⟨by rw [hn],Ext.chgI Z U oo,_,gc.mono (lr _) oo,?_,?_,?_,gX,oo,oo⟩
       . rw [C];exact gD
       . rw [C,gl,g9];rfl
       rw [C];exact gi
     have C:zaP c s tn=s:=by unfold zaP;rw [<-hI,qab q1,qab q5,qab q6,qah q7,qab qq]
     refine ⟨by rw [hn],Z,z,gb,?_,?_,?_,gX,oo,oo⟩
     . rw [C];exact gD
     . rw [C];exact gl
     rw [C];exact gi
   refine zai<|br (λq9=>?_) (λq9=>?_)
   . have D:=zag w8;have hl:=D.size;have gN:=gb.lt;have g5:=Z.t D;obtain ⟨F,hO,hF⟩:=hd.ext (V.t D);have h6:=hO.lts;obtain ⟨_,hP⟩:=zdv (Lens.var hO);obtain ⟨du,dv,_,_,jA,hQ,hS⟩:=hP.elemV gy;rw [<-hx] at hS;obtain ⟨jW,⟨rfl,_⟩,jB,_,_,jC,_⟩:=hP.here;obtain ⟨dw,⟨rfl,hV⟩,h4,_,_,_,hW⟩:=hS.here;have dx:OAt F (World.drew1 w8) w4.heap.size 0 s:=by have:=zzk hO;rwa [hz] at this
     obtain ⟨G1,gh⟩:=zfo (Lens.var dx);obtain ⟨_,_,_,_,_,_,_⟩:=gh.here;obtain ⟨u1,b2,a2,ht,G2,gx,_,gP,gf⟩:=gh.elem gK;have hu:u1=z.stacks.v:=zdw gx jB;refine zaa zbc<|zcN zeV gx<|zaa zbc<|zcN zeV gx<|zdk u31 zaS gP gK ?_
     have dz:b2=du/\a2=dv:=by
       rw [hu,jA] at gP;simp only [Value.slice.injEq,qao,Addr.mk.injEq] at gP;exact ⟨gP.1.1.symm,gP.1.2.1.symm⟩
     obtain ⟨rfl,rfl⟩:=dz;obtain ⟨ux,d0,dA,dB,_⟩:=gf.row;obtain ⟨_,_,_,_,_,hX,_⟩:=gf.here;have dC:ux=x.v:=zdw dA h4;have d1:s.stacks[tn]=x.l:=by rw [gd];exact zem (t:=(tn:Int)) (by simpa using gK)
     rw [dC,d1] at d0;refine zcN zaS h4<|zE6 u25 ty3 d0 oo (by rw [gd];exact jP) λbx ax _ gI G' _ j8 jD dD=>zdk u31 zaS gP gK ?_;have gQ:b2∉G':=λh=>hX (jD _ h);have jE:b2≠w4.heap.size:=λe=>jC (e▸hQ b2 sS);have gR:=zbC rfl j8.own;have hY:gI.oneCell'=true:=Rep.one gR gI sS;refine zlu zaS hW h4 hV.one hY λg1 h8 h5=>?_;have gs:∀ c∈G',g1.heap[c]?=(World.drew1 w8).heap[c]?:=λc O=>h8.chg.block c (j8.lt c O) (by simp;exact λe=>gQ (e▸O));obtain ⟨cb,eb,dE⟩:=hW;obtain ⟨dF,jF,_⟩:=h8.cell cb eb dE;have dG:OAt G' g1 b2 (a2+tn*Rep.size (List Int)) (x.l.take top):=⟨[gI],Rep.keep gR gs,h5,j8.nodup,j8.wr.keep gs,gQ,dF,eb,jF⟩;have hZ:g1.heap[w4.heap.size]?=(World.drew1 w8).heap[w4.heap.size]?:=h8.chg.block _ (h6 _ sS) (by simp;exact λe=>jE e.symm);obtain ⟨F',gq,hC⟩:=gf.back g1 G' (x.l.take top) (h8.mono (lr _) (lr _) sS) dG (λc O=>.inl (jD c O));have gF:=h8.chg.size
     have d2:∀ c∈F',w3.heap.size<=c/\c<w4.heap.size:=λc O=>by
       have dH:c∈w4.heap.size :: F:=by
         rcases hC c O with h | h
         . exact h
         exact dB c (jD c h)
       rcases qaa.1 dH with rfl | h
       . obtain ⟨_,_,_,_,_,hH,_⟩:=gq;exact absurd O hH
       exact hF c h
     have jG:b2∈w4.heap.size :: F:=gf.sub b2 sS
     have hG:ChgI w3.heap.size w8.heap.size (World.drew1 w8) g1:=h8.chg.toI λc O=>by
       simp only [qaa,qad,qaq] at O;subst O;rcases qaa.1 jG with h | h
       . rw [h];exact ⟨oo,gN⟩
       have:=hF _ h;omega
     have gS:Ext w3 g1:=Ext.chgI g5 hG (lr _);have e1:((tn:Int)).toNat=tn:=oo;have j0:x.l.length=top+1:=oo;have d3:top<8:=by have h:=jf;rw [gd] at h;omega
     refine zcO<|br (λhp=>?_) (λhp=>?_)
     . refine zaa zbc ?_;refine zcN zeV (zbo gx hZ)<|zdk u31 zaS gP gK<|zcN zaS h5<|zbe io ?_;obtain ⟨tp,dI⟩:∃ tp:Nat,(top:Int)-1=tp:=⟨top-1,oo⟩;rw [dI];obtain ⟨_,jH⟩:=zfo (Lens.var gq);have j1:tn<(s.stacks.set tn (x.l.take top)).length:=by simpa using gK
       obtain ⟨dJ,dK,dL,_,_,jI,_,gJ,j2⟩:=jH.elem j1;have dM:dJ=u1:=zdw jI (zbo gx hZ)
       have jJ:dK=b2/\dL=a2:=by
         rw [dM,gP] at gJ;simp only [Value.slice.injEq,qao,Addr.mk.injEq] at gJ;exact ⟨gJ.1.1.symm,gJ.1.2.1.symm⟩
       obtain ⟨rfl,rfl⟩:=jJ;have dN:(s.stacks.set tn (x.l.take top))[tn]'j1=x.l.take top:=qcF ..;simp only [dN] at j2;obtain ⟨uy,dO,dP,_,_,dQ,_,j9,j3⟩:=j2.elem (k:=tp) so;have jK:uy=gI:=zdw dQ h5;have gt:=dD oo
       have dR:dO=bx/\dP=ax:=by
         rw [jK,gt] at j9;simp only [Value.slice.injEq,qao,Addr.mk.injEq] at j9;exact ⟨j9.1.1.symm,j9.1.2.1.symm⟩
       obtain ⟨rfl,rfl⟩:=dR;refine zdk u25 ty3 gt (k:=tp) oo ?_
       have jL:(x.l.take top)[tp]'(by simp;omega)=st x.l tp:=by
         rw [qcB,zrD]
       refine zac ty3 j3.here.at (xrf g1) λ_=>?_;rw [jL]
       have dT:0<=st x.l tp/\st x.l tp<c.ins.length:=by
         have jM:=hs.2.2.2.2.2 x.l (by rw [<-d1];exact qac _);exact jM.2.1 tp oo
       refine zcY io<|zdk u25 ty3 gt (k:=tp) oo ?_;have d4:w4.heap.size<g1.heap.size:=oo;refine zf0 (α:=DState) (lo:=w3.heap.size) (hi:=g1.heap.size) ty3 j3 (λc O=>by have:=d2 c O;omega) oo (zbt (x:=st x.l tp+1) io) λgG U gc=>?_;have gp:=U.size;refine gC _ gG (Ext.chgI gS U (lr _)) (gc.mono (lr _) oo) ?_;unfold za1;rw [<-hI,qab q4,qah q9];simp only [DState.mk.injEq,true_and,e1,List.set_set];congr 1;unfold zfl;rw [<-gd,j0,qab oo,show top+1-1=top by omega,show top+1-2=tp by omega]
     refine gC _ g1 gS ⟨F',gq,λc O=>by have:=d2 c O;omega⟩ ?_;unfold za1;rw [<-hI,qab q4,qah q9];simp only [DState.mk.injEq,true_and,e1];congr 1;unfold zfl;have dU:top=0:=oo;subst dU;rw [<-gd,j0];simp
   exact ⟨by rw [hn],Z,gE w8 (xrf w8) oo⟩
 rintro _ w9 ⟨hu,D,z',j5,dV,dW,dX,dY,dZ,z1⟩;try replace hu:=zbv hu
 rw [hu];have hl:=D.size;obtain ⟨j1,z6⟩:=List.getElem?_eq_some_iff.1 dY;have hg9:=j5.lt;obtain ⟨F,hO,hF⟩:=j5;obtain ⟨G1,gh⟩:=zdv (Lens.var hO);obtain ⟨b2,a2,ht,G2,j6,_,gf⟩:=gh.elemV j1;rw [z6] at gf;obtain ⟨jW,⟨rfl,_⟩,gx,_⟩:=gh.here;obtain ⟨dw,⟨rfl,_⟩,jq,_⟩:=gf.here;refine zaa zbc<|zcN zeV gx<|zdk u31 zaS j6 j1<|zcN zaS jq<|zuI (e:=3) u25 ty3 gf jf λ_ _ _ z7=>?_
 have jN:I64 (zcJ c s tn):=by
   have d5:I.op=2\/I.op=3->I64 I.to:=λh=>by
     have:=hR.2.2.2;rw [<-hI,qah h] at this;obtain ⟨i,hi,_,_,z8⟩:=hc.f.find hc.1.procs8.2 gg h9.2;have h1:=hc.f.nonneg hi;have h2:=(hc.f.lt i hi).2;rw [z8,zeh,qal] at this;unfold I64;omega
   unfold zcJ;rw [<-hI];split
   . split
     . exact d5 (.inl aA)
     unfold I64;omega
   split
   . exact d5 (.inr aA)
   unfold I64;omega
 refine zf0 ty3 z7 hF oo (zbt jN) λg1 gj jO=>?_;have gF:=gj.size;refine gC _ g1 (Ext.chgI D gj (lr _)) (zpX (jO.mono (lr _) oo)) ?_;unfold za1 DStV.er;rw [<-hI,qab dZ,qab z1];simp only [DState.mk.injEq,dV,dW,true_and];have e1:((tn:Int)).toNat=tn:=oo;have e2:(stk s tn).length-1=top:=by rw [<-gd];omega
 rw [qcp,dX,gd,e1,e2]
theorem zhK {c:DCode} {s:DState} {t:Int}:∀ {k:Nat},t∈zfN c s k->GoR c s t
 | 0,h=>by simp [zfN] at h
 | k+1,h=>by
   rw [zfN] at h;split at h
   . rcases qae.1 h with h | h
     . exact zhK h
     simp only [qaa,qad,qaq] at h;subst h;assumption
   exact zhK h
def zHT {α β:Type} [Rep α] [Rep β] (w w':wD) (r:vL) (x:α) (y:β):Prop:=∃ a b lo hi lo2 hi2,r=.tuple #[a,b]/\OwnI lo hi w' a x/\OwnI lo2 hi2 w' b y/\w.heap.size<=lo/\w.heap.size<=lo2/\hi<=w'.heap.size/\hi2<=w'.heap.size/\(hi<=lo2\/hi2<=lo)
end Go.Proofs.YtkgiigmcbgifdaaGreat
namespace Go.Sh
open Go.RowKit (Below)
open Rep (rep)
section
variable {P:pG} {w w0 w':wD} {α β:Type} [Rep α] [Rep β] {lo hi e g o:Nat}
def zgD {t:TypeId} {by_:Nat} {u:vL} {x:β} {lo2 hi2:Nat} {K:vL->wD->Prop} (ht:P.underlying t=some (.slice e)) (he:tyI P e=some (Rep.size β,by_,Rep.agg β)) (hz:zbZ P e=true) (hsz:Rep.size β<=1000) (hx:OwnI lo2 hi2 w u x) (gc:lo2<=w.heap.size)
   (k:∀ v w',Ext w w'->RowI lo2 w'.heap.size e w' v [x]->K v w'):OP P (Instr.buildSlice t 1 #[(0,u)]) w K:=by
 obtain ⟨F,⟨⟨cs,hr,rfl⟩,hn,hw⟩,hF⟩:=hx;have g4:=ze3 hr;have g0:=Rep.len hr;have g5:(mkv β cs).cells.size=Rep.size β:=by rw [<-qaH,g4,g0]
 obtain ⟨_,_,hi,_,_,_,_⟩:=zdE he;unfold zbZ at hz;rw [hi] at hz;obtain ⟨_,hz⟩:=qbj.1 hz;have:=Rep.pos (α:=β);have g1:=Rep.lt hr;have g2:=zaX w (.cells (mkv β cs).cells e);have g3:=(Array.getElem?_eq_some_iff.1 (heap_alloc_new w (.cells (mkv β cs).cells e))).1;refine ⟨_,w.alloc (.cells (mkv β cs).cells e),?_,k (.slice (some ⟨w.heap.size,0,none⟩) 1 1) _ g2 (.inr ⟨w.heap.size :: F,⟨cs,F,⟨by simp [g0],.inr ⟨w.heap.size,1,(mkv β cs).cells,rfl,z0 _,heap_alloc_new w _,lr _,by rw [zaj];omega,by rw [g5,qbN],?_⟩⟩,Cells.single (zcp hr g2),rfl,hw.ext g2⟩,?_,?_⟩)⟩
 . have g9:¬Rep.size β=0:=oo;have gb:¬2^24<Rep.size β:=oo;simp only [Instr.buildSlice,Sem.run_bind,run_underlying ht,Result.andThen_ok,zaJ he,qbN];simp [gb,g9,zeroValue,typeInfo,hi,hz,zpt _ _ _ g5,newRow]
 . rw [g4,qcc,qbN,qaf oo]
 . exact qaP.2 ⟨λh=>by have:=g1 _ h;omega,hn⟩
 intro b hb;rcases qaa.1 hb with rfl | hb
 . exact ⟨gc,g3⟩
 exact ⟨(hF b hb).1,by have:=g1 b hb;have:=g2.size;omega⟩
def zE7 {t:TypeId} {v:vL} {x:α} {K:vL->wD->Prop} (ha:Rep.agg α=true) (h:OwnI lo hi w v x) (k:∀ w',Ext w w'->VarI lo hi w' w.heap.size x->K (.pointer (some ⟨w.heap.size,0,none⟩)) w'):OP P (Instr.box t v) w K:=by
 obtain ⟨F,⟨⟨cs,hr,rfl⟩,hn,hw⟩,hF⟩:=h;have:mkv α cs=.agg cs.toArray:=by simp [mkv,ha]
 rw [this];refine zmn λw' hx hB=>k w' hx ⟨F,⟨cs,zcp hr hx,?_,hn,hw.ext hx,λhm=>by have:=Rep.lt hr _ hm;omega,_,_,hB⟩,hF⟩;simpa using hB.range
def zrT {x:RV β e} (h:At w g o x):Is w x.v x.l:=by
 obtain ⟨_,_,⟨rfl,hR⟩,_⟩:=h;exact hR.own.is
def zGK {x:RV β e} (h:At w g o x):w.rangeAt g o [x.v]:=by
 obtain ⟨_,_,⟨rfl,_⟩,hr⟩:=h;exact hr
def zdJ {X:Nat->Prop} {t by_ g e:Nat} {cs:List vL} {K:vL->Prop} (hB:Blk g e w cs) (ht:tyI P t=some (cs.length,by_,true)) (hX:¬X g) (k:K (.agg cs.toArray)):RDX P X (Instr.loadAt t (.pointer (some ⟨g,0,none⟩))) w K:=by
 refine ⟨_,λw' g0=>?_,k⟩;obtain ⟨v,h1,h2⟩:=zck (P:=P) (w:=w') (K:=λv=>v=.agg cs.toArray) (hB.keep (g0.block g hB.lt hX)) ht rfl;rw [<-h2];exact h1 w' (xrf _)
def zif {t ty:TypeId} {by_ gz:Nat} {x:α} {s:RV β e} {upd:RV β e->α} {u:vL} {y:β} {lo2 hi2:Nat} {K:wD->Prop} {C:vL->wD->Prop} (ht:P.underlying t=some (.slice e)) (he:tyI P e=some (Rep.size β,by_,Rep.agg β)) (hz:zbZ P e=true)
   (gi:(P.info? e).map (λi=>(i.zero.map (·.cells.size)))=some (some (Rep.size β))) (gj:Rep.size β<=1000) (gt:tyI P t=some (1,gz,false)) (hv:VarI lo hi w0 g x) (hg:lo<=g/\g<hi) (g3:Ext w0 w)
   (hL:∀ {F:List Nat},OAt F w0 g 0 x->∃ G,Lens (VH g) (g :: F) w0 g o G s upd) (hx:OwnI lo2 hi2 w u y) (hl:hi<=lo2) (hl2:w0.heap.size<=lo2) (hlo:lo<=w0.heap.size) (hm:s.l.length+1<=maxLen) (hb:(s.l.length+1)*by_<=140737488355328)
   (k:∀ v' w3,ChgI lo hi w0 w3->VarI lo w3.heap.size w3 g (upd ⟨v',s.l++[y]⟩)->K w3)
   (hC:∀ a w1,Ext w w1->OP P (Builtin.append_ #[t,t] ty [s.v,a].toArray) w1 (λr w2=>ExtX (λb=>lo<=b/\b<hi/\b≠g) w1 w2/\OPU P (Instr.storeAt t (.pointer (some ⟨g,o,none⟩)) r) w2 K)->C a w1):OP P (Instr.buildSlice t 1 #[(0,u)]) w C:=by
 obtain ⟨F,hO,hF⟩:=hv;obtain ⟨G,g1⟩:=hL hO;obtain ⟨_,⟨rfl,g2⟩,_,gg,_,g5,_⟩:=g1.here;have g9:=hO.lts;have:g∉F:=by obtain ⟨_,_,_,_,_,h,_⟩:=hO;exact h
 have gb:∀ c∈G,c∈g :: F:=λc hc=>g1.sub c (by simp [hc])
 have g0:∀ c∈G,c∈F:=λc hc=>by
   rcases qaa.1 (gb c hc) with h | h
   . exact absurd (h▸hc) g5
   exact h
 obtain ⟨_,gh,gc⟩:=hx;refine zdU (K:=λw1 r w2=>ExtX (λb=>lo<=b/\b<hi/\b≠g) w1 w2/\OPU P (Instr.storeAt t (.pointer (some ⟨g,o,none⟩)) r) w2 K) ht he hz gi gj (g2.keep λc hc=>g3.heap (g9 c (gb c hc))) gg gh (λc g4 gl=>by have:=gc c g4;have:=hF c (g0 c gl);omega) hm hb (λw1 v' w2 _ gp gd gq gr gs=>⟨?_,?_⟩) hC
 . exact gd.toX λc hc=>⟨(hF c (g0 c hc)).1,(hF c (g0 c hc)).2,λe=>g5 (e▸hc)⟩
 refine zgy gt g1 g9 (((g3.t gp).chg G).trans gd) gq gr (λc g4=>?_) λw3 gx ⟨F',gf,gy⟩=>?_
 . rcases gs c g4 with h | h | h
   . exact .inl h
   . exact .inr (by have:=gc c h;omega)
   exact .inr (qat g3.size h)
 refine k v' w3 (gx.toI λc hc=>?_) ⟨F',gf,λc hc=>⟨?_,gf.lts c (by simp [hc])⟩⟩
 . rcases qaa.1 hc with rfl | hc
   . exact hg
   exact hF c (g0 c hc)
 rcases gy c hc with h | h
 . rcases qaa.1 h with rfl | h
   . exact hg.1
   exact (hF c h).1
 omega
end
end Go.Sh
namespace Go.Proofs.YtkgiigmcbgifdaaGreat
open Go Go.Sh Go.Proofs
open Rep (rep)
variable {K:vL->Prop} {W w w':wD} {cap hi i lo n:Nat} {v:vL}
def zig {X:Nat->Prop} {a b:Nat} (h:ChgI a b w w') (hX:∀ c,a<=c->c<b->X c):ExtX X w w':=
 ⟨h.os,h.tape,h.output,h.size,λc hc hn=>h.block c hc (by
   rcases qay c a with h1 | h1
   . exact .inl h1
   exact .inr (by rcases qay c b with h2 | h2;exact absurd (hX c h1 h2) hn;exact h2))⟩
def zvl {X:Nat->Prop} {l:List Int} (h:Is W v l) (k:K (.int .i64 (l.length:Int))):RDX tp X (Builtin.len_ #[25] 3 [v].toArray) w K:=by
 obtain ⟨_,_,_,_,rfl,_⟩:=zcE h;exact zuM (λ_=>by simp [Builtin.len_,run_underlying u25];rfl) k
def zzN {X:Nat->Prop} {a:Option Addr} {l:List Int} (h:IsK lo hi w (.slice a n cap) l) (hn:n=l.length) (g1:i<l.length) (hX:∀ b,lo<=b->b<hi->¬X b)
   (k:I64 l[i]->K (.int .i64 l[i])):∃ p,(∀ w':wD,(Instr.indexAt 25 (.slice a n cap) (.int .i64 (i:Int))).run tp w'=.ok p w')/\RDX tp X (Instr.loadAt 3 p) w K:=by
 subst hn;obtain ⟨F,cs,⟨a',g0,Fi,xs,rfl,h1,h2,hc,h4⟩,hv⟩:=h.is;simp only [mkv,Rep.agg,cond_false,qbd,Value.slice.injEq] at hv;obtain ⟨rfl,_,rfl⟩:=hv;rcases h4 with ⟨rfl,_⟩ | ⟨b,o,rfl,rfl,hr,hb⟩
 . simp at g1
 refine ⟨.pointer (some ⟨b,o+i*1,none⟩),λw'=>by rw [zcb u25 ty3 oo oo];simp,?_⟩
 have g2:∀ w':wD,Is w' (.slice (some ⟨b,o,none⟩) l.length cap) l->w'.cell? ⟨b,o+i*1,none⟩=some (.int .i64 l[i])/\I64 l[i]:=by
   intro w' hw;obtain ⟨F,cs,⟨a',g0,Fi,xs,rfl,h1,h2,hc,h4⟩,hv⟩:=hw;simp only [mkv,Rep.agg,cond_false,qbd,Value.slice.injEq] at hv;obtain ⟨rfl,_,rfl⟩:=hv;rcases h4 with ⟨rfl,_⟩ | ⟨_,_,g3,rfl,hr,hb⟩
   . simp at g1
   simp only [qao,Addr.mk.injEq,and_true] at g3;obtain ⟨rfl,rfl⟩:=g3;have e:l=l.take i++(l[i] :: l.drop (i+1)):=by simp
   rw [e] at hc;obtain ⟨_,_,x1,_,rfl,rfl,c1,c2⟩:=Cells.split hc;obtain ⟨_,_,_,_,rfl,rfl,⟨_,rfl,hs⟩,_⟩:=c2;have g4:x1.length=i:=by rw [Cells.len c1,qaj,qbv oo];exact qcb i
   refine ⟨?_,hs⟩;have:=hr i (.int .i64 l[i]) (by rw [List.getElem?_append_right oo,g4];simp);simpa using this
 refine ⟨.int .i64 l[i],λw' g5=>?_,k (g2 w h.is).2⟩;have h0:=(g2 w' (h.2 w' λc h5 h6=>g5.block c (qap h6 h.1) (hX c h5 h6))).1;rw [qcb] at h0;have hA:=zca ty3 w';simp [Instr.loadAt,Instr.sureAddr,loadVar,hA,h0]
def zhL (bs:List UInt8) (c:DCode):Nat->DState->Cur->DState
 | 0,s,_=>s
 | n+1,s,q=>if (zbF c s).length=0 then s else zhL bs c n (za1 c s ((zbF c s).getD (zbb bs (zbF c s).length q).toNat 0)) (zao bs (zbF c s).length q)
theorem zi3 (bs:List UInt8) {c:DCode} (hc:CodeR c):∀ (n:Nat) (s:DState) (q:Cur),zaV c s->zaV c (zhL bs c n s q)
 | 0,s,q,h=>h
 | n+1,s,q,h=>by
   unfold zhL;split
   . exact h
   have hb:=zcI bs (n:=((zbF c s).length:Int)) oo q;refine zi3 bs hc n _ _ (zgz hc h ?_);rw [List.getD_eq_getElem?_getD,List.getElem?_eq_getElem (show (zbb bs (zbF c s).length q).toNat<(zbF c s).length by omega)];exact zhK (qac _)
def zjW (bs:List UInt8):DState:=zhL bs (zc6 bs) 60 (zb2 (zc6 bs)) (zdT bs (ze6 bs)).2
def zeq {α:Type} [Rep α] {lo hi:Nat} {w:wD} {v:vL} {x:α} (ha:Rep.agg α=true) (h:OwnI lo hi w v x):∃ us:Array vL,v=.agg us/\us.toList.length=Rep.size α:=by
 obtain ⟨_,⟨⟨cs,hr,hv⟩,_⟩,_⟩:=h;exact ⟨cs.toArray,by simpa [mkv,ha] using hv,Rep.len hr⟩
set_option maxRecDepth 20000 in
theorem znH {bs:List UInt8} (h:Is W v bs) (e:Ext W w) (hl:bs.length<=1048576) :
    CALL tp 39 [v] w λr w'=>Ext w w'/\zHT w w' r (zc6 bs) (zjW bs):=by
  have hc:=(zoA bs).1;have hw:=zoB bs;refine co (g:=⟨extL,[],[(5,34359705984,[7])],[(10,[0,1,2,3],4),(9,[0,1,2,3,4,5,6,7,8,9,10],64)],[],[9,10],[]⟩) Tryz.func39 ?_;refine zaL zxm λw1 gq gJ=>?_;have:=gq.size;have:=gJ.lt;refine zaL zl5 λw2 gi gK=>?_;have:=gi.size;have:=gK.lt;refine (zrS h (e.trans (gq.t gi)) hl).mono ?_;rintro _ w3 ⟨gj,g,rfl,_,gM⟩;have:=gj.size;have:=gM.lt;refine (zwE gM).mono ?_;rintro v4 w4 ⟨gl,o4,gW⟩;have:=gl.size;have o4:OwnI w3.heap.size w4.heap.size w4 v4 (zc6 bs):=o4;obtain ⟨us,rfl,g2⟩:=zeq rfl o4;refine zaL zxm λ_ gb gN=>?_;have:=gb.size;have:=gN.lt;have o5:=o4.ext gb;refine zaz zbY rfl gN rfl o5 λw6 gc gO=>?_;have:=gc.size;have o6:=o5.chg gc oo;refine zck gO (by rw [g2];exact zbY) ?_;refine (zgf o6.is (xrf _) hw).mono ?_;rintro _ w7 ⟨g3,o7⟩;have:=g3.size;have gp:zkF (zc6 bs)=zb2 (zc6 bs):=qah hc;rw [gp] at o7;have gX:=zfO hc;have gr:zjW bs=zhL bs (zc6 bs) 60 (zb2 (zc6 bs)) (zdT bs (ze6 bs)).2:=rfl;generalize zjW bs=fin at *;generalize zb2 (zc6 bs)=s0 at *;generalize zc6 bs=c at *;generalize (zdT bs (ze6 bs)).2=q0 at *;obtain ⟨ts,rfl,V⟩:=zeq rfl o7.toI;refine zaL zl5 λ_ Y gP=>?_;have:=Y.size;have:=gP.lt;have o8:=o7.toI.ext Y;refine zaz zch rfl gP rfl o8 λw9 Z gY=>?_;have:=Z.size;have o9:=o8.chg Z oo;have gZ:=(((gW.ext gb).chg gc oo oo).ext (g3.t Y)).chg Z oo oo;have gs:=((((((gJ.ext (gi.t gj)).chgI gl oo).ext gb).chgI gc oo).ext (g3.t Y)).chgI Z oo);have gt:=(((((gK.ext gj).chgI gl oo).ext gb).chgI gc oo).ext (g3.t Y)).chgI Z oo;have gx:=(gO.ext (g3.t Y)).chgI Z oo;have h4:=(o6.ext (g3.t Y)).chg Z oo;have gy:Ext w w9:=((((((gq.t gi).trans gj).chgI gl oo).trans gb).chgI gc oo).trans (g3.t Y)).chgI Z oo;refine zap 60 (λk h5 w'=>h5=[.int .i64 (k:Int)]/\k<=60/\∃ (s:DState) (q:Cur) (ts:Array vL) (lo hi:Nat),CurAt w2 g bs q w'/\Ext w w'/\Blk w.heap.size 28 w' [.slice none 0 0,.slice none 0 0,.slice none 0 0,.slice none 0 0,.slice none 0 0]/\Blk w1.heap.size 43 w' [.slice none 0 0,.slice none 0 0,.slice none 0 0]/\Blk w4.heap.size 28 w' us.toList/\OwnI w3.heap.size w4.heap.size w' (.agg us) c/\Blk w7.heap.size 43 w' ts.toList/\OwnI lo hi w' (.agg ts) s/\ts.toList.length=3/\zaV c s/\fin=zhL bs c (60-k) s q/\w6.heap.size<=lo/\(hi<=w7.heap.size\/w7.heap.size<lo)/\hi<=w'.heap.size) 0 (z0 _) ⟨rfl,z0 _,s0,q0,ts,w6.heap.size,w7.heap.size,gZ,gy,gs,gt,gx,h4,gY,o9,V,gX,gr,lr _,.inl (lr _),oo⟩ ?_;rintro k m _ gQ _ ⟨hu,_,s,q,ts,lo,hi,hC,hx,gz,gC,gd,oc,gf,os,V,hs,I,_,_,_⟩;try replace hu:=zbv hu
  rw [hu];have:=gf.lt;have:=gd.lt;refine zaf<|br (λ_=>?_) (λ_=>?_)
  . refine zck gd (by rw [g2];exact zbY) ?_;refine zck gf (by rw [V];exact zch) ?_;refine (zmJ oc.is (xrf _) os.is (xrf _) hc hs).mono ?_;rintro _ gg ⟨g4,gR⟩;have:=g4.size;refine zae u25 gR.is<|zai<|br (λ_=>?_) (λh6=>?_)
    . have C:=g4.t (zag gg);generalize World.drew1 gg=wd at *;have gp:=C.size;refine XR.mk (λc=>c=w.heap.size)<|zdJ (gd.ext C) (by rw [g2];exact zbY) (show ¬(w4.heap.size=w.heap.size) by omega)<|zdJ (gf.ext C) (by rw [V];exact zch) (show ¬(w7.heap.size=w.heap.size) by omega)<|zaz zbY rfl (gz.ext C) rfl (oc.ext C) λwa D g5=>?_;have h8:=D.size;refine ⟨zig D λc h1 h2=>by show c=_;omega,?_⟩;refine zaz zch rfl ((gC.ext C).chgI D oo) rfl ((os.ext C).chg D oo) λwb O g9=>?_;have h9:=O.size;refine zcl (g5.chgI O oo) (by rw [g2];exact zbY)<|zcl g9 (by rw [V];exact zch) ?_;rw [show 60-k=(59-k)+1 by omega,zhL,qah oo] at I;subst I;exact ⟨((hx.t C).chgI D oo).chgI O oo,_,_,_,_,_,_,rfl,((oc.ext C).chg D oo).chg O oo,((os.ext C).chg D oo).chg O oo,oo,oo,oo,oo,oo⟩
    have C:=g4.t (zag gg);have gS:=zag gg;generalize World.drew1 gg=wd at *;have gp:=C.size;have:=gS.size;have h6:(zbF c s).length≠0:=oo;have:(zbF c s).length<=s.stacks.length:=zg2 c s _;have:=hs.2.2.1;have:=zcI bs (n:=((zbF c s).length:Int)) oo q;have gD:=gR.toI.ext gS;obtain ⟨_,_,rfl⟩:=zdP gD;refine XR.mk (λc=>c=g)<|zdJ (gd.ext C) (by rw [g2];exact zbY) (show ¬(w4.heap.size=g) by omega)<|zdJ (gf.ext C) (by rw [V];exact zch) (show ¬(w7.heap.size=g) by omega)<|zvl gD.is ?_;refine (zcM (hC.ext C) oo).mono ?_;rintro _ _ ⟨U,ha,rfl⟩;have:=U.size;refine ⟨zig U λc h1 h2=>by show c=_;omega,?_⟩;have gE:(zbb bs (zbF c s).length q).toNat<(zbF c s).length:=oo
    have gh:fin=zhL bs c (60-(k+1)) (za1 c s (zbF c s)[(zbb bs (zbF c s).length q).toNat]) (zao bs (zbF c s).length q):=by
      rw [I,show 60-k=(60-(k+1))+1 by omega,zhL,qab oo,List.getD_eq_getElem?_getD,List.getElem?_eq_getElem gE];rfl
    have gU:GoR c s (zbF c s)[(zbb bs (zbF c s).length q).toNat]:=zhK (qac gE);have hb:zbb bs (zbF c s).length q=((zbb bs (zbF c s).length q).toNat:Int):=oo;rw [hb];have hd:=gD.chg U oo;obtain ⟨_,hp,he⟩:=zzN (X:=λc=>c=g) (K:=λv=>v=.int .i64 (zbF c s)[(zbb bs (zbF c s).length q).toNat]) (hd.isK oo) rfl gE (λb h1 h2=>show ¬(b=g) by omega) (λ_=>rfl);refine zlv hp ?_;obtain ⟨_,gF,rfl⟩:=he;refine RDX.mk _ gF ?_;have gV:=(oc.ext C).chg U oo;have hf:=(os.ext C).chg U oo;have gG:=zgz hc hs gU;refine (zkM gV.is (xrf _) hf.is (xrf _) hc hs gU).mono ?_;generalize za1 c s (zbF c s)[(zbb bs (zbF c s).length q).toNat]=s' at *;rintro _ _ ⟨g0,gH⟩;have:=g0.size;obtain ⟨hg,rfl,gI⟩:=zeq rfl gH.toI;have hh:=((gf.ext C).chgI U oo).ext g0;refine zaz zch rfl hh V gH.toI λ_ g1 hj=>?_;have:=g1.size;refine zau<|⟨m-1,oo,k+1,oo,rfl,oo,s',_,hg,_,_,((ha.ext g0).chg g1 oo oo),(((hx.t C).chgI U oo).trans g0).chgI g1 oo,(((gz.ext C).chgI U oo).ext g0).chgI g1 oo,(((gC.ext C).chgI U oo).ext g0).chgI g1 oo,(((gd.ext C).chgI U oo).ext g0).chgI g1 oo,(gV.ext g0).chg g1 oo,hj,gH.toI.chg g1 oo,gI,gG,gh,oo,oo,oo⟩
  have C:=zag gQ;generalize World.drew1 gQ=wd at *;have gp:=C.size;refine XR.mk (λc=>c=w.heap.size)<|zdJ (gd.ext C) (by rw [g2];exact zbY) (show ¬(w4.heap.size=w.heap.size) by omega)<|zdJ (gf.ext C) (by rw [V];exact zch) (show ¬(w7.heap.size=w.heap.size) by omega)<|zaz zbY rfl (gz.ext C) rfl (oc.ext C) λwa D g5=>?_;have h8:=D.size;refine ⟨zig D λc h1 h2=>by show c=_;omega,?_⟩;refine zaz zch rfl ((gC.ext C).chgI D oo) rfl ((os.ext C).chg D oo) λwb O g9=>?_;have h9:=O.size;refine zcl (g5.chgI O oo) (by rw [g2];exact zbY)<|zcl g9 (by rw [V];exact zch) ?_;rw [show 60-k=0 by omega,zhL] at I;subst I;exact ⟨((hx.t C).chgI D oo).chgI O oo,_,_,_,_,_,_,rfl,((oc.ext C).chg D oo).chg O oo,((os.ext C).chg D oo).chg O oo,oo,oo,oo,oo,oo⟩
def txts:List ByteArray:=[zFK,zFL,zGz]
def zi4 (s:ByteArray):DProg:=if s=zFK then zGH else if s=zFL then zGI else zGJ
def zzO {s:ByteArray} (h:s∈txts):ProgR (zi4 s)/\∀ w0:wD,CALL tp 40 [.string s] w0 λr w'=>Ext w0 w'/\∃ a,r=.tuple #[a,.agg #[.int .i64 0,.int .i64 0]]/\OwnI w0.heap.size w'.heap.size w' a (zi4 s):=by
 have g0:zFL≠zFK:=by decide +kernel
 have g1:zGz≠zFK:=by decide +kernel
 have g2:zGz≠zFL:=by decide +kernel
 simp only [txts,qaa,qad,qaq] at h;rcases h with rfl | rfl | rfl
 . rw [zi4,qah rfl];exact ⟨zE3,λw0=>ziW zEO⟩
 . rw [zi4,qab g0,qah rfl];exact ⟨zE4,λw0=>ziW zEP⟩
 rw [zi4,qab g1,qab g2];exact ⟨zE5,λw0=>ziW zEQ⟩
def zmX (bs:List UInt8):DProg:=zi4 (zdi bs txts (zao bs 3 (ze6 bs)))
def znI (bs:List UInt8):DCode:=if zbb bs 3 (ze6 bs)=0 then zc6 bs else zcf (zmX bs)
def zwF (bs:List UInt8):DState:=if zbb bs 3 (ze6 bs)=0 then zjW bs else zhL bs (zcf (zmX bs)) 30 (zb2 (zcf (zmX bs))) (zao bs 3 (zao bs 3 (ze6 bs)))
def zoC (bs:List UInt8):CodeR (znI bs)/\zaV (znI bs) (zwF bs)/\zjq (znI bs)<=1048576/\(znI bs).ins.length<=436:=by
 unfold znI zwF;split
 . have h:=zoA bs;exact ⟨h.1,zi3 bs h.1 _ _ _ (zfO h.1),zoB bs,h.2⟩
 have hp:=(zzO (zdO bs (l:=txts) qd (zao bs 3 (ze6 bs)))).1;have h:=zh5 hp;exact ⟨h.1,zi3 bs h.1 _ _ _ (zfO h.1),zDN hp,h.2⟩
set_option maxRecDepth 20000 in
theorem ztF {bs:List UInt8} (h:Is W v bs) (e:Ext W w) (hl:bs.length<=1048576) :
    CALL tp 15 [v] w λr w'=>Ext w w'/\zHT w w' r (znI bs) (zwF bs):=by
  refine co (g:=⟨extL,[],[(8,18014381329615872,[10])],[(13,[0,1,2,3],4),(12,[0,1,2,3,4,5,6,7,8,9,10],64)],[],[12,13],[]⟩) Tryz.func15 ?_;refine zaL zxm λw1 gH g9=>?_;have:=gH.size;have:=g9.lt;refine zaL zl5 λw2 gj gb=>?_;have:=gj.size;have:=gb.lt;refine (zrS h (e.trans (gH.t gj)) hl).mono ?_;rintro _ _ ⟨O,g,rfl,_,gX⟩;have:=O.size;have:=gX.lt;refine (zgx gX oo).mono ?_;rintro _ wo ⟨gc,hk,rfl⟩;have:=gc.size;refine br (λh0=>?_) (λh0=>?_)
  . have gY:=((gH.t gj).trans O).chgI gc oo;refine (znH h (e.trans gY) hl).mono ?_;rintro _ _ ⟨gI,_,b,lo,hi,_,_,rfl,oa,ob,_,_,_,_,_⟩;have:=gI.size;refine zaN rfl<|zaN rfl ?_;obtain ⟨us,rfl,g1⟩:=zeq rfl oa;obtain ⟨ts,rfl,U⟩:=zeq rfl ob;have gx:=((g9.ext (gj.t O)).chgI gc oo).ext gI;have gy:=((gb.ext O).chgI gc oo).ext gI;refine zaz zbY rfl gx rfl oa λwa D V=>?_;have gZ:=D.size;refine zaz zch rfl (gy.chgI D oo) rfl (ob.chg D oo) λwb I Y=>?_;have h4:=I.size;refine zcl (V.chgI I oo) (by rw [g1];exact zbY)<|zcl Y (by rw [U];exact zch) ?_;have e1:znI bs=zc6 bs:=qah h0;have e2:zwF bs=zjW bs:=qah h0;rw [e1,e2];exact ⟨((gY.t gI).chgI D oo).chgI I oo,_,_,_,_,_,_,rfl,(oa.chg D oo).chg I oo,(ob.chg D oo).chg I oo,oo,oo,oo,oo,oo⟩
  have e1:znI bs=zcf (zmX bs):=qab h0;have e2:zwF bs=zhL bs (zcf (zmX bs)) 30 (zb2 (zcf (zmX bs))) (zao bs 3 (zao bs 3 (ze6 bs))):=qab h0;obtain ⟨hc,-,hw,-⟩:=zoC bs;rw [e1] at hc hw;rw [e1];have g9:=(g9.ext (gj.t O)).chgI gc oo;have gb:=(gb.ext O).chgI gc oo;have O:=((gH.t gj).trans O).chgI gc (show w.heap.size<=g by omega);have gJ:=zzO (zdO bs (l:=txts) qd (zao bs 3 (ze6 bs)));have h5:zmX bs=zi4 (zdi bs txts (zao bs 3 (ze6 bs))):=rfl;refine zfK (vs:=txts.map Value.string) (l:=txts) u24 ty9 zcA qd kK rfl (λw=>zcH (by decide +kernel)) λ_ _ gl gz=>?_;have:=gl.size;refine (zdH (hk.ext gl) gz oo oo oo qd qd).mono ?_;rintro _ wk ⟨gC,hn,rfl,-⟩;have:=gC.size;rw [<-h5] at gJ;refine (gJ.2 wk).mono ?_;rintro _ _ ⟨gD,_,rfl,op⟩;have:=gD.size;refine zaN rfl<|zaN rfl ?_;obtain ⟨_,rfl,hq⟩:=zeq rfl op;refine zaL zGk λ_ gp h6=>?_;have:=gp.size;have:=h6.lt;refine zaL zG3 λ_ gd h8=>?_;have:=gd.size;have:=h8.lt;have op:=op.ext (gp.t gd);refine zaz zlY rfl (h6.ext gd) rfl op λ_ gf hr=>?_;have:=gf.size;have op:=op.chg gf oo;refine zaz (α:=DArc) (lo:=0) (hi:=0) zEq rfl (h8.chgI gf oo) rfl zuQ λwv gg _=>?_;have:=gg.size;have op:=op.chg gg oo;refine zck (hr.chgI gg oo) (by rw [hq];exact zlY) ?_;refine (zjV op.is (xrf _) gJ.1).mono ?_;rintro _ w4 ⟨gE,_,rfl,o4⟩;have:=gE.size;refine zaN rfl<|zaN rfl ?_;have:ChgI g (g+1) wo wk:=gl.toI.trans gC;have O:=((((((O.t gl).chgI gC oo).trans gD).trans (gp.t gd)).chgI gf oo).chgI gg oo).trans gE;have g9:=(((((((g9.ext gl).chgI gC oo).ext gD).ext (gp.t gd)).chgI gf oo).chgI gg oo).ext gE);have gb:=(((((((gb.ext gl).chgI gC oo).ext gD).ext (gp.t gd)).chgI gf oo).chgI gg oo).ext gE);have h9:=((((hn.ext (gD.t (gp.t gd))).chg gf oo oo).chg gg oo oo).ext gE);obtain ⟨us,rfl,g1⟩:=zeq rfl o4;refine zaL zxm λ_ gq ha=>?_;have:=gq.size;have:=ha.lt;have o5:=o4.ext gq;refine zaz zbY rfl ha rfl o5 λw6 gr hb=>?_;have:=gr.size;have o6:=o5.chg gr oo;refine zck hb (by rw [g1];exact zbY) ?_;refine (zgf o6.is (xrf _) hw).mono ?_;rintro _ w7 ⟨gh,o7⟩;have:=gh.size;have gK:zkF (zcf (zmX bs))=zb2 (zcf (zmX bs)):=qah hc;rw [gK] at o7;have ht:=zfO hc;have gM:=e2;clear e1 e2 gJ h5;change CurAt w2 g bs (zao bs 3 (zao bs 3 (ze6 bs))) w4 at h9;generalize zwF bs=fin at *;generalize zb2 (zcf (zmX bs))=s0 at *;generalize zcf (zmX bs)=c at *;generalize (zao bs 3 (zao bs 3 (ze6 bs)))=q0 at *;obtain ⟨ts,rfl,U⟩:=zeq rfl o7.toI;refine zaL zl5 λ_ g2 hd=>?_;have:=g2.size;have:=hd.lt;have o8:=o7.toI.ext g2;refine zaz zch rfl hd rfl o8 λw9 g3 hv=>?_;have:=g3.size;have o9:=o8.chg g3 oo;have hy:=(((h9.ext gq).chg gr oo oo).ext (gh.t g2)).chg g3 oo oo;have gN:=((((g9.ext gq).chgI gr oo).ext (gh.t g2)).chgI g3 oo);have gO:=(((gb.ext gq).chgI gr oo).ext (gh.t g2)).chgI g3 oo;have gP:=(hb.ext (gh.t g2)).chgI g3 oo;have hz:=(o6.ext (gh.t g2)).chg g3 oo;have gQ:Ext w w9:=(((O.t gq).chgI gr oo).trans (gh.t g2)).chgI g3 oo;refine zap 30 (λk hB w'=>hB=[.int .i64 (k:Int)]/\k<=30/\∃ (s:DState) (q:Cur) (ts:Array vL) (lo hi:Nat),CurAt w2 g bs q w'/\Ext w w'/\Blk w.heap.size 28 w' [.slice none 0 0,.slice none 0 0,.slice none 0 0,.slice none 0 0,.slice none 0 0]/\Blk w1.heap.size 43 w' [.slice none 0 0,.slice none 0 0,.slice none 0 0]/\Blk w4.heap.size 28 w' us.toList/\OwnI wv.heap.size w4.heap.size w' (.agg us) c/\Blk w7.heap.size 43 w' ts.toList/\OwnI lo hi w' (.agg ts) s/\ts.toList.length=3/\zaV c s/\fin=zhL bs c (30-k) s q/\w6.heap.size<=lo/\(hi<=w7.heap.size\/w7.heap.size<lo)/\hi<=w'.heap.size) 0 (z0 _) ⟨rfl,z0 _,s0,q0,ts,w6.heap.size,w7.heap.size,hy,gQ,gN,gO,gP,hz,hv,o9,U,ht,gM,lr _,.inl (lr _),oo⟩ ?_;rintro k m _ he _ ⟨hu,_,s,q,ts,lo,hi,hC,hx,gx,gy,gs,oc,gt,os,U,hs,Z,_,_,_⟩;try replace hu:=zbv hu
  rw [hu];have:=gt.lt;have:=gs.lt;refine zaf<|br (λ_=>?_) (λ_=>?_)
  . refine zck gs (by rw [g1];exact zbY) ?_;refine zck gt (by rw [U];exact zch) ?_;refine (zmJ oc.is (xrf _) os.is (xrf _) hc hs).mono ?_;rintro _ gF ⟨gi,hf⟩;have:=gi.size;refine zae u25 hf.is<|zai<|br (λ_=>?_) (λhD=>?_)
    . have C:=gi.t (zag gF);generalize World.drew1 gF=wd at *;have gK:=C.size;refine XR.mk (λc=>c=w.heap.size)<|zdJ (gs.ext C) (by rw [g1];exact zbY) (show ¬(w4.heap.size=w.heap.size) by omega)<|zdJ (gt.ext C) (by rw [U];exact zch) (show ¬(w7.heap.size=w.heap.size) by omega)<|zaz zbY rfl (gx.ext C) rfl (oc.ext C) λwa D V=>?_;have gZ:=D.size;refine ⟨zig D λc h1 h2=>by show c=_;omega,?_⟩;refine zaz zch rfl ((gy.ext C).chgI D oo) rfl ((os.ext C).chg D oo) λwb I Y=>?_;have h4:=I.size;refine zcl (V.chgI I oo) (by rw [g1];exact zbY)<|zcl Y (by rw [U];exact zch) ?_;rw [show 30-k=(29-k)+1 by omega,zhL,qah oo] at Z;subst Z;exact ⟨((hx.t C).chgI D oo).chgI I oo,_,_,_,_,_,_,rfl,((oc.ext C).chg D oo).chg I oo,((os.ext C).chg D oo).chg I oo,oo,oo,oo,oo,oo⟩
    have C:=gi.t (zag gF);have hg:=zag gF;generalize World.drew1 gF=wd at *;have gK:=C.size;have:=hg.size;have hD:(zbF c s).length≠0:=oo;have:(zbF c s).length<=s.stacks.length:=zg2 c s _;have:=hs.2.2.1;have:=zcI bs (n:=((zbF c s).length:Int)) oo q;have gz:=hf.toI.ext hg;obtain ⟨_,_,rfl⟩:=zdP gz;refine XR.mk (λc=>c=g)<|zdJ (gs.ext C) (by rw [g1];exact zbY) (show ¬(w4.heap.size=g) by omega)<|zdJ (gt.ext C) (by rw [U];exact zch) (show ¬(w7.heap.size=g) by omega)<|zvl gz.is ?_;refine (zcM (hC.ext C) oo).mono ?_;rintro _ _ ⟨g0,hF,rfl⟩;have:=g0.size;refine ⟨zig g0 λc h1 h2=>by show c=_;omega,?_⟩;have gR:(zbb bs (zbF c s).length q).toNat<(zbF c s).length:=oo
    have gG:fin=zhL bs c (30-(k+1)) (za1 c s (zbF c s)[(zbb bs (zbF c s).length q).toNat]) (zao bs (zbF c s).length q):=by
      rw [Z,show 30-k=(30-(k+1))+1 by omega,zhL,qab oo,List.getD_eq_getElem?_getD,List.getElem?_eq_getElem gR];rfl
    have hh:GoR c s (zbF c s)[(zbb bs (zbF c s).length q).toNat]:=zhK (qac gR);have hG:zbb bs (zbF c s).length q=((zbb bs (zbF c s).length q).toNat:Int):=oo;rw [hG];have hH:=gz.chg g0 oo;obtain ⟨_,hp,hI⟩:=zzN (X:=λc=>c=g) (K:=λv=>v=.int .i64 (zbF c s)[(zbb bs (zbF c s).length q).toNat]) (hH.isK oo) rfl gR (λb h1 h2=>show ¬(b=g) by omega) (λ_=>rfl);refine zlv hp ?_;obtain ⟨_,gS,rfl⟩:=hI;refine RDX.mk _ gS ?_;have hj:=(oc.ext C).chg g0 oo;have hJ:=(os.ext C).chg g0 oo;have gU:=zgz hc hs hh;refine (zkM hj.is (xrf _) hJ.is (xrf _) hc hs hh).mono ?_;generalize za1 c s (zbF c s)[(zbb bs (zbF c s).length q).toNat]=s' at *;rintro _ _ ⟨g4,gV⟩;have:=g4.size;obtain ⟨hK,rfl,gW⟩:=zeq rfl gV.toI;have hL:=((gt.ext C).chgI g0 oo).ext g4;refine zaz zch rfl hL U gV.toI λ_ g5 hM=>?_;have:=g5.size;refine zau<|⟨m-1,oo,k+1,oo,rfl,oo,s',_,hK,_,_,((hF.ext g4).chg g5 oo oo),(((hx.t C).chgI g0 oo).trans g4).chgI g5 oo,(((gx.ext C).chgI g0 oo).ext g4).chgI g5 oo,(((gy.ext C).chgI g0 oo).ext g4).chgI g5 oo,(((gs.ext C).chgI g0 oo).ext g4).chgI g5 oo,(hj.ext g4).chg g5 oo,hM,gV.toI.chg g5 oo,gW,gU,gG,oo,oo,oo⟩
  have C:=zag he;generalize World.drew1 he=wd at *;have gK:=C.size;refine XR.mk (λc=>c=w.heap.size)<|zdJ (gs.ext C) (by rw [g1];exact zbY) (show ¬(w4.heap.size=w.heap.size) by omega)<|zdJ (gt.ext C) (by rw [U];exact zch) (show ¬(w7.heap.size=w.heap.size) by omega)<|zaz zbY rfl (gx.ext C) rfl (oc.ext C) λwa D V=>?_;have gZ:=D.size;refine ⟨zig D λc h1 h2=>by show c=_;omega,?_⟩;refine zaz zch rfl ((gy.ext C).chgI D oo) rfl ((os.ext C).chg D oo) λwb I Y=>?_;have h4:=I.size;refine zcl (V.chgI I oo) (by rw [g1];exact zbY)<|zcl Y (by rw [U];exact zch) ?_;rw [show 30-k=0 by omega,zhL] at Z;subst Z;exact ⟨((hx.t C).chgI D oo).chgI I oo,_,_,_,_,_,_,rfl,((oc.ext C).chg D oo).chg I oo,((os.ext C).chg D oo).chg I oo,oo,oo,oo,oo,oo⟩
open Go.Shelf
def Tryz.sortRace_ren:Go.Shelf.Ren:=⟨fun | 6=>59 | 15=>118 | 14=>117 | 28=>184 | 29=>185 | 20=>176 | 21=>177 | 22=>178 | 23=>179 | 24=>180 | 25=>181 | 26=>182 | 27=>183 | 46=>233 | 47=>234 | 48=>235 | 49=>236 | 50=>237 | 57=>268 | n=>n,fun | 22=>30 | 24=>41 | 25=>98 | 3=>3 | 39=>94 | 0=>0 | 53=>216 | 55=>178 | 4=>4 | 46=>209 | 45=>208 | 50=>213 | 5=>5 | 9=>9 | 66=>254 | 70=>258 | 76=>279 | 77=>280 | n=>n,fun | n=>n⟩
def Tryz.sortRace:SlLaysF0.n6 tp Tryz.sortRace_ren:={
 mixed:=by kernel_rfl,
 f6:=⟨Tryz.f59.name,kK,Tryz.func59.trans (qax some kK)⟩,
 f14:=⟨Tryz.f117.name,kK,Tryz.func117.trans (qax some kK)⟩,
 f15:=Tryz.func118.trans (qax some kK),
 f20:=⟨Tryz.f176.name,kK,Tryz.func176.trans (qax some kK)⟩,
 f21:=⟨Tryz.f177.name,kK,Tryz.func177.trans (qax some kK)⟩,
 f22:=⟨Tryz.f178.name,kK,Tryz.func178.trans (qax some kK)⟩,
 f23:=⟨Tryz.f179.name,kK,Tryz.func179.trans (qax some kK)⟩,
 f24:=⟨Tryz.f180.name,kK,Tryz.func180.trans (qax some kK)⟩,
 f25:=⟨Tryz.f181.name,kK,Tryz.func181.trans (qax some kK)⟩,
 f26:=⟨Tryz.f182.name,kK,Tryz.func182.trans (qax some kK)⟩,
 f27:=⟨Tryz.f183.name,kK,Tryz.func183.trans (qax some kK)⟩,
 f28:=Tryz.func184.trans (qax some kK),
 f29:=Tryz.func185.trans (qax some kK),
 f46:=⟨Tryz.f233.name,kK,Tryz.func233.trans (qax some kK)⟩,
 f47:=Tryz.func234.trans (qax some kK),
 f48:=Tryz.func235.trans (qax some kK),
 f49:=⟨Tryz.f236.name,kK,Tryz.func236.trans (qax some kK)⟩,
 f50:=⟨Tryz.f237.name,kK,Tryz.func237.trans (qax some kK)⟩,
 f57:=⟨Tryz.f268.name,kK,Tryz.func268.trans (qax some kK)⟩,
 t0:=Tryz.underlying0,
 a0:=Tryz.isAgg0,
 z0:=Tryz.sizeOf0,
 v0:=Tryz.zeroValue0,
 t3:=Tryz.underlying3,
 a3:=Tryz.isAgg3,
 z3:=Tryz.sizeOf3,
 v3:=Tryz.zeroValue3,
 t4:=Tryz.underlying4,
 a4:=Tryz.isAgg4,
 z4:=Tryz.sizeOf4,
 v4:=Tryz.zeroValue4,
 t5:=Tryz.underlying5,
 a5:=Tryz.isAgg5,
 z5:=Tryz.sizeOf5,
 v5:=Tryz.zeroValue5,
 t9:=Tryz.underlying9,
 a9:=Tryz.isAgg9,
 z9:=Tryz.sizeOf9,
 v9:=Tryz.zeroValue9,
 t22:=Tryz.underlying30,
 a22:=Tryz.isAgg30,
 z22:=Tryz.sizeOf30,
 v22:=Tryz.zeroValue30,
 t25:=Tryz.underlying98,
 a25:=Tryz.isAgg98,
 z25:=Tryz.sizeOf98,
 v25:=Tryz.zeroValue98,
 t39:=Tryz.underlying94,
 a39:=Tryz.isAgg94,
 z39:=Tryz.sizeOf94,
 v39:=Tryz.zeroValue94,
 t45:=Tryz.underlying208,
 a45:=Tryz.isAgg208,
 z45:=Tryz.sizeOf208,
 v45:=Tryz.zeroValue208,
 t46:=Tryz.underlying209,
 a46:=Tryz.isAgg209,
 z46:=Tryz.sizeOf209,
 v46:=Tryz.zeroValue209,
 t50:=Tryz.underlying213,
 a50:=Tryz.isAgg213,
 z50:=Tryz.sizeOf213,
 v50:=Tryz.zeroValue213,
 t53:=Tryz.underlying216,
 a53:=Tryz.isAgg216,
 z53:=Tryz.sizeOf216,
 v53:=Tryz.zeroValue216,
 t55:=Tryz.underlying178,
 a55:=Tryz.isAgg178,
 z55:=Tryz.sizeOf178,
 v55:=Tryz.zeroValue178,
 t66:=Tryz.underlying254,
 a66:=Tryz.isAgg254,
 z66:=Tryz.sizeOf254,
 v66:=Tryz.zeroValue254,
 t70:=Tryz.underlying258,
 a70:=Tryz.isAgg258,
 z70:=Tryz.sizeOf258,
 v70:=Tryz.zeroValue258,
 t76:=Tryz.underlying279,
 a76:=Tryz.isAgg279,
 z76:=Tryz.sizeOf279,
 v76:=Tryz.zeroValue279,
 t77:=Tryz.underlying280,
 a77:=Tryz.isAgg280,
 z77:=Tryz.sizeOf280,
 v77:=Tryz.zeroValue280 }
def Tryz.sortOrder_ren:Go.Shelf.Ren:=⟨fun | 6=>134 | 15=>118 | 14=>192 | 28=>184 | 29=>185 | 20=>239 | 21=>240 | 22=>241 | 23=>242 | 24=>243 | 25=>244 | 26=>245 | 27=>246 | 46=>269 | 47=>234 | 48=>235 | 49=>270 | 50=>271 | 57=>279 | n=>n,fun | 22=>111 | 24=>168 | 25=>175 | 3=>3 | 39=>94 | 0=>0 | 53=>216 | 55=>178 | 4=>4 | 46=>209 | 45=>208 | 50=>213 | 5=>5 | 9=>9 | 66=>254 | 70=>258 | 76=>279 | 77=>280 | n=>n,fun | n=>n⟩
def Tryz.sortOrder:SlLaysF0.n6 tp Tryz.sortOrder_ren:={
 mixed:=by kernel_rfl,
 f6:=⟨Tryz.f134.name,kK,Tryz.func134.trans (qax some kK)⟩,
 f14:=⟨Tryz.f192.name,kK,Tryz.func192.trans (qax some kK)⟩,
 f15:=Tryz.func118.trans (qax some kK),
 f20:=⟨Tryz.f239.name,kK,Tryz.func239.trans (qax some kK)⟩,
 f21:=⟨Tryz.f240.name,kK,Tryz.func240.trans (qax some kK)⟩,
 f22:=⟨Tryz.f241.name,kK,Tryz.func241.trans (qax some kK)⟩,
 f23:=⟨Tryz.f242.name,kK,Tryz.func242.trans (qax some kK)⟩,
 f24:=⟨Tryz.f243.name,kK,Tryz.func243.trans (qax some kK)⟩,
 f25:=⟨Tryz.f244.name,kK,Tryz.func244.trans (qax some kK)⟩,
 f26:=⟨Tryz.f245.name,kK,Tryz.func245.trans (qax some kK)⟩,
 f27:=⟨Tryz.f246.name,kK,Tryz.func246.trans (qax some kK)⟩,
 f28:=Tryz.func184.trans (qax some kK),
 f29:=Tryz.func185.trans (qax some kK),
 f46:=⟨Tryz.f269.name,kK,Tryz.func269.trans (qax some kK)⟩,
 f47:=Tryz.func234.trans (qax some kK),
 f48:=Tryz.func235.trans (qax some kK),
 f49:=⟨Tryz.f270.name,kK,Tryz.func270.trans (qax some kK)⟩,
 f50:=⟨Tryz.f271.name,kK,Tryz.func271.trans (qax some kK)⟩,
 f57:=⟨Tryz.f279.name,kK,Tryz.func279.trans (qax some kK)⟩,
 t0:=Tryz.underlying0,
 a0:=Tryz.isAgg0,
 z0:=Tryz.sizeOf0,
 v0:=Tryz.zeroValue0,
 t3:=Tryz.underlying3,
 a3:=Tryz.isAgg3,
 z3:=Tryz.sizeOf3,
 v3:=Tryz.zeroValue3,
 t4:=Tryz.underlying4,
 a4:=Tryz.isAgg4,
 z4:=Tryz.sizeOf4,
 v4:=Tryz.zeroValue4,
 t5:=Tryz.underlying5,
 a5:=Tryz.isAgg5,
 z5:=Tryz.sizeOf5,
 v5:=Tryz.zeroValue5,
 t9:=Tryz.underlying9,
 a9:=Tryz.isAgg9,
 z9:=Tryz.sizeOf9,
 v9:=Tryz.zeroValue9,
 t22:=Tryz.underlying111,
 a22:=Tryz.isAgg111,
 z22:=Tryz.sizeOf111,
 v22:=Tryz.zeroValue111,
 t25:=Tryz.underlying175,
 a25:=Tryz.isAgg175,
 z25:=Tryz.sizeOf175,
 v25:=Tryz.zeroValue175,
 t39:=Tryz.underlying94,
 a39:=Tryz.isAgg94,
 z39:=Tryz.sizeOf94,
 v39:=Tryz.zeroValue94,
 t45:=Tryz.underlying208,
 a45:=Tryz.isAgg208,
 z45:=Tryz.sizeOf208,
 v45:=Tryz.zeroValue208,
 t46:=Tryz.underlying209,
 a46:=Tryz.isAgg209,
 z46:=Tryz.sizeOf209,
 v46:=Tryz.zeroValue209,
 t50:=Tryz.underlying213,
 a50:=Tryz.isAgg213,
 z50:=Tryz.sizeOf213,
 v50:=Tryz.zeroValue213,
 t53:=Tryz.underlying216,
 a53:=Tryz.isAgg216,
 z53:=Tryz.sizeOf216,
 v53:=Tryz.zeroValue216,
 t55:=Tryz.underlying178,
 a55:=Tryz.isAgg178,
 z55:=Tryz.sizeOf178,
 v55:=Tryz.zeroValue178,
 t66:=Tryz.underlying254,
 a66:=Tryz.isAgg254,
 z66:=Tryz.sizeOf254,
 v66:=Tryz.zeroValue254,
 t70:=Tryz.underlying258,
 a70:=Tryz.isAgg258,
 z70:=Tryz.sizeOf258,
 v70:=Tryz.zeroValue258,
 t76:=Tryz.underlying279,
 a76:=Tryz.isAgg279,
 z76:=Tryz.sizeOf279,
 v76:=Tryz.zeroValue279,
 t77:=Tryz.underlying280,
 a77:=Tryz.isAgg280,
 z77:=Tryz.sizeOf280,
 v77:=Tryz.zeroValue280 }
def Tryz.sortInts_ren:Go.Shelf.Ren:=⟨fun | 6=>77 | 15=>118 | 14=>138 | 28=>184 | 29=>185 | 20=>193 | 21=>194 | 22=>195 | 23=>196 | 24=>197 | 25=>198 | 26=>199 | 27=>200 | 46=>247 | 47=>234 | 48=>235 | 49=>248 | 50=>249 | 57=>272 | n=>n,fun | 22=>31 | 24=>25 | 25=>116 | 3=>3 | 39=>94 | 0=>0 | 53=>216 | 55=>178 | 4=>4 | 46=>209 | 45=>208 | 50=>213 | 5=>5 | 9=>9 | 66=>254 | 70=>258 | 76=>279 | 77=>280 | n=>n,fun | n=>n⟩
def Tryz.sortInts:SlLaysF.n6 tp Tryz.sortInts_ren:={
 mixed:=by kernel_rfl,
 f6:=⟨Tryz.f77.name,kK,Tryz.func77.trans (qax some kK)⟩,
 f14:=⟨Tryz.f138.name,kK,Tryz.func138.trans (qax some kK)⟩,
 f15:=Tryz.func118.trans (qax some kK),
 f20:=⟨Tryz.f193.name,kK,Tryz.func193.trans (qax some kK)⟩,
 f21:=⟨Tryz.f194.name,kK,Tryz.func194.trans (qax some kK)⟩,
 f22:=⟨Tryz.f195.name,kK,Tryz.func195.trans (qax some kK)⟩,
 f23:=⟨Tryz.f196.name,kK,Tryz.func196.trans (qax some kK)⟩,
 f24:=⟨Tryz.f197.name,kK,Tryz.func197.trans (qax some kK)⟩,
 f25:=⟨Tryz.f198.name,kK,Tryz.func198.trans (qax some kK)⟩,
 f26:=⟨Tryz.f199.name,kK,Tryz.func199.trans (qax some kK)⟩,
 f27:=⟨Tryz.f200.name,kK,Tryz.func200.trans (qax some kK)⟩,
 f28:=Tryz.func184.trans (qax some kK),
 f29:=Tryz.func185.trans (qax some kK),
 f46:=⟨Tryz.f247.name,kK,Tryz.func247.trans (qax some kK)⟩,
 f47:=Tryz.func234.trans (qax some kK),
 f48:=Tryz.func235.trans (qax some kK),
 f49:=⟨Tryz.f248.name,kK,Tryz.func248.trans (qax some kK)⟩,
 f50:=⟨Tryz.f249.name,kK,Tryz.func249.trans (qax some kK)⟩,
 f57:=⟨Tryz.f272.name,kK,Tryz.func272.trans (qax some kK)⟩,
 t0:=Tryz.underlying0,
 a0:=Tryz.isAgg0,
 z0:=Tryz.sizeOf0,
 v0:=Tryz.zeroValue0,
 t3:=Tryz.underlying3,
 a3:=Tryz.isAgg3,
 z3:=Tryz.sizeOf3,
 v3:=Tryz.zeroValue3,
 t4:=Tryz.underlying4,
 a4:=Tryz.isAgg4,
 z4:=Tryz.sizeOf4,
 v4:=Tryz.zeroValue4,
 t5:=Tryz.underlying5,
 a5:=Tryz.isAgg5,
 z5:=Tryz.sizeOf5,
 v5:=Tryz.zeroValue5,
 t9:=Tryz.underlying9,
 a9:=Tryz.isAgg9,
 z9:=Tryz.sizeOf9,
 v9:=Tryz.zeroValue9,
 t22:=Tryz.underlying31,
 a22:=Tryz.isAgg31,
 z22:=Tryz.sizeOf31,
 v22:=Tryz.zeroValue31,
 a24:=Tryz.isAgg25,
 z24:=Tryz.sizeOf25,
 t25:=Tryz.underlying116,
 a25:=Tryz.isAgg116,
 z25:=Tryz.sizeOf116,
 v25:=Tryz.zeroValue116,
 t39:=Tryz.underlying94,
 a39:=Tryz.isAgg94,
 z39:=Tryz.sizeOf94,
 v39:=Tryz.zeroValue94,
 t45:=Tryz.underlying208,
 a45:=Tryz.isAgg208,
 z45:=Tryz.sizeOf208,
 v45:=Tryz.zeroValue208,
 t46:=Tryz.underlying209,
 a46:=Tryz.isAgg209,
 z46:=Tryz.sizeOf209,
 v46:=Tryz.zeroValue209,
 t50:=Tryz.underlying213,
 a50:=Tryz.isAgg213,
 z50:=Tryz.sizeOf213,
 v50:=Tryz.zeroValue213,
 t53:=Tryz.underlying216,
 a53:=Tryz.isAgg216,
 z53:=Tryz.sizeOf216,
 v53:=Tryz.zeroValue216,
 t55:=Tryz.underlying178,
 a55:=Tryz.isAgg178,
 z55:=Tryz.sizeOf178,
 v55:=Tryz.zeroValue178,
 t66:=Tryz.underlying254,
 a66:=Tryz.isAgg254,
 z66:=Tryz.sizeOf254,
 v66:=Tryz.zeroValue254,
 t70:=Tryz.underlying258,
 a70:=Tryz.isAgg258,
 z70:=Tryz.sizeOf258,
 v70:=Tryz.zeroValue258,
 t76:=Tryz.underlying279,
 a76:=Tryz.isAgg279,
 z76:=Tryz.sizeOf279,
 v76:=Tryz.zeroValue279,
 t77:=Tryz.underlying280,
 a77:=Tryz.isAgg280,
 z77:=Tryz.sizeOf280,
 v77:=Tryz.zeroValue280 }
variable {W0 W1 w:wD} {a:Int} {c:DCode} {hi lo:Nat} {v0 v1:vL} {y:DRace}
def zjX {x:DTouch} (h1:I64 x.at_) (h2:I64 x.global) (h3:I64 x.held):OwnI lo hi w (.agg #[.int .i64 x.at_,.int .i64 x.global,.bool x.write,.int .i64 x.held]) x:=
 ⟨[],zxN h1 h2 h3,sS⟩
def zcG (c:DCode) (a:Int) (held:Int) (i:DIns):Nat->List DTouch
 | 0=>[]
 | k+1=>zcG c a held i k++(if c.globals.getD k ByteArray.empty∈zb4 i.term then [⟨a,k,false,held⟩] else [])++(if i.op=1/\i.arg=k then [⟨a,k,true,held⟩] else [])
def zc7 (c:DCode) (a:Int) (held:Int):List DTouch:=
 if (zal c a.toNat).op=1\/(zal c a.toNat).op=2 then zcG c a held (zal c a.toNat) c.globals.length else []
theorem zg7 (c:DCode) (a held:Int) (i:DIns):∀ k,(zcG c a held i k).length<=2*k
 | 0=>by simp [zcG]
 | k+1=>by
   have:=zg7 c a held i k;rw [zcG,qag,qag];split<;>split<;>simp<;>omega
def zmY (c:DCode) (a held:Int):(zc7 c a held).length<=2*c.globals.length:=by
 unfold zc7;split
 . exact zg7 _ _ _ _ _
 simp
def zld {held:Int}  (h0:Is W0 v0 c) (e0:Ext W0 w) (hc:CodeR c) (ha:0<=a) (ha2:a<c.ins.length) (hh:I64 held) :
   CALL tp 51 [v0,.int .i64 a,.int .i64 held] w λr w'=>Ext w w'/\(Own w.heap.size w' r (zc7 c a held)):=by
 refine co (g:=kf [(4,33423424,[]),(11,70300024701440,[9])] [(7,9223372034707295744,[9,31])] []) Tryz.func51 ?_;have:=hc.f.ins;have:c.globals.length<=6:=by have h1:=hc.1.1;simp only [qar,qau] at h1;omega
 have σe0:=e0.size;refine zax zbY rfl h0 e0 λg0 y1 g3 _=>?_;have σ1:=y1.size;refine zaa zaY<|zab zdD (zam g3) (xrf g0) λ_ gg=>zaC u26 zbm gg oo oo λ_ _ g1=>?_;rw [zaG] at g1;obtain ⟨i,hi⟩:∃ i,i=zal c a.toNat:=⟨_,rfl⟩;rw [<-hi] at g1;refine zab zbm g1 (xrf g0) λ_ gh=>zcP ziG rfl zbm rfl gh (xrf g0) λV y2 X gi=>?_;have σ2:=y2.size;have:=gi.lt;refine JOIN.mk (λus w'=>us=[]/\Ext V w'/\(i.op=1\/i.op=2)) ?_ ?_
 . refine zaa za8 ?_;refine zac ty3 (zay X) (xrf V) λ_=>zaT<|br (λc1=>?_) (λc1=>?_)
   . refine zaa za8 ?_;refine zac ty3 (zay X) (xrf V) λ_=>zaT<|br (λc2=>?_) (λc2=>?_)
     . refine ⟨(y1.t y2),?_⟩;unfold zc7;rw [<-hi,qab oo];exact ziz rfl
     refine ⟨sS,xrf V,?_⟩;omega
   refine ⟨sS,xrf V,?_⟩;omega
 rintro _ _ ⟨hu,y3,gj⟩;have σ3:=y3.size;try replace hu:=zbv hu
 clear hu;refine zaa zdL<|zab zbl (zco X) y3 λ_ gl=>?_;refine (zgc gl y3).mono ?_;rintro _ Y ⟨y4,gp⟩;have σ4:=y4.size;refine zaa zee<|zab zdt (zbs g3) (y2.t (y3.t y4)) λ_ g2=>?_;have:=zak g2;refine zae u24 g2<|zap (c.globals.length) (λk us w'=>∃ v:vL,us=[v,.int .i64 (k:Int)]/\Ext Y w'/\(RowI Y.heap.size w'.heap.size 91 w' v (zcG c a held i k))) (0) oo ⟨_,rfl,xrf Y,zb7 _ _ _ _⟩ ?_;rintro k m7 _ _ _ ⟨_,hu,y5,I⟩;have σ5:=y5.size;obtain ⟨g4,g5⟩:=zcZ hu;clear hu;try rw [g4]
 try rw [g5]
 try clear g4 g5
 have:=zg7 c a held i k;refine zaf<|br (λc3=>?_) (λc3=>?_)
 . refine zad u24 ty9 g2 oo λ_ _ gq=>?_;refine zar ty9 gq (y2.t (y3.t (y4.t y5))) λ_=>JOIN.mk (λus w'=>∃ v:vL,us=[v]/\Ext Y w'/\(RowI Y.heap.size w'.heap.size 91 w' v (zcG c a held i k++(if c.globals.getD k ByteArray.empty∈zb4 i.term then [⟨a,k,false,held⟩] else [])))) ?_ ?_
   . have g9:c.globals[k]'(by omega)=c.globals.getD k ByteArray.empty:=by rw [List.getD_eq_getElem?_getD,List.getElem?_eq_getElem oo];rfl
     refine (zde gp y5).mono ?_;rintro _ Z ⟨y7,rfl⟩;have σ7:=y7.size;refine br (λc4=>?_) (λc4=>?_)
     . refine zaF (cells:=#[.int .i64 a,.int .i64 (k:Int),.bool false,.int .i64 held]) kK ?_;have gb:OwnI Z.heap.size Z.heap.size Z (.agg #[.int .i64 a,.int .i64 (k:Int),.bool false,.int .i64 held]) (⟨a,k,false,held⟩:DTouch):=zjX (x:=⟨a,k,false,held⟩) (by show I64 a;unfold I64;omega) (by show I64 (k:Int);unfold I64;omega) hh;refine zbM (α:=DTouch) u88 zhY z91 zGm qd (I.ext y7) oo (gb.ext (xrf Z)) oo oo (by rw [zaj];omega) oo λ_ _ O gr=>?_;have gc:=O.size;have:=(gb.ext (xrf Z)).chg O oo;refine ⟨_,rfl,(Ext.chgI (y5.t y7) O oo),?_⟩;rw [qah (by rw [<-g9];exact c4)];exact gr
     refine ⟨_,rfl,(y5.t y7),?_⟩;rw [qab (by rw [<-g9];exact c4),qaF];exact (I.ext y7).mono oo oo
   rintro _ D ⟨_,hu,y8,C⟩;have σ8:=y8.size;try replace hu:=zbv hu
   try rw [hu]
   try clear hu
   refine zaa za8<|zac ty3 (zay X) (y3.t (y4.t y8)) λ_=>zai<|br (λc5=>?_) (λc5=>?_)
   . refine zaa zaZ ?_;refine zac ty3 (zat X) (y3.t (y4.t y8)) λ_=>zai<|br (λc6=>?_) (λc6=>?_)
     . refine zaF (cells:=#[.int .i64 a,.int .i64 (k:Int),.bool true,.int .i64 held]) kK ?_;have gd:OwnI D.heap.size D.heap.size D (.agg #[.int .i64 a,.int .i64 (k:Int),.bool true,.int .i64 held]) (⟨a,k,true,held⟩:DTouch):=zjX (x:=⟨a,k,true,held⟩) (by show I64 a;unfold I64;omega) (by show I64 (k:Int);unfold I64;omega) hh;refine zbM (α:=DTouch) u88 zhY z91 zGm qd (C.ext (xrf D)) oo (gd.ext (xrf D)) oo oo (by rw [zaj,qag];split<;>simp<;>omega) (by rw [qag];split<;>simp<;>omega) λ_ _ U gs=>?_;have gf:=U.size;have:=(gd.ext (xrf D)).chg U oo;refine zau<|⟨m7-1,oo,k+1,oo,_,rfl,(Ext.chgI y8 U oo),?_⟩;rw [zcG,qah (c:=i.op=1/\i.arg=k) ⟨oo,oo⟩];exact gs
     refine zau<|⟨m7-1,oo,k+1,oo,_,rfl,y8,?_⟩;rw [zcG,qab (c:=i.op=1/\i.arg=k) (λh=>c6 h.2),qaF];exact (C.ext (xrf D)).mono oo oo
   refine zau<|⟨m7-1,oo,k+1,oo,_,rfl,y8,?_⟩;rw [zcG,qab (c:=i.op=1/\i.arg=k) (λh=>c5 h.1),qaF];exact (C.ext (xrf D)).mono oo oo
 refine ⟨(y1.t (y2.t (y3.t (y4.t y5)))),?_⟩;unfold zc7;rw [<-hi,qah gj,<-show k=c.globals.length by omega];exact I.own.own.mono oo
def zvm {held:Int}  (h0:Is W0 v0 c) (e0:Ext W0 w) (hc:CodeR c) (ha:0<=a) (ha2:a<c.ins.length) (hh:I64 held) :
   CALL tp 65 [v0,.int .i64 a,.int .i64 held] w λr w'=>Ext w w'/\(Own w.heap.size w' r (zc7 c a held)):=by
 refine co (g:=kf [(5,66977856,[]),(11,1125831187366016,[7])] [(7,73786976294301336704,[7,10])] []) Tryz.func65 ?_;have:=hc.f.ins;have:c.globals.length<=6:=by have h1:=hc.1.1;simp only [qar,qau] at h1;omega
 have σe0:=e0.size;refine zax zbY rfl h0 e0 λ_ y1 g0 _=>?_;have σ1:=y1.size;refine zaD (α:=DTouch) u88 zhY λgg _ y2 g1=>?_;have σ2:=y2.size;refine zaa zaY<|zab zdD (zam g0) y2 λ_ gh=>zaC u26 zbm gh oo oo λ_ _ g2=>?_;rw [zaG] at g2;obtain ⟨i,hi⟩:∃ i,i=zal c a.toNat:=⟨_,rfl⟩;rw [<-hi] at g2;refine zab zbm g2 y2 λ_ gi=>zcP ziG rfl zbm rfl gi y2 λV y3 X gj=>?_;have σ3:=y3.size;have:=gj.lt;refine JOIN.mk (λus w'=>us=[]/\Ext V w'/\(i.op=1\/i.op=2)) ?_ ?_
 . refine zaa za8 ?_;refine zac ty3 (zay X) (xrf V) λ_=>zaT<|br (λc1=>?_) (λc1=>?_)
   . refine zaa za8 ?_;refine zac ty3 (zay X) (xrf V) λ_=>zaT<|br (λc2=>?_) (λc2=>?_)
     . refine ⟨(y1.t (y2.t y3)),?_⟩;unfold zc7;rw [<-hi,qab oo];exact (g1.ext y3).own.own.mono oo
     refine ⟨sS,xrf V,?_⟩;omega
   refine ⟨sS,xrf V,?_⟩;omega
 rintro _ _ ⟨hu,y4,gl⟩;have σ4:=y4.size;try replace hu:=zbv hu
 clear hu;refine zaa zdL<|zab zbl (zco X) y4 λ_ gp=>?_;refine (zeW gp y4).mono ?_;rintro _ Y ⟨y5,gq⟩;have σ5:=y5.size;refine zap (c.globals.length) (λk us w'=>∃ v:vL,us=[v,.int .i64 (k:Int)]/\Ext Y w'/\(RowI Y.heap.size w'.heap.size 91 w' v (zcG c a held i k))) (0) oo ⟨_,rfl,xrf Y,zcd _ _ _ _ _⟩ ?_;rintro k m7 _ _ _ ⟨_,hu,y6,U⟩;have σ6:=y6.size;obtain ⟨g4,g5⟩:=zcZ hu;clear hu;try rw [g4]
 try rw [g5]
 try clear g4 g5
 have:=zg7 c a held i k;refine zaa zee<|zab zdt (zbs g0) (y2.t (y3.t (y4.t (y5.t y6)))) λ_ g9=>?_;have:=zak g9;refine zae u24 g9<|zaf<|br (λc3=>?_) (λc3=>?_)
 . refine JOIN.mk (λus w'=>∃ v:vL,us=[v]/\Ext Y w'/\(RowI Y.heap.size w'.heap.size 91 w' v (zcG c a held i k++(if c.globals.getD k ByteArray.empty∈zb4 i.term then [⟨a,k,false,held⟩] else [])))) ?_ ?_
   . refine zaa zee ?_;refine zab zdt (zbs g0) (y2.t (y3.t (y4.t (y5.t y6)))) λ_ gr=>zad u24 ty9 gr oo λ_ _ gs=>zar ty9 gs (y2.t (y3.t (y4.t (y5.t y6)))) λ_=>?_;have gb:c.globals[k]'(by omega)=c.globals.getD k ByteArray.empty:=by rw [List.getD_eq_getElem?_getD,List.getElem?_eq_getElem oo];rfl
     refine (zl9 gq y6).mono ?_;rintro _ Z ⟨y8,rfl⟩;have σ8:=y8.size;refine br (λc4=>?_) (λc4=>?_)
     . refine zaF (cells:=#[.int .i64 a,.int .i64 (k:Int),.bool false,.int .i64 held]) kK ?_;have gc:OwnI Z.heap.size Z.heap.size Z (.agg #[.int .i64 a,.int .i64 (k:Int),.bool false,.int .i64 held]) (⟨a,k,false,held⟩:DTouch):=zjX (x:=⟨a,k,false,held⟩) (by show I64 a;unfold I64;omega) (by show I64 (k:Int);unfold I64;omega) hh;refine zbM (α:=DTouch) u88 zhY z91 zGm qd (U.ext y8) oo (gc.ext (xrf Z)) oo oo (by rw [zaj];omega) oo λ_ _ I gt=>?_;have gd:=I.size;have:=(g1.ext (y3.t (y4.t (y5.t (y6.t y8))))).chg I oo;have:=(gc.ext (xrf Z)).chg I oo;refine ⟨_,rfl,(Ext.chgI (y6.t y8) I oo),?_⟩;rw [qah (by rw [<-gb];exact c4)];exact gt
     refine ⟨_,rfl,(y6.t y8),?_⟩;rw [qab (by rw [<-gb];exact c4),qaF];exact (U.ext y8).mono oo oo
   rintro _ O ⟨gg,hu,y9,D⟩;have σ9:=y9.size;try replace hu:=zbv hu
   try rw [hu]
   try clear hu
   refine zaa za8<|zac ty3 (zay X) (y4.t (y5.t y9)) λ_=>zai<|br (λc5=>?_) (λc5=>?_)
   . refine zaa zaZ ?_;refine zac ty3 (zat X) (y4.t (y5.t y9)) λ_=>zai<|br (λc6=>?_) (λc6=>?_)
     . refine zaF (cells:=#[.int .i64 a,.int .i64 (k:Int),.bool true,.int .i64 held]) kK ?_;have gf:OwnI O.heap.size O.heap.size O (.agg #[.int .i64 a,.int .i64 (k:Int),.bool true,.int .i64 held]) (⟨a,k,true,held⟩:DTouch):=zjX (x:=⟨a,k,true,held⟩) (by show I64 a;unfold I64;omega) (by show I64 (k:Int);unfold I64;omega) hh;refine zbM (α:=DTouch) u88 zhY z91 zGm qd (D.ext (xrf O)) oo (gf.ext (xrf O)) oo oo (by rw [zaj,qag];split<;>simp<;>omega) (by rw [qag];split<;>simp<;>omega) λ_ _ C gx=>?_;have g3:=C.size;have:=(g1.ext (y3.t (y4.t (y5.t y9)))).chg C oo;have:=(gf.ext (xrf O)).chg C oo;refine zau<|⟨m7-1,oo,k+1,oo,_,rfl,(Ext.chgI y9 C oo),?_⟩;rw [zcG,qah (c:=i.op=1/\i.arg=k) ⟨oo,oo⟩];exact gx
     refine zau<|⟨m7-1,oo,k+1,oo,_,rfl,y9,?_⟩;rw [zcG,qab (c:=i.op=1/\i.arg=k) (λh=>c6 h.2),qaF];exact (D.ext (xrf O)).mono oo oo
   refine zau<|⟨m7-1,oo,k+1,oo,_,rfl,y9,?_⟩;rw [zcG,qab (c:=i.op=1/\i.arg=k) (λh=>c5 h.1),qaF];exact (D.ext (xrf O)).mono oo oo
 refine ⟨(y1.t (y2.t (y3.t (y4.t (y5.t y6))))),?_⟩;unfold zc7;rw [<-hi,qah gl,<-show k=c.globals.length by omega];exact U.own.own.mono oo
def zvn {n:Int}    :
   CALL tp 116 [.int .i64 n] w λr w'=>Ext w w'/\(r=.bool (decide (0<=n/\n<=63))):=by
 refine co (g:=kf [] [] []) Tryz.func116 ?_;refine zb9<|br (λc1=>?_) (λc1=>?_)
 . refine zew ?_;refine ⟨xrf w,?_⟩;simp [c1]
 refine ⟨xrf w,?_⟩;simp [c1]
def zd4 (a b:DTouch):Prop:=a.global=b.global/\(a.write=true\/b.write=true)/\(0<=a.held/\a.held<=63)/\(0<=b.held/\b.held<=63)/\a.held.toNat &&& b.held.toNat=0
instance (a b:DTouch):Decidable (zd4 a b):=by unfold zd4;infer_instance
def zvo {a:DTouch} {b:DTouch}  (h0:Is W0 v0 a) (e0:Ext W0 w) (h1:Is W1 v1 b) (e1:Ext W1 w)  :
   CALL tp 52 [v0,v1] w λr w'=>Ext w w'/\(r=.bool (decide (zd4 a b))):=by
 refine co (g:=kf [(3,1048560,[])] [] []) Tryz.func52 ?_;refine zax zhY rfl h0 e0 λ_ y1 g0 _=>zax zhY rfl h1 (e1.trans y1) λC y2 g1 _=>JOIN.mk (λus w'=>us=[]/\Ext C w'/\(a.global=b.global/\(a.write=true\/b.write=true))) ?_ ?_
 . refine zaa zn9 ?_;refine zac ty3 (zeE g0) y2 λ_=>zaa zn9<|zac ty3 (zeE g1) (xrf C) λ_=>zaT<|br (λc1=>?_) (λc1=>?_)
   . refine ⟨(y1.t y2),?_⟩;have:¬zd4 a b:=λh=>c1 h.1;simp only [this,qam]
   refine zaa zut<|zbi ty4 (zgM g0) y2<|za2<|zxE (λc2=>?_) (λc2=>?_)
   . refine zaa zut ?_;refine zbi ty4 (zgM g1) (xrf C)<|za2<|zbX (λc3=>?_) (λc3=>?_)
     . refine ⟨(y1.t y2),?_⟩;have:¬zd4 a b:=λh=>by rcases h.2.1 with h | h<;>simp_all
       simp only [this,qam]
     refine ⟨sS,xrf C,?_⟩;exact ⟨oo,.inr (by simpa using c3)⟩
   refine ⟨sS,xrf C,?_⟩;exact ⟨oo,.inl (by simpa using c2)⟩
 rintro _ _ ⟨hu,y3,g2,g3⟩;try replace hu:=zbv hu
 clear hu;refine zaa zuu<|zac ty3 (zgN g0) (y2.t y3) λ_=>?_;refine (zvn ).mono ?_;rintro _ _ ⟨y4,rfl⟩;refine br (λc4=>?_) (λc4=>?_)
 . refine zaa zuu ?_;refine zac ty3 (zgN g1) (y3.t y4) λ_=>?_;refine (zvn ).mono ?_;rintro _ _ ⟨y5,rfl⟩;refine br (λc5=>?_) (λc5=>?_)
   . refine zaa zuu ?_;refine zac ty3 (zgN g0) (y2.t (y3.t (y4.t y5))) λ_=>zaa zuu<|zac ty3 (zgN g1) (y3.t (y4.t y5)) λ_=>?_;obtain ⟨m,hm⟩:=qc1 c4.1;obtain ⟨n,hn⟩:=qc1 c5.1;rw [hm,hn];refine zhD oo oo<|zai<|⟨(y1.t (y2.t (y3.t (y4.t y5)))),?_⟩
     have:zd4 a b↔m &&& n=0:=by
       have e1:a.held.toNat=m:=oo;have e2:b.held.toNat=n:=oo;unfold zd4;rw [e1,e2];exact ⟨λh=>h.2.2.2.2,λh=>⟨g2,g3,c4,c5,h⟩⟩
     congr 1;rw [decide_eq_decide,this];omega
   refine ⟨(y1.t (y2.t (y3.t (y4.t y5)))),?_⟩;have:¬zd4 a b:=λh=>c5 h.2.2.2.1;simp only [this,qam]
 refine ⟨(y1.t (y2.t (y3.t y4))),?_⟩;have:¬zd4 a b:=λh=>c4 h.2.2.1;simp only [this,qam]
def zer (a b:DTouch):DRace:=⟨a.global,min a.at_ b.at_,max a.at_ b.at_⟩
def zrU {a b:DTouch} (h0:Is W0 v0 a) (e0:Ext W0 w) (h1:Is W1 v1 b) (e1:Ext W1 w) :
   CALL tp 53 [v0,v1] w λr w'=>Ext w w'/\∀ lo hi,OwnI lo hi w' r (zer a b):=by
 refine co (g:=kf [] [] []) Tryz.func53 ?_;refine zbp h0 e0 λ_ g1 hA=>zbp h1 (e1.trans g1) λ_ g2 hB=>zeC (α:=DRace) zHc λw3 g0 hv=>?_;have:=g1.size;have:=g2.size;have:=g0.size;have C:=g2.t g0;refine zaa zn9<|zac ty3 (zeE hA) C λg4=>zaa zn8<|zac ty3 (zeD hA) C λ_=>zaa zn8<|zac ty3 (zeD hB) g0 λ_=>zDs<|zaa zn8<|zac ty3 (zeD hA) C λ_=>zaa zn8<|zac ty3 (zeD hB) g0 λ_=>zDr ?_;have hm:∀ (w:wD) lo hi,OwnI lo hi w (.agg #[.int .i64 a.global,.int .i64 (min a.at_ b.at_),.int .i64 (max a.at_ b.at_)]) (zer a b):=λw lo hi=>⟨[],zqO (x:=zer a b) g4 (by unfold I64 zer at *;simp only;omega) (by unfold I64 zer at *;simp only;omega),sS⟩;refine zaF (cells:=#[.int .i64 a.global,.int .i64 (min a.at_ b.at_),.int .i64 (max a.at_ b.at_)]) kK ?_;have:=hv.lt;refine zbH (lo:=w3.heap.size) (hi:=w3.heap.size) zdG hv (hm w3 _ _) oo λ_ g3 g5=>?_;have:=g3.size;refine zcR zdG g5 (xrf _) λr hr=>⟨Ext.chgI (g1.t C) g3 oo,λlo hi=>?_⟩;obtain ⟨_,hM,_⟩:=hr;obtain ⟨_,h,_⟩:=hM.own;have hF:=Flat.flat h;subst hF;exact ⟨[],hM,sS⟩
instance (x y:DRace):Decidable (ltR x y):=by unfold ltR;infer_instance
def zmZ {x:DRace}  (h0:Is W0 v0 x) (e0:Ext W0 w) (h1:Is W1 v1 y) (e1:Ext W1 w)  :
   CALL tp 66 [v0,v1] w λr w'=>Ext w w'/\(r=.bool (decide (ltR x y))):=by
 refine co (g:=kf [] [] []) Tryz.func66 ?_;refine zax zdG rfl h0 e0 λ_ y1 C _=>zax zdG rfl h1 (e1.trans y1) λD y2 I _=>zaa zn5<|zac ty3 (zhT C) y2 λ_=>zaa zn5<|zac ty3 (zhT I) (xrf D) λ_=>zaT<|br (λc1=>?_) (λc1=>?_)
 . refine zaa zn5 ?_;refine zac ty3 (zhT C) y2 λ_=>zaa zn5<|zac ty3 (zhT I) (xrf D) λ_=>zaf<|⟨(y1.t y2),?_⟩;congr 1;rw [decide_eq_decide];unfold ltR;omega
 refine zaa zlX<|zac ty3 (zhU C) y2 λ_=>zaa zlX<|zac ty3 (zhU I) (xrf D) λ_=>zaT<|br (λc2=>?_) (λc2=>?_)
 . refine zaa zlX ?_;refine zac ty3 (zhU C) y2 λ_=>zaa zlX<|zac ty3 (zhU I) (xrf D) λ_=>zaf<|⟨(y1.t y2),?_⟩;congr 1;rw [decide_eq_decide];unfold ltR;omega
 refine zaa zq2<|zac ty3 (zn2 C) y2 λ_=>zaa zq2<|zac ty3 (zn2 I) (xrf D) λ_=>zaf<|⟨(y1.t y2),?_⟩;congr 1;rw [decide_eq_decide];unfold ltR;omega
def zih (x:DRace):¬ltR x x:=by unfold ltR;omega
def zjY {x y z:DRace} (h:ltR x y) (k:ltR y z):ltR x z:=by unfold ltR at *;omega
def zm0 {x y:DRace} (h:¬ltR x y) (k:¬ltR y x):x=y:=by
 unfold ltR at *;exact DRace.ext_iff.2 ⟨oo,oo,oo⟩
def zm1 (r:DRace):List DRace->List DRace
 | []=>[r]
 | x :: l=>if ltR x r then x :: zm1 r l else if x=r then x :: l else r :: x :: l
def ahd (r:DRace):List DRace->Nat
 | []=>0
 | x :: l=>if ltR x r then ahd r l+1 else 0
theorem zqd (r:DRace):∀ l,zm1 r l=if h:ahd r l<l.length then (if l[ahd r l]=r then l else l.take (ahd r l)++(r :: l.drop (ahd r l))) else l++[r]
 | []=>rfl
 | x :: l=>by
   rw [zm1];by_cases h:ltR x r
   . have e:ahd r (x :: l)=ahd r l+1:=by rw [ahd,qah h]
     rw [qah h,zqd r l];by_cases h2:ahd r l<l.length
     . rw [dif_pos h2,dif_pos (by rw [e];simpa using h2)];have e2:(x :: l)[ahd r (x :: l)]'(by rw [e];simpa using h2)=l[ahd r l]:=by simp [e]
       rw [e2];split
       . rfl
       simp [e]
     rw [dif_neg h2,dif_neg (by rw [e];simpa using h2)];rfl
   have e:ahd r (x :: l)=0:=by rw [ahd,qab h]
   rw [qab h,dif_pos (by rw [e];simp)];have e2:(x :: l)[ahd r (x :: l)]'(by rw [e];simp)=x:=by simp [e]
   rw [e2];split
   . rfl
   simp [e]
theorem zrV {r:DRace}:∀ {l:List DRace} {k:Nat} (hk:k<=l.length),(∀ j (h:j<k),ltR (l[j]'(by omega)) r)->(∀ h:k<l.length,¬ltR l[k] r)->ahd r l=k
 | [],0,_,_,_=>rfl
 | x :: l,0,_,_,h=>by
   have h':¬ltR x r:=h sS;rw [ahd,qab h']
 | x :: l,k+1,hk,h1,h2=>by
   have e:ltR x r:=h1 0 oo;rw [ahd,qah e,zrV (k:=k) (by simpa using hk) (λj hj=>h1 (j+1) oo) λh=>h2 (by simpa using h)]
theorem zqe {r x:DRace}:∀ {l:List DRace},x∈zm1 r l↔x=r\/x∈l
 | []=>by simp [zm1]
 | y :: l=>by
   rw [zm1];split
   . rw [qaa,zqe,qaa];exact ⟨λh=>by rcases h with h | h | h<;>simp [h],λh=>by rcases h with h | h | h<;>simp [h]⟩
   split
   . rename_i h;subst h;simp
   simp
theorem zm2 {r:DRace}:∀ {l:List DRace},l.Pairwise ltR->(zm1 r l).Pairwise ltR
 | [],_=>by simp [zm1]
 | y :: l,h=>by
   rw [qaZ] at h;rw [zm1];split
   . rename_i hy;refine qaZ.2 ⟨λz hz=>?_,zm2 h.2⟩;rcases zqe.1 hz with rfl | hz
     . exact hy
     exact h.1 z hz
   rename_i hy;split
   . exact qaZ.2 h
   rename_i hne;have hry:ltR r y:=qbf λhc=>hne (zm0 hy hc);refine qaZ.2 ⟨λz hz=>?_,qaZ.2 h⟩;rcases qaa.1 hz with rfl | hz
   . exact hry
   exact zjY hry (h.1 z hz)
theorem zkN:∀ {l m:List DRace},l.Pairwise ltR->m.Pairwise ltR->(∀ x,x∈l↔x∈m)->l=m
 | [],[],_,_,_=>rfl
 | [],y :: m,_,_,h=>by have:=(h y).2 sS;cases this
 | x :: l,[],_,_,h=>by have:=(h x).1 sS;cases this
 | x :: l,y :: m,h1,h2,h=>by
   rw [qaZ] at h1 h2
   have hxy:x=y:=by
     rcases qaa.1 ((h x).1 sS) with e | hm
     . exact e
     rcases qaa.1 ((h y).2 sS) with e | hl
     . exact e.symm
     exact absurd (zjY (h1.1 y hl) (h2.1 x hm)) (zih x)
   subst hxy;congr 1;refine zkN h1.2 h2.2 λz=>⟨λhz=>?_,λhz=>?_⟩
   . rcases qaa.1 ((h z).1 (by simp [hz])) with rfl | h'
     . exact absurd (h1.1 z hz) (zih z)
     exact h'
   rcases qaa.1 ((h z).2 (by simp [hz])) with rfl | h'
   . exact absurd (h2.1 z hz) (zih z)
   exact h'
open Go.Sort
variable {W0 W1 w w0:wD} {c:DCode} {hi i k lo:Nat} {s:DState} {v v0 v1:vL}
instance:Inhabited DRace:=⟨⟨0,0,0⟩⟩
def zFQ (x:DRace):List vL:=[.int .i64 x.g,.int .i64 x.a,.int .i64 x.b]
def zBR:∀ {F:List Nat} {w:wD} {cs:List vL} {x:DRace},Rep.rep F w cs x->cs=zFQ x:=by
 intro F w cs x h;obtain ⟨_,_,_,_,rfl,rfl,⟨rfl,rfl,_⟩,⟨_,_,_,_,rfl,rfl,⟨rfl,rfl,_⟩,⟨rfl,rfl,_⟩⟩⟩:=h;rfl
def zfQ {x y:DRace}:ltOf zBr x y=decide (ltR x y):=by
 unfold ltOf;rw [decide_eq_decide];exact zEL
def zE8:SWO (ltOf zBr):=by
 refine ⟨λx=>?_,λx y z h k=>?_,λx y z h k=>?_⟩
 . rw [zfQ,decide_eq_false_iff_not];exact zih x
 . rw [zfQ,qau] at *;exact zjY h k
 rw [zfQ,decide_eq_false_iff_not] at *;intro _;unfold ltR at *;omega
def srt (l:List DRace):List DRace:=l.mergeSort λx y=>!(ltOf zBr) y x
def zvp (l:List DRace):(srt l).Perm l:=qcI l _
def ztG (l:List DRace):(srt l).length=l.length:=(zvp l).length_eq
def zGL (l:List DRace):(srt l).Pairwise λx y=>¬ltR y x:=by
 have:=qcv (le:=λx y=>!(ltOf zBr) y x) (λa b _ _ _=>by
   simp only [zfQ,qaY,decide_eq_false_iff_not] at *;unfold ltR at *;omega) (λa b=>by
   simp only [zfQ,qaR,qaY,decide_eq_false_iff_not];unfold ltR;omega) l
 exact this.imp λh=>by simpa [zfQ] using h
def zvq {l:List DRace} (h:OwnI lo hi w v l) (hn:l.length<=1073741824) :
   CALL tp 59 [v,.func (.func 60) #[] #[]] w λ_ w'=>ChgI lo hi w w'/\OwnI lo hi w' v (srt l):=by
 obtain ⟨F,hM,hF⟩:=h;by_cases hne:l=[]
 . subst hne
   obtain ⟨a,cap,hv⟩:∃ a cap,v=.slice a 0 cap:=by
     obtain ⟨_,⟨a,cap,_,xs,h,_⟩,hv⟩:=hM.own;exact ⟨a,cap,by rw [hv,h];rfl⟩
   subst hv;refine ⟨(AnyF.slices_SortFunc_none Tryz.sortRace a cap _ w).mono ?_⟩;rintro e w' ⟨he,rfl⟩;refine ⟨_,he,ChgI.refl _,F,?_,hF⟩;have:srt []=[]:=qan (by rw [ztG];rfl);rw [this];exact hM
 obtain ⟨b,o,cap,xs,rfl,rfl,h1,h2,g4,g5,g9⟩:=zd2 hM hne;have g0:=@zBR;have hk:∀ x,(zFQ x).length=Rep.size DRace:=λ_=>rfl;obtain ⟨c,e,g1⟩:=g9;have hb:b<w.heap.size:=(Array.getElem?_eq_some_iff.1 g1).1
 have g2:CmpLays tp 60 #[] zFQ 3 zBr b o l.toArray.size w:=λm os dk _ x y=>by
   have:=zmC (w:=sortWorldK zFQ 3 w b o m dk os) (x:=x) (y:=y);obtain ⟨h⟩:=this;refine h.mono ?_;rintro e w' ⟨v,he,hv,q,gb,g3⟩;exact ⟨by rw [he,hv],q,gb,g3⟩
 refine ⟨(AnyQ.slices_SortFunc_total Tryz.sortRace 3 Tryz.isAgg41 Tryz.sizeOf41 zFQ (λ_=>rfl) (λx v hv=>by
     simp only [zFQ,qaa,qad,qaq] at hv;rcases hv with rfl | rfl | rfl<;>rfl) zBr zE8 60 #[] b o cap l.toArray w (zds (ent 60 qd kK)) g2 (zmw g0 hk ⟨c,e,g1⟩ g4 g5) hb so (λx y h k=>by
     rw [zfQ,decide_eq_false_iff_not] at *;exact zm0 h k)).mono ?_⟩
 rintro _ w' ⟨he,_,os,g3⟩;have hs:=zmx g0 hk (cap:=cap) g3 ⟨c,e,g1⟩ g4 g5 h1 h2 sS (λx hx=>by simpa [List.mem_mergeSort] using hx);refine ⟨_,he,?_,[b],?_,hF⟩
 . exact hs.1.toI (λi hi=>hF i hi)
 exact hs.2
def zf4 {α:Type} [Rep α] [Flat α] {w:wD} {lo hi:Nat} {v:vL} {x:α} (h:Is w v x):OwnI lo hi w v x:=by
 obtain ⟨_,cs,hr,hv⟩:=h;have hF:=Flat.flat hr;subst hF;exact ⟨[],⟨⟨cs,hr,hv⟩,qav,Wr.nil w⟩,sS⟩
def zrW {l:List DRace} {x:DRace} (h:OwnI lo w.heap.size w v l) (hlo:lo<=w.heap.size) (h1:Is W1 v1 x) (e1:Ext W1 w) (hn:l.length<=1000000) :
   CALL tp 26 [v,v1] w λr w'=>Ext w w'/\OwnI lo w'.heap.size w' r (zm1 x l):=by
 refine co (g:=kf [(4,2097056,[5]),(6,17177772048,[])] [(2,2097056,[5])] [(2,[0,1,2,3,4,5,6,7,8,9,10,11],0),(4,[0,1,2,3,4,5,6,7,8,9,10,11],0)]) Tryz.func26 ?_;have hI:=h.is;refine zbp h1 e1 λw1 X hA=>JOIN.mk (λus w'=>∃ k:Nat,us=[.int .i64 (k:Int)]/\Ext w1 w'/\k<=l.length/\ahd x l=k) ?_ ?_
 . refine zap l.length (λk us w'=>us=[.int .i64 (k:Int)]/\Ext w1 w'/\k<=l.length/\∀ j (h:j<k) (h2:j<l.length),ltR l[j] x) 0 (z0 _) ⟨rfl,xrf w1,z0 _,λj h=>oo⟩ ?_;rintro k mk u w2 _ ⟨hu,g0,Y,g1⟩;try replace hu:=zbv hu
   rw [hu];have O:=zag w2;have C:=g0.t O;generalize World.drew1 w2=w3 at *;refine zae u30 hI<|zaf<|br (λhk=>?_) (λhk=>?_)
   . have V:k<l.length:=oo;refine zad u30 zdG hI V λb1 o1 g2=>zab zdG g2 (X.t C) λgf g3=>zab zdG hA C λgg g4=>?_;refine (zmZ g3 (X.t C) g4 C).mono ?_;rintro _ w4 ⟨I,rfl⟩;refine zbX (λhc=>?_) (λhc=>?_)
     . refine zau ?_;refine ⟨mk-1,oo,k+1,oo,rfl,C.t I,oo,λj hj gh=>?_⟩;by_cases hjk:j<k
       . exact g1 j hjk gh
       have:j=k:=oo;subst this;simpa using hc
     exact ⟨k,rfl,C.t I,Y,zrV Y (λj hj=>g1 j hj oo) λh=>by simpa using hc⟩
   exact ⟨k,rfl,C,Y,zrV Y (λj hj=>g1 j hj oo) λh=>oo⟩
 rintro u w2 ⟨k,hu,g0,Y,gi⟩;try replace hu:=zbv hu
 rw [hu];have D:=zqd x l;rw [gi] at D;refine JOIN.mk (λus w'=>Ext w1 w'/\zm1 x l=l.take k++(x :: l.drop k)) ?_ ?_
 . have O:=zag w2;have C:=g0.t O;generalize World.drew1 w2=w3 at *;refine zae u30 hI<|zaf<|br (λhk=>?_) (λhk=>?_)
   . have V:k<l.length:=oo;rw [dif_pos V] at D;refine zad u30 zdG hI V λb1 o1 g2=>zab zdG g2 (X.t C) λgf g3=>zab zdG hA C λgg g4=>zgY g3 g4<|br (λhc=>?_) (λhc=>?_)
     . rw [qah hc] at D;have hx:=X.t C;exact ⟨hx,by rw [D];exact (h.ext hx).mono (lr _) hx.size⟩
     rw [qab hc] at D;exact ⟨C,D⟩
   have V:k=l.length:=oo;subst V;rw [dif_neg oo] at D;exact ⟨C,by rw [D];simp⟩
 rintro _ w3 ⟨O,gj⟩;rw [gj];have U:=X.t O;have gl:=U.size;refine zaD (α:=DRace) u30 zdG λ_ w4 I gp=>?_;have hs4:=I.size;refine ziJ (i:=(k:Int)) u30 zdG hI oo oo λ_ gq=>zd0 u30 zdG zAP gp (lr _) gq (U.t I) (by simp [maxLen];omega) so λ_ w5 g9 gr=>?_;have hs5:=g9.size;have g5:=(xrf w4).chgI g9 (lr _);refine zab zdG hA (O.t (I.t g5)) λ_ gs=>zbM (lo2:=w5.heap.size) (hi2:=w5.heap.size) u30 zdG z41 zAP qd gr oo (zf4 (gs.ext (O.t (I.t g5)))) (lr _) oo (by simp [maxLen];omega) so λ_ w6 gb gt=>?_;have hs6:=gb.size;refine zfn (i:=(k:Int)) u30 zdG hI oo oo λ_ gx=>?_;have gc:Ext w w6:=(U.t (I.t g5)).chgI gb oo;refine zd0 u30 zdG zAP gt oo gx gc (by simp [maxLen];omega) so λ_ _ gd gy=>?_;have hs7:=gd.size;refine ⟨gc.chgI gd oo,?_⟩;have:=gy.own.mono (lo':=lo) oo (lr _);simpa using this
theorem ztH {z:DRace}:∀ {l:List DRace} {x:DRace},z∈x :: ddg x l↔z∈x :: l
 | [],x=>Iff.rfl
 | y :: l,x=>by
   rw [ddg];split
   . rename_i h;subst h;rw [ztH (l:=l)];simp
   rw [qaa,ztH (l:=l),qaa (a:=z) (b:=x)]
theorem zzP:∀ {l:List DRace} {x:DRace},(x :: l).Pairwise (λa b=>¬ltR b a)->(x :: ddg x l).Pairwise ltR
 | [],x,_=>by simp [ddg]
 | y :: l,x,h=>by
   rw [ddg];rw [qaZ] at h;have hy:=h.2;rw [qaZ] at hy;split
   . rename_i e;subst e;exact zzP h.2
   rename_i hne;have ih:=zzP h.2;have hxy:ltR x y:=qbf λhc=>hne (zm0 (h.1 y sS) hc);refine qaZ.2 ⟨λz hz=>?_,ih⟩;rcases qaa.1 hz with rfl | hz
   . exact hxy
   exact zjY hxy ((qaZ.1 ih).1 z hz)
theorem zE9 {l:List DRace} {z:DRace}:z∈ddp l↔z∈l:=by
 cases l with
 | nil=>exact Iff.rfl
 | cons x l=>exact ztH
theorem zGM {l:List DRace} (h:l.Pairwise (λa b=>¬ltR b a)):(ddp l).Pairwise ltR:=by
 cases l with
 | nil=>exact List.Pairwise.nil
 | cons x l=>exact zzP h
def zcX (l:List DRace):List DRace:=l.foldl (λacc r=>zm1 r acc) []
def zoD (l:List DRace) (r:DRace):zcX (l++[r])=zm1 r (zcX l):=by simp [zcX]
theorem zoE {x:DRace}:∀ {l acc:List DRace},x∈l.foldl (λacc r=>zm1 r acc) acc↔x∈acc\/x∈l
 | [],acc=>by simp
 | y :: l,acc=>by
   rw [qbt,zoE,zqe,qaa];constructor
   . rintro ((h | h) | h)<;>simp [h]
   rintro (h | h | h)<;>simp [h]
def zgE {x:DRace} {l:List DRace}:x∈zcX l↔x∈l:=by unfold zcX;rw [zoE];simp
theorem zrX:∀ {l acc:List DRace},acc.Pairwise ltR->(l.foldl (λacc r=>zm1 r acc) acc).Pairwise ltR
 | [],acc,h=>h
 | y :: l,acc,h=>by
   rw [qbt];exact zrX (zm2 h)
def zqf (l:List DRace):(zcX l).Pairwise ltR:=zrX List.Pairwise.nil
theorem zvr (r:DRace):∀ l:List DRace,(zm1 r l).length<=l.length+1
 | []=>by simp [zm1]
 | x :: l=>by
   have:=zvr r l;rw [zm1];split
   . simpa using this
   split<;>simp
theorem zoF:∀ (l acc:List DRace),(l.foldl (λacc r=>zm1 r acc) acc).length<=acc.length+l.length
 | [],acc=>by simp
 | y :: l,acc=>by
   have h1:=zoF l (zm1 y acc);have h2:=zvr y acc;rw [qbt,qak];omega
def zm3 (l:List DRace):(zcX l).length<=l.length:=by have:=zoF l [];simpa [zcX] using this
def ztI {l m:List DRace} (h:∀ x,x∈l↔x∈m):zcX l=zcX m:=zkN (zqf l) (zqf m) λx=>by rw [zgE,zgE,h]
def zzQ (l:List DRace):ddp (srt l)=zcX l:=zkN (zGM (zGL l)) (zqf l) λx=>by rw [zE9,zgE,(zvp l).mem_iff]
def clR (a b:DTouch):List DRace:=if zd4 a b then [zer a b] else []
def gB (a:DTouch) (bs:List DTouch):List DRace:=bs.flatMap (clR a)
def gL (Ls:List (List DTouch)) (a:DTouch):List DRace:=Ls.flatMap (gB a)
def gA (Ls:List (List DTouch)) (xs:List DTouch):List DRace:=xs.flatMap (gL Ls)
def zkO (T:Nat->List DTouch) (t:Nat):List (List DTouch):=(List.range t).map T
def gT (T:Nat->List DTouch) (n:Nat):List DRace:=(List.range n).flatMap λt=>gA (zkO T t) (T t)
def hA (bs xs:List DTouch):List DRace:=xs.flatMap λa=>gB a bs
def hU (T:Nat->List DTouch) (xs:List DTouch) (t:Nat):List DRace:=(List.range t).flatMap λu=>hA (T u) xs
def hT (T:Nat->List DTouch) (n:Nat):List DRace:=(List.range n).flatMap λt=>hU T (T t) t
def zBS (T:Nat->List DTouch) (n:Nat):zcX (gT T n)=zcX (hT T n):=by
 refine ztI λ_=>?_;simp only [gT,hT,gA,hU,gL,hA,zkO,qaJ,qaG,qa3];constructor
 . rintro ⟨t,ht,a,ha,_,⟨u,hu,rfl⟩,hx⟩;exact ⟨t,ht,u,hu,a,ha,hx⟩
 rintro ⟨t,ht,u,hu,a,ha,hx⟩;exact ⟨t,ht,a,ha,T u,⟨u,hu,rfl⟩,hx⟩
theorem zd5 {α β:Type} {f:α->List β} {k:Nat}:∀ {l:List α},(∀ x∈l,(f x).length<=k)->(l.flatMap f).length<=l.length*k
 | [],_=>by simp
 | x :: l,h=>by
   have h1:=h x sS;have h2:=zd5 (l:=l) λy hy=>h y (by simp [hy]);rw [qbD,qag,qak,qbp];omega
def zct {α β:Type} {f:α->List β} {l:List α} (h:k<l.length):(l.take (k+1)).flatMap f=(l.take k).flatMap f++f l[k]:=by
 rw [tk h,qbc];simp
def zeT {β:Type} {f:Nat->List β} (n:Nat):(List.range (n+1)).flatMap f=(List.range n).flatMap f++f n:=by
 rw [qbU,qbc];simp
def zFa (a b:DTouch):(clR a b).length<=1:=by unfold clR;split<;>simp
def zvs (a:DTouch) {bs:List DTouch} (h:bs.length<=12):(gB a bs).length<=12:=by
 have:=zd5 (f:=clR a) (l:=bs) (k:=1) λx _=>zFa a x;unfold gB;omega
def zDO {Ls:List (List DTouch)} (a:DTouch) (h:Ls.length<=6) (h2:∀ L∈Ls,L.length<=12):(gL Ls a).length<=72:=by
 have:=zd5 (f:=gB a) (l:=Ls) (k:=12) λx hx=>zvs a (h2 x hx);unfold gL;omega
def zDP {Ls:List (List DTouch)} {xs:List DTouch} (h:Ls.length<=6) (h2:∀ L∈Ls,L.length<=12) (h3:xs.length<=12):(gA Ls xs).length<=864:=by
 have:=zd5 (f:=gL Ls) (l:=xs) (k:=72) λx _=>zDO x h h2;unfold gA;omega
def zzR {T:Nat->List DTouch} (h:∀ t,(T t).length<=12) {n:Nat} (hn:n<=6):(gT T n).length<=5184:=by
 have:=zd5 (f:=λt=>gA (zkO T t) (T t)) (l:=List.range n) (k:=864) λt ht=>by
   have ht':=qaG.1 ht
   exact zDP (by simp [zkO];omega) (λ_ hL=>by
     simp only [zkO,qa3] at hL;obtain ⟨u,_,rfl⟩:=hL;exact h u) (h t)
 unfold gT;rw [qbe] at this;omega
def zDQ {bs xs:List DTouch} (h:bs.length<=12) (h2:xs.length<=12):(hA bs xs).length<=144:=by
 have:=zd5 (f:=λa=>gB a bs) (l:=xs) (k:=12) λx _=>zvs x h;unfold hA;omega
def zDR {T:Nat->List DTouch} (h:∀ t,(T t).length<=12) {xs:List DTouch} (h2:xs.length<=12) {t:Nat} (ht:t<=6):(hU T xs t).length<=864:=by
 have:=zd5 (f:=λu=>hA (T u) xs) (l:=List.range t) (k:=144) λu _=>zDQ (h u) h2;rw [qbe] at this;unfold hU;omega
def zGN {T:Nat->List DTouch} (h:∀ t,(T t).length<=12) {n:Nat} (hn:n<=6):(hT T n).length<=5184:=by
 have:=zd5 (f:=λt=>hU T (T t) t) (l:=List.range n) (k:=864) λt ht=>zDR h (h t) (by have:=qaG.1 ht;omega);rw [qbe] at this;unfold hT;omega
def tA (c:DCode) (s:DState) (t:Nat):List DTouch:=if 0<=zbg s t then zc7 c (zbg s t) 0 else []
theorem zoG {c:DCode} {a held:Int} {i:DIns} {x:DTouch}:∀ {k:Nat},x∈zcG c a held i k->x.at_=a/\x.held=held
 | 0,h=>by simp [zcG] at h
 | k+1,h=>by
   rw [zcG,qae,qae] at h;rcases h with (h | h) | h
   . exact zoG h
   . split at h
     . simp only [qaa,qad,qaq] at h;subst h;exact ⟨rfl,rfl⟩
     simp at h
   split at h
   . simp only [qaa,qad,qaq] at h;subst h;exact ⟨rfl,rfl⟩
   simp at h
def zoH {a held:Int} {x:DTouch} (h:x∈zc7 c a held):x.at_=a/\x.held=held:=by
 unfold zc7 at h;split at h
 . exact zoG h
 simp at h
def zFb {c:DCode} {s:DState} {t:Nat} {x:DTouch} (h:x∈tA c s t):x.at_=zbg s t/\x.held=0:=by
 unfold tA at h;split at h
 . exact zoH h
 simp at h
def zzS (s:DState) (hc:CodeR c) (t:Nat):(tA c s t).length<=12:=by
 unfold tA;split
 . have:=zmY c (zbg s t) 0;have h2:=hc.1.1;simp only [qar,qau] at h2;omega
 simp
def zgi (c:DCode) (s:DState):List DRace:=zcX (gT (tA c s) s.stacks.length)
def zFc (c:DCode) (s:DState):zcX (hT (tA c s) s.stacks.length)=zgi c s:=(zBS _ _).symm
def zrY (s:DState) (hc:CodeR c) (hs:zaV c s):(zgi c s).length<=5184:=
 qat (zm3 _) (zzR (zzS s hc) hs.2.2.1.2)
def zoI {l:List DRace} (h:Is w0 v l) (hx:Ext w0 w) (hn:l.length<=1000000) :
   CALL tp 23 [v] w λr w'=>Ext w w'/\Own w.heap.size w' r (zcX l):=by
 refine co (g:=kf [] [] []) Tryz.func23 ?_;refine (zrB h hx oo).mono ?_;rintro _ _ ⟨g1,g2⟩;refine (zvq g2.toI oo).mono ?_;rintro _ _ ⟨g3,g4⟩;refine (zoq g4 (by rw [ztG];omega)).mono ?_;rintro _ _ ⟨g5,g9⟩;refine (zu2 g9).mono ?_;rintro _ _ ⟨gb,g0⟩;rw [zzQ] at g0;exact ⟨((g1.chgI g3 (lr _)).chgI g5 (lr _)).trans gb,g0.own⟩
instance flatRawM:Flat Raw:=⟨λh=>h.1⟩
def zBT {α:Type} [Rep α] {w:wD} {lo hi:Nat} {v:vL} {x:α} (h:OwnI lo hi w v x):OwnI lo (min hi w.heap.size) w v x:=by
 obtain ⟨F,hm,hl⟩:=h;exact ⟨F,hm,λb hb=>by have:=hl b hb;have:=hm.lt b hb;omega⟩
structure MI (w0 w:wD) (lo hi g n:Nat) (out:vL) (L:List DRace) (vs:List Raw) (T:Nat->List DTouch):Prop where
 ext:Ext w0 w
 row:RowI lo hi 41 w out L
 h1:w0.heap.size<=lo
 h2:lo<=hi
 h3:hi<=w.heap.size
 seen:Mine [g] w (.slice (some ⟨g,0,none⟩) n n) vs
 g0:w0.heap.size<=g
 g1:g<lo\/hi<=g
 len:vs.length=n
 el:∀ k (h:k<vs.length),∃ a b,OwnI a b w vs[k].v (T k)/\(b<=lo\/hi<=a)/\(b<=g\/g<a)/\b<=w.heap.size
section
variable {w0 w w':wD} {lo hi g n:Nat} {out:vL} {L:List DRace} {vs:List Raw} {T:Nat->List DTouch}
def MI.glt (h:MI w0 w lo hi g n out L vs T):g<w.heap.size:=h.seen.lt g sS
def MI.step (h:MI w0 w lo hi g n out L vs T) (hx:Ext w w'):MI w0 w' lo hi g n out L vs T:=
 ⟨h.ext.trans hx,h.row.ext hx,h.h1,h.h2,qat h.h3 hx.size,h.seen.ext hx,h.g0,h.g1,h.len,λk hk=>by
   obtain ⟨a,b,ho,h1,h2,h3⟩:=h.el k hk;exact ⟨a,b,ho.ext hx,h1,h2,qat h3 hx.size⟩⟩
def MI.push {g2:vL} {x:DRace} {lo' hi':Nat} (h:MI w0 w lo hi g n out L vs T) (hc:ChgI lo hi w w') (hr:RowI lo' hi' 41 w' g2 (L++[x])) (hd:lo'=lo/\hi'=hi\/lo'=w.heap.size/\hi'=w'.heap.size) :
   MI w0 w' lo' hi' g n g2 (L++[x]) vs T:=by
 have hg:=h.glt;have:=hc.size;have h1:=h.h1;have:=h.h2;have:=h.h3;have:=h.ext.size;have h5:=h.g1;refine ⟨h.ext.chgI hc h1,hr,oo,oo,oo,h.seen.keep λb hb=>?_,h.g0,oo,h.len,λk hk=>?_⟩
 . simp only [qaa,qad,qaq] at hb;subst hb;exact hc.block b hg h5
 obtain ⟨a,b,ho,e1,e2,_⟩:=h.el k hk;exact ⟨a,b,ho.chg hc e1,oo,e2,oo⟩
def MI.row_at (h:MI w0 w lo hi g n out L vs T) {t:Nat} (ht:t<=n) (hn:0<n):Is w (.slice (some ⟨g,0,none⟩) t n) (vs.take t):=by
 have:=zpv (a:=some ⟨g,0,none⟩) (cap:=n) (l:=vs) (by rw [h.len];exact h.seen.is) t (by rw [h.len];exact ht);exact this
def MI.store {t:Nat} {u:vL} {T':Nat->List DTouch} {a b:Nat} (h:MI w0 w lo hi g n out L vs T) (ht:t<n) (hc:Chg [g] w w') (hm:Mine [g] w' (.slice (some ⟨g,0,none⟩) n n) (vs.set t ⟨u⟩))
   (hu:OwnI a b w u (T' t)) (ha:hi<=a) (hg:g<a) (hT:∀ k,k≠t->T' k=T k):MI w0 w' lo hi g n out L (vs.set t ⟨u⟩) T':=by
 have r:ChgI g (g+1) w w':=hc.toI λb hb=>by simp only [qaa,qad,qaq] at hb;omega
 have h1:=h.h1;have h2:=h.h2;have h3:=h.h3;have h4:=h.ext.size;have h5:=h.g1;have hs:=r.size;have g2:=h.g0;refine ⟨h.ext.chgI r g2,h.row.chg r oo,h1,h2,oo,hm,g2,h5,by simp [h.len],λk hk=>?_⟩;by_cases hkt:k=t
 . subst hkt;refine ⟨a,min b w.heap.size,?_,oo,.inr hg,oo⟩;have:=(zBT hu).chg r oo;simpa using this
 have g3:k<vs.length:=by simpa using hk
 obtain ⟨a',b',ho,e1,e2,_⟩:=h.el k g3;refine ⟨a',b',?_,e1,e2,oo⟩;have:=ho.chg r oo;rw [hT k hkt];rw [List.getElem_set_ne oo];exact this
end
abbrev rawN:RepZ Raw:=⟨⟨.slice none 0 0⟩,[.slice none 0 0],λ_=>⟨rfl,rfl,rfl⟩⟩
def zzT:zcu tp 88=some [.slice none 0 0]:=by kernel_rfl
def upT (T:Nat->List DTouch) (k u:Nat):List DTouch:=if u<k then T u else []
def ztJ (h0:Is W0 v0 c) (e0:Ext W0 w) (h1:Is W1 v1 s) (e1:Ext W1 w) (hc:CodeR c) (hs:zaV c s) :
   CALL tp 17 [v0,v1] w λr w'=>Ext w w'/\Own w.heap.size w' r (zgi c s):=by
 have hn6:=hs.2.2.1;have gc:=zzS s hc;have hTa:=@zFb c s;have gY:=ziq hs;have hS:∀ t,tA c s t=if 0<=zbg s t then zc7 c (zbg s t) 0 else []:=λt=>rfl;have gZ:zgi c s=zcX (gT (tA c s) s.stacks.length):=rfl;rw [gZ];generalize tA c s=T at *;refine co (g:=kf [(9,137405399296,[])] [(4,9444732965739286255040,[6,22]),(10,4722366478471598724160,[6,42]),(13,2361182115534915784768,[6,50]),(16,1180519563123373391936,[6,56])] []) Tryz.func17 ?_;refine zbp h0 e0 λ_ h4 hA=>zbp h1 (e1.trans h4) λw2 h5 hB=>zaa zbc<|zab zeV (zaB hB) (xrf _) λ_ j4=>zae u31 j4 ?_;generalize hn:s.stacks.length=n at *;refine @zeY tp w2 Raw _ rawN _ _ _ (.slice none 0 0) _ n u85 zDm rfl rfl zzT oo oo λw3 h6 j5=>?_;have j6:=h6.size;refine zaa zbc<|zab zeV (zaB hB) h6 λ_ j7=>zae u31 j7 ?_;rw [hn]
 have hV:MI w2 w3 w2.heap.size w2.heap.size w2.heap.size n (.slice none 0 0) [] (List.replicate n ⟨.slice none 0 0⟩) (upT T 0):=by
   obtain ⟨F,hM,_⟩:=j5.own;obtain ⟨b,o,cap,xs,hv,gQ,_⟩:=zd2 hM (by intro e;have:=qax List.length e;simp at this;omega);simp only [Value.slice.injEq,qao,Addr.mk.injEq,qbk,and_true] at hv;obtain ⟨⟨hb,ho⟩,_⟩:=hv;rw [<-hb] at gQ;rw [gQ] at hM
   exact ⟨h6,zb7 _ _ _ _,lr _,qaz _,j6,hM,lr _,.inr (lr _),sS,λk hk=>⟨0,0,by
     have:upT T 0 k=[]:=by unfold upT;rw [qab oo]
     rw [this,qb6];exact zc8 none,oo,oo,oo⟩⟩
 generalize hg:w2.heap.size=g at hV ⊢;refine zap n (λk us w'=>∃ (out:vL) (lo hi:Nat) (vs:List Raw),us=[out,.int .i64 (k:Int)]/\k<=n/\MI w2 w' lo hi g n out (gT T k) vs (upT T k)) 0 (z0 _) ⟨_,_,_,_,rfl,z0 _,hV⟩ ?_;rintro t mk u _ _ ⟨out,lo,hi,vs,hu,_,gR⟩;obtain ⟨j8,j9⟩:=zcZ hu;clear hu;rw [j8,j9];refine zaf<|br (λ_=>?_) (λ_=>?_)
 case refine_2=>
   have:t=n:=oo;subst this;have hgl:(gT T t).length<=5184:=zzR gc oo;refine (zoI gR.row.is (xrf _) oo).mono ?_;rintro r w' ⟨gS,ho⟩;have:=gR.ext;have hs4:=this.size;have hs2:=h4.size;have ja:=h5.size;exact ⟨(h4.t h5).trans (this.trans gS),ho.mono oo⟩
 have O:t<n:=oo;refine JOIN.mk (λus w'=>∃ (vs:List Raw),MI w2 w' lo hi g n out (gT T t) vs (upT T (t+1))) ?_ ?_
 . have g0:=gR.ext;refine zab zch hB g0 λ_ jb=>?_;refine (ziH jb g0).mono ?_;rintro _ _ ⟨gS,rfl⟩;have h8:=g0.t gS;have g1:=h5.t h8;refine zab zbY hA g1 λ_ jc=>?_;refine (zh7 jc g1).mono ?_;rintro _ w6 ⟨hW,rfl⟩;have gd:=g1.t hW;have gU:=(gR.step gS).step hW;refine zbX (λh9=>?_) (λh9=>?_)
   . have U:=of_decide_eq_true h9;have ha:T t=zc7 c (zbg s t) 0:=by rw [hS,qah U.1]
     refine zab zbY hA gd λ_ jd=>?_;refine (zld jd gd hc U.1 oo io).mono ?_;rintro hd w7 ⟨je,he⟩;rw [<-ha] at he;have gV:=gU.step je;have jf:=gU.glt;have jg:=gU.h3;refine zjf u85 zDm O ?_;obtain ⟨b,a,cap,_,hv,hL⟩:=zxI gV.seen (k:=t) (by rw [gV.len];exact O);simp only [Value.slice.injEq,qao,Addr.mk.injEq,and_true] at hv;obtain ⟨⟨rfl,rfl⟩,_⟩:=hv;have e1:0+t*Rep.size Raw=t*1:=by rw [qa7];rfl
     rw [e1] at hL
     have hf:hd.oneCell'=true:=by
       obtain ⟨_,_,_,_,hh,_⟩:=zcE he.is;rw [hh];rfl
     refine ze7 (y':=(⟨hd⟩:Raw)) zDm hL ⟨⟨[hd],⟨rfl,rfl,hf⟩,rfl⟩,qav,Wr.nil _⟩ λ_ F' jh hX ji=>?_
     have jj:F'=[g]:=by
       obtain ⟨b,o,cap,xs,hv,gQ,_⟩:=zd2 hX (by intro e;have h:=qax List.length e;rw [qaW,gV.len] at h;simp only [qaC] at h;omega);subst gQ;have:=ji b sS;simpa using this
     subst jj;refine ⟨_,gV.store O jh hX (T':=upT T (t+1)) (a:=w6.heap.size) (b:=w7.heap.size) ?_ jg jf ?_⟩
     . have:upT T (t+1) t=T t:=by unfold upT;rw [qah oo]
       rw [this];exact he.toI
     intro k hk;unfold upT;by_cases h:k<t
     . rw [qah h,qah oo]
     rw [qab h,qab oo]
   have U:=of_decide_eq_false h9
   have ha:T t=[]:=by
     rw [hS,qab λh=>U ⟨h,(gY t).2⟩]
   have:upT T (t+1)=upT T t:=by
     funext k;unfold upT;by_cases h:k=t
     . subst h;rw [qah oo,qab oo,ha]
     by_cases h2:k<t
     . rw [qah h2,qah oo]
     rw [qab h2,qab oo]
   exact ⟨vs,by rw [this];exact gU⟩
 rintro _ _ ⟨vs,g2⟩;have hj:∀ u,u<=t->upT T (t+1) u=T u:=λu hu=>by unfold upT;rw [qah oo]
 generalize hT':upT T (t+1)=T' at *;refine zad u85 zDm (α:=Raw) (i:=t) g2.seen.is (by rw [g2.len];exact O) λ_ _ jk=>zab zDm jk (xrf _) λjl jm=>?_
 have gf:jl=(vs[t]'(by rw [g2.len];exact O)).v:=by
   obtain ⟨F,cs,⟨_,rfl,_⟩,hv⟩:=jm;exact hv
 have gW:∀ {w:wD} {lo hi:Nat} {out:vL} {L:List DRace} (hM:MI w2 w lo hi g n out L vs T') (u:Nat) (hu:u<=t),Is w (vs[u]'(by rw [g2.len];omega)).v (T u):=λhM u hu=>by
   obtain ⟨_,_,ho,_⟩:=hM.el u (by rw [hM.len];omega);have:=ho.is;rwa [hj u hu] at this
 refine zae (l:=T t) u88 (by rw [gf];exact gW g2 t (lr _)) ?_;have hsn:(T t).length<=12:=gc t;refine zap (T t).length (λk us w'=>∃ (out:vL) (lo hi:Nat),us=[out,.int .i64 (k:Int)]/\k<=(T t).length/\MI w2 w' lo hi g n out (gT T t++gA (zkO T t) ((T t).take k)) vs T') 0 (z0 _) ⟨out,lo,hi,rfl,z0 _,by simpa [gA] using g2⟩ ?_;rintro i hl _ gX _ ⟨X,g3,g4,hq,_,D⟩;obtain ⟨gg,gh⟩:=zcZ hq;rw [gg,gh];refine zaf<|br (λ_=>?_) (λ_=>?_)
 case refine_2=>
   have jn:i=(T t).length:=oo;subst jn;refine zau<|⟨mk-1,oo,t+1,oo,X,g3,g4,vs,rfl,oo,?_⟩;rw [hT'];have e:gT T (t+1)=gT T t++gA (zkO T t) (T t):=zeT t;rw [e];rw [qaB] at D;exact D
 have hi':i<(T t).length:=oo;refine zad u88 zhY (i:=i) (by rw [gf];exact gW D t (lr _)) hi' λ_ _ jo=>zab zhY jo (xrf _) λ_ jp=>zeC (α:=DTouch) zG1 λ_ gi gj=>?_;have hY:=gj.lt;refine zbH (lo:=0) (hi:=0) zhY gj (zf4 (jp.ext gi)) (.inr (z0 _)) λjq hr ht=>?_;have hw:Ext gX jq:=gi.chgI hr (lr _);have hx:=D.step hw;generalize hag:(T t)[i]=a at *;have gl:g3<=gX.heap.size/\g4<=gX.heap.size:=⟨by have:=D.h2;have:=D.h3;omega,D.h3⟩;generalize gX.heap.size=g10 at *;refine zzd (α:=Raw) u85 zDm (b:=g) (o:=0) (k:=t) (n:=n) (cap:=n) oo (lr _)<|zmy u85<|zap t (λk us w'=>∃ (out:vL) (lo hi:Nat),us=[out,.int .i64 (k:Int)]/\k<=t/\MI w2 w' lo hi g n out (gT T t++gA (zkO T t) ((T t).take i)++((zkO T t).take k).flatMap (gB a)) vs T'/\VarI 0 0 w' g10 a/\(g10<lo\/hi<=g10)) 0 (z0 _) ⟨X,g3,g4,rfl,z0 _,by simpa using hx,ht,.inr gl.2⟩ ?_;rintro u hy _ _ _ ⟨Y,gp,gq,hz,jr,I,hC,hD⟩;obtain ⟨gr,gs⟩:=zcZ hz;rw [gr,gs];have gt:(zkO T t).length=t:=by simp [zkO]
 refine zaf<|br (λ_=>?_) (λ_=>?_)
 case refine_2=>
   have jr:u=t:=oo;refine zau<|⟨hl-1,oo,i+1,oo,Y,gp,gq,rfl,oo,?_⟩
   have e:gA (zkO T t) ((T t).take (i+1))=gA (zkO T t) ((T t).take i)++(zkO T t).flatMap (gB a):=by
     unfold gA;rw [zct hi',hag];rfl
   rw [e,<-qaw];rw [show (zkO T t).take u=zkO T t from qaf oo] at I;exact I
 have hZ:u<t:=oo;have gx:(zkO T t)[u]'(by rw [gt];exact hZ)=T u:=by simp [zkO]
 refine zad u85 zDm (α:=Raw) (i:=u) (I.row_at oo oo) (by rw [qaj,I.len];omega) λ_ _ js=>zab zDm js (xrf _) λjt ju=>?_
 have gy:jt=(vs[u]'(by rw [g2.len];omega)).v:=by
   obtain ⟨F,cs,⟨_,rfl,_⟩,hv⟩:=ju;simpa [mkv,Rep.agg] using hv
 refine zae (l:=T u) u88 (by rw [gy];exact gW I u oo)<|zap (T u).length (λk us w'=>∃ (out:vL) (lo hi:Nat),us=[out,.int .i64 (k:Int)]/\k<=(T u).length/\MI w2 w' lo hi g n out (gT T t++gA (zkO T t) ((T t).take i)++((zkO T t).take u).flatMap (gB a)++((T u).take k).flatMap (clR a)) vs T'/\VarI 0 0 w' g10 a/\(g10<lo\/hi<=g10)) 0 (z0 _) ⟨Y,gp,gq,rfl,z0 _,by simpa using I,hC,hD⟩ ?_;rintro j gz _ jv _ ⟨Z,gC,gD,hF,j0,V,gE,g5⟩;obtain ⟨gF,gG⟩:=zcZ hF;rw [gF,gG];have hsu:(T u).length<=12:=gc u;refine zaf<|br (λ_=>?_) (λ_=>?_)
 case refine_2=>
   have j0:j=(T u).length:=oo;subst j0;refine zau<|⟨hy-1,oo,u+1,oo,Z,gC,gD,rfl,oo,?_,gE,g5⟩;rw [zct (by rw [gt];exact hZ),gx,<-qaw];rw [qaB] at V;exact V
 have hG:j<(T u).length:=oo;refine zad u88 zhY (i:=j) (by rw [gy];exact gW V u oo) hG λ_ _ jw=>zab zhY jw (xrf _) λ_ jx=>zeC (α:=DTouch) zG1 λ_ gH gI=>?_;have j1:=gI.lt;refine zbH (lo:=0) (hi:=0) zhY gI (zf4 (jx.ext gH)) (.inr (z0 _)) λj2 hH gJ=>?_;have gK:Ext jv j2:=gH.chgI hH (lr _);have hI:=V.step gK;have gM:VarI 0 0 j2 g10 a:=gE.ext gK;generalize hbg:(T u)[j]=b at *;refine zfE zhY gM (xrf _) λ_ jy=>zfE zhY gJ (xrf _) λ_ jz=>?_;refine (zvo jy.is (xrf _) jz.is (xrf _)).mono ?_;rintro _ _ ⟨C,rfl⟩;have gN:=hI.step C;refine zbX (λhJ=>?_) (λhJ=>?_)
 . have g9:=of_decide_eq_true hJ;refine zfE zhY gM C λ_ jA=>zfE zhY gJ C λ_ jB=>?_;refine (zrU jA.is C jB.is C).mono ?_;rintro _ jC ⟨gb,hK⟩;have gO:=gN.step gb
   have jD:(gT T t++gA (zkO T t) ((T t).take i)++((zkO T t).take u).flatMap (gB a)++((T u).take j).flatMap (clR a)).length<=10000:=by
     have q1:=zzR gc (n:=t) oo
     have j3:∀ L∈zkO T t,L.length<=12:=λL hL=>by
       simp only [zkO,qa3] at hL;obtain ⟨u,_,rfl⟩:=hL;exact gc u
     have q2:=zDP (Ls:=zkO T t) (xs:=(T t).take i) oo j3 (by rw [qaj];omega);have q3:=zDO (Ls:=(zkO T t).take u) a (by rw [qaj];omega) λL hL=>j3 L (qbh hL);have q4:=zvs a (bs:=(T u).take j) (by rw [qaj];omega);unfold gL at q3;unfold gB at q4;simp only [qag];unfold gB at *;omega
   refine zek u30 zdG z41 zAP qd gO.row (hK 0 0) (by rw [zaj];omega) oo λjE _ hN hO gP hP hQ=>?_;have hR:=gO.push gP hP hQ;refine zau ?_;have hgs:g10<jC.heap.size:=by have:=gM.lt;have:=C.size;have:=gb.size;omega
   refine ⟨gz-1,oo,j+1,oo,jE,hN,hO,rfl,oo,?_,(((gM.ext C).ext gb).chg gP (.inl (z0 _)) g5),oo⟩;rw [zct hG,<-qaw];have:clR a (T u)[j]=[zer a b]:=by rw [hbg];unfold clR;rw [qah g9]
   rw [this];exact hR
 have g9:=of_decide_eq_false hJ;refine zau<|⟨gz-1,oo,j+1,oo,Z,gC,gD,rfl,oo,?_,gM.ext C,g5⟩;rw [zct hG];have:clR a (T u)[j]=[]:=by rw [hbg];unfold clR;rw [qab g9]
 rw [this,qaF];exact gN
def zFd {a b:DTouch} (ha:a.held=0) (hb:b.held=0):zd4 a b↔a.global=b.global/\(a.write=true\/b.write=true):=by
 unfold zd4;rw [ha,hb];constructor
 . exact λh=>⟨h.1,h.2.1⟩
 exact λh=>⟨h.1,h.2,oo,oo,qd⟩
def zwG (h0:Is W0 v0 c) (e0:Ext W0 w) (h1:Is W1 v1 s) (e1:Ext W1 w) (hc:CodeR c) (hs:zaV c s) :
   CALL tp 25 [v0,v1] w λr w'=>Ext w w'/\Own w.heap.size w' r (zgi c s):=by
 have hn6:=hs.2.2.1;have gj:=zzS s hc;have hI:=@zFb c s;have gl:=ziq hs;have hZ:=hc.2.1.2.1;have gO:∀ t,tA c s t=if 0<=zbg s t then zc7 c (zbg s t) 0 else []:=λt=>rfl;rw [<-zFc];generalize tA c s=T at *;refine co (g:=kf [(20,38685625939437757438885888,[])] [(3,10141204801825835211973625610208,[5,6]),(6,10141204801825835211973617287072,[5,7]),(14,10141204801825835141604881494048,[5,12]),(17,10141204801825830708373998297120,[5,13])] [(19,[0,1,2,3,4,5,6,7,8,9,10,11,12,13,14,15,16,17,18,19,20,21,22,23,24,25,26],0)]) Tryz.func25 ?_;refine zbp h0 e0 λ_ gS hJ=>zbp h1 (e1.trans gS) λw2 gU hB=>zaD (α:=DRace) u30 zdG λ_ _ hK j0=>?_;have hs1:=gS.size;have hs2:=gU.size;have j1:=hK.size;generalize hn:s.stacks.length=n at *;refine zap n (λk us w'=>∃ (out:vL),us=[out,.int .i64 (k:Int)]/\k<=n/\Ext w2 w'/\Own w2.heap.size w' out (zcX (hT T k))) 0 (z0 _) ⟨_,rfl,z0 _,hK,(j0.own.mono (lo':=w2.heap.size) j1 (lr _)).own⟩ ?_;rintro t mk _ _ _ ⟨out,hu,_,gV,gW⟩;obtain ⟨j2,j3⟩:=zcZ hu;rw [j2,j3];refine zaa zbc<|zab zeV (zaB hB) gV λ_ j4=>zae u31 j4 ?_;rw [hn];refine zaf<|br (λ_=>?_) (λ_=>?_)
 case refine_2=>
   have gX:t=n:=oo;rw [gX] at gW;exact ⟨(gS.t gU).trans gV,gW.mono oo⟩
 have j5:t<n:=oo;have hLt:(hT T t).length<=5184:=zGN gj oo;refine zap t (λk us w'=>∃ (out:vL),us=[out,.int .i64 (k:Int)]/\k<=t/\Ext w2 w'/\Own w2.heap.size w' out (zcX (hT T t++hU T (T t) k))) 0 (z0 _) ⟨out,rfl,z0 _,gV,by simpa [hU] using gW⟩ ?_;rintro u gY _ _ _ ⟨V,j6,_,gP,gZ⟩;obtain ⟨h2,h4⟩:=zcZ j6;rw [h2,h4];refine zaf<|br (λ_=>?_) (λ_=>?_)
 case refine_2=>
   have h5:u=t:=oo;rw [h5] at gZ;refine zau<|⟨mk-1,oo,t+1,oo,V,rfl,oo,gP,?_⟩;have e:hT T (t+1)=hT T t++hU T (T t) t:=zeT t;rw [e];exact gZ
 have j7:u<t:=oo;have hLu:(hU T (T t) u).length<=864:=zDR gj (gj t) oo;have h6:hU T (T t) (u+1)=hU T (T t) u++hA (T u) (T t):=zeT u;refine zab zch hB gP λ_ j8=>?_;refine (zgQ j8 gP).mono ?_;rintro _ _ ⟨hL,rfl⟩;have g9:=gP.t hL;refine zab zch hB g9 λ_ j9=>?_;refine (zgQ j9 g9).mono ?_;rintro _ _ ⟨hM,rfl⟩;have X:=g9.t hM;have h8:=(gZ.ext hL).ext hM;refine zaf<|br (λja=>?_) (λja=>?_)
 . refine zau ?_;refine ⟨gY-1,oo,u+1,oo,V,rfl,oo,X,?_⟩;have e:T t=[]:=by rw [gO,qab oo]
   have:hA (T u) (T t)=[]:=by rw [e];rfl
   rw [h6,this,qaF];exact h8
 refine zaf<|br (λjb=>?_) (λjb=>?_)
 . refine zau ?_;refine ⟨gY-1,oo,u+1,oo,V,rfl,oo,X,?_⟩;have e:T u=[]:=by rw [gO,qab oo]
   have:hA (T u) (T t)=[]:=by
     rw [e];unfold hA gB;simp
   rw [h6,this,qaF];exact h8
 have jc:T t=zc7 c (zbg s t) 0:=by rw [gO,qah oo]
 have jd:T u=zc7 c (zbg s u) 0:=by rw [gO,qah oo]
 have ha9:=gl t;have hb9:=gl u;have C:=gU.t X;refine zab zbY hJ C λ_ je=>?_;refine (zvm je C hc oo oo io).mono ?_;rintro jf _ ⟨h9,hN⟩;have gp:=C.t h9;refine zab zbY hJ gp λ_ jg=>?_;refine (zvm jg gp hc oo oo io).mono ?_;rintro jh gi ⟨gb,gq⟩;rw [<-jc] at hN;rw [<-jd] at gq;have Y:Is gi jf (T t):=hN.is.ext gb;have gc:Is gi jh (T u):=gq.is;have g4:=(X.t h9).trans gb;have hsn:(T t).length<=12:=gj t;have ji:(T u).length<=12:=gj u;refine zap (T t).length (λk us w'=>∃ (out:vL),us=[out,.int .i64 (k:Int)]/\k<=(T t).length/\Ext gi w'/\Own w2.heap.size w' out (zcX (hT T t++hU T (T t) u++hA (T u) ((T t).take k)))) 0 (z0 _) ⟨V,rfl,z0 _,xrf _,by simpa [hA] using (h8.ext h9).ext gb⟩ ?_;rintro i ha _ _ _ ⟨g5,hb,_,gr,gd⟩;obtain ⟨gs,gt⟩:=zcZ hb;rw [gs,gt];refine zae u88 Y<|zaf<|br (λ_=>?_) (λ_=>?_)
 case refine_2=>
   have hd:i=(T t).length:=oo;rw [hd,qaB] at gd;refine zau<|⟨gY-1,oo,u+1,oo,g5,rfl,oo,g4.t gr,?_⟩;rw [h6,<-qaw];exact gd
 have hi':i<(T t).length:=oo;have hLi:(hA (T u) ((T t).take i)).length<=144:=zDQ ji (by rw [qaj];omega);generalize hag:(T t)[i]=a at *;have gx:=hI (t:=t) (x:=a) (by rw [<-hag];exact qac _);refine zap (T u).length (λk us w'=>∃ (out:vL),us=[out,.int .i64 (k:Int)]/\k<=(T u).length/\Ext gi w'/\Own w2.heap.size w' out (zcX (hT T t++hU T (T t) u++hA (T u) ((T t).take i)++((T u).take k).flatMap (clR a)))) 0 (z0 _) ⟨g5,rfl,z0 _,gr,by simpa using gd⟩ ?_;rintro j Z _ gQ _ ⟨U,he,_,g0,g1⟩;obtain ⟨gy,gz⟩:=zcZ he;rw [gy,gz];refine zae u88 gc<|zaf<|br (λ_=>?_) (λ_=>?_)
 case refine_2=>
   have hf:j=(T u).length:=oo;rw [hf,qaB] at g1;refine zau<|⟨ha-1,oo,i+1,oo,U,rfl,oo,g0,?_⟩
   have e:hA (T u) ((T t).take (i+1))=hA (T u) ((T t).take i)++(T u).flatMap (clR a):=by
     unfold hA;rw [zct hi',hag];rfl
   rw [e,<-qaw];exact g1
 have gR:j<(T u).length:=oo;have hLj:(((T u).take j).flatMap (clR a)).length<=12:=zvs a (bs:=(T u).take j) (by rw [qaj];omega);generalize hbg:(T u)[j]=b at *;have gC:=hI (t:=u) (x:=b) (by rw [<-hbg];exact qac _);have g2:=zFd gx.2 gC.2
 have hP:∀ w',Ext gQ w'->¬zd4 a b->∃ (out:vL),[U,Value.int .i64 ((j+1:Nat):Int)]=[out,.int .i64 ((j+1:Nat):Int)]/\j+1<=(T u).length/\Ext gi w'/\Own w2.heap.size w' out (zcX (hT T t++hU T (T t) u++hA (T u) ((T t).take i)++((T u).take (j+1)).flatMap (clR a))):=λw' hx hn=>by
   refine ⟨U,rfl,oo,g0.t hx,?_⟩;have:clR a b=[]:=by unfold clR;rw [qab hn]
   rw [zct gR,hbg,this,qaF];exact g1.ext hx
 refine JOIN.mk (λus w'=>Ext gQ w'/\zd4 a b) ?_ ?_
 . have C:=zag gQ;generalize World.drew1 gQ=w18 at *;have D:=g0.t C;refine zad u88 zhY (i:=i) Y hi' λb2 o2 gD=>zaa zn9 ?_;rw [hag] at gD;refine zac ty3 (zeE gD) D λ_=>zad u88 zhY (i:=j) gc gR λ_ _ hQ=>zaa zn9 ?_;rw [hbg] at hQ;refine zac ty3 (zeE hQ) D λ_=>zaT<|br (λjj=>?_) (λjk=>?_)
   . refine zau ?_;exact ⟨Z-1,oo,j+1,oo,hP w18 C λh=>jj (g2.1 h).1⟩
   have gE:=qai.1 jk;refine zad u88 zhY (i:=i) Y hi' λ_ _ hR=>zaa zut ?_;rw [hag] at hR;refine zbi ty4 (zgM hR) D<|za2<|zxE (λhg=>?_) (λhg=>?_)
   . refine zad u88 zhY (i:=j) gc gR λ_ _ hS=>?_;refine zaa zut ?_;rw [hbg] at hS;refine zbi ty4 (zgM hS) D<|za2<|zbX (λhh=>?_) (λhh=>?_)
     . refine zau ?_;refine ⟨Z-1,oo,j+1,oo,hP w18 C λh=>?_⟩;rcases (g2.1 h).2 with h | h<;>simp [h] at hg hh
     exact ⟨C,g2.2 ⟨gE,.inr (by simpa using hh)⟩⟩
   exact ⟨C,g2.2 ⟨gE,.inl (by simpa using hg)⟩⟩
 rintro _ gF ⟨gG,jl⟩;have I:=g0.t gG;have gH:=g1.ext gG;refine zad u88 zhY (i:=i) Y hi' λb2 o2 gD=>zaa zn9 ?_;rw [hag] at gD;refine zac ty3 (zeE gD) I λhj=>zaF (cells:=#[.int .i64 a.global,.int .i64 (zbg s t),.int .i64 (zbg s u)]) kK<|zeC (α:=DRace) zHc λjm hk gI=>?_;have hV:=gI.lt;have hm:∀ (w:wD) lo hi,OwnI lo hi w (.agg #[.int .i64 a.global,.int .i64 (zbg s t),.int .i64 (zbg s u)]) (⟨a.global,zbg s t,zbg s u⟩:DRace):=λw lo hi=>⟨[],zqO (x:=⟨a.global,zbg s t,zbg s u⟩) hj (by unfold I64;simp only;omega) (by unfold I64;simp only;omega),sS⟩;refine zbH (lo:=gF.heap.size) (hi:=gF.heap.size) zdG gI (hm jm _ _) (.inr (lr _)) λhW hl gJ=>?_;have g3:Ext gF hW:=hk.chgI hl (lr _)
 have O:zer a b=if zbg s u<zbg s t then ⟨a.global,zbg s u,zbg s t⟩ else ⟨a.global,zbg s t,zbg s u⟩:=by
   unfold zer;rw [gx.1,gC.1];split
   . rw [Int.min_eq_right oo,Int.max_eq_left oo]
   rw [Int.min_eq_left oo,Int.max_eq_right oo]
 have hq:clR a b=[zer a b]:=by unfold clR;rw [qah jl]
 have jn:(zcX (hT T t++hU T (T t) u++hA (T u) ((T t).take i)++((T u).take j).flatMap (clR a))).length<=10000:=by
   refine qat (zm3 _) ?_;simp only [qag];omega
 have jo:=g4.size;have jp:=I.size
 have gK:∀ (r:vL) (w' w'':wD),Ext gF w'->Ext w' w''->OwnI w2.heap.size w''.heap.size w'' r (zm1 (zer a b) (zcX (hT T t++hU T (T t) u++hA (T u) ((T t).take i)++((T u).take j).flatMap (clR a)))) ->
     ∃ (out:vL),[r,Value.int .i64 ((j+1:Nat):Int)]=[out,.int .i64 ((j+1:Nat):Int)]/\j+1<=(T u).length/\Ext gi w''/\Own w2.heap.size w'' out (zcX (hT T t++hU T (T t) u++hA (T u) ((T t).take i)++((T u).take (j+1)).flatMap (clR a))):=λr w' w'' hx hy ho=>by
   refine ⟨r,rfl,oo,(I.t hx).trans hy,?_⟩;rw [zct gR,hbg,hq,<-qaw,zoD];exact ho.own
 refine zcO<|br (λjq=>?_) (λjr=>?_)
 . rw [qah jq] at O;obtain ⟨_,hO,hF⟩:=gJ;refine zaa zlX ?_;obtain ⟨_,js⟩:=zqM (Lens.var hO);refine zuJ ty3 js hF (lr _) (lr _) (zbt (x:=zbg s u) io) λhX hr ht=>?_;obtain ⟨_,jt,ju⟩:=ht;refine zaa zq2 ?_;obtain ⟨_,jv⟩:=zqN (Lens.var jt);refine zuJ ty3 jv ju (lr _) (lr _) (zbt (x:=zbg s t) io) λhY hv hw=>?_;have gf:Ext gF hY:=(g3.chgI hr (lr _)).chgI hv (lr _);refine zfE zdG hw (xrf _) λhz gg=>?_;have hC:=gH.ext gf;refine (zrW hC.toI (by have:=gf.size;omega) gg.is (xrf _) oo).mono ?_;rintro gh jw ⟨hD,gM⟩;rw [<-O] at gM;refine zau<|⟨Z-1,oo,j+1,oo,gK gh hY jw gf hD gM⟩
 rw [qab jr] at O;refine zfE zdG gJ (xrf _) λhz gg=>?_;have hG:=gH.ext g3;refine (zrW hG.toI (by have:=g3.size;omega) gg.is (xrf _) oo).mono ?_;rintro gh hX ⟨hH,gN⟩;rw [<-O] at gN;refine zau<|⟨Z-1,oo,j+1,oo,gK gh hW hX g3 hH gN⟩
def zGO (c:DCode) (s:DState):Prop:=(CodeR c/\zaV c s)/\zgi c s=[]/\zty c s s.stacks.length=0
instance (c:DCode) (s:DState):Decidable (zGO c s):=by unfold zGO;infer_instance
def zwH {α:Type} [DecidableEq α] (s:α):List α->Int
 | []=>-1
 | x :: l=>if x=s then 0 else if zwH s l<0 then -1 else zwH s l+1
section
variable {α:Type} [DecidableEq α] {s:α}
theorem zrZ {l:List α} (h:s∉l):zwH s l=-1:=by
 induction l with
 | nil=>rfl
 | cons x l ih=>
   simp only [qaa,not_or] at h;rw [zwH,qab (λe=>h.1 e.symm),ih h.2];rfl
theorem ztK:∀ {l:List α} {k:Nat} (hk:k<l.length),s∉l.take k->l[k]=s->zwH s l=k
 | x :: l,0,_,_,h=>by simp only [qb3] at h;rw [zwH,qah h];rfl
 | x :: l,k+1,hk,hn,h=>by
   simp only [qcm,qaa,not_or] at hn;have ih:=ztK (by simpa using hk) hn.2 (by simpa using h);rw [zwH,qab (λe=>hn.1 e.symm),ih,qab oo];omega
theorem zlG {l:List α}:0<=zwH s l↔s∈l:=by
 induction l with
 | nil=>simp [zwH]
 | cons x l ih=>
   rw [zwH];split
   . rename_i h;simp [h]
   rename_i h;rw [qaa,<-ih];have:¬s=x:=λe=>h e.symm;simp only [this,false_or];split<;>omega
omit [DecidableEq α] in
def zix {l:List α} {k:Nat} {y:α} (hk:k<l.length) (h:y∉l.take k) (c:¬l[k]=y):y∉l.take (k+1):=by
 rw [tk hk];simp only [qae,qaa,qad,qaq,not_or];exact ⟨h,λe=>c e.symm⟩
end
structure Tr where
 states:List DState
 ahead:List Int
 went:List Int
 whole:Bool
def zdM (f:Tr) (i:Nat):DState:=f.states.getD i ⟨[],[],[]⟩
def zdV {f:Tr} (h:i<f.states.length):f.states[i]=zdM f i:=by
 unfold zdM;rw [List.getD_eq_getElem?_getD,List.getElem?_eq_getElem h];rfl
def zdS (c:DCode) (M i t:Nat) (f:Tr):Tr×Bool:=
 if GoR c (zdM f i) t then
   if za1 c (zdM f i) t∈f.states then (f,false)
   else if f.states.length=M then (⟨f.states,f.ahead,f.went,false⟩,true)
   else (⟨f.states++[za1 c (zdM f i) t],f.ahead++[(i:Int)],f.went++[(t:Int)],f.whole⟩,false)
 else (f,false)
def zeU (c:DCode) (M i:Nat):Nat->Nat->Tr->Tr×Bool
 | 0,_,f=>(f,false)
 | n+1,t,f=>if (zdS c M i t f).2 then zdS c M i t f else zeU c M i n (t+1) (zdS c M i t f).1
def zez (c:DCode) (M:Nat):Nat->Nat->Tr->Tr
 | 0,_,f=>f
 | n + 1, i, f => if i < f.states.length then
     if (zeU c M i (zdM f i).stacks.length 0 f).2 then (zeU c M i (zdM f i).stacks.length 0 f).1
     else zez c M n (i+1) (zeU c M i (zdM f i).stacks.length 0 f).1
   else f
def zgj (c:DCode) (M:Nat):Tr:=zez c M M 0 ⟨[zb2 c],[-1],[-1],true⟩
structure TrOk (c:DCode) (M:Nat) (f:Tr):Prop where
 right:∀ s∈f.states,zaV c s
 la:f.ahead.length=f.states.length
 lw:f.went.length=f.states.length
 many:1<=f.states.length/\f.states.length<=M
 back:∀ k (h:k<f.ahead.length),(k=0->f.ahead[k]=-1)/\(0<k->0<=f.ahead[k]/\f.ahead[k]<k)
 by_:∀ x∈f.went,-1<=x/\x<=6
def zvt (hc:CodeR c) {M:Nat} (hM:1<=M):TrOk c M ⟨[zb2 c],[-1],[-1],true⟩ where
 right s hs:=by simp only [qaa,qad,qaq] at hs;exact hs▸zfO hc
 la:=rfl
 lw:=rfl
 many:=⟨qaz _,hM⟩
 back k h:=by
   have:k=0:=by simpa using h
   subst this;exact ⟨λ_=>rfl,λh=>oo⟩
 by_ x hx:=by simp only [qaa,qad,qaq] at hx;omega
def TrOk.push {M i t:Nat} {f:Tr} (h:TrOk c M f) (hc:CodeR c) (hi:i<f.states.length) (hg:GoR c (zdM f i) t) (ht:t<=6) (hM:f.states.length≠M) :
   TrOk c M ⟨f.states++[za1 c (zdM f i) t],f.ahead++[(i:Int)],f.went++[(t:Int)],f.whole⟩ where
 right s hs:=by
   rcases qae.1 hs with hs | hs
   . exact h.right s hs
   simp only [qaa,qad,qaq] at hs;rw [hs];exact zgz hc (h.right _ (by rw [<-zdV hi];exact qac hi)) hg
 la:=by simp [h.la]
 lw:=by simp [h.lw]
 many:=by
   have:=h.many;simp only [qag,qak,qaC];omega
 back k hk:=by
   have:=h.la;simp only [qag,qak,qaC] at hk;rcases qay k f.ahead.length with hl | hl
   . simp only [List.getElem_append_left hl];exact h.back k hl
   have he:k=f.ahead.length:=oo;have:=h.many;subst he;simp only [List.getElem_append_right (lr _),qcE,qb3];exact ⟨λh=>oo,λ_=>oo⟩
 by_ x hx:=by
   rcases qae.1 hx with hx | hx
   . exact h.by_ x hx
   simp only [qaa,qad,qaq] at hx;omega
def TrOk.not {M:Nat} {f:Tr} (h:TrOk c M f):TrOk c M ⟨f.states,f.ahead,f.went,false⟩:=⟨h.right,h.la,h.lw,h.many,h.back,h.by_⟩
section
variable {c:DCode} {M i t q n:Nat} {f:Tr}
def zoJ (h:(zdS c M i t f).2=true):zeU c M i (q+1) t f=zdS c M i t f:=by rw [zeU,qah h]
def zii {f':Tr} (h:zdS c M i t f=(f',false)):zeU c M i (q+1) t f=zeU c M i q (t+1) f':=by rw [zeU,h];simp
def zvu (h:¬GoR c (zdM f i) t):zdS c M i t f=(f,false):=qab h
def zr0 (h:GoR c (zdM f i) t) (h2:za1 c (zdM f i) t∈f.states):zdS c M i t f=(f,false):=by rw [zdS,qah h,qah h2]
def zoK (h:GoR c (zdM f i) t) (h2:za1 c (zdM f i) t∉f.states) (h3:f.states.length=M):zdS c M i t f=(⟨f.states,f.ahead,f.went,false⟩,true):=by rw [zdS,qah h,qab h2,qah h3]
def zr1 (h:GoR c (zdM f i) t) (h2:za1 c (zdM f i) t∉f.states) (h3:¬f.states.length=M):zdS c M i t f=(⟨f.states++[za1 c (zdM f i) t],f.ahead++[(i:Int)],f.went++[(t:Int)],f.whole⟩,false):=by rw [zdS,qah h,qab h2,qab h3]
def zm4 (hi:i<f.states.length) {f':Tr} (h:zeU c M i (zdM f i).stacks.length 0 f=(f',true)):zez c M (n+1) i f=f':=by rw [zez,qah hi,h];simp
def zm5 (hi:i<f.states.length) {f':Tr} (h:zeU c M i (zdM f i).stacks.length 0 f=(f',false)):zez c M (n+1) i f=zez c M n (i+1) f':=by rw [zez,qah hi,h];simp
theorem zoL (hi:f.states.length<=i):zez c M n i f=f:=by
 cases n with
 | zero=>rfl
 | succ n=>rw [zez,qab oo]
def zfa {s:DState} {a b:List Int} {w:Bool} (hi:i<f.states.length):zdM ⟨f.states++[s],a,b,w⟩ i=zdM f i:=by
 unfold zdM;simp only [List.getD_eq_getElem?_getD];rw [List.getElem?_append_left hi]
end
def zbN (n lo hi:Int):Int:=if n<lo\/hi<lo then lo else min n hi
def zkP (n:Int):1<=zbN n 1 150/\zbN n 1 150<=150:=by
 unfold zbN;split<;>omega
end Go.Proofs.YtkgiigmcbgifdaaGreat
namespace Go.Sh
open Rep (rep)
variable {F F0 G:List Nat} {b o:Nat} {c0 cs:List vL} {w:wD}
abbrev RSts:=RV DState 43
structure DTrail where
 states:RSts
 ahead:RInts
 went:RInts
 whole:Bool
def DTrail.ext_iff {x y:DTrail}:x=y↔(x.states=y.states/\x.ahead=y.ahead/\x.went=y.went/\x.whole=y.whole):=⟨λh=>by rw [h];exact ⟨rfl,rfl,rfl,rfl⟩,λh=>by obtain ⟨h0,h1,h2,h3⟩:=h;cases x;cases y;simp only at h0 h1 h2 h3;simp only [h0,h1,h2,h3]⟩
instance:Rep DTrail:=Rep.via λx=>(x.states,x.ahead,x.went,x.whole)
def zaU {x:DTrail} (h:At w b o x):At w b (o+0) x.states:=zcn (α:=RSts) (β:=RInts×RInts×Bool) (p:=(x.states,x.ahead,x.went,x.whole)) h
def zm6 {x:DTrail} (h:At w b o x):At w b (o+1) x.ahead:=zcn (α:=RInts) (β:=RInts×Bool) (p:=(x.ahead,x.went,x.whole)) (za7 (α:=RSts) (β:=RInts×RInts×Bool) (p:=(x.states,x.ahead,x.went,x.whole)) h)
def zm7 {x:DTrail} (h:At w b o x):At w b (o+2) x.went:=zcn (α:=RInts) (β:=Bool) (p:=(x.went,x.whole)) (za7 (α:=RInts) (β:=RInts×Bool) (p:=(x.ahead,x.went,x.whole)) (za7 (α:=RSts) (β:=RInts×RInts×Bool) (p:=(x.states,x.ahead,x.went,x.whole)) h))
def zm8 {x:DTrail} (h:At w b o x):At w b (o+3) x.whole:=za7 (α:=RInts) (β:=Bool) (p:=(x.went,x.whole)) (za7 (α:=RInts) (β:=RInts×Bool) (p:=(x.ahead,x.went,x.whole)) (za7 (α:=RSts) (β:=RInts×RInts×Bool) (p:=(x.states,x.ahead,x.went,x.whole)) h))
def zwI {x:DTrail} (h0:rep F0 w c0 x.states) {F1:List Nat} {c1:List vL} (h1:rep F1 w c1 x.ahead) {F2:List Nat} {c2:List vL} (h2:rep F2 w c2 x.went) {F3:List Nat} {c3:List vL} (h3:rep F3 w c3 x.whole):rep (F0++(F1++(F2++F3))) w (c0++(c1++(c2++c3))) x:=zaR h0 (zaR h1 (zaR h2 (h3)))
instance:RepZ DTrail:=⟨⟨(RepZ.zv:RSts),(RepZ.zv:RInts),(RepZ.zv:RInts),(RepZ.zv:Bool)⟩,RepZ.zc (RSts×RInts×RInts×Bool),λw=>RepZ.zr (α:=RSts×RInts×RInts×Bool) w⟩
def zjZ {γ:Type} {H:List Nat->wD->γ->Prop} {x:DTrail} {upd:DTrail->γ} (h:Lens H F w b o G x upd) :
   ∃ G1,Lens H F w b (o+0) G1 x.states (λy=>upd ⟨y,x.ahead,x.went,x.whole⟩):=by
 have h':Lens H F w b o G (x.states,x.ahead,x.went,x.whole) (λp:RSts×RInts×RInts×Bool=>upd ⟨p.1,p.2.1,p.2.2.1,p.2.2.2⟩):=⟨h.here,h.sub,λw' G' _ hc hO hs=>h.back w' G' _ hc hO hs⟩;obtain ⟨_,h'⟩:=h'.fst;exact ⟨_,h'⟩
def zj0 {γ:Type} {H:List Nat->wD->γ->Prop} {x:DTrail} {upd:DTrail->γ} (h:Lens H F w b o G x upd) :
   ∃ G1,Lens H F w b (o+1) G1 x.ahead (λy=>upd ⟨x.states,y,x.went,x.whole⟩):=by
 have h':Lens H F w b o G (x.states,x.ahead,x.went,x.whole) (λp:RSts×RInts×RInts×Bool=>upd ⟨p.1,p.2.1,p.2.2.1,p.2.2.2⟩):=⟨h.here,h.sub,λw' G' _ hc hO hs=>h.back w' G' _ hc hO hs⟩;obtain ⟨_,h'⟩:=h'.snd;obtain ⟨G1,h'⟩:=h'.fst;exact ⟨_,h'⟩
def zj1 {γ:Type} {H:List Nat->wD->γ->Prop} {x:DTrail} {upd:DTrail->γ} (h:Lens H F w b o G x upd) :
   ∃ G1,Lens H F w b (o+2) G1 x.went (λy=>upd ⟨x.states,x.ahead,y,x.whole⟩):=by
 have h':Lens H F w b o G (x.states,x.ahead,x.went,x.whole) (λp:RSts×RInts×RInts×Bool=>upd ⟨p.1,p.2.1,p.2.2.1,p.2.2.2⟩):=⟨h.here,h.sub,λw' G' _ hc hO hs=>h.back w' G' _ hc hO hs⟩;obtain ⟨_,h'⟩:=h'.snd;obtain ⟨G1,h'⟩:=h'.snd;obtain ⟨_,h'⟩:=h'.fst;exact ⟨_,h'⟩
def zj2 {γ:Type} {H:List Nat->wD->γ->Prop} {x:DTrail} {upd:DTrail->γ} (h:Lens H F w b o G x upd) :
   ∃ G1,Lens H F w b (o+3) G1 x.whole (λy=>upd ⟨x.states,x.ahead,x.went,y⟩):=by
 have h':Lens H F w b o G (x.states,x.ahead,x.went,x.whole) (λp:RSts×RInts×RInts×Bool=>upd ⟨p.1,p.2.1,p.2.2.1,p.2.2.2⟩):=⟨h.here,h.sub,λw' G' _ hc hO hs=>h.back w' G' _ hc hO hs⟩;obtain ⟨_,h'⟩:=h'.snd;obtain ⟨G1,h'⟩:=h'.snd;obtain ⟨_,h'⟩:=h'.snd;exact ⟨_,h'⟩
def zwJ {x:DTrail} (h:rep F w cs x):∃ F0 c0 F1 c1 F2 c2 F3 c3,F=(F0++(F1++(F2++F3)))/\cs=(c0++(c1++(c2++c3)))/\rep F0 w c0 x.states/\rep F1 w c1 x.ahead/\rep F2 w c2 x.went/\rep F3 w c3 x.whole:=by
 obtain ⟨F0,_,c0,_,rfl,rfl,h0,h⟩:=h;obtain ⟨F1,_,c1,_,rfl,rfl,h1,h⟩:=h;obtain ⟨F2,_,c2,_,rfl,rfl,h2,h⟩:=h;exact ⟨_,_,_,_,_,_,_,_,rfl,rfl,h0,h1,h2,h⟩
section
variable {w:wD}
def zoM {z:DTrail} {lo hi h0 h1:Nat} (m0:OwnI lo h0 w z.states.v z.states) (m1:OwnI h0 h1 w z.ahead.v z.ahead) (m2:OwnI h1 hi w z.went.v z.went) (hle:lo<=h0/\h0<=h1/\h1<=hi) :
   OwnI lo hi w (.agg #[z.states.v,z.ahead.v,z.went.v,.bool z.whole]) z:=by
 obtain ⟨F0,M0,B0⟩:=m0;obtain ⟨F1,M1,B1⟩:=m1;obtain ⟨F2,M2,B2⟩:=m2;refine ⟨F0++(F1++(F2++[])),⟨⟨[z.states.v,z.ahead.v,z.went.v,.bool z.whole],zwI (zbC rfl M0.own) (zbC rfl M1.own) (zbC rfl M2.own) ⟨rfl,rfl⟩,rfl⟩,?_,M0.wr.append (M1.wr.append (M2.wr.append (Wr.nil w)))⟩,λx hx=>?_⟩
 . rw [qaF,qas,qas];refine ⟨M0.nodup,⟨M1.nodup,M2.nodup,λp hp q hq e=>?_⟩,λp hp q hq e=>?_⟩
   . subst e;have:=B1 p hp;have:=B2 p hq;omega
   subst e;have:=B0 p hp;rcases qae.1 hq with hq | hq
   . have:=B1 p hq;omega
   have:=B2 p hq;omega
 rw [qaF] at hx;rcases qae.1 hx with hx | hx
 . have:=B0 x hx;omega
 rcases qae.1 hx with hx | hx
 . have:=B1 x hx;omega
 have:=B2 x hx;omega
def zr2 {lo hi:Nat} {v:vL} {z:DTrail} (h:OwnI lo hi w v z):v=.agg #[z.states.v,z.ahead.v,z.went.v,.bool z.whole]/\RowI lo hi 43 w z.states.v z.states.l/\RowI lo hi 3 w z.ahead.v z.ahead.l/\RowI lo hi 3 w z.went.v z.went.l:=by
 obtain ⟨_,⟨⟨_,hr,rfl⟩,hn,_⟩,hF⟩:=h;obtain ⟨F0,_,F1,_,F2,_,_,_,rfl,rfl,⟨rfl,h0⟩,⟨rfl,h1⟩,⟨rfl,h2⟩,⟨rfl,rfl⟩⟩:=zwJ hr;have n0:=zmo hn;have n1:=zmo n0.2.1;have n2:=zmo n1.2.1;exact ⟨rfl,zeZ.2 ⟨F0,h0,n0.1,λb hb=>hF b (by simp [hb])⟩,zeZ.2 ⟨F1,h1,n1.1,λb hb=>hF b (by simp [hb])⟩,zeZ.2 ⟨F2,h2,n2.1,λb hb=>hF b (by simp [hb])⟩⟩
end
def DTrail.er (z:DTrail):Go.Proofs.YtkgiigmcbgifdaaGreat.Tr:=⟨z.states.l,z.ahead.l,z.went.l,z.whole⟩
end Go.Sh
namespace Go.Proofs.YtkgiigmcbgifdaaGreat
open Go Go.Sh Go.Proofs
open Rep (rep)
variable {P:pG} {W0 W1 WA w:wD} {b ba f:Nat} {c:DCode} {s:DState} {v0 v1:vL}
def implBrought_ok {n:Int} {lo:Int} {hi:Int}    :
   CALL tp 109 [.int .i64 n,.int .i64 lo,.int .i64 hi] w λr w'=>Ext w w'/\(r=.int .i64 (zbN n lo hi)):=by
 refine co (g:=kf [] [] []) Tryz.func109 ?_;refine zaf<|br (λc1=>?_) (λc1=>?_)
 . refine ⟨xrf w,?_⟩
   first | (rw [show zbN n lo hi=lo from qah oo]) | (rw [show zbN n lo hi=min n hi from qab oo])
 refine zaf<|br (λc2=>?_) (λc2=>?_)
 . refine ⟨xrf w,?_⟩
   first | (rw [show zbN n lo hi=lo from qah oo]) | (rw [show zbN n lo hi=min n hi from qab oo])
 refine zDs<|⟨xrf w,?_⟩
 first | (rw [show zbN n lo hi=lo from qah oo]) | (rw [show zbN n lo hi=min n hi from qab oo])
def specBrought_ok {n:Int} {lo:Int} {hi:Int}    :
   CALL tp 120 [.int .i64 n,.int .i64 lo,.int .i64 hi] w λr w'=>Ext w w'/\(r=.int .i64 (zbN n lo hi)):=by
 refine co (g:=kf [] [] []) Tryz.func120 ?_;refine zaf<|br (λc1=>?_) (λc1=>?_)
 . refine ⟨xrf w,?_⟩
   first | (rw [show zbN n lo hi=lo from qah oo]) | (rw [show zbN n lo hi=min n hi from qab oo];congr 1;omega)
 refine zaf<|br (λc2=>?_) (λc2=>?_)
 . refine ⟨xrf w,?_⟩
   first | (rw [show zbN n lo hi=lo from qah oo]) | (rw [show zbN n lo hi=min n hi from qab oo];congr 1;omega)
 refine zcO<|br (λc3=>?_) (λc3=>?_)
 . refine ⟨xrf w,?_⟩
   first | (rw [show zbN n lo hi=lo from qah oo]) | (rw [show zbN n lo hi=min n hi from qab oo];congr 1;omega)
 refine ⟨xrf w,?_⟩
 first | (rw [show zbN n lo hi=lo from qah oo]) | (rw [show zbN n lo hi=min n hi from qab oo];congr 1;omega)
def zBU {l:(List DState)}  (h0:Is W0 v0 l) (e0:Ext W0 w) (h1:Is W1 v1 s) (e1:Ext W1 w)  :
   CALL tp 121 [v0,v1] w λr w'=>Ext w w'/\(r=.int .i64 (zwH s l)):=by
 refine co (g:=kf [] [(2,524272,[5])] [(4,[0,1,2,3,4,5],0)]) Tryz.func121 ?_;have:=zak h0;refine zax zch rfl h1 e1 λg0 y1 _ g1=>zap (l.length) (λk us w'=>us=[.int .i64 (k:Int)]/\Ext g0 w'/\(s∉l.take k)) (0) oo ⟨sS,xrf g0,sS⟩ ?_;rintro k m2 _ g2 _ ⟨hu,y2,C⟩;try replace hu:=zbv hu
 try rw [hu]
 try clear hu
 have:=zak h0;refine zae u46 h0<|zaf<|br (λc1=>?_) (λc1=>?_)
 . have y3:=zag g2;refine zad u46 zch h0 oo λ_ _ g3=>zab zch g3 (e0.t (y1.t (y2.t y3))) λ_ g4=>zbr g1 (y2.t y3) ?_;refine (zlk g4 (e0.t (y1.t (y2.t y3))) h1 (e1.trans (y1.t (y2.t y3)))).mono ?_;rintro _ _ ⟨y4,rfl⟩;refine br (λc2=>?_) (λc2=>?_)
   . refine ⟨(y1.t (y2.t (y3.t y4))),?_⟩;rw [ztK oo C c2]
   refine zau<|⟨m2-1,oo,k+1,oo,sS,(y2.t (y3.t y4)),?_⟩;exact zix oo C c2
 refine ⟨(y1.t y2),?_⟩;rw [qaf oo] at C;rw [zrZ C]
def zwK {x s:DState} (h0:Is W0 v0 x) (e0:Ext W0 w) (hA:At W1 b 0 s) (e1:Ext W1 w) :
   CALL tp 173 [v0,.pointer (some ⟨b,0,none⟩)] w λr w'=>Ext w w'/\r=.bool (decide (x=s)):=by
 refine co (g:=kf [] [] []) Tryz.func173 ?_;refine zbp h0 e0 λ_ g0 g1=>zab zch g1 (xrf _) λ_ h4=>zab zch hA (e1.trans g0) λ_ h5=>?_;refine (zlj h4 (xrf _) h5 (e1.trans g0)).mono ?_;rintro _ _ ⟨g2,rfl⟩;exact ⟨g0.t g2,rfl⟩
def zr3 {args caps:List vL} {K:VW} (hE:zea P f=true) (h:CALL P f (args++caps) w K):OPN P (zlM (.func (.func f) #[] caps.toArray) args) w K:=by
 obtain ⟨h⟩:=h;refine .enter f (args++caps).toArray w ?_ h;simp [zlM,Deferred.ofValue,invoke,zds hE]
def zHC:zea tp 173=true:=by kernel_rfl
def znJ {l:(List DState)} (h0:Is W0 v0 l) (e0:Ext W0 w) (hf:v1=.func (.func 173) #[] #[.pointer (some ⟨ba,0,none⟩)]) (hA:At WA ba 0 s) (eA:Ext WA w) :
   CALL tp 172 [v0,v1] w λr w'=>Ext w w'/\(r=.int .i64 (zwH s l)):=by
 refine co (g:=kf [] [(2,524080,[8])] []) Tryz.func172 ?_;subst hf;have:=zak h0;have:=zak h0;refine zae u46 h0<|zap (l.length) (λk us w'=>us=[.int .i64 (k:Int)]/\Ext w w'/\(s∉l.take k)) (0) oo ⟨sS,xrf w,sS⟩ ?_;rintro k m2 _ _ _ ⟨hu,y1,C⟩;try replace hu:=zbv hu
 try rw [hu]
 try clear hu
 refine zaf<|br (λc1=>?_) (λc1=>?_)
 . refine zad u46 zch h0 oo λ_ _ g1=>?_;refine zab zch g1 (e0.t y1) λg2 g3=>zr3 (args:=[g2]) (caps:=[_]) zHC ((zwK g3 (e0.t y1) hA (eA.trans y1)).mono ?_);rintro _ _ ⟨g0,rfl⟩;refine br (λc2=>?_) (λc2=>?_)
   . refine ⟨(y1.t g0),?_⟩;rw [ztK oo C c2]
   refine zau<|⟨m2-1,oo,k+1,oo,sS,(y1.t g0),?_⟩;exact zix oo C c2
 refine ⟨y1,?_⟩;rw [qaf oo] at C;rw [zrZ C]
def zr4 {l:List DState} (h0:Is W0 v0 l) (e0:Ext W0 w) (h1:Is W1 v1 s) (e1:Ext W1 w) :
   CALL tp 113 [v0,v1] w λr w'=>Ext w w'/\r=.int .i64 (zwH s l):=by
 refine co (g:=kf [] [] []) Tryz.func113 ?_;refine zbp h1 e1 λw1 g0 hA=>zba (v:=.func (.func 173) #[] #[.pointer (some ⟨w.heap.size,0,none⟩)]) (λw' _=>by simp [Instr.makeFunc]) ?_;refine (znJ h0 (e0.t g0) rfl hA (xrf w1)).mono ?_;rintro _ _ ⟨g1,rfl⟩;exact ⟨g0.t g1,rfl⟩
def zHD:zcu tp 83=some [.slice none 0 0,.slice none 0 0,.slice none 0 0,.bool false]:=by kernel_rfl
def seQ (c:DCode) (z:DTrail) (g:Nat) (i t:Nat) (w0:wD):ParQ:=λj u T w=>match j with
 | 0=>Is w0 (u 43) c
 | 1=>u 44=.pointer (some ⟨g,0+0,none⟩)
 | 2=>u 45=z.states.v
 | 3=>u 46=.int .i64 (i:Int)
 | 4=>∃ b o,u 47=.pointer (some ⟨b,o,none⟩)/\At w0 b o (zdM z.er i)
 | 5=>Is w0 (u 48) (zdM z.er i)
 | 6=>u 49=.int .i64 (t:Int)
 | 7=>OwnI (T 7).1 (T 7).2 w (u 50) (za1 c (zdM z.er i) t)
 | 8=>∃ gg,u 8=.pointer (some ⟨gg,0,none⟩)/\(T 8).1<=gg/\gg<(T 8).2/\Blk gg 43 w [.slice none 0 0,.slice none 0 0,.slice none 0 0]
 | _=>True
def zzU {m:Int} (h0:Is W0 v0 c) (e0:Ext W0 w) (hw:zjq c<=1048576) (hc:CodeR c) :
   CALL tp 48 [v0,.int .i64 m] w λr w'=>Ext w w'/\∃ z:DTrail,OwnI w.heap.size w'.heap.size w' r z/\z.er=zgj c (zbN m 1 150).toNat/\TrOk c (zbN m 1 150).toNat z.er:=by
 refine co (g:=⟨extL,[],[(4,4835703278458516698694080,[6]),(7,4835703278458514551341440,[31])],[(9,[0,1,2,3,4,5,6,7,8],0)],[(10,2243003720663296,9)],[],[]⟩) Tryz.func48 ?_;refine zbp h0 e0 λw1 hn hA=>zeC (α:=DTrail) zHD λ_ gh hs=>?_;have hs1:=hn.size;have hs2:=gh.size;have hg4:=hs.lt;refine implBrought_ok.mono ?_;rintro _ w3 ⟨g4,rfl⟩;have hs3:=g4.size;have hMi:=zkP m;obtain ⟨M,hM,j1,_⟩:∃ M:Nat,zbN m 1 150=(M:Int)/\1<=M/\M<=150:=⟨(zbN m 1 150).toNat,oo,oo,oo⟩;rw [hM];have j2:((M:Nat):Int).toNat=M:=oo;rw [j2];refine zab zbY hA (gh.t g4) λ_ j3=>?_;refine (zwt j3 (gh.t g4) hw hc).mono ?_;rintro _ _ ⟨hy,gR⟩;have gR:=gR.toI;have hs4:=hy.size;refine zgD (β:=DState) u46 zch z43 qd gR oo λhC w5 gq hD=>?_;have hs5:=gq.size;refine zgD (β:=Int) (lo2:=w5.heap.size) (hi2:=w5.heap.size) u25 ty3 z3 qd (zbI (x:=-1) io) oo λv14 w6 gS hG=>?_;have hs6:=gS.size;refine zgD (β:=Int) (lo2:=w6.heap.size) (hi2:=w6.heap.size) u25 ty3 z3 qd (zbI (x:=-1) io) oo λhH w7 gM hI=>?_;have hs7:=gM.size;have j4:=zff ((hD.ext gS).ext gM);have j5:=zff (hG.ext gM);have j6:=zff hI;obtain ⟨_,_,_,j7⟩:=zda hD.own;obtain ⟨_,_,_,j8⟩:=zda hG.own;obtain ⟨_,_,_,j9⟩:=zda hI.own;have ja:=zoM (z:=⟨⟨hC,[zb2 c]⟩,⟨v14,[-1]⟩,⟨hH,[-1]⟩,true⟩) j4 j5 j6 oo;refine zaF (cells:=#[hC,v14,hH,.bool true]) (by rw [j7,j8,j9];kernel_rfl)<|zeC (α:=DTrail) zHD λ_ gU hJ=>?_;have hs8:=gU.size;have hg5:=hJ.lt;refine zbH zGl hJ (ja.ext gU) oo λw9 hK gV=>?_;have hs9:=hK.size;have gW:Ext w3 w9:=Ext.chgI (hy.t (gq.t (gS.t (gM.t gU)))) hK oo;generalize hgd:w7.heap.size=g at *;have gV:=gV.mono (lo':=w3.heap.size) (hi':=w9.heap.size) (lr _) oo
 have fin:∀ (z:DTrail) (w':wD) (hi:Nat),Ext w3 w'->VarI w3.heap.size hi w' g z->hi<=w'.heap.size->TrOk c M z.er->z.er=zgj c M ->
     RD tp (Instr.loadAt 83 (.pointer (some ⟨g,0,none⟩))) w' λjb=>OPU tp (Instr.storeAt 83 (.pointer (some ⟨w1.heap.size,0,none⟩)) jb) w' λw''=>
       RD tp (zfA 83 (.pointer (some ⟨w1.heap.size,0,none⟩))) w'' λr=>Ext w w''/\∃ z:DTrail,OwnI w.heap.size w''.heap.size w'' r z/\z.er=zgj c M/\TrOk c M z.er:=by
   intro z w' hi hx hv gX gr hz;refine zfE zGl hv (xrf _) λ_ jc=>zbH zGl (hs.ext (g4.t hx)) jc oo λw'' hc gY=>?_;have hsc:=hc.size;refine zcR zGl gY (xrf _) λr o=>⟨Ext.chgI (hn.t (gh.t (g4.t hx))) hc oo,z,o.mono oo oo,hz,gr⟩
 refine zap M (λk us w'=>us=[.int .i64 (k:Int)]/\∃ (z:DTrail) (hi:Nat),Ext w3 w'/\VarI w3.heap.size hi w' g z/\g<hi/\hi<=w'.heap.size/\TrOk c M z.er/\k<=z.states.l.length/\zez c M (M-k) k z.er=zgj c M) 0 oo
   ⟨rfl,_,w9.heap.size,gW,gV,oo,lr _,zvt hc j1,z0 _,rfl⟩ ?_
 rintro k mk u hN _ ⟨hu,z,hi,gy,Z,jd,gX,gr,_,g0⟩;try replace hu:=zbv hu
 rw [hu];have hP:1<=z.states.l.length/\z.states.l.length<=M:=gr.many;refine zaa zjk<|zbR zqA (zaU Z.at) (xrf _) ?_;have hQ:=zrT (zaU Z.at);refine zae u46 hQ<|zaf<|br (λ_=>?_) (λhR=>?_)
 case refine_2=>refine fin z hN hi gy Z gX gr ?_;rw [<-g0,zoL (f:=z.er) (by show z.states.l.length<=k;omega)]
 have gs:k<z.states.l.length:=oo;refine zaa zjk<|zbR zqA (zaU Z.at) (xrf _)<|zad u46 zch hQ gs λje jf gZ=>?_;replace gZ:At hN je jf (zdM z.er k):=by rw [<-zdV (f:=z.er) gs];exact gZ
 refine zaa zbc<|zab zeV (zaB gZ) (xrf _) λ_ jg=>zae u31 jg ?_;have gN:zaV c (zdM z.er k):=gr.right _ (by rw [<-zdV (f:=z.er) gs];exact qac _);obtain ⟨s,gO⟩:∃ s,zdM z.er k=s:=⟨_,rfl⟩;rw [gO] at gN ⊢;have hn6:=gN.2.2.1
 refine zap s.stacks.length (λt us w'=>us=[.int .i64 (t:Int)]/\∃ (z':DTrail) (hi':Nat),Ext w3 w'/\VarI w3.heap.size hi' w' g z'/\g<hi'/\hi'<=w'.heap.size/\TrOk c M z'.er/\k<z'.states.l.length/\zdM z'.er k=s /\
     zeU c M k s.stacks.length 0 z.er=zeU c M k (s.stacks.length-t) t z'.er) 0 oo
   ⟨rfl,z,hi,gy,Z,jd,gX,gr,gs,gO,rfl⟩ ?_
 rintro t mt _ gP _ ⟨h2,z',hi',D,X,g5,h4,O,U,C,Y⟩;try replace h2:=zbv h2
 rw [h2];refine zaf<|br (λ_=>?_) (λ_=>?_)
 case refine_2=>
   have ht:t=s.stacks.length:=oo;subst ht;rw [qcE,zeU] at Y;rw [<-gO] at Y;refine zau<|⟨mk-1,oo,k+1,oo,rfl,z',hi',D,X,g5,h4,O,oo,?_⟩;rw [<-g0,show M-k=(M-(k+1))+1 by omega,zm5 (f:=z.er) gs Y]
 have htn:t<s.stacks.length:=oo;have hq:s.stacks.length-t=(s.stacks.length-(t+1))+1:=oo;have I:=zag gP;have jh:=I.size;have gz:=zrT (zaU X.at);refine zab zbY hA (gh.t (g4.t (D.t I))) λ_ ji=>zaa zjk<|zbR zqA (zaU X.at) I<|zad u46 zch gz U λjj jk h5=>?_;replace h5:At gP jj jk s:=by rw [<-C,<-zdV (f:=z'.er) U];exact h5
 refine zab zch h5 I λ_ jl=>?_;refine (zEU ji (gh.t (g4.t (D.t I))) jl I hc gN).mono ?_;rintro _ h6 ⟨g9,rfl⟩;have jm:=g9.size;refine zav<|br (λjn=>?_) (λhg=>?_)
 . refine zau ?_;refine ⟨mt-1,oo,t+1,oo,rfl,z',hi',D.t (I.t g9),X.ext (I.t g9),g5,oo,O,U,C,?_⟩;rw [Y,hq,zii (zvu (f:=z'.er) (by rw [C];exact jn))]
 have h8:GoR c s t:=qai.1 hg;have gC:=zag h6;have jo:=gC.size;have gt:Ext gP (World.drew1 h6):=I.t (g9.t gC);generalize World.drew1 h6=w14 at *;refine PAR.mk (seQ c z' g k t w14) ?_ ?_ ?_
 . intro i u u' T T' _ wb h9 hS hd hq
   match i,hd,hq with
   | 0,hd,hq=>have:=(hd (0,43) qd).1;show Is _ (u' 43) _;simp only [this];exact hq
   | 1,hd,hq=>exact (hd (1,44) qd).1.trans hq
   | 2,hd,hq=>exact (hd (2,45) qd).1.trans hq
   | 3,hd,hq=>exact (hd (3,46) qd).1.trans hq
   | 4,hd,⟨b,o,q1,q2⟩=>exact ⟨b,o,(hd (4,47) qd).1.trans q1,q2⟩
   | 5,hd,hq=>have:=(hd (5,48) qd).1;show Is _ (u' 48) _;simp only [this];exact hq
   | 6,hd,hq=>exact (hd (6,49) qd).1.trans hq
   | 7,hd,hq=>
     obtain ⟨e1,e2⟩:=hd (7,50) qd;simp only at e1 e2;show OwnI (T' 7).1 (T' 7).2 wb (u' 50) _;rw [e1,e2];exact OwnI.ext hq hS
   | 8,hd,⟨gg,q1,q2,q3,q4⟩=>
     obtain ⟨e1,e2⟩:=hd (8,8) qd;simp only at e1 e2;exact ⟨gg,e1.trans q1,by rw [e2];exact q2,by rw [e2];exact q3,q4.ext hS⟩
   | n+9,_,_=>trivial
 . refine ⟨λu T w' hx _ _=>?_,λu T w' hx _ _=>?_,λu T w' hx _ hp=>?_,λu T w' hx _ _=>?_,λu T w' hx _ hp=>?_,λu T w' hx _ hp=>?_,λu T w' hx _ _=>?_,λu T w' hx _ hp=>?_,λu T w' hx _ _=>?_,trivial⟩
   . exact zab zbY hA (gh.t (g4.t (D.t (gt.t hx)))) λv h=>⟨xrf _,h.ext (gh.t (g4.t (D.t gt)))⟩
   . exact zaa zjk ⟨xrf _,rfl⟩
   . have q0:u 44=_:=hp.1;rw [q0];exact zbR zqA (zaU X.at) (gt.t hx) ⟨xrf _,rfl⟩
   . exact ⟨xrf _,rfl⟩
   . have q0:u 45=_:=hp.1;have q1:u 46=_:=hp.2.1;rw [q0,q1];refine zad u46 zch gz U λb o h=>⟨xrf _,b,o,rfl,?_⟩;rw [<-zdV (f:=z'.er) U];exact h.ext gt
   . obtain ⟨b,o,q0,q1⟩:∃ b o,u 47=.pointer (some ⟨b,o,none⟩)/\At w14 b o (zdM z'.er k):=hp.1;rw [q0];exact zab zch q1 hx λv h=>⟨xrf _,h⟩
   . exact ⟨xrf _,rfl⟩
   . have q0:Is w14 (u 43) c:=hp.1;have q1:Is w14 (u 48) (zdM z'.er k):=hp.2.1;have q2:u 49=_:=hp.2.2.1;rw [q2];have:=zws q0 hx q1 hx hc (by rw [C];exact gN) (by rw [C];exact h8);exact this.mono λr w5 ⟨gq,ho⟩=>⟨gq,ho.toI⟩
   exact zaL zu1 λw5 gq hB=>⟨gq,w'.heap.size,rfl,lr _,hB.lt,hB⟩
 rintro u10 T jp gD ha ⟨-,-,-,-,-,-,-,gx,⟨gg,q8,_,_,he⟩,-⟩;have gx:OwnI (T 7).1 (T 7).2 jp (u10 50) (za1 c (zdM z'.er k) t):=gx;rw [C] at gx;have t7:=ha.1 7 qd;have t8:=ha.1 8 qd;have d78:=ha.2 7 qd 8 qd qd;have jq:=gD.size;have jr:=gt.size;generalize u10 50=v50 at *;rw [q8];obtain ⟨_,_,_,hR⟩:=zBA gx;subst hR;refine zaz zch rfl he rfl gx λjs gj gE=>?_;have jt:=gj.size;have gb:Ext gP js:=Ext.chgI (gt.t gD) gj oo;have hV:=gx.chg gj oo;have gc:=X.ext gb;refine zaa zjk<|zbR zqA (zaU gc.at) (xrf _) ?_;have gF:=zrT (zaU gc.at);refine zck gE zch ?_;refine (zr4 gF (xrf _) hV.is (xrf _)).mono ?_;rintro _ hW ⟨V,rfl⟩;have ju:=V.size;refine zb9<|br (λhf=>?_) (λhh=>?_)
 . refine zau ?_;refine ⟨mt-1,oo,t+1,oo,rfl,z',hi',D.t (gb.t V),gc.ext V,g5,oo,O,U,C,?_⟩;rw [Y,hq,zii (zr0 (f:=z'.er) (by rw [C];exact h8) (by rw [C];exact zlG.1 hf))]
 have hX:za1 c (zdM z'.er k) t∉z'.er.states:=λh=>hh (by rw [C] at h;exact zlG.2 h);have gl:GoR c (zdM z'.er k) t:=by rw [C];exact h8
 have gd:=gc.ext V;refine zaa zjk<|zbR zqA (zaU gd.at) (xrf _) ?_;have gG:=zrT (zaU gd.at);refine zae u46 gG<|zai<|br (λ_=>?_) (λ_=>?_)
 . have gp:z'.er.states.length=M:=by show z'.states.l.length=M;omega
   refine zaa zDl ?_;obtain ⟨_,hO,hF⟩:=gd;obtain ⟨_,hL⟩:=zj2 (Lens.var hO);refine zf0 ty4 hL (lo:=w3.heap.size) (hi:=hW.heap.size) (λb hb=>by have:=hF b hb;omega) oo zhr λgQ g1 gf=>?_;have hj:=g1.size;refine fin _ gQ hW.heap.size (Ext.chgI (D.t (gb.t V)) g1 (lr _)) gf oo O.not ?_;have g2:=zoK (M:=M) gl hX gp;rw [<-g0,show M-k=(M-(k+1))+1 by omega,zm4 (f:=z.er) gs (by rw [gO,Y,hq,zoJ (by rw [g2]),g2])];rfl
 have g3:¬z'.er.states.length=M:=by show ¬z'.states.l.length=M;omega
 have jv:z'.states.l.length<=M:=O.many.2;have jw:z'.ahead.l.length=z'.states.l.length:=O.la;have jx:z'.went.l.length=z'.states.l.length:=O.lw;have hk:=gE.ext V;refine zaa zjk<|zbR zqA (zaU gd.at) (xrf _)<|zck hk zch<|zif (β:=DState) u46 zch z43 zHI qd zqA X ⟨oo,g5⟩ (gb.t V) (λhO=>zjZ (Lens.var hO)) (hV.ext V) oo oo (by have:=D.size;omega) (by rw [zaj];omega) oo (λ_ gQ g1 gf=>?_) λa hY h9 gH=>gH.mono λr hZ hr=>zaa zjk hr.2;have hj:=g1.size;refine zaa zDj<|zbR zaS (zm6 gf.at) (xrf _)<|zif (β:=Int) (lo2:=gQ.heap.size) (hi2:=gQ.heap.size) u25 ty3 z3 zc3 qd zaS gf ⟨oo,oo⟩ (xrf _) (λhO=>zj0 (Lens.var hO)) (zbI (x:=(k:Int)) io) oo oo (by have:=D.size;omega) (by rw [zaj];show z'.ahead.l.length+1<=_;omega) (by show (z'.ahead.l.length+1)*_<=_;omega) (λ_ j0 gI gJ=>?_) λa hY h9 gH=>gH.mono λr hZ hr=>zaa zDj hr.2;have jy:=gI.size;refine zaa zDk<|zbR zaS (zm7 gJ.at) (xrf _)<|zif (β:=Int) (lo2:=j0.heap.size) (hi2:=j0.heap.size) u25 ty3 z3 zc3 qd zaS gJ ⟨oo,oo⟩ (xrf _) (λhO=>zj1 (Lens.var hO)) (zbI (x:=(t:Int)) io) oo oo (by have:=D.size;omega) (by rw [zaj];show z'.went.l.length+1<=_;omega) (by show (z'.went.l.length+1)*_<=_;omega) (λ_ jz gK hl=>?_) λa hY h9 gH=>gH.mono λr hZ hr=>zaa zDk hr.2;have jA:=gK.size;refine zau ?_;have gi:=O.push hc U gl oo g3;have g2:=zr1 (M:=M) gl hX g3;rw [C] at gi g2;refine ⟨mt-1,oo,t+1,oo,rfl,_,jz.heap.size,Ext.chgI (Ext.chgI (Ext.chgI D g1 (lr _)) gI (lr _)) gK (lr _),hl,oo,lr _,gi,by show k<(z'.states.l++[_]).length;simp;omega,?_,?_⟩
 . exact (zfa (f:=z'.er) U).trans C
 rw [Y,hq,zii g2];rfl
end Go.Proofs.YtkgiigmcbgifdaaGreat
namespace Go.Sh
open Go Go.Proofs
variable {P:pG} {w w0:wD}
def zFe {α:Type} [Rep α] [Flat α] {e:Nat} {v:vL} {l:List α} {F0:List Nat} {t ty:TypeId} {by_:Nat} {g5:vL} {m:List α} {K:vL->wD->Prop} (ht:P.underlying t=some (.slice e)) (he:tyI P e=some (Rep.size α,by_,Rep.agg α))
   (g4:(P.info? e).map (λi=>(i.zero.map (·.cells.size)))=some (some (Rep.size α))) (hv:RowG F0 e w v l) (gg:F0.Nodup) (hs:Is w0 g5 m) (hx:Ext w0 w) (hm:l.length+m.length<=maxLen) (hb:(l.length+m.length)*by_<=140737488355328)
   (k:∀ v' w' F',Chg F0 w w'->RowG F' e w' v' (l++m)->F'.Nodup->(∀ c∈F',c∈F0\/w.heap.size<=c)->K v' w'):OP P (Builtin.append_ #[t,t] ty [v,g5].toArray) w K:=by
 obtain ⟨a,cap,Fi,xs,rfl,_,_,hc,h4⟩:=zcE (hs.ext hx);have g9:=Cells.flat (xs:=xs) hc;subst g9
 have g1:∀ (v:vL) (F:List Nat),RowF F e w v l->F.Nodup->(∀ b∈F,b∈F0)->OP P (Builtin.append_ #[t,t] ty [v,.slice a m.length cap].toArray) w K:=by
   intro v F hF g2 g3;refine zfD (m:=m) ht he g4 hF g2 rfl hc (by rcases h4 with h | ⟨b,o,ha,hr,_⟩;exact .inl h;exact .inr ⟨b,o,ha,hr⟩) (Wr.nil _) (by simpa using g2) hm hb λv' w' F' gb _ gc gd gf=>?_
   have g0:∀ c∈v.ownBlock.toList,c∈F0:=λc hc=>by
     obtain ⟨xs,Fi,_,_,rfl,_⟩:=hF;exact g3 c (by simp only [qae];exact .inl hc)
   refine k v' w' F' (gb.mono g0) (.inr gc) gd λc hc=>?_;rcases gf c hc with h | h | h
   . exact .inl (g3 c h)
   . simp at h
   exact .inr h
 rcases hv with ⟨a0,rfl,rfl,rfl⟩ | hF
 . have kn:=g1 (.slice none 0 0) [] (zho e w) qav sS;cases a0 with
   | none=>exact kn
   | some x0=>
     by_cases hm0:m=[]
     . subst hm0;refine ⟨.slice (some x0) 0 0,w,?_,k _ w [] (Chg.refl _ w) (.inl ⟨some x0,rfl,rfl,rfl⟩) qav sS⟩
       have hf:(Builtin.firstCells (Rep.size α) 0 (.slice a 0 cap)).run P w=.ok #[] w:=by
         cases a with
         | none=>rfl
         | some a=>simp [Builtin.firstCells,loadCells,loadCellsFrom]
       simp [Builtin.append_,run_underlying ht,zaJ he,Builtin.lenOf,hf,storeCells]
     rcases h4 with h | ⟨b,o,rfl,hr,_⟩
     . exact absurd h hm0
     exact zjn (zfF (α:=α) ht he g4 (Cells.len hc) hr (qaO.2 hm0) (by simpa using hm) (by simpa using hb)) kn
 exact g1 v F0 hF gg λ_ h=>h
end Go.Sh
namespace Go.Proofs.YtkgiigmcbgifdaaGreat
open Go Go.Sh Go.Proofs
open Rep (rep)
variable {F:List Nat} {W0 W1 WA w:wD} {b ba k:Nat} {v v0 v1:vL}
def zwL {l:List DRace} {x:DRace} (h:Mine F w v l) (h1:Is W1 v1 x) (e1:Ext W1 w) (hn:l.length<=1000000) :
   CALL tp 26 [v,v1] w λr w'=>Ext w w'/\∃ F',Mine F' w' r (zm1 x l)/\∀ b∈F',b∈F\/w.heap.size<=b:=by
 refine co (g:=kf [(4,2097056,[5]),(6,17177772048,[])] [(2,2097056,[5])] [(2,[0,1,2,3,4,5,6,7,8,9,10,11],0),(4,[0,1,2,3,4,5,6,7,8,9,10,11],0)]) Tryz.func26 ?_;have hI:=h.is;refine zbp h1 e1 λw1 X hA=>JOIN.mk (λus w'=>∃ k:Nat,us=[.int .i64 (k:Int)]/\Ext w1 w'/\k<=l.length/\ahd x l=k) ?_ ?_
 . refine zap l.length (λk us w'=>us=[.int .i64 (k:Int)]/\Ext w1 w'/\k<=l.length/\∀ j (h:j<k) (h2:j<l.length),ltR l[j] x) 0 (z0 _) ⟨rfl,xrf w1,z0 _,λj h=>oo⟩ ?_;rintro k mk u w2 _ ⟨hu,g0,Y,g1⟩;try replace hu:=zbv hu
   rw [hu];have O:=zag w2;have C:=g0.t O;generalize World.drew1 w2=w3 at *;refine zae u30 hI<|zaf<|br (λhk=>?_) (λhk=>?_)
   . have V:k<l.length:=oo;refine zad u30 zdG hI V λb1 o1 g2=>zab zdG g2 (X.t C) λgf g3=>zab zdG hA C λgg g4=>?_;refine (zmZ g3 (X.t C) g4 C).mono ?_;rintro _ w4 ⟨I,rfl⟩;refine zbX (λhc=>?_) (λhc=>?_)
     . refine zau ?_;refine ⟨mk-1,oo,k+1,oo,rfl,C.t I,oo,λj hj gh=>?_⟩;by_cases hjk:j<k
       . exact g1 j hjk gh
       have:j=k:=oo;subst this;simpa using hc
     exact ⟨k,rfl,C.t I,Y,zrV Y (λj hj=>g1 j hj oo) λh=>by simpa using hc⟩
   exact ⟨k,rfl,C,Y,zrV Y (λj hj=>g1 j hj oo) λh=>oo⟩
 rintro u w2 ⟨k,hu,g0,Y,gi⟩;try replace hu:=zbv hu
 rw [hu];have D:=zqd x l;rw [gi] at D;refine JOIN.mk (λus w'=>Ext w1 w'/\zm1 x l=l.take k++(x :: l.drop k)) ?_ ?_
 . have O:=zag w2;have C:=g0.t O;generalize World.drew1 w2=w3 at *;refine zae u30 hI<|zaf<|br (λhk=>?_) (λhk=>?_)
   . have V:k<l.length:=oo;rw [dif_pos V] at D;refine zad u30 zdG hI V λb1 o1 g2=>zab zdG g2 (X.t C) λgf g3=>zab zdG hA C λgg g4=>zgY g3 g4<|br (λhc=>?_) (λhc=>?_)
     . rw [qah hc] at D;have hx:=X.t C;exact ⟨hx,F,by rw [D];exact h.ext hx,λb hb=>.inl hb⟩
     rw [qab hc] at D;exact ⟨C,D⟩
   have V:k=l.length:=oo;subst V;rw [dif_neg oo] at D;exact ⟨C,by rw [D];simp⟩
 rintro _ w3 ⟨O,gj⟩;rw [gj];have U:=X.t O;have gl:=U.size;refine zaD (α:=DRace) u30 zdG λ_ w4 I gp=>?_;have hs4:=I.size;refine ziJ (i:=(k:Int)) u30 zdG hI oo oo λ_ gq=>zd0 u30 zdG zAP gp (lr _) gq (U.t I) (by simp [maxLen];omega) so λ_ w5 g9 gr=>?_;have hs5:=g9.size;have g5:=(xrf w4).chgI g9 (lr _);refine zab zdG hA (O.t (I.t g5)) λ_ gs=>zbM (lo2:=w5.heap.size) (hi2:=w5.heap.size) u30 zdG z41 zAP qd gr oo (zf4 (gs.ext (O.t (I.t g5)))) (lr _) oo (by simp [maxLen];omega) so λ_ w6 gb gt=>?_;have hs6:=gb.size;refine zfn (i:=(k:Int)) u30 zdG hI oo oo λ_ gx=>?_;have gc:Ext w w6:=(U.t (I.t g5)).chgI gb oo;refine zd0 u30 zdG zAP gt oo gx gc (by simp [maxLen];omega) so λ_ _ gd gy=>?_;have hs7:=gd.size;refine ⟨gc.chgI gd oo,?_⟩;obtain ⟨F',hM,hF⟩:=gy.own;refine ⟨F',?_,λb hb=>.inr (by have:=hF b hb;omega)⟩;simpa using hM
def znK {α:Type} {l:List α} {y:α} (hk:k<l.length) (h:y∉l.take k) (c:¬l[k]=y):y∉l.take (k+1):=by
 rw [tk hk];simp only [qae,qaa,qad,qaq,not_or];exact ⟨h,λe=>c e.symm⟩
def zzV {x m:List Int} (h0:Is W0 v0 x) (e0:Ext W0 w) (hA:At W1 b 0 m) (e1:Ext W1 w) :
   CALL tp 20 [v0,.pointer (some ⟨b,0,none⟩)] w λr w'=>Ext w w'/\r=.bool (decide (x=m)):=by
 refine co (g:=kf [] [] []) Tryz.func20 ?_;refine zab zaS hA e1 λ_ h5=>?_;refine (zg0 h0 e0 h5 e1).mono ?_;rintro _ _ ⟨g0,rfl⟩;exact ⟨g0,rfl⟩
def zFf:zea tp 20=true:=by kernel_rfl
def zqg {l:(List (List Int))} {s:List Int} (h0:Is W0 v0 l) (e0:Ext W0 w) (hf:v1=.func (.func 20) #[] #[.pointer (some ⟨ba,0,none⟩)]) (hA:At WA ba 0 s) (eA:Ext WA w) :
   CALL tp 57 [v0,v1] w λr w'=>Ext w w'/\(∃ n:Int,r=.int .i64 n/\(0<=n↔s∈l)):=by
 refine co (g:=kf [] [(2,524080,[8])] []) Tryz.func57 ?_;subst hf;have hl:=zak h0;have g1:=zak h0;refine zae u31 h0<|zap (l.length) (λk us w'=>us=[.int .i64 (k:Int)]/\Ext w w'/\(s∉l.take k)) (0) oo ⟨sS,xrf w,sS⟩ ?_;rintro k m2 _ _ _ ⟨hu,y1,C⟩;try replace hu:=zbv hu
 try rw [hu]
 try clear hu
 refine zaf<|br (λc1=>?_) (λc1=>?_)
 . refine zad u31 zaS h0 oo λ_ _ g2=>?_;refine zab zaS g2 (e0.t y1) λg3 g4=>zr3 (args:=[g3]) (caps:=[_]) zFf ((zzV g4 (e0.t y1) hA (eA.trans y1)).mono ?_);rintro _ _ ⟨g0,rfl⟩;refine br (λc2=>?_) (λc2=>?_)
   . refine ⟨(y1.t g0),?_⟩;have:s∈l:=c2▸qac _;exact ⟨_,rfl,by simp [this]⟩
   refine zau<|⟨m2-1,oo,k+1,oo,sS,(y1.t g0),?_⟩;exact znK oo C c2
 refine ⟨y1,?_⟩;rw [qaf oo] at C;exact ⟨-1,rfl,by simp [C]⟩
def zll {l:List (List Int)} {s:List Int} (h0:Is W0 v0 l) (e0:Ext W0 w) (hA:At W1 b 0 s) (e1:Ext W1 w) :
   CALL tp 22 [v0,.func (.func 20) #[] #[.pointer (some ⟨b,0,none⟩)]] w λr w'=>Ext w w'/\r=.bool (decide (s∈l)):=by
 refine co (g:=kf [] [] []) Tryz.func22 ?_;refine (zqg h0 e0 rfl hA e1).mono ?_;rintro _ _ ⟨g0,_,rfl,hn⟩;refine zb9<|⟨g0,by congr 1;rw [decide_eq_decide];exact hn⟩
end Go.Proofs.YtkgiigmcbgifdaaGreat
