/-
  Parts of the proof, put together by program.
-/
import Derived.Test.YtkgiigmcbgifdaaGreatDoorPFnExactWatch8
set_option maxRecDepth 20000
set_option linter.defProp false
set_option linter.unusedVariables false
set_option linter.unusedSimpArgs false
set_option linter.unusedSectionVars false
open Go renaming Value→vL,World→wD,Program→pG
namespace Go.Proofs.YtkgiigmcbgifdaaGreatDoor
open Go Go.Sh Go.Proofs
open Rep (rep)
variable {W0 w:wD} {b:Nat} {c:DCode} {v0:vL}
def zzM (hW:WAt W0 b c) (e0:Ext W0 w) (hc:CodeR c) :
   CALL tp 30 [.pointer (some ⟨b,0,none⟩)] w λr w'=>Ext w w'/\Own w.heap.size w' r (zht (zhv c (znQ c) (znQ c).length)):=by
 refine co (g:=kf [] [(5,288230376150664640,[6,20]),(8,144115187538986048,[6,29])] [(10,[0,1,2,3,4,5,6,7,8,9,10,11,12,13,14,15,16],0)]) Tryz.func30 ?_;refine (zuP hW e0 hc).mono ?_;rintro _ _ ⟨gI,gY⟩;refine (zuO hW (e0.t gI) hc).mono ?_;rintro _ wb ⟨gJ,_,rfl,gZ⟩;refine zal rfl<|zal rfl ?_;have g4:=gI.t gJ;have gl:=gY.is.ext gJ;have gK:=gZ.is;have h4:=zk1 hc;have gL:=λx (hx:x∈znQ c)=>ztS hc hx;generalize znQ c=T at *;have h5:=g4.size;have h6:=zzC hc;refine zae zpH gl<|zar T.length (λk us w'=>∃ out lo hi,us=[out,.int .i64 (k:Int)]/\k<=T.length/\Ext wb w'/\wb.heap.size<=lo/\hi<=w'.heap.size/\RowI lo hi 46 w' out (zhv c T k)) 0 (z0 _) ⟨_,wb.heap.size,wb.heap.size,rfl,z0 _,xrf _,lr _,qaE _,zbL _ _ _ _⟩ ?_;rintro i mk _ w3 _ ⟨out,h8,h9,hu,_,g5,gn,gp,gq⟩;obtain ⟨ha,hb⟩:=zcv hu;rw [ha,hb];refine zah ?_;have gr:=zmy (c:=c) h4 (n:=i) oo;refine br (λ_=>?_) (λ_=>?_)
 case refine_2=>
   have he:i=T.length:=oo;rw [he] at gq gr;refine (zsg gq.is (xrf _) oo).mono ?_;rintro r w4 ⟨g9,hf⟩;exact ⟨g4.t (g5.t g9),hf.mono (by have:=g5.size;omega)⟩
 have hi:i<T.length:=oo;have gs:=zk0 (c:=c) hi;have gt:=znR c T i;obtain ⟨pa,gh⟩:=gL T[i] (qac _);refine zac zpH zee (i:=i) gl hi λ_ _ hg=>?_;generalize hae:T[i]=a at *;refine zab zee hg g5 λ_ gM=>zbN zyQ rfl zee rfl gM g5 λw4 g9 _ gN=>?_;have gx:=zcV gM gN rfl;have hgl:w3.heap.size<w4.heap.size:=gN.lt;have hs4:=g9.size;refine zgA (i:=(i:Int)) zpH zee gl oo so λ_ gy=>?_;rw [qaF] at gy;have hDl:(T.drop i).length=T.length-i:=qbc;have hh:∀ x∈T.drop i,∃ p,TouR c x p:=λx hx=>gL x (List.mem_of_mem_drop hx);generalize T.drop i=D at *;refine zae zpH gy<|zar D.length (λj us w'=>∃ out lo hi,us=[out,.int .i64 (j:Int)]/\j<=D.length/\Ext wb w'/\w4.heap.size<=w'.heap.size/\AtB wb w' w3.heap.size 0 a/\wb.heap.size<=lo/\hi<=w'.heap.size/\(w3.heap.size<lo\/hi<=w3.heap.size)/\RowI lo hi 46 w' out (zhv c T i++(D.take j).flatMap (rc1 c a))) 0 (z0 _) ⟨out,h8,h9,rfl,z0 _,g5.t g9,lr _,gx,gn,oo,.inr gp,by simpa using gq.ext g9⟩ ?_;rintro j mj _ _ _ ⟨V,lo,gO,hk,_,gi,_,gz,gA,hl,hd,gB⟩;obtain ⟨gC,gD⟩:=zcv hk;rw [gC,gD];refine zah<|br (λ_=>?_) (λ_=>?_)
 case refine_2=>refine zaw<|⟨mk-1,oo,i+1,oo,V,lo,gO,rfl,oo,gi,gA,hl,?_⟩;rw [qai oo] at gB;rw [gt,gs];exact gB
 have hj:j<D.length:=oo;have gP:=zfP (f:=rc1 c a) hj;have hrl:=zsi c a (D.take j);have htl:=qcg j D;obtain ⟨pb,gj⟩:=hh D[j] (qac _);refine zac zpH zee (i:=j) gy hj λ_ _ hq=>?_;generalize hbe:D[j]=bb at *;refine zab zee hq gi λ_ hr=>zbN zyQ rfl zee rfl hr gi λw6 hs ht _=>?_;have gQ:=zai w6;have O:=hs.t gQ;have Z:=ht.ext gQ;generalize World.drew1 w6=w7 at *;have g0:=gz.ext O;have gb:=gi.t O;have U:=g0.at gb;have gR:=gB.ext O;have hv:=O.size;refine zab zee U (xrf _) λ_ hw=>zab zee Z (xrf _) λ_ hy=>?_;refine (zzx hw (xrf _) hy (xrf _)).mono ?_;rintro _ _ ⟨g2,rfl⟩;have hz:=g2.size
 have gS:∀ {w9:wD},Ext w7 w9->¬(zfn a bb/\ziz c (zaA c a.at_).toNat (zaA c bb.at_).toNat)->RD tp (bin .add 3 (.tmp 0) (.const undef) (.int .i64 (j:Int)) (.int .i64 1)) w9 λhA=>∃ m',m'<mj/\∃ k',k'+m'=D.length/\∃ out lo hi,[V,hA]=[out,.int .i64 (k':Int)]/\k'<=D.length/\Ext wb w9/\w4.heap.size<=w9.heap.size/\AtB wb w9 w3.heap.size 0 a/\wb.heap.size<=lo/\hi<=w9.heap.size/\(w3.heap.size<lo\/hi<=w3.heap.size)/\RowI lo hi 46 w9 out (zhv c T i++(D.take k').flatMap (rc1 c a)):=λg3 hn=>by
   have:=g3.size;refine zaw<|⟨mj-1,oo,j+1,oo,V,lo,gO,rfl,oo,gb.t g3,oo,g0.ext g3,gA,oo,hd,?_⟩;rw [gP];have:rc1 c a bb=[]:=by unfold rc1;rw [qad hn]
   rw [this,qaJ];exact gR.ext g3
 refine br (λgE=>?_) (λgE=>?_)
 case refine_2=>exact gS g2 λh=>gE h.1
 have gT:∀ i,i<c.ins.length->i<(zaK ((List.range c.ins.length).map (rtN c))).length:=λi hi=>by simp [zaK];exact hi
 have gU:∀ i (hi:i<(zaK ((List.range c.ins.length).map (rtN c))).length),(zaK ((List.range c.ins.length).map (rtN c)))[i]=((rtN c i:Nat):Int):=λi hi=>by simp [zaK]
 have gc:=gb.t g2;have hC:=U;refine zaa zfR<|zad ty3 (zcw U) g2 λ_=>?_;rw [gh.at_];refine zac u31 ty3 (i:=pa) gK (gT pa gh.lt) λ_ _ gV=>?_;rw [gU] at gV;refine zad ty3 gV gc λ_=>zaa zfR<|zad ty3 (zcw Z) g2 λ_=>?_;rw [gj.at_];refine zac u31 ty3 (i:=pb) gK (gT pb gj.lt) λ_ _ gd=>?_;rw [gU] at gd;refine zad ty3 gd gc λ_=>?_;refine (zzK (zx2 hc pa) (zx2 hc pb) h6).mono ?_;rintro _ w9 ⟨g3,x,rfl,hx⟩;rw [zyg hc gh.met gj.met] at hx;have gf:zaA c a.at_=zaA c pa:=by rw [gh.at_]
 have gg:zaA c bb.at_=zaA c pb:=by rw [gj.at_]
 have M:=g2.t g3;refine zaN (λhD=>?_) (λgW=>?_)
 case refine_2=>refine gS M λh=>?_;have:=hx.2 (by rw [<-gf,<-gg];exact h.2);rw [this] at gW;cases gW
 have hB:ziz c (zaA c a.at_).toNat (zaA c bb.at_).toNat:=by rw [gf,gg];exact hx.1 hD
 refine zab zee U M λ_ hF=>zab zee Z M λ_ hG=>?_;refine (zxV hF M hG M).mono ?_;rintro _ _ ⟨gF,gG⟩;have C:=M.t gF;have gX:=C.size;refine zdX (x:=zg3 a bb) u38 zfY z46 zDr dD (gR.ext C) (gG 0 0) (by rw [zak,qab];omega) (by rw [qab];omega) λhH _ hI hJ g1 gH _=>?_;have hK:=g1.size;have hsb:=gb.size;refine zaw<|⟨mj-1,oo,j+1,oo,hH,hI,hJ,rfl,oo,(gb.t C).chgI g1 gA,oo,(g0.ext C).keep (g1.block _ oo hd),oo,oo,oo,?_⟩;rw [gP];have:rc1 c a bb=[zg3 a bb]:=by unfold rc1;rw [qah ⟨gE,hB⟩]
 rw [this,<-qaA];exact gH
def zyh (h0:Is W0 v0 c) (e0:Ext W0 w) (hc:CodeR c) :
   CALL tp 36 [v0] w λr w'=>Ext w w'/\Own w.heap.size w' r (zht (zhv c (znQ c) (znQ c).length)):=by
 refine co (g:=kf [] [(5,2417851639229258349380552,[3,6]),(8,2417851639229258345218952,[3,7])] [(12,[0,1,2,3,4,5,6,7,8,9,10,11,12,13,14,15,16,17,18,19,20,21,22,23,24,25,29,30,31,26,27,28,32,33,34,35],4362076160)]) Tryz.func36 ?_;have h8:=hc.1.procs8;refine zbk h0 e0 λ_ gK hA=>zaI (α:=DRace) u38 zfY λgj _ g9 _=>zab zbO hA g9 λ_ gY=>?_;refine (zyc gY g9 hc).mono ?_;rintro _ _ ⟨gl,gZ⟩;refine zab zbO hA (g9.t gl) λ_ h4=>?_;refine (zsf h4 (g9.t gl) hc).mono ?_;rintro _ wb ⟨gL,h6⟩;have D:=g9.t (gl.t gL);have gg:=gZ.is.ext gL;have h9:=h6.is;have ha:=zk1 hc;have gM:=λx (hx:x∈znQ c)=>ztS hc hx;have hd:=zCJ c;generalize znQ c=T at *;have hs1:=gK.size;have he:=D.size
 have hg:∀ w:wD,Mine [] w (.slice (some gj) 0 0) (zht (zhv c T 0)):=λw=>by
   have h:RowG (α:=DRace) [] 46 w (.slice (some gj) 0 0) []:=.inl ⟨some gj,rfl,rfl,rfl⟩;exact ⟨h.own,qas,h.wr⟩
 refine zar T.length (λk us w'=>∃ out F,us=[out,.int .i64 (k:Int)]/\k<=T.length/\Ext wb w'/\Mine F w' out (zht (zhv c T k))/\∀ b∈F,wb.heap.size<=b) 0 (z0 _) ⟨_,[],rfl,z0 _,xrf _,hg wb,ss⟩ ?_;rintro i mk _ _ _ ⟨out,F5,hu,_,gN,gn,gO⟩;obtain ⟨hh,hk⟩:=zcv hu;rw [hh,hk];refine zae zpH gg<|zah ?_;have hl:=zmy (c:=c) ha (n:=i) oo;refine br (λ_=>?_) (λ_=>?_)
 case refine_2=>
   have hq:i=T.length:=oo;rw [hq] at gn;exact ⟨gK.t (D.t gN),F5,gn,λb hb=>by have:=gO b hb;omega⟩
 have hi:i<T.length:=oo;have gp:=zk0 (c:=c) hi;have gq:=znR c T i;obtain ⟨_,gh⟩:=gM T[i] (qac _)
 have hr:∀ j (hj:j<T.length),i<=j->T[i].at_<=T[j].at_:=λj hj gP=>by
   by_cases e:i=j
   . subst e;omega
   exact qbS.1 hd i j hi hj oo
 have hDl:(T.drop i).length=T.length-i:=qbc;generalize hae:T[i]=a at *;refine zar T.length (λj us w'=>∃ out F,us=[out,.int .i64 (j:Int)]/\i<=j/\j<=T.length/\Ext wb w'/\Mine F w' out (zht (zhv c T i++((T.drop i).take (j-i)).flatMap (rc1 c a)))/\∀ b∈F,wb.heap.size<=b) i oo ⟨out,F5,rfl,lr _,oo,gN,by simpa using gn,gO⟩ ?_;rintro j mj _ _ _ ⟨g0,F6,hs,gP,_,g4,gr,gs⟩;obtain ⟨gt,gx⟩:=zcv hs;rw [gt,gx];refine zae zpH gg<|zah<|br (λ_=>?_) (λ_=>?_)
 case refine_2=>
   have hje:j=T.length:=oo;refine zaw<|⟨mk-1,oo,i+1,oo,g0,F6,rfl,oo,g4,?_,gs⟩;rw [qai oo] at gr;rw [gq,gp];exact gr
 have hj:j<T.length:=oo;have hv:j-i<(T.drop i).length:=oo;have hw:(T.drop i)[j-i]=T[j]:=by rw [qcT];congr 1;omega
 have gy:=zfP (f:=rc1 c a) hv;rw [hw,show j-i+1=j+1-i by omega] at gy;have hrl:=zsi c a ((T.drop i).take (j-i));have htl:=qcg (j-i) (T.drop i);obtain ⟨_,gi⟩:=gM T[j] (qac _);have hy:=hr j hj gP;refine zac zpH zee (i:=i) gg hi λ_ _ gQ=>?_;rw [hae] at gQ;refine zab zee gQ g4 λ_ hD=>zbN zyQ rfl zee rfl hD g4 λ_ gz hF _=>zac zpH zee (i:=j) gg hj λ_ _ hG=>?_;generalize hbe:T[j]=bb at *;refine zab zee hG (g4.t gz) λ_ hH=>zbN zyQ rfl zee rfl hH (g4.t gz) λw8 gR hI _=>?_;have gA:=zai w8;have M:=hF.ext (gR.t gA);have U:=hI.ext gA;have gb:=gz.t (gR.t gA);generalize World.drew1 w8=w9 at *;have gc:=g4.t gb;have gS:=gr.ext gb
 have g5:∀ {gd:wD},Ext w9 gd->¬(zfn a bb/\ziz c (zaA c a.at_).toNat (zaA c bb.at_).toNat)->RD tp (bin .add 3 (.tmp 0) (.const undef) (.int .i64 (j:Int)) (.int .i64 1)) gd λhJ=>∃ m',m'<mj/\∃ k',k'+m'=T.length/\∃ out F,[g0,hJ]=[out,.int .i64 (k':Int)]/\i<=k'/\k'<=T.length/\Ext wb gd/\Mine F gd out (zht (zhv c T i++((T.drop i).take (k'-i)).flatMap (rc1 c a)))/\∀ b∈F,wb.heap.size<=b:=λO hn=>by
   refine zaw<|⟨mj-1,oo,j+1,oo,g0,F6,rfl,oo,oo,gc.t O,?_,gs⟩;rw [gy];have:rc1 c a bb=[]:=by unfold rc1;rw [qad hn]
   rw [this,qaJ];exact gS.ext O
 refine zaa zjz<|zad ty3 (zeh M) (xrf _) λhK=>zaa zjz<|zad ty3 (zeh U) (xrf _) λ_=>zag<|br (λgB=>?_) (λgB=>g5 (xrf _) λh=>gB h.1.1);refine zaa zog<|zaC ty4 (zgD M) (xrf _)<|zyd (Q:=a.write=true\/bb.write=true) .inl (λhL=>?_) (λhM hf=>?_)
 case refine_2=>
   refine zaa zog<|zaC ty4 (zgD U) (xrf _)<|zaN (λh=>hM (.inr h)) (λh=>g5 (xrf _) λh2=>?_);rcases h2.1.2.1 with h3 | h3
   . rw [h3] at hf;cases hf
   rw [h3] at h;cases h
 obtain ⟨ma,gT⟩:=qb0 gh.h0;obtain ⟨mb,gU⟩:=qb0 gi.h0;have h1a:=gh.h1;have h1b:=gi.h1;refine zaa zjA<|zad ty3 (zei M) (xrf _) λ_=>zaa zjA<|zad ty3 (zei U) (xrf _) λ_=>?_;rw [gT,gU];refine zeS (m:=ma) (n:=mb) oo oo<|zag ?_
 have gV:zfn a bb↔(a.global=bb.global/\(a.write=true\/bb.write=true)/\ma &&& mb=0):=by
   unfold zfn;rw [gT,gU];simp only [qaF];constructor
   . rintro ⟨h1,h2,_,_,h5⟩;exact ⟨h1,h2,h5⟩
   rintro ⟨h1,h2,h5⟩;exact ⟨h1,h2,⟨oo,oo⟩,⟨oo,oo⟩,h5⟩
 refine br (λhz=>?_) (λhz=>g5 (xrf _) λh=>hz (by rw [(gV.1 h.1).2.2];rfl));have hC:zfn a bb:=gV.2 ⟨gB,hL,oo⟩;refine zab zbO hA (D.t gc) λ_ hN=>zaa zfR<|zad ty3 (zcw M) (xrf _) λhO=>zab zbO hA (D.t gc) λ_ hP=>zaa zfR<|zad ty3 (zcw U) (xrf _) λhQ=>?_;refine (zf6 (a:=a.at_) hN (D.t gc)).mono ?_;rintro _ gd ⟨O,rfl⟩;refine ⟨O,?_⟩;obtain ⟨qa,gW,gC,_⟩:=zeF hc gh.lt;obtain ⟨qb,gD,gE,_⟩:=zeF hc gi.lt;have g1:zaA c a.at_=(qa:Int):=by rw [gh.at_,gC]
 have g2:zaA c bb.at_=(qb:Int):=by rw [gi.at_,gE]
 rw [g1,g2] at g5;simp only [qaF] at g5;rw [g1];have gX:(zvm c c.procs.length).length=c.procs.length:=by simp [zvm]
 have V:=gc.t O;refine zac zud zcR (i:=qa) h9 (by rw [gX];exact gW) λ_ _ gf=>?_;rw [show (zvm c c.procs.length)[qa]'(by rw [gX];exact gW)=zbT c.procs.length (ziz c qa) by simp only [zvm,qbM,qcJ]] at gf;refine zab zcR gf V λ_ hR=>?_;refine (zf6 (a:=bb.at_) hP (D.t V)).mono ?_;rintro _ hS ⟨g3,rfl⟩;refine ⟨g3,?_⟩;rw [g2];have Z:=V.t g3;have C:=O.t g3;have gF:=zaM (n:=c.procs.length) (p:=ziz c qa) (i:=qb);rw [zaZ (by rw [zam];exact gD)] at gF;refine zac zdj ty4 (i:=qb) hR (by rw [zam];exact gD) λ_ _ gG=>zaC ty4 gG Z<|zaN (λht=>?_) (λhf=>g5 C λh=>by rw [gF.2 ⟨gD,h.2⟩] at hf;cases hf);have hB:=(gF.1 ht).2;refine zaa zjz<|zad ty3 (zeh M) C λ_=>zaa zfR<|zad ty3 (zcw M) C λ_=>zaa zfR<|zad ty3 (zcw U) C λ_=>zas (cells:=#[.int .i64 a.global,.int .i64 a.at_,.int .i64 bb.at_]) kK ?_
 have hT:zg3 a bb=⟨a.global,a.at_,bb.at_⟩:=by
   unfold zg3;rw [show min a.at_ bb.at_=a.at_ by omega,show max a.at_ bb.at_=bb.at_ by omega]
 have hU:Is hS (.agg #[.int .i64 a.global,.int .i64 a.at_,.int .i64 bb.at_]) (zg3 a bb):=by
   rw [hT];exact zjB.2 ⟨rfl,hK,hO,hQ⟩
 have hV:=zqJ (zhv c T i++((T.drop i).take (j-i)).flatMap (rc1 c a));rw [qab] at hV;refine (zuT (gS.ext C) hU (xrf _) oo).mono ?_;rintro hW _ ⟨gH,hX,gI,gJ⟩;refine zaw<|⟨mj-1,oo,j+1,oo,hW,hX,rfl,oo,oo,Z.t gH,?_,λb hb=>?_⟩
 . rw [gy]
   have:rc1 c a bb=[zg3 a bb]:=by
     unfold rc1;rw [qah ⟨hC,by rw [g1,g2];simpa using hB⟩]
   rw [this,<-qaA,zuI];exact gI
 rcases gJ b hb with h | h
 . exact gs b h
 have:=Z.size;omega
end Go.Proofs.YtkgiigmcbgifdaaGreatDoor
namespace Go.Sh
variable {i n:Nat}
def FWy (nx:Nat->List Nat):Nat->Nat->Nat->Prop
 | 0,i,j=>j∈nx i
 | m+1,i,j=>FWy nx m i j\/(FWy nx m i m/\FWy nx m m j)
section
variable {nx:Nat->List Nat} {n m i j k:Nat}
theorem FWy.rp:∀ {m i j:Nat},FWy nx m i j->RP nx i j
 | 0,_,_,h=>.one h
 | m+1,_,_,h=>by
   rcases h with h | ⟨h1,h2⟩
   . exact FWy.rp h
   exact (FWy.rp h1).trans (FWy.rp h2)
theorem FWy.up (h:j∈nx i):∀ m,FWy nx m i j
 | 0=>h
 | m+1=>.inl (FWy.up h m)
def FWy.old {m i:Nat} (h:FWy nx (m+1) i m):FWy nx m i m:=by
 rcases h with h | ⟨h,_⟩<;>exact h
def FWy.old' {m j:Nat} (h:FWy nx (m+1) m j):FWy nx m m j:=by
 rcases h with h | ⟨_,h⟩<;>exact h
theorem FWy.cat:∀ {m i j k:Nat},j<m->FWy nx m i j->FWy nx m j k->FWy nx m i k
 | m+1,i,j,k,hj,h1,h2=>by
   rcases qa9 (qbq.1 hj) with hl | rfl
   . rcases h1 with a | ⟨a,b⟩
     . rcases h2 with c | ⟨c,d⟩
       . exact .inl (FWy.cat hl a c)
       exact .inr ⟨FWy.cat hl a c,d⟩
     rcases h2 with c | ⟨c,d⟩
     . exact .inr ⟨a,FWy.cat hl b c⟩
     exact .inr ⟨a,d⟩
   exact .inr ⟨h1.old,h2.old'⟩
theorem FWy.iff (hn:∀ i j,j∈nx i->i<n/\j<n):FWy nx n i j↔RP nx i j:=by
 refine ⟨FWy.rp,λh=>?_⟩
 induction h with
 | one h=>exact FWy.up h n
 | more _ h2 ih=>exact FWy.cat (hn _ _ h2).1 ih (FWy.up h2 n)
end
theorem zmz {p q:Nat->Prop}:∀ n,(zbb n p).length=(zbb n λi=>p i/\q i).length+(zbb n λi=>p i/\¬q i).length
 | 0=>rfl
 | n+1=>by
   have ih:=zmz (p:=p) (q:=q) n;by_cases hp:p n
   . by_cases hq:q n
     . rw [zdf hp,zdf (p:=λi=>p i/\q i) ⟨hp,hq⟩,zdz (p:=λi=>p i/\¬q i) λh=>h.2 hq];simp only [qab,qaC];omega
     rw [zdf hp,zdz (p:=λi=>p i/\q i) λh=>hq h.2,zdf (p:=λi=>p i/\¬q i) ⟨hp,hq⟩];simp only [qab,qaC];omega
   rw [zdz hp,zdz (p:=λi=>p i/\q i) λh=>hp h.1,zdz (p:=λi=>p i/\¬q i) λh=>hp h.1];exact ih
def zpj {p:Nat->Prop} (hi:i<n) (hp:p i):0<(zbb n p).length:=qb4 (zaO.2 ⟨hi,hp⟩)
def zqU {n x:Nat} {p q:Nat->Prop} (h:∀ i,i<n->p i->q i) (hx:x<n) (hq:q x) (hp:¬p x):(zbb n p).length<(zbb n q).length:=by
 have h1:=zmz (p:=q) (q:=p) n;have h2:(zbb n λi=>q i/\p i)=zbb n p:=zhN λi hi=>⟨λh=>h.2,λk=>⟨h i hi k,k⟩⟩;have:=zpj (p:=λi=>q i/\¬p i) hx ⟨hq,hp⟩;rw [h2] at h1;omega
section
variable (n:Nat) (way:Nat->Nat->Prop)
def zcm (i j:Nat):Prop:=j=i\/(way i j/\way j i)
def OkC (told:Nat->Prop) (i:Nat):Prop:=i<n/\¬told i/\∀ j,j<n->way i j->way j i\/told j
open Classical in
noncomputable def zg8 (told:Nat->Prop):Option Nat:=(List.range n).find? λi=>decide (OkC n way told i)
def zjr (told:Nat->Prop) (i j:Nat):Prop:=told j\/zcm way i j
noncomputable def zfr:Nat->(Nat->Prop)->List (List Nat)
 | 0,_=>[]
 | f+1,told=>match zg8 n way told with
   | none=>[]
   | some i=>zbb n (zcm way i) :: zfr f (zjr way told i)
noncomputable def zfu (told:Nat->Prop):Nat:=(zbb n λi=>¬told i).length
noncomputable def zqV:List (List Nat):=zfr n way n λ_=>False
def Whole (told:Nat->Prop):Prop:=∀ i j,told j->way i j->way j i->told i
end
section
variable {n:Nat} {way:Nat->Nat->Prop} {told:Nat->Prop} {i f:Nat}
def zhY:zg8 n way told=none↔∀ i,¬OkC n way told i:=by
 unfold zg8;rw [List.find?_eq_none];simp only [qaL,qau];exact ⟨λh i hi=>h i hi.1 hi,λh i _=>h i⟩
def zjs (h:zg8 n way told=some i):OkC n way told i:=by
 unfold zg8 at h;simpa using List.find?_some h
theorem zj7 (h:OkC n way told i) (hm:∀ j,j<i->¬OkC n way told j):zg8 n way told=some i:=by
 cases e:zg8 n way told with
 | none=>exact absurd h (zhY.1 e i)
 | some k=>
   have hk:=zjs e;unfold zg8 at e;rw [List.find?_eq_some_iff_append] at e;obtain ⟨_,l1,_,hr,ha⟩:=e;rcases qcv i k with hl | rfl | hl
   . exfalso;have h1:(List.range n)[l1.length]?=some k:=by rw [hr];simp
     have:l1.length=k:=by
       obtain ⟨h3,h4⟩:=List.getElem?_eq_some_iff.1 h1;simpa using h4
     have h3:i∈l1:=by
       have h4:(List.range n)[i]?=some i:=by simp [h.1]
       rw [hr,List.getElem?_append_left oo] at h4;exact List.mem_of_getElem? h4
     simpa [h] using ha i h3
   . rfl
   exact absurd hk (hm k hl)
def zuU (hi:i<n) (h:¬told i):zfu n (zjr way told i)<zfu n told:=
 zqU (λj _ hj=>λhj'=>hj (.inl hj')) hi h λhj=>hj (.inr (.inl rfl))
theorem zmA (h:zg8 n way told=none):zfr n way f told=[]:=by
 cases f with
 | zero=>rfl
 | succ f=>simp only [zfr,h]
theorem zmB (hf:zfu n told<=f) (h:zg8 n way told=some i):∃ f',zfr n way f told=zbb n (zcm way i) :: zfr n way f' (zjr way told i)/\zfu n (zjr way told i)<=f'/\f=f'+1:=by
 have ho:=zjs h;have:=zuU (way:=way) ho.1 ho.2.1;cases f with
 | zero=>omega
 | succ f=>exact ⟨f,by simp only [zfr,h],oo,rfl⟩
def zpk:zfu n told<=n:=zbe
def zuV (h:zfu n told=0):zg8 n way told=none:=zhY.2 λi hi=>by
 have:=zpj (p:=λi=>¬told i) hi.1 hi.2.1;unfold zfu at h;omega
def Whole.start:Whole way λ_=>False:=λ_ _ h _ _=>h
def Whole.more (ht:∀ i j k,way i j->way j k->way i k) (h:Whole way told):Whole way (zjr way told i):=λa b hb h1 h2=>by
 rcases hb with hb | rfl | ⟨h3,h4⟩
 . exact .inl (h a b hb h1 h2)
 . exact .inr (.inr ⟨h2,h1⟩)
 exact .inr (.inr ⟨ht _ _ _ h3 h2,ht _ _ _ h1 h4⟩)
def zzN (h:Whole way told) (hi:¬told i):zfu n told=zfu n (zjr way told i)+(zbb n (zcm way i)).length:=by
 have h1:=zmz (p:=λj=>¬told j) (q:=zcm way i) n
 have h2:(zbb n λj=>¬told j/\zcm way i j)=zbb n (zcm way i):=zhN λj _=>⟨λh=>h.2,λhp=>⟨λhj=>by
   rcases hp with rfl | ⟨h3,h4⟩
   . exact hi hj
   exact hi (h i j hj h3 h4),hp⟩⟩
 have h3:(zbb n λj=>¬told j/\¬zcm way i j)=zbb n λj=>¬zjr way told i j:=zhN λj _=>by
   unfold zjr;exact not_or.symm
 rw [h2,h3] at h1;unfold zfu;omega
theorem zqW (ht:∀ i j k,way i j->way j k->way i k):∀ (m i:Nat),(zbb n λj=>j=i\/way i j).length<=m->i<n->¬told i->∃ j,OkC n way told j
 | 0,i,hm,hi,hti=>by have:=zpj (p:=λj=>j=i\/way i j) hi (.inl rfl);omega
 | m+1,i,hm,hi,hti=>by
   by_cases ho:OkC n way told i
   . exact ⟨i,ho⟩
   have:∃ j,j<n/\way i j/\¬way j i/\¬told j:=by
     refine qbd λg0=>ho ⟨hi,hti,λj hj hw=>?_⟩;refine qbd λhx=>g0 ⟨j,hj,hw,λh=>hx (.inl h),λh=>hx (.inr h)⟩
   obtain ⟨j,hj,hw,hb,g1⟩:=this
   have hlt:(zbb n λk=>k=j\/way j k).length<(zbb n λk=>k=i\/way i k).length:=by
     refine zqU (x:=i) (λk _ hk=>?_) hi (.inl rfl) ?_
     . rcases hk with rfl | hk
       . exact .inr hw
       exact .inr (ht _ _ _ hw hk)
     rintro (rfl | h)
     . exact hb hw
     exact hb h
   exact zqW ht m j oo hj g1
theorem zuW (ht:∀ i j k,way i j->way j k->way i k) (h:0<zfu n told):∃ i,zg8 n way told=some i:=by
 unfold zfu at h;obtain ⟨i,hi⟩:=List.exists_mem_of_length_pos h;obtain ⟨h1,h2⟩:=zaO.1 hi;obtain ⟨j,hj⟩:=zqW ht _ i (lr _) h1 h2;cases e:zg8 n way told with
 | none=>exact absurd hj (zhY.1 e j)
 | some k=>exact ⟨k,rfl⟩
theorem zj8:∀ {f:Nat} {told:Nat->Prop},Whole way told->(ht:∀ i j k,way i j->way j k->way i k)->∀ p∈zfr n way f told,∃ i,i<n/\¬told i/\p=zbb n (zcm way i)
 | 0,_,_,_,p,hp=>by cases hp
 | f+1,told,hw,ht,p,hp=>by
   simp only [zfr] at hp;cases e:zg8 n way told with
   | none=>rw [e] at hp;cases hp
   | some i=>
     rw [e] at hp;have ho:=zjs e;rcases qaa.1 hp with rfl | hp
     . exact ⟨i,ho.1,ho.2.1,rfl⟩
     obtain ⟨j,h1,h2,h3⟩:=zj8 (hw.more ht) ht p hp;exact ⟨j,h1,λh=>h2 (.inl h),h3⟩
theorem zqX:∀ {f:Nat} {told:Nat->Prop},Whole way told->(ht:∀ i j k,way i j->way j k->way i k)->(zfr n way f told).Pairwise λa b=>∀ x∈a,x∉b
 | 0,_,_,_=>.nil
 | f+1,told,hw,ht=>by
   simp only [zfr];cases e:zg8 n way told with
   | none=>exact .nil
   | some i=>
     refine qaW.2 ⟨λp hp x hx hxp=>?_,zqX (hw.more ht) ht⟩;obtain ⟨j,h1,h2,rfl⟩:=zj8 (hw.more ht) ht p hp;have h3:=(zaO.1 hx).2;have h4:=(zaO.1 hxp).2;rcases h4 with rfl | ⟨h5,h6⟩
     . exact h2 (.inr h3)
     exact h2 ((hw.more (i:=i) ht) j x (.inr h3) h5 h6)
theorem znT:∀ {f:Nat} {told:Nat->Prop},(zfr n way f told).length<=f
 | 0,_=>qaE _
 | f+1,told=>by
   simp only [zfr];cases zg8 n way told with
   | none=>simp
   | some i=>simp only [qam];have:=znT (f:=f) (told:=zjr way told i);omega
def zCK (h:i<n):zbb n (zcm way i)≠[]:=List.ne_nil_of_mem (zaO.2 ⟨h,.inl rfl⟩)
end
end Go.Sh
namespace Go.Proofs.YtkgiigmcbgifdaaGreatDoor
open Go Go.Sh Go.Proofs
open Rep (rep)
variable {b n o:Nat} {w:wD}
structure DArc where
 fr:Int
 to:Int
def DArc.ext_iff {x y:DArc}:x=y↔(x.fr=y.fr/\x.to=y.to):=⟨λh=>by rw [h];exact ⟨rfl,rfl⟩,λh=>by obtain ⟨h0,h1⟩:=h;cases x;cases y;simp only at h0 h1;simp only [h0,h1]⟩
instance:DecidableEq DArc:=λx y=>decidable_of_iff (x.fr=y.fr/\x.to=y.to) DArc.ext_iff.symm
instance:Rep DArc:=Rep.via λx=>(x.fr,x.to)
def zhw {x:DArc} (h:At w b o x):At w b (o+0) x.fr:=zcB (α:=Int) (β:=Int) (p:=(x.fr,x.to)) h
def zhx {x:DArc} (h:At w b o x):At w b (o+1) x.to:=zbi (α:=Int) (β:=Int) (p:=(x.fr,x.to)) h
instance:RepZ DArc:=⟨⟨(RepZ.zv:Int),(RepZ.zv:Int)⟩,RepZ.zc (Int×Int),λw=>RepZ.zr (α:=Int×Int) w⟩
instance:Flat DArc:=⟨λh=>Flat.flat (α:=Int×Int) h⟩
noncomputable def nxA (n:Nat) (A:List DArc) (i:Nat):List Nat:=zbb n λj=>i<n/\(⟨i,j⟩:DArc)∈A
def zBv {A:List DArc}:∀ i j,j∈nxA n A i->i<n/\j<n:=λi j h=>by
 obtain ⟨h1,h2⟩:=zaO.1 h;exact ⟨h2.1,h1⟩
def ztU (nx:Nat->List Nat) (p:List Nat):Prop:=∃ x∈p,RP nx x x
end Go.Proofs.YtkgiigmcbgifdaaGreatDoor
namespace Go.Sh
open Rep (rep)
instance:Rep Nat where
 size:=1
 agg:=false
 rep F _ cs x:=F=[]/\cs=[.int .u64 (x:Int)]/\x<18446744073709551616
 pos:=by decide
 sz _:=rfl
 len:=by rintro _ _ _ _ ⟨_,rfl,_⟩;rfl
 one:=by rintro _ _ _ _ ⟨_,rfl,_⟩ v hv;simp at hv;subst hv;rfl
 keep:=by rintro _ _ _ _ _ h _;exact h
 lt:=by rintro _ _ _ _ ⟨rfl,_⟩ b hb;cases hb
instance:Flat Nat:=⟨λh=>h.1⟩
instance:RepZ Nat:=⟨0,[.int .u64 0],λ_=>⟨rfl,rfl,by decide⟩⟩
section
variable {P:pG} {w w0:wD} {K:vL->Prop} {t:TypeId} {x y:Operand}
def zzO {x:Nat} (h:x<18446744073709551616):Mine [] w (.int .u64 (x:Int)) x:=⟨⟨_,⟨rfl,rfl,h⟩,rfl⟩,qas,Wr.nil w⟩
def ztV {t by_ b o:Nat} {x:Nat} (ht:tyI P t=some (1,by_,false)) (h:At w0 b o x) (hx:Ext w0 w) (k:K (.int .u64 (x:Int))):RD P (Instr.loadAt t (.pointer (some ⟨b,o,none⟩))) w K:=
 zab (α:=Nat) ht h hx λv hv=>by
   obtain ⟨F,cs,⟨_,rfl,_⟩,rfl⟩:=hv;exact k
def zzP {n:Nat} (h:n<18446744073709551616):IntKind.u64.wrap (n:Int)=(n:Int):=by simp [IntKind.wrap,IntKind.signed,IntKind.bits];omega
def ztW {m n:Nat} (hm:m<4611686018427387904) (hn:n<4611686018427387904) (k:K (.int .u64 ((m ||| n:Nat):Int))):RD P (bin .or t x y (.int .u64 (m:Int)) (.int .u64 (n:Int))) w K:=by
 have:m ||| n<2^62:=qa0 hm hn;refine za9 (λw' _=>?_) k
 have e2:((BitVec.ofInt 64 (m:Int)) ||| (BitVec.ofInt 64 (n:Int))).toNat=m ||| n:=by
   simp only [BitVec.toNat_or,BitVec.ofInt_natCast,BitVec.toNat_ofNat];rw [qbs oo,qbs oo]
 show (do eqGuard .or t x y (.int .u64 (m:Int)) (.int .u64 (n:Int));binOp .or t (.int .u64 (m:Int)) (.int .u64 (n:Int)):Sem vL).run P w'=_;simp only [eqGuard,binOp,Op.intBits];show Result.ok (Value.int .u64 (IntKind.u64.wrap (((BitVec.ofInt 64 (m:Int)) ||| (BitVec.ofInt 64 (n:Int))).toNat:Nat))) w'=_;rw [e2,zzP oo]
def zj9 {m n:Nat} (hm:m<4611686018427387904) (hn:n<4611686018427387904) (k:K (.int .u64 ((m &&& n:Nat):Int))):RD P (bin .and t x y (.int .u64 (m:Int)) (.int .u64 (n:Int))) w K:=by
 have:m &&& n<=m:=qa4;refine za9 (λw' _=>?_) k
 have e2:((BitVec.ofInt 64 (m:Int)) &&& (BitVec.ofInt 64 (n:Int))).toNat=m &&& n:=by
   simp only [BitVec.toNat_and,BitVec.ofInt_natCast,BitVec.toNat_ofNat];rw [qbs oo,qbs oo]
 show (do eqGuard .and t x y (.int .u64 (m:Int)) (.int .u64 (n:Int));binOp .and t (.int .u64 (m:Int)) (.int .u64 (n:Int)):Sem vL).run P w'=_;simp only [eqGuard,binOp,Op.intBits];show Result.ok (Value.int .u64 (IntKind.u64.wrap (((BitVec.ofInt 64 (m:Int)) &&& (BitVec.ofInt 64 (n:Int))).toNat:Nat))) w'=_;rw [e2,zzP oo]
def znU {m n:Nat} (hm:m<4611686018427387904) (hn:n<4611686018427387904) (k:K (.int .u64 ((zkQ m n:Nat):Int))):RD P (bin .andNot t x y (.int .u64 (m:Int)) (.int .u64 (n:Int))) w K:=by
 have hlt:zkQ m n<=m:=ziu m n;refine za9 (λw' _=>?_) k
 have e2:((BitVec.ofInt 64 (m:Int)) &&& ~~~(BitVec.ofInt 64 (n:Int))).toNat=zkQ m n:=by
   apply qbl;intro i;have g0:m<2^64:=oo;have g1:n<2^64:=oo;simp only [BitVec.testBit_toNat,BitVec.getLsbD_and,BitVec.getLsbD_not,BitVec.ofInt_natCast,BitVec.getLsbD_ofNat,zdh];by_cases hi:i<64
   . simp [hi]
   have:m.testBit i=false:=qbn (qan g0 (qaG oo oo));simp [hi,this]
 show (do eqGuard .andNot t x y (.int .u64 (m:Int)) (.int .u64 (n:Int));binOp .andNot t (.int .u64 (m:Int)) (.int .u64 (n:Int)):Sem vL).run P w'=_;simp only [eqGuard,binOp,Op.intBits];show Result.ok (Value.int .u64 (IntKind.u64.wrap (((BitVec.ofInt 64 (m:Int)) &&& ~~~(BitVec.ofInt 64 (n:Int))).toNat:Nat))) w'=_;rw [e2,zzP oo]
def zka {m n:Nat} {ku:IntKind} (hm:m<4611686018427387904) (k:K (.int .u64 ((m >>> n:Nat):Int))):RD P (bin .shr t x y (.int .u64 (m:Int)) (.int ku (n:Int))) w K:=by
 refine za9 (λw' _=>?_) k;have e0:¬((n:Int)<0):=oo
 have e1:(m:Int).fdiv (2^(min n 64))=((m >>> n:Nat):Int):=by
   rw [qbr];have h2:((2:Int)^(min n 64))=((2^(min n 64):Nat):Int):=by simp
   rw [h2,qcG _ (Int.natCast_nonneg _),<-Int.natCast_ediv];by_cases h:n<=64
   . rw [qbH h]
   rw [Nat.min_eq_right oo,qci oo,qci (qan (by omega:m<2^64) (qaG oo oo))]
 show (do eqGuard .shr t x y (.int .u64 (m:Int)) (.int ku (n:Int));binOp .shr t (.int .u64 (m:Int)) (.int ku (n:Int)):Sem vL).run P w'=_;simp only [eqGuard,binOp,Op.shift,e0,if_false,qaF];show Result.ok (Value.int .u64 ((m:Int).fdiv (2^(min n 64)))) w'=_;rw [e1]
def zsj {n:Nat} {ku:IntKind} (hn:n<62) (k:K (.int .u64 ((2^n:Nat):Int))):RD P (bin .shl t x y (.int .u64 1) (.int ku (n:Int))) w K:=by
 refine za9 (λw' _=>?_) k;have:(2^n:Nat)<4611686018427387904:=qaY oo hn;have e1:IntKind.u64.wrap ((2^n:Nat):Int)=((2^n:Nat):Int):=zzP oo;have e0:¬((n:Int)<0):=oo;have e2:min n 64=n:=oo;show (do eqGuard .shl t x y (.int .u64 1) (.int ku (n:Int));binOp .shl t (.int .u64 1) (.int ku (n:Int)):Sem vL).run P w'=_;simp only [eqGuard,binOp,Op.shift,e0,if_false,qaF];show Result.ok (Value.int .u64 (IntKind.u64.wrap ((1:Int)*2^(min n 64)))) w'=_;rw [e2,<-e1];simp
end
end Go.Sh
namespace Go.Proofs.YtkgiigmcbgifdaaGreatDoor
open Go Go.Sh Go.Proofs
open Rep (rep)
variable {W0 W1 W2 w w1 w4 wT:wD} {hi i j k lo m n:Nat} {v v0 v1 v2:vL}
section
variable {nx:Nat->List Nat} {n m i j k t:Nat} {A:List DArc} {p q:Nat->Prop}
def zCL:FWy nx (m+1) m j↔FWy nx m m j:=⟨FWy.old',.inl⟩
def zpl:zcU p n ||| zcU q n=zcU (λi=>p i\/q i) n:=zen λi=>by
 rw [qaX,qaQ,za4,za4];exact ⟨λh=>h.elim (λh=>⟨h.1,.inl h.2⟩) λh=>⟨h.1,.inr h.2⟩,λ⟨h,h'⟩=>h'.elim (λh'=>.inl ⟨h,h'⟩) λh'=>.inr ⟨h,h'⟩⟩
def zpm (hi:i<n):2^i=zcU (λj=>j=i) n:=zen λj=>by
 rw [qaU,qau];exact ⟨λh=>⟨h▸hi,h.symm⟩,λh=>h.2.symm⟩
def zyi:0=zcU (λ_=>False) n:=zen λj=>by simp
def zeN (hn:n<=60):zcU p n<4611686018427387904:=qan zjU (qal (qaG (n:=2) oo hn) dD)
def zCM (hn:n<=60):zcU p n<18446744073709551616:=Nat.lt_trans (zeN hn) dD
noncomputable def zd7 (nx:Nat->List Nat) (n m k:Nat):List Nat:=(List.range n).map λi=>zcU (FWy nx (if i<k then m+1 else m) i) n
def zdn:(zd7 nx n m k).length=n:=by simp [zd7]
def zd4 (h:i<(zd7 nx n m k).length):(zd7 nx n m k)[i]=zcU (FWy nx (if i<k then m+1 else m) i) n:=by simp [zd7]
def zuX (h:m<(zd7 nx n m k).length):(zd7 nx n m k)[m]=zcU (FWy nx m m) n:=by
 rw [zd4];refine zbB λ_ _=>?_;split
 . exact zCL
 exact .rfl
def zuY:zd7 nx n m n=zd7 nx n (m+1) 0:=qa5 λi hi=>by
 rw [qah (qaL.1 hi),qad oo]
def zuZ (x:Nat) (hx:x=zcU (FWy nx (m+1) k) n) (hk:k<n):(zd7 nx n m k).set k x=zd7 nx n m (k+1):=by
 subst hx;refine qaP (by simp [zd7]) λi _ _=>?_;rw [qcj,zd4,zd4];by_cases h:k=i
 . subst h;rw [qah rfl,qah oo]
 rw [qad h];by_cases h3:i<k
 . rw [qah h3,qah oo]
 rw [qad h3,qad oo]
def zu0 (h:¬FWy nx m k m):zd7 nx n m k=zd7 nx n m (k+1):=qa5 λi _=>by
 by_cases h3:i<k
 . rw [qah h3,qah oo]
 rw [qad h3];by_cases h4:i<k+1
 . have:i=k:=oo;subst this;rw [qah h4];exact zbB λ_ _=>⟨.inl,λh'=>h'.elim id λh'=>absurd h'.1 h⟩
 rw [qad h4]
def zEV (h:FWy nx m k m):zcU (FWy nx m k) n ||| zcU (FWy nx m m) n=zcU (FWy nx (m+1) k) n:=by
 rw [zpl];exact zbB λ_ _=>⟨λh'=>h'.elim .inl λh'=>.inr ⟨h,h'⟩,λh'=>h'.elim .inl λh'=>.inr h'.2⟩
noncomputable def zmC (nx:Nat->List Nat) (n:Nat):List Nat:=(List.range n).map λi=>zcU (RP nx i) n
def zqY:(zmC nx n).length=n:=by simp [zmC]
def zqZ (h:i<(zmC nx n).length):(zmC nx n)[i]=zcU (RP nx i) n:=by simp [zmC]
def zyj (hn:∀ i j,j∈nx i->i<n/\j<n):zd7 nx n n 0=zmC nx n:=qa5 λi hi=>by
 rw [qad oo];exact zbB λj _=>FWy.iff hn
def zCN:nxA n []=λ_=>[]:=by
 funext i;unfold nxA zbb;rw [qcZ];intro _ _ h;simp at h
def ztX {a:DArc} (hf:a.fr=(i:Int)) (ht:a.to=(k:Int)) (hi:i<n) (hk:k<n) {x y:Nat}:y∈nxA n (A++[a]) x↔y∈nxA n A x\/(x=i/\y=k):=by
 unfold nxA;simp only [zaO,qae,qay,DArc.ext_iff,hf,ht];constructor
 . rintro ⟨h1,h2,h3 | ⟨h3,h4⟩⟩
   . exact .inl ⟨h1,h2,h3⟩
   exact .inr ⟨qa7.1 h3,qa7.1 h4⟩
 rintro (⟨h1,h2,h3⟩ | ⟨rfl,rfl⟩)
 . exact ⟨h1,h2,.inl h3⟩
 exact ⟨hk,hi,.inr ⟨rfl,rfl⟩⟩
def zyk:List.replicate n 0=zd7 (nxA n []) n 0 0:=by
 refine qaP (by simp [zd7]) λ_ _ _=>?_;rw [zd4,qcu];refine zen λ_=>?_;rw [qad oo,zCN];simp [FWy]
def zu1 {a:DArc} (hf:a.fr=(i:Int)) (ht:a.to=(k:Int)) (hi:i<n) (hk:k<n) (h:i<(zd7 (nxA n A) n 0 0).length) :
   (zd7 (nxA n A) n 0 0).set i ((zd7 (nxA n A) n 0 0)[i] ||| 2^k)=zd7 (nxA n (A++[a])) n 0 0:=by
 refine qaP (by simp [zd7]) λx _ _=>?_;rw [qcj];simp only [zd4,zpm hk,zpl];by_cases hx:i=x
 . subst hx;rw [qah rfl,qad oo];refine zbB λj _=>?_;show _↔j∈nxA n (A++[a]) i;rw [ztX hf ht hi hk];exact ⟨λh=>h.elim .inl λh=>.inr ⟨rfl,h⟩,λh=>h.elim .inl λh=>.inr h.2⟩
 rw [qad hx,qad oo];refine zbB λj _=>?_;show j∈nxA n A x↔j∈nxA n (A++[a]) x;rw [ztX hf ht hi hk];exact ⟨.inl,λh=>h.elim id λh=>absurd h.1.symm hx⟩
end
section
variable {n i j f:Nat} {way:Nat->Nat->Prop} {told:Nat->Prop}
def zm0 (way:Nat->Nat->Prop) (i j x:Nat):Prop:=x=i\/(x<j/\way i x/\way x i)
def zu2 (hi:i<n):2^i=zcU (zm0 way i 0) n:=by
 rw [zpm hi];exact zbB λ_ _=>⟨.inl,λh=>h.elim id λh=>oo⟩
def zyl (hj:j<n) (h1:way i j) (h2:way j i):zcU (zm0 way i j) n ||| 2^j=zcU (zm0 way i (j+1)) n:=by
 rw [zpm hj,zpl];refine zbB λ_ _=>?_;unfold zm0;constructor
 . rintro ((h | h) | rfl)
   . exact .inl h
   . exact .inr ⟨oo,h.2⟩
   exact .inr ⟨oo,h1,h2⟩
 rintro (h | ⟨h3,h4⟩)
 . exact .inl (.inl h)
 rcases qa9 (qbq.1 h3) with h5 | h5
 . exact .inl (.inr ⟨h5,h4⟩)
 exact .inr h5
def ztY (h:¬(way i j/\way j i)):zcU (zm0 way i j) n=zcU (zm0 way i (j+1)) n:=by
 refine zbB λ_ _=>?_;unfold zm0;constructor
 . rintro (h1 | h1)
   . exact .inl h1
   exact .inr ⟨oo,h1.2⟩
 rintro (h1 | ⟨h3,h4⟩)
 . exact .inl h1
 rcases qa9 (qbq.1 h3) with h5 | h5
 . exact .inr ⟨h5,h4⟩
 subst h5;exact absurd h4 h
def zym:zcU (zm0 way i n) n=zcU (zcm way i) n:=zbB λx hx=>
 ⟨λh=>h.elim .inl λh=>.inr h.2,λh=>h.elim .inl λh=>.inr ⟨hx,h⟩⟩
def zzQ (hi:i<n) (ht:¬told i):zkQ (zkQ (zcU (way i) n) (zcU (zcm way i) n)) (zcU told n)=0↔OkC n way told i:=by
 constructor
 . intro h;refine ⟨hi,ht,λj hj hw=>?_⟩;have h1:(zkQ (zkQ (zcU (way i) n) (zcU (zcm way i) n)) (zcU told n)).testBit j=false:=by rw [h];simp
   rw [zdh,zdh] at h1;have h2:(zcU (way i) n).testBit j=true:=za4.2 ⟨hj,hw⟩;rw [h2] at h1;by_cases h3:(zcU told n).testBit j=true
   . exact .inr (za4.1 h3).2
   have h4:(zcU (zcm way i) n).testBit j=true:=by
     cases e:(zcU (zcm way i) n).testBit j
     . simp [e,h3] at h1
     rfl
   rcases (za4.1 h4).2 with rfl | h5
   . exact .inl hw
   exact .inl h5.2
 rintro ⟨_,_,h⟩;refine qbl λj=>?_;rw [zdh,zdh,qcB];cases e:(zcU (way i) n).testBit j
 . simp
 obtain ⟨hj,hw⟩:=za4.1 e;rcases h j hj hw with h1 | h1
 . have:(zcU (zcm way i) n).testBit j=true:=za4.2 ⟨hj,.inr ⟨hw,h1⟩⟩;simp [this]
 have:(zcU told n).testBit j=true:=za4.2 ⟨hj,h1⟩;simp [this]
def zCO (h:i<n):zcU told n ||| zcU (zcm way i) n=zcU (zjr way told i) n:=zpl
end
def zFt:zcq tp 207=some [.int .u64 0]:=by kernel_rfl
structure RU (w0 w:wD) (v:vL) (l:List Nat):Prop where
 ext:Ext w0 w
 own:Own w0.heap.size w v l
section
variable {w0 w w':wD} {v:vL} {l:List Nat} {i m n:Nat}
def RU.step (h:RU w0 w v l) (hx:Ext w w'):RU w0 w' v l:=⟨h.ext.trans hx,h.own.ext hx⟩
def RU.get {K:vL->Prop} (h:RU w0 w v l) (hi:i<l.length) (k:K (.int .u64 (l[i]:Int))) :
   RD tp (Instr.indexAt 205 v (.int .i64 (i:Int))) w λa=>RD tp (Instr.loadAt 207 a) w K:=
 zac zCX zrw h.own.is hi λb o hA=>ztV zrw hA (xrf _) k
def zpn {w1:wD} {K:vL->Prop} (h:Is w1 v l) (hx:Ext w1 w) (hi:i<l.length) (k:K (.int .u64 (l[i]:Int))) :
   RD tp (Instr.indexAt 205 v (.int .i64 (i:Int))) w λa=>RD tp (Instr.loadAt 207 a) w K:=
 zac zCX zrw h hi λb o hA=>ztV zrw hA hx k
def RU.set {K:wD->Prop} (h:RU w0 w v l) (hi:i<l.length) (hm:m<18446744073709551616) (k:∀ w',RU w0 w' v (l.set i m)->K w') :
   RD tp (Instr.indexAt 205 v (.int .i64 (i:Int))) w λa=>OPU tp (Instr.storeAt 207 a (.int .u64 (m:Int))) w K:=by
 obtain ⟨_,hM,hF⟩:=h.own;refine zfz zCX zrw hM hi λb _ _ hL=>zfc (upd:=λy=>l.set i y) (y':=m) zrw hL (zzO hm) λw2 F2 g0 g1 g2=>k w2 ⟨h.ext.chg_trans g0 hF,F2,g1,λb hb=>hF b (g2 b hb)⟩
def zzR {K:VW} (hn:n<=60) (k:∀ v w',RU w w' v (List.replicate n 0)->K v w'):OP tp (Instr.makeSlice 205 (.int .i64 (n:Int)) (.int .i64 (n:Int))) w K:=
 zhG (α:=Nat) zCX zrw rfl rfl zFt oo oo λw2 hx2 hr2=>k _ w2 ⟨hx2,hr2.own.own⟩
end
def zvn:(((m >>> i &&& 1:Nat):Int)=1)↔m.testBit i=true:=by
 have:=zxg m i;constructor
 . intro h;rw [<-this,qau];exact h
 intro h;rw [<-this,qau] at h;exact h
def znV {A:List DArc} (h1:Is W1 v1 A) (e1:Ext W1 w) (hn:n<=60) (hA:∀ a∈A,(0<=a.fr/\a.fr<n)/\0<=a.to/\a.to<n) (hl:A.length<=2000) :
   CALL tp 165 [.int .i64 (n:Int),v1] w λr w'=>Ext w w'/\Own w.heap.size w' r (zmC (nxA n A) n):=by
 refine co (g:=kf [] [(3,1073725568,[14]),(8,2305843004918727424,[32]),(11,1152921367167894016,[37])] [(5,[0,1,2,3,4,5,6,7,8,9,10,11],0),(14,[0,1,2,3,4,5,6,7,8,9,10],0)]) Tryz.func165 ?_;refine zzR hn λvr _ gc=>zae znd h1<|zar A.length (λk us w'=>us=[.int .i64 (k:Int)]/\k<=A.length/\RU w w' vr (zd7 (nxA n (A.take k)) n 0 0)) 0 (z0 _) ⟨rfl,z0 _,by rw [qb2,<-zyk];exact gc⟩ ?_;rintro k mk _ _ _ ⟨hu,_,D⟩;try replace hu:=zbv hu
 rw [hu];refine zah<|br (λ_=>?_) (λ_=>?_)
 . have hk:k<A.length:=oo;refine zac znd zeI h1 hk λ_ _ gd=>zab zeI gd (e1.trans D.ext) λ_ gf=>zbN zyR rfl zeI rfl gf (e1.trans D.ext) λw3 gg g0 _=>?_;have O:=zai w3;generalize World.drew1 w3=w4 at *;have C:=(D.step gg).step O;obtain ⟨⟨_,_⟩,_,_⟩:=hA _ (qac hk);obtain ⟨i,hi⟩:∃ i:Nat,A[k].fr=(i:Int):=⟨A[k].fr.toNat,oo⟩;obtain ⟨j,hj⟩:∃ j:Nat,A[k].to=(j:Int):=⟨A[k].to.toNat,oo⟩;refine zaa zli<|zad ty3 (zhw g0) O λ_=>?_;rw [hi];refine C.get (by rw [zdn];omega)<|zaa zlj<|zad ty3 (zhx g0) O λ_=>?_;rw [hj];refine zcc kK zlh oo<|zsj oo ?_;have g1:2^j<4611686018427387904:=qaN (qaG (n:=2) oo (show j<=60 by omega)) dD;refine ztW (by rw [zd4];exact zeN hn) g1 ?_;have hb:(zd7 (nxA n (A.take k)) n 0 0)[i]'(by rw [zdn];omega) ||| 2^j<2^62:=qa0 (by rw [zd4];exact zeN hn) g1;refine C.set (by rw [zdn];omega) oo λw5 M=>?_;rw [zu1 hi hj oo oo] at M;refine zaw<|⟨mk-1,oo,k+1,oo,rfl,oo,?_⟩;rw [tk hk];exact M
 have gh:k=A.length:=oo;rw [gh,qaM] at D;refine zae zCX D.own.is ?_;rw [zdn];refine zar n (λm us w'=>us=[.int .i64 (m:Int)]/\m<=n/\RU w w' vr (zd7 (nxA n A) n m 0)) 0 (z0 _) ⟨rfl,z0 _,D⟩ ?_;rintro m mm _ w3 _ ⟨g2,_,U⟩;try replace g2:=zbv g2
 rw [g2];refine zah<|br (λ_=>?_) (λ_=>?_)
 case refine_2=>
   have gi:m=n:=oo;rw [gi,zyj zBv] at U;exact ⟨U.ext,U.own⟩
 have hm:m<n:=oo;refine zae zCX U.own.is ?_;rw [zdn];refine zar n (λk us w'=>us=[.int .i64 (k:Int)]/\k<=n/\RU w w' vr (zd7 (nxA n A) n m k)) 0 (z0 _) ⟨rfl,z0 _,U⟩ ?_;rintro i mi _ w4 _ ⟨g3,_,C⟩;try replace g3:=zbv g3
 rw [g3];refine zah<|br (λ_=>?_) (λ_=>?_)
 case refine_2=>
   have gj:i=n:=oo;rw [gj,zuY] at C;refine zaw<|⟨mm-1,oo,m+1,oo,rfl,oo,C⟩
 have hi:i<n:=oo;refine C.get (by rw [zdn];omega)<|zcc kK zlh oo<|zka (by rw [zd4];exact zeN hn) ?_;have g5:zcU (FWy (nxA n A) m i) n<4611686018427387904:=zeN hn;have V:(zd7 (nxA n A) n m i)[i]'(by rw [zdn];omega)=zcU (FWy (nxA n A) m i) n:=by rw [zd4,qad oo]
 have g9:(zd7 (nxA n A) n m i)[m]'(by rw [zdn];omega)=zcU (FWy (nxA n A) m m) n:=zuX _;refine zj9 (n:=1) (qaN (by rw [qbr];exact qc4 _ _) (show _<_ by rw [V];exact g5)) oo<|zag<|br (λhb=>?_) (λhb=>?_)
 . have g4:FWy (nxA n A) m i m:=by
     rw [zvn,V,za4] at hb;exact hb.2
   have O:=zai w4;generalize World.drew1 w4=w5 at *;have M:=C.step O;refine M.get (by rw [zdn];omega)<|M.get (by rw [zdn];omega)<|ztW (by rw [V];exact g5) (by rw [g9];exact zeN hn) ?_;rw [V,g9,zEV g4];refine M.set (by rw [zdn];omega) (zCM hn) λ_ gb=>?_;rw [zuZ _ rfl hi] at gb;refine zaw<|⟨mi-1,oo,i+1,oo,rfl,oo,gb⟩
 have g4:¬FWy (nxA n A) m i m:=λh=>hb (by rw [zvn,V,za4];exact ⟨hm,h⟩);rw [zu0 g4] at C;refine zaw<|⟨mi-1,oo,i+1,oo,rfl,oo,C⟩
def zq0 (m i:Nat):m >>> i<=m:=by rw [qbr];exact qc4 _ _
def zsk {A:List DArc} (h1:Is W1 v1 A) (e1:Ext W1 w) (hn:n<=60) (hA:∀ a∈A,(0<=a.fr/\a.fr<n)/\0<=a.to/\a.to<n) (hl:A.length<=2000) :
   CALL tp 87 [.int .i64 (n:Int),v1] w λr w'=>Ext w w'/\Own w.heap.size w' r ((zqV n (RP (nxA n A))).map zaK):=by
 refine co (g:=kf [(19,37778931862957161582336,[8,9])] [(4,1267650600228229401496703090640,[6,7]),(7,37778931862957161582336,[8,9,10]),(12,36893488078699629056,[9,36]),(23,9902915851373234884605652992,[12,79])] []) Tryz.func87 ?_;refine (znV h1 e1 hn hA hl).mono ?_;rintro _ w1 ⟨gD,gI⟩;have g2:=gI.is;have hWl:(zmC (nxA n A) n).length=n:=zqY;have gp:∀ i (h:i<(zmC (nxA n A) n).length),(zmC (nxA n A) n)[i]=zcU (RP (nxA n A) i) n:=λi h=>zqZ h;generalize zmC (nxA n A) n=ws at *;generalize RP (nxA n A)=way at *;have hs1:=gD.size;refine zar n (λk us w'=>∃ out f told L,us=[out,.int .u64 ((zcU told n:Nat):Int)]/\f+k=n/\zfu n told<=f/\zqV n way=L++zfr n way f told/\L.length=k/\Ext w1 w'/\∃ lo hi,w1.heap.size<=lo/\lo<=w'.heap.size/\hi<=w'.heap.size/\RowI lo hi 31 w' out (L.map zaK)) 0 (z0 _) ⟨_,n,λ_=>False,[],by rw [<-zyi];rfl,rfl,zpk,rfl,rfl,xrf _,w1.heap.size,w1.heap.size,lr _,qaE _,lr _,zbL _ _ _ _⟩ ?_;rintro k mk _ w2 _ ⟨out,f,told,L,hu,_,gJ,gq,gK,g4,lo,hi,gE,_,gL,gF⟩;obtain ⟨gM,gN⟩:=zcv hu;rw [gM,gN];have U:zcU told n<4611686018427387904:=zeN hn;refine JOIN.mk (λus w'=>w'=w2/\((zg8 n way told=none/\∃ p,us=[.int .i64 (-1),.int .u64 p])\/∃ i:Nat,zg8 n way told=some i/\us=[.int .i64 (i:Int),.int .u64 ((zcU (zcm way i) n:Nat):Int)])) ?_ ?_
 . refine zar n (λi us w'=>w'=w2/\i<=n/\∃ fd p,us=[.int .i64 fd,.int .u64 p,.int .i64 (i:Int)]/\((fd=-1/\∀ j,j<i->¬OkC n way told j)\/∃ i0:Nat,fd=(i0:Int)/\OkC n way told i0/\(∀ j,j<i0->¬OkC n way told j)/\p=((zcU (zcm way i0) n:Nat):Int))) 0 (z0 _) ⟨rfl,z0 _,-1,0,rfl,.inl ⟨rfl,λj hj=>oo⟩⟩ ?_;rintro i mi _ w3 _ ⟨rfl,_,fd,p,gO,D⟩;obtain ⟨gr,gs,gt⟩:=zEC gO;rw [gr,gs,gt];refine zah<|br (λgP=>?_) (λgQ=>?_)
   case refine_2=>
     have hie:i=n:=oo;refine ⟨rfl,?_⟩;rcases D with ⟨rfl,g0⟩ | ⟨i0,rfl,V,g3,rfl⟩
     . exact .inl ⟨zhY.2 λj hj=>g0 j (by have:=hj.1;omega) hj,_,rfl⟩
     exact .inr ⟨i0,zj7 V g3,rfl⟩
   have gg:i<n:=oo;refine zah<|br (λgG=>?_) (λgG=>?_)
   case refine_2=>
     refine ⟨rfl,?_⟩;rcases D with ⟨rfl,g0⟩ | ⟨i0,rfl,V,g3,rfl⟩
     . exact absurd dD gG
     exact .inr ⟨i0,zj7 V g3,rfl⟩
   have g0:fd=-1/\∀ j,j<i->¬OkC n way told j:=by
     rcases D with h | ⟨i0,rfl,_⟩
     . exact h
     omega
   obtain ⟨rfl,g0⟩:=g0;refine zcc kK zlh oo<|zka U<|zj9 (n:=1) (qaN (zq0 _ _) U) oo<|zag<|br (λhb=>?_) (λhb=>?_)
   . rw [zvn,za4] at hb;refine zaw<|⟨mi-1,oo,i+1,oo,rfl,oo,-1,p,rfl,.inl ⟨rfl,λj hj=>?_⟩⟩;rcases qa9 (qbq.1 hj) with h | rfl
     . exact g0 j h
     exact λh=>h.2.1 hb.2
   have gR:¬told i:=λh=>hb (by rw [zvn,za4];exact ⟨gg,h⟩);refine zcc kK zlh oo<|zsj oo ?_;rw [zu2 (way:=way) gg];refine zar n (λj us w'=>w'=w3/\j<=n/\us=[.int .u64 ((zcU (zm0 way i j) n:Nat):Int),.int .i64 (j:Int)]) 0 (z0 _) ⟨rfl,z0 _,rfl⟩ ?_;rintro j mj _ w4 gS ⟨rfl,gT,gx⟩;obtain ⟨g5,g9⟩:=zcv gx;rw [g5,g9];have M:∀ j,zcU (zm0 way i j) n<4611686018427387904:=λj=>zeN hn;have C:∀ j,zcU (way j) n<4611686018427387904:=λj=>zeN hn;refine zah<|br (λ_=>?_) (λ_=>?_)
   . have hj:j<n:=oo;refine zpn (i:=i) g2 g4 oo ?_;rw [gp];refine zcc kK zlh oo<|zka (C _)<|zj9 (n:=1) (qaN (zq0 _ _) (C _)) oo<|zag<|br (λgh=>?_) (λgh=>?_)
     . rw [zvn,za4] at gh;refine zpn (i:=j) g2 g4 oo ?_;rw [gp];refine zcc kK zlh oo<|zka (C _)<|zj9 (n:=1) (qaN (zq0 _ _) (C _)) oo<|zag<|br (λgi=>?_) (λgi=>?_)
       . rw [zvn,za4] at gi;refine zcc kK zlh oo<|zsj oo<|ztW (M _) (qaN (qaG (n:=2) oo (show j<=60 by omega)) dD) ?_;rw [zyl hj gh.2 gi.2];refine zaw<|⟨mj-1,oo,j+1,oo,rfl,oo,rfl⟩
       rw [ztY (n:=n) (j:=j) λh=>gi (by rw [zvn,za4];exact ⟨gg,h.2⟩)];refine zaw<|⟨mj-1,oo,j+1,oo,rfl,oo,rfl⟩
     rw [ztY (n:=n) (j:=j) λh=>gh (by rw [zvn,za4];exact ⟨hj,h.1⟩)];refine zaw<|⟨mj-1,oo,j+1,oo,rfl,oo,rfl⟩
   have gy:j=n:=oo;rw [gy,zym];refine zpn (i:=i) g2 g4 oo ?_;rw [gp];refine znU (C _) (zeN hn)<|znU (qaN (ziu _ _) (C _)) U<|zag ?_;have gb:=zzQ (way:=way) gg gR;refine br (λhb=>?_) (λhb=>?_)
   . have V:OkC n way told i:=gb.1 oo;refine zaw<|⟨mi-1,oo,i+1,oo,rfl,oo,_,_,rfl,.inr ⟨i,rfl,V,g0,rfl⟩⟩
   have V:¬OkC n way told i:=λh=>hb (by rw [gb.2 h];rfl);refine zaw<|⟨mi-1,oo,i+1,oo,rfl,oo,-1,_,rfl,.inl ⟨rfl,λj hj=>?_⟩⟩;rcases qa9 (qbq.1 hj) with h | rfl
   . exact g0 j h
   exact V
 rintro _ w3 ⟨rfl,hJ⟩;rcases hJ with ⟨gj,p,Z⟩ | ⟨i,gj,Z⟩
 . obtain ⟨O,g1⟩:=zcv Z;clear Z;rw [O];refine zah<|br (λ_=>?_) (λh=>absurd dD h);rw [zmA gj,qaJ] at gq;rw [gq];exact ⟨gD.t g4,gF.own.own.mono oo⟩
 obtain ⟨O,g1⟩:=zcv Z;rw [O,g1];refine zah<|br (λh=>oo) (λ_=>?_);have V:=zjs gj;obtain ⟨f',gU,gz,_⟩:=zmB gJ gj;refine zar n (λj us w'=>∃ lv,us=[lv,.int .i64 (j:Int)]/\j<=n/\Ext w3 w'/\RowI w3.heap.size w'.heap.size 3 w' lv (zaK (zbb j (zcm way i)))) 0 (z0 _) ⟨_,rfl,z0 _,xrf _,zbL _ _ _ _⟩ ?_;rintro j mj _ w4 gS ⟨lv,gA,gT,gc,gl⟩;obtain ⟨gd,gf⟩:=zcv gA;rw [gd,gf];have gH:=gc.size;have M:zcU (zcm way i) n<4611686018427387904:=zeN hn;have hsl:(zbb j (zcm way i)).length<=j:=zbe;refine zah<|br (λgP=>?_) (λgQ=>?_)
 . have hj:j<n:=oo;refine zcc kK zlh oo<|zka M<|zj9 (n:=1) (qaN (zq0 _ _) M) oo<|zag<|br (λhb=>?_) (λhb=>?_)
   . rw [zvn,za4] at hb;refine zbs (lo2:=w4.heap.size) (hi2:=w4.heap.size) (x:=(j:Int)) u31 ty3 z3 zc3 dD gl gH (ownI_int io) (lr _) gH (by rw [zak,zaf];omega) (by rw [zaf];omega) λgB w9 gn gC=>zaw<|⟨mj-1,oo,j+1,oo,gB,rfl,oo,gc.chgI gn (lr _),?_⟩;rw [zdf hb.2,zcz];exact gC
   refine zaw<|⟨mj-1,oo,j+1,oo,lv,rfl,oo,gc,?_⟩;rw [zdz λh=>hb (by rw [zvn,za4];exact ⟨hj,h⟩)];exact gl
 have gy:j=n:=oo;rw [gy] at gl;refine zbs (lo2:=w3.heap.size) (hi2:=w4.heap.size) (x:=zaK (zbb n (zcm way i))) u40 zcn z31 zEs dD (gF.ext gc) oo gl.own gL oo (by rw [zak,qaD];omega) (by rw [qaD];omega) λgB w9 gn gC=>ztW U M ?_;rw [zCO (n:=n) V.1];have hs9:=gn.size;refine ⟨mk-1,oo,k+1,oo,gB,f',zjr way told i,L++[zbb n (zcm way i)],rfl,oo,gz,by rw [gq,gU,qaA];rfl,by simp [gK],(g4.t gc).chgI gn gE,lo,w9.heap.size,gE,oo,lr _,?_⟩;rw [qbh];exact gC
section
variable {nx:Nat->List Nat} {n m i j k t:Nat} {A:List DArc} {p q:Nat->Prop}
noncomputable def zcO (nx:Nat->List Nat) (n m k j:Nat):List (List Bool):=(List.range n).map λi=>zbT n λx=>FWy nx (if i<k\/(i=k/\x<j) then m+1 else m) i x
def zq1:(zcO nx n m k j).length=n:=by simp [zcO]
def zcP (h:i<(zcO nx n m k j).length):(zcO nx n m k j)[i]=zbT n λx=>FWy nx (if i<k\/(i=k/\x<j) then m+1 else m) i x:=by simp [zcO]
def ztZ (h:i<(zcO nx n m k j).length) {x:Nat} (hx:x<((zcO nx n m k j)[i]).length):((zcO nx n m k j)[i])[x]=true↔FWy nx (if i<k\/(i=k/\x<j) then m+1 else m) i x:=by
 rw [<-zaZ hx,zcP,zaM];rw [zcP,zam] at hx;exact ⟨λh=>h.2,λh=>⟨hx,h⟩⟩
def zpo:FWy nx 0 i j↔j∈nx i:=.rfl
def zzS:FWy nx (m+1) k m↔FWy nx m k m:=⟨FWy.old,.inl⟩
def zzT:FWy nx (m+1) m j↔FWy nx m m j:=⟨FWy.old',.inl⟩
def zyn:zcO nx n m k n=zcO nx n m (k+1) 0:=qa5 λi _=>zaX λx _=>by
 have:(i<k\/(i=k/\x<n))↔(i<k+1\/(i=k+1/\x<0)):=oo;simp only [this]
def zu3:zcO nx n m n 0=zcO nx n (m+1) 0 0:=qa5 λi hi=>zaX λx hx=>by
 have hi:=qaL.1 hi;rw [qah (.inl hi),qad oo]
def zu4 (h:¬FWy nx m k m):zcO nx n m k 0=zcO nx n m (k+1) 0:=qa5 λi hi=>zaX λx hx=>by
 by_cases h3:i<k
 . rw [qah (.inl h3),qah oo]
 rw [qad oo];by_cases h4:i=k
 . subst h4;rw [qah oo];exact ⟨.inl,λh'=>h'.elim id λh'=>absurd h'.1 h⟩
 rw [qad oo]
def zzU (h:¬FWy nx m m j):zcO nx n m k j=zcO nx n m k (j+1):=qa5 λi hi=>zaX λx hx=>by
 by_cases h1:i<k\/(i=k/\x<j)
 . rw [qah h1,qah oo]
 rw [qad h1];by_cases h2:i=k/\x=j
 . obtain ⟨rfl,rfl⟩:=h2;rw [qah oo];exact ⟨.inl,λh'=>h'.elim id λh'=>absurd h'.2 h⟩
 rw [qad oo]
def zpp {p:Nat->Prop} (hj:j<n):(zbT n p).set j true=zbT n λx=>p x\/x=j:=by
 refine zcp (by rw [qbD,zam]) λ_ hi=>?_;rw [zdc (by rw [zam];exact hj),zaM];exact ⟨λh=>h.elim (λh=>.inl h.2) .inr,λh=>h.elim (λh=>.inl ⟨hi,h⟩) .inr⟩
def zyo (hk:k<n) (hj:j<n) (h1:FWy nx m k m) (h2:FWy nx m m j) (h:k<(zcO nx n m k j).length) :
   (zcO nx n m k j).set k ((zcO nx n m k j)[k].set j true)=zcO nx n m k (j+1):=by
 refine qaP (by simp [zcO]) λi _ _=>?_;rw [qcj];by_cases hi:k=i
 . subst hi;rw [qah rfl,zcP,zcP,zpp hj];refine zaX λx hx=>?_;by_cases hxj:x=j
   . subst hxj;have e1:(if k<k\/(k=k/\x<x+1) then m+1 else m)=m+1:=qah (.inr ⟨rfl,oo⟩);rw [e1];exact ⟨λ_=>.inr ⟨h1,h2⟩,λ_=>.inr rfl⟩
   by_cases hl:x<j
   . rw [qah (.inr ⟨rfl,hl⟩),qah (.inr ⟨rfl,oo⟩)];exact ⟨λh=>h.elim id λh=>absurd h hxj,.inl⟩
   rw [qad oo,qad oo];exact ⟨λh=>h.elim id λh=>absurd h hxj,.inl⟩
 rw [qad hi,zcP,zcP];refine zaX λx hx=>?_;by_cases h5:i<k\/(i=k/\x<j)
 . rw [qah h5,qah oo]
 rw [qad h5,qad oo]
noncomputable def zgV (nx:Nat->List Nat) (n:Nat):List (List Bool):=(List.range n).map λi=>zbT n (RP nx i)
def zq2:(zgV nx n).length=n:=by simp [zgV]
def zjt (h:i<(zgV nx n).length):(zgV nx n)[i]=zbT n (RP nx i):=by simp [zgV]
def zt0 (h:i<(zgV nx n).length) {x:Nat} (hx:x<((zgV nx n)[i]).length):((zgV nx n)[i])[x]=true↔RP nx i x:=by
 rw [<-zaZ hx,zjt,zaM];rw [zjt,zam] at hx;exact ⟨λh=>h.2,λh=>⟨hx,h⟩⟩
def zyp (hn:∀ i j,j∈nx i->i<n/\j<n):zcO nx n n 0 0=zgV nx n:=qa5 λi hi=>zaX λx hx=>by
 rw [qad oo];exact FWy.iff hn
def zzV:nxA n []=λ_=>[]:=by
 funext i;unfold nxA zbb;rw [qcZ];intro _ _ h;simp at h
def zq3 {a:DArc} (hf:a.fr=(i:Int)) (ht:a.to=(k:Int)) (hi:i<n) (hk:k<n) {x y:Nat}:y∈nxA n (A++[a]) x↔y∈nxA n A x\/(x=i/\y=k):=by
 unfold nxA;simp only [zaO,qae,qay,DArc.ext_iff,hf,ht];constructor
 . rintro ⟨h1,h2,h3 | ⟨h3,h4⟩⟩
   . exact .inl ⟨h1,h2,h3⟩
   exact .inr ⟨qa7.1 h3,qa7.1 h4⟩
 rintro (⟨h1,h2,h3⟩ | ⟨rfl,rfl⟩)
 . exact ⟨h1,h2,.inl h3⟩
 exact ⟨hk,hi,.inr ⟨rfl,rfl⟩⟩
def zu5:List.replicate n (List.replicate n false)=zcO (nxA n []) n 0 0 0:=by
 refine qaP (by simp [zcO]) λ_ _ _=>?_;rw [zcP,qcu];refine zcp ss λ_ _=>?_;rw [qad oo,zzV];simp [FWy,zbR]
def zsl {a:DArc} (hf:a.fr=(i:Int)) (ht:a.to=(k:Int)) (hi:i<n) (hk:k<n) (h:i<(zcO (nxA n A) n 0 0 0).length) :
   (zcO (nxA n A) n 0 0 0).set i ((zcO (nxA n A) n 0 0 0)[i].set k true)=zcO (nxA n (A++[a])) n 0 0 0:=by
 refine qaP (by simp [zcO]) λx _ _=>?_;rw [qcj];by_cases hx:i=x
 . subst hx;rw [qah rfl,zcP,zcP,zpp hk];refine zaX λj _=>?_;rw [qad oo];rw [zpo,zpo,zq3 hf ht hi hk];exact ⟨λh=>h.elim .inl λh=>.inr ⟨rfl,h⟩,λh=>h.elim .inl λh=>.inr h.2⟩
 rw [qad hx,zcP,zcP];refine zaX λj _=>?_;rw [qad oo];rw [zpo,zpo,zq3 hf ht hi hk];exact ⟨.inl,λh=>h.elim id λh=>absurd h.1.symm hx⟩
end
section
variable {n i j f:Nat} {way:Nat->Nat->Prop} {told:Nat->Prop}
def OkK (way:Nat->Nat->Prop) (told:Nat->Prop) (i j:Nat):Prop:=¬told i/\∀ x,x<j->way i x->way x i\/told x
def zyq (hi:i<n):OkK way told i n↔OkC n way told i:=⟨λh=>⟨hi,h⟩,λh=>h.2⟩
def zzW:OkK way told i (j+1)↔OkK way told i j/\(way i j->way j i\/told j):=by
 constructor
 . rintro ⟨h1,h2⟩;exact ⟨⟨h1,λx hx=>h2 x oo⟩,h2 j oo⟩
 rintro ⟨⟨h1,h2⟩,h3⟩;refine ⟨h1,λx hx=>?_⟩;rcases qa9 (qbq.1 hx) with h | rfl
 . exact h2 x h
 exact h3
def zmD (way:Nat->Nat->Prop) (told:Nat->Prop) (i j x:Nat):Prop:=told x\/(x<j/\zcm way i x)
def zu6:zbT n told=zbT n (zmD way told i 0):=zaX λx _=>⟨.inl,λh=>h.elim id λh=>oo⟩
def zyr:zbT n (zmD way told i n)=zbT n (zjr way told i):=zaX λx hx=>⟨λh=>h.elim .inl λh=>.inr h.2,λh=>h.elim .inl λh=>.inr ⟨hx,h⟩⟩
def zq4 (hj:j<n) (h:zcm way i j):(zbT n (zmD way told i j)).set j true=zbT n (zmD way told i (j+1)):=by
 rw [zpp hj];refine zaX λ_ _=>?_;unfold zmD;constructor
 . rintro ((h1 | h1) | rfl)
   . exact .inl h1
   . exact .inr ⟨oo,h1.2⟩
   exact .inr ⟨oo,h⟩
 rintro (h1 | ⟨h1,h2⟩)
 . exact .inl (.inl h1)
 rcases qa9 (qbq.1 h1) with h3 | h3
 . exact .inl (.inr ⟨h3,h2⟩)
 exact .inr h3
def zzX (h:¬zcm way i j):zbT n (zmD way told i j)=zbT n (zmD way told i (j+1)):=by
 refine zaX λ_ _=>?_;unfold zmD;constructor
 . rintro (h1 | h1)
   . exact .inl h1
   exact .inr ⟨oo,h1.2⟩
 rintro (h1 | ⟨h1,h2⟩)
 . exact .inl h1
 rcases qa9 (qbq.1 h1) with h3 | h3
 . exact .inr ⟨h3,h2⟩
 subst h3;exact absurd h2 h
end
def zFb:zcq tp 4=some [.bool false]:=by kernel_rfl
structure RB (w0 w:wD) (v:vL) (l:List (List Bool)):Prop where
 ext:Ext w0 w
 own:Own w0.heap.size w v l
section
variable {w0 w w' w1:wD} {v:vL} {l:List (List Bool)} {i j m n:Nat}
def RB.step (h:RB w0 w v l) (hx:Ext w w'):RB w0 w' v l:=⟨h.ext.trans hx,h.own.ext hx⟩
def zkb {K:vL->Prop} (h:Is w1 v l) (hx:Ext w1 w) (hi:i<l.length) (hj:j<l[i].length) (k:K (.bool l[i][j])) :
   RD tp (Instr.indexAt 150 v (.int .i64 (i:Int))) w λa=>RD tp (Instr.loadAt 125 a) w λb=>RD tp (Instr.indexAt 125 b (.int .i64 (j:Int))) w λc=>RD tp (Instr.loadAt 4 c) w K:=
 zac zud zcR h hi λb o hA=>zab zcR hA hx λv2 h2=>zac zdj ty4 h2 hj λb2 o2 hA2=>zaC ty4 hA2 hx k
def RB.set {K:wD->Prop} (h:RB w0 w v l) (hi:i<l.length) (hj:j<l[i].length) (k:∀ w',RB w0 w' v (l.set i (l[i].set j true))->K w') :
   RD tp (Instr.indexAt 150 v (.int .i64 (i:Int))) w λa=>RD tp (Instr.loadAt 125 a) w λb=>RD tp (Instr.indexAt 125 b (.int .i64 (j:Int))) w λc=>OPU tp (Instr.storeAt 4 c (.bool true)) w K:=by
 obtain ⟨_,hM,hF⟩:=h.own;refine zfz zud zcR hM hi λb _ _ hL=>zlw zcR hL λ_ g3 g0 g4=>zfz zdj ty4 g3 hj λ_ _ _ g5=>zfc (upd:=λy=>l[i].set j y) (y':=true) ty4 g5 zlx λw2 F2 g1 g9 g2=>?_;obtain ⟨F5,gb,gc⟩:=g4 w2 F2 _ g1 g9 λc hc=>.inl (g2 c hc);refine k w2 ⟨h.ext.chg_trans (g1.mono g0) hF,F5,gb,λc hc=>?_⟩;rcases gc c hc with h6 | h6
 . exact hF c h6
 exact hF c (g0 c (g2 c h6))
end
def zmE {A:List DArc} (h1:Is W1 v1 A) (e1:Ext W1 w) (hn:n<=60) (hA:∀ a∈A,(0<=a.fr/\a.fr<n)/\0<=a.to/\a.to<n) (hl:A.length<=2000) :
   CALL tp 182 [.int .i64 (n:Int),v1] w λr w'=>Ext w w'/\Own w.heap.size w' r (zgV (nxA n A) n):=by
 refine co (g:=kf [] [(3,4190304,[5,6]),(7,4398042316928,[7]),(11,604462909802916540843776,[8]),(14,604462909666577098999296,[9]),(17,604462905303714959983616,[10])] [(9,[0,1,2,3,4,5,6,7,8,9,10,11,12,13,14],0)]) Tryz.func182 ?_;refine zaI (α:=List Bool) zud zcR λ_ _ gr _=>zar n (λk us w'=>∃ out,us=[out,.int .i64 (k:Int)]/\k<=n/\Ext w w'/\RowI w.heap.size w'.heap.size 125 w' out (List.replicate k (List.replicate n false))) 0 (z0 _) ⟨_,rfl,z0 _,gr,zcg _ _ _ _ _⟩ ?_;rintro k mk q w2 gs ⟨out,hq,gt,g2,g0⟩;obtain ⟨gx,gy⟩:=zcv hq;clear hq;rw [gx,gy];have hs2:=g2.size;refine zah<|br (λgz=>?_) (λgA=>?_)
 . refine zhG (α:=Bool) zdj ty4 rfl rfl zFb oo oo λw3 g3 gB=>?_;have hs3:=g3.size;refine zbs (x:=List.replicate n false) zud zcR zEG zBR dD (g0.ext g3) oo gB.own (lr _) oo (by rw [zak,qcb];omega) (by rw [qcb];omega) λgC _ gD gE=>zaw<|⟨mk-1,oo,k+1,oo,gC,rfl,oo,(g2.t g3).chgI gD (lr _),?_⟩;rw [List.replicate_succ'];exact gE
 have g4:k=n:=oo;rw [g4,zu5] at g0;have gF:RB w w2 out (zcO (nxA n []) n 0 0 0):=⟨g2,g0.own.own⟩;clear g0;refine zar A.length (λk us w'=>us=[.int .i64 (k:Int)]/\k<=A.length/\RB w w' out (zcO (nxA n (A.take k)) n 0 0 0)) 0 (z0 _) ⟨rfl,z0 _,by rw [qb2];exact gF⟩ ?_;rintro k mk q w3 gs ⟨hq,gt,g5⟩;try replace hq:=zbv hq
 rw [hq];refine zae znd h1<|zah<|br (λgz=>?_) (λgA=>?_)
 . have hk:k<A.length:=oo;have gG:=zai w3;generalize World.drew1 w3=w4 at *;have D:=g5.step gG;obtain ⟨⟨_,_⟩,_,_⟩:=hA _ (qac hk);obtain ⟨i,hi⟩:∃ i:Nat,A[k].fr=(i:Int):=⟨A[k].fr.toNat,oo⟩;obtain ⟨j,hj⟩:∃ j:Nat,A[k].to=(j:Int):=⟨A[k].to.toNat,oo⟩;refine zac znd zeI h1 hk λ_ _ gH=>zaa zli<|zad ty3 (zhw gH) (e1.trans D.ext) λ_=>?_;rw [hi];obtain ⟨_,hM,hF⟩:=D.own;have gi:i<(zcO (nxA n (A.take k)) n 0 0 0).length:=by rw [zq1];omega
   refine zfz zud zcR hM gi λ_ _ _ hL=>zlw zcR hL λ_ gI gj gJ=>zac znd zeI h1 hk λ_ _ gK=>zaa zlj<|zad ty3 (zhx gK) (e1.trans D.ext) λ_=>?_;rw [hj];refine zfz zdj ty4 gI (k:=j) (by rw [zcP,zam];omega) λ_ _ _ gL=>zfc (upd:=λy=>(zcO (nxA n (A.take k)) n 0 0 0)[i].set j y) (y':=true) ty4 gL zlx λw5 F5 gl gM gn=>?_;obtain ⟨F6,gN,gO⟩:=gJ w5 F5 _ gl gM λc hc=>.inl (gn c hc)
   have C:RB w w5 out ((zcO (nxA n (A.take k)) n 0 0 0).set i ((zcO (nxA n (A.take k)) n 0 0 0)[i].set j true)):=⟨D.ext.chg_trans (gl.mono gj) hF,F6,gN,λc hc=>by
     rcases gO c hc with h6 | h6
     . exact hF c h6
     exact hF c (gj c (gn c h6))⟩
   rw [zsl hi hj oo oo] at C;refine zaw<|⟨mk-1,oo,k+1,oo,rfl,oo,?_⟩;rw [tk hk];exact C
 have g4:k=A.length:=oo;rw [g4,qaM] at g5;refine zar n (λm us w'=>us=[.int .i64 (m:Int)]/\m<=n/\RB w w' out (zcO (nxA n A) n m 0 0)) 0 (z0 _) ⟨rfl,z0 _,g5⟩ ?_;rintro m mm _ w4 _ ⟨g9,_,D⟩;try replace g9:=zbv g9
 rw [g9];refine zah<|br (λ_=>?_) (λ_=>?_)
 case refine_2=>
   have gP:m=n:=oo;rw [gP,zyp zBv] at D;exact ⟨D.ext,D.own⟩
 have hm:m<n:=oo;refine zar n (λk us w'=>us=[.int .i64 (k:Int)]/\k<=n/\RB w w' out (zcO (nxA n A) n m k 0)) 0 (z0 _) ⟨rfl,z0 _,D⟩ ?_;rintro i mi _ w5 _ ⟨gb,gi,gc⟩;try replace gb:=zbv gb
 rw [gb];refine zah<|br (λ_=>?_) (λ_=>?_)
 case refine_2=>
   have gQ:i=n:=oo;rw [gQ,zu3] at gc;refine zaw<|⟨mm-1,oo,m+1,oo,rfl,oo,gc⟩
 have hi:i<n:=oo;refine zar n (λj us w'=>us=[.int .i64 (j:Int)]/\j<=n/\(0<j->FWy (nxA n A) m i m)/\RB w w' out (zcO (nxA n A) n m i j)) 0 (z0 _) ⟨rfl,z0 _,λh=>absurd h oo,gc⟩ ?_;rintro j mj _ _ _ ⟨gd,_,gf,C⟩;try replace gd:=zbv gd
 rw [gd];refine zah<|br (λ_=>?_) (λ_=>?_)
 case refine_2=>
   have gR:j=n:=oo;rw [gR,zyn] at C;refine zaw<|⟨mi-1,oo,i+1,oo,rfl,oo,C⟩
 have hj:j<n:=oo;have hL6:(zcO (nxA n A) n m i j).length=n:=zq1;have U:∀ x (hx:x<(zcO (nxA n A) n m i j).length),((zcO (nxA n A) n m i j)[x]).length=n:=λx hx=>by rw [zcP,zam]
 refine zkb (i:=i) (j:=m) C.own.is (xrf _) oo (by rw [U];omega) ?_;have gg:=ztZ (nx:=nxA n A) (n:=n) (m:=m) (k:=i) (j:=j) (i:=i) oo (x:=m) (by rw [U];omega)
 have gS:FWy (nxA n A) (if i<i\/(i=i/\m<j) then m+1 else m) i m↔FWy (nxA n A) m i m:=by
   split
   . exact zzS
   exact .rfl
 rw [gS] at gg;refine zaN (λhb=>?_) (λhb=>?_)
 case refine_2=>
   have gp:¬FWy (nxA n A) m i m:=λh=>by rw [gg.2 h] at hb;cases hb
   have gT:j=0:=by
     rcases qcn j with h | h
     . exact h
     exact absurd (gf h) gp
   subst gT;rw [zu4 gp] at C;refine zaw<|⟨mi-1,oo,i+1,oo,rfl,oo,C⟩
 have M:=gg.1 hb;refine zkb (i:=m) (j:=j) C.own.is (xrf _) oo (by rw [U];omega) ?_;have O:=ztZ (nx:=nxA n A) (n:=n) (m:=m) (k:=i) (j:=j) (i:=m) oo (x:=j) (by rw [U];omega)
 have gh:FWy (nxA n A) (if m<i\/(m=i/\j<j) then m+1 else m) m j↔FWy (nxA n A) m m j:=by
   split
   . exact zzT
   exact .rfl
 rw [gh] at O;refine zaN (λg1=>?_) (λg1=>?_)
 . have gU:=O.1 g1;refine C.set (i:=i) (j:=j) oo (by rw [U];omega) λ_ gq=>?_;rw [zyo hi hj M gU] at gq;refine zaw<|⟨mj-1,oo,j+1,oo,rfl,oo,λ_=>M,gq⟩
 have gV:¬FWy (nxA n A) m m j:=λh=>by rw [O.2 h] at g1;cases g1
 rw [zzU gV] at C;refine zaw<|⟨mj-1,oo,j+1,oo,rfl,oo,λ_=>M,C⟩
def znW {x:DArc}:Is w v x↔v=.agg #[.int .i64 x.fr,.int .i64 x.to]/\I64 x.fr/\I64 x.to:=by
 constructor
 . rintro ⟨_,_,⟨_,_,_,_,rfl,rfl,⟨rfl,rfl,h1⟩,⟨rfl,rfl,h2⟩⟩,rfl⟩;exact ⟨rfl,h1,h2⟩
 rintro ⟨rfl,h1,h2⟩;exact ⟨[],_,⟨[],[],[.int .i64 x.fr],[.int .i64 x.to],rfl,rfl,⟨rfl,rfl,h1⟩,⟨rfl,rfl,h2⟩⟩,rfl⟩
set_option maxRecDepth 20000 in
theorem zu7 {w w0 w1:wD} {K:vL->Prop} {x y:Operand} {v1 v2:vL} {a b:DArc} (h1:Is w0 v1 a) (h2:Is w1 v2 b) (k:K (.bool (decide (a=b)))):RD tp (bin .eql 201 x y v1 v2) w K:=by
  obtain ⟨rfl,_⟩:=znW.1 h1;obtain ⟨rfl,_⟩:=znW.1 h2;refine za9 (λw' _=>?_) k;have hg:tp.eqGuardType tp.depth 201=false:=by kernel_rfl
  have e0:∀ xs ys w,(eqGuard .eql 201 x y (.agg xs) (.agg ys)).run tp w=.ok () w:=λxs ys w=>run_eqGuard_agg (P:=tp) w .eql 201 x y xs ys hg;have e1:∀ xs ys w,(Op.equalIn 10000 201 (.agg xs) (.agg ys)).run tp w=(Op.eqFields 9999 xs ys (tp.fieldsOf 201).toList).run tp w:=λxs ys w=>run_equalIn_struct w 9999 201 xs ys kK kK;have e2:(tp.fieldsOf 201).toList.map (λf=>(f.name,f.type,f.offset))=[("From", 3,0),("To", 3,1)]:=by kernel_rfl
  have e3:∀ (c d:Int) (w:wD),(Op.equalIn 9999 3 (.int .i64 c) (.int .i64 d)).run tp w=.ok (c == d) w:=λc d w=>run_equalIn_int w 9998 3 .i64 .i64 c d u3;have hd:(a=b)↔(a.fr=b.fr/\a.to=b.to):=DArc.ext_iff;generalize hF:(tp.fieldsOf 201).toList=fs at e1 e2
  match fs,e2 with
  | [f0,f1],e2=>
    simp only [qbX,qcy,qa8,qaB,and_true] at e2;obtain ⟨⟨n0,t0,o0⟩,⟨n1,t1,o1⟩⟩:=e2;have p0:∀ (a b:vL) (w:wD),(part 3 #[a,b] 0).run tp w=.ok a w:=λa b w=>by simp [part,zcd ty3]
    have p1:∀ (a b:vL) (w:wD),(part 3 #[a,b] 1).run tp w=.ok b w:=λa b w=>by simp [part,zcd ty3]
    simp only [bin,Sem.run_bind,e0,Result.andThen_ok,run_eql_struct,e1,Op.eqFields,n0,n1,t0,t1,o0,o1];simp only [ne_eq,String.reduceEq,not_false_eq_true,if_true,Sem.run_bind,p0,p1,Result.andThen_ok,e3,Sem.run_ite,Sem.run_pure,hd];by_cases x0:a.fr=b.fr<;>by_cases x1:a.to=b.to<;>simp [x0,x1]
set_option maxRecDepth 20000 in
theorem zu8 {w w0 w1:wD} {K:vL->Prop} {x y:Operand} {v1 v2:vL} {a b:DArc} (h1:Is w0 v1 a) (h2:Is w1 v2 b) (k:K (.bool (decide (a≠b)))):RD tp (bin .neq 201 x y v1 v2) w K:=by
  obtain ⟨rfl,_⟩:=znW.1 h1;obtain ⟨rfl,_⟩:=znW.1 h2;refine za9 (λw' _=>?_) k;have hg:tp.eqGuardType tp.depth 201=false:=by kernel_rfl
  have e0:∀ xs ys w,(eqGuard .neq 201 x y (.agg xs) (.agg ys)).run tp w=.ok () w:=λxs ys w=>run_eqGuard_agg (P:=tp) w .neq 201 x y xs ys hg;have e1:∀ xs ys w,(Op.equalIn 10000 201 (.agg xs) (.agg ys)).run tp w=(Op.eqFields 9999 xs ys (tp.fieldsOf 201).toList).run tp w:=λxs ys w=>run_equalIn_struct w 9999 201 xs ys kK kK;have e2:(tp.fieldsOf 201).toList.map (λf=>(f.name,f.type,f.offset))=[("From", 3,0),("To", 3,1)]:=by kernel_rfl
  have e3:∀ (c d:Int) (w:wD),(Op.equalIn 9999 3 (.int .i64 c) (.int .i64 d)).run tp w=.ok (c == d) w:=λc d w=>run_equalIn_int w 9998 3 .i64 .i64 c d u3;have hd:(a=b)↔(a.fr=b.fr/\a.to=b.to):=DArc.ext_iff;generalize hF:(tp.fieldsOf 201).toList=fs at e1 e2
  match fs,e2 with
  | [f0,f1],e2=>
    simp only [qbX,qcy,qa8,qaB,and_true] at e2;obtain ⟨⟨n0,t0,o0⟩,⟨n1,t1,o1⟩⟩:=e2;have p0:∀ (a b:vL) (w:wD),(part 3 #[a,b] 0).run tp w=.ok a w:=λa b w=>by simp [part,zcd ty3]
    have p1:∀ (a b:vL) (w:wD),(part 3 #[a,b] 1).run tp w=.ok b w:=λa b w=>by simp [part,zcd ty3]
    simp only [bin,Sem.run_bind,e0,Result.andThen_ok,run_neq_struct,e1,Op.eqFields,n0,n1,t0,t1,o0,o1];simp only [ne_eq,String.reduceEq,not_false_eq_true,if_true,Sem.run_bind,p0,p1,Result.andThen_ok,e3,Sem.run_ite,Sem.run_pure,ne_eq,hd];by_cases x0:a.fr=b.fr<;>by_cases x1:a.to=b.to<;>simp [x0,x1]
def zm1 {l:List DArc} {y:DArc} (hk:k<l.length) (h:y∉l.take k) (c:¬l[k]=y):y∉l.take (k+1):=by
 rw [tk hk];simp only [qae,qaa,qag,qaz,not_or];exact ⟨h,λe=>c e.symm⟩
def zsm {l:(List DArc)} {y:DArc}  (h0:Is W0 v0 l) (e0:Ext W0 w) (h1:Is W1 v1 y) (e1:Ext W1 w)  :
   CALL tp 216 [v0,v1] w λr w'=>Ext w w'/\(∃ n:Int,r=.int .i64 n/\(0<=n↔y∈l)):=by
 refine co (g:=kf [] [(2,524080,[8])] [(4,[0,1,2,3,4,5],0)]) Tryz.func216 ?_;refine za2 zeI rfl h1 e1 λg0 y1 _ g1=>?_;have g2:=zan h0;refine zae znd h0<|zar (l.length) (λk us w'=>us=[.int .i64 (k:Int)]/\Ext g0 w'/\(y∉l.take k)) (0) oo ⟨ss,xrf g0,ss⟩ ?_;rintro k m2 _ g3 _ ⟨hu,y2,C⟩;try replace hu:=zbv hu
 try rw [hu]
 try clear hu
 refine zah<|br (λc1=>?_) (λc1=>?_)
 . have y3:=zai g3;refine zcC g1 (y2.t y3)<|zac znd zeI h0 oo λ_ _ g4=>zab zeI g4 (e0.t (y1.t (y2.t y3))) λ_ g5=>zu7 h1 g5<|br (λc2=>?_) (λc2=>?_)
   . refine ⟨(y1.t (y2.t y3)),?_⟩;have:y∈l:=c2▸qac _;exact ⟨_,rfl,by simp [this]⟩
   refine zaw<|⟨m2-1,oo,k+1,oo,ss,(y2.t y3),?_⟩;exact zm1 oo C (λe=>c2 e.symm)
 refine ⟨(y1.t y2),?_⟩;rw [qai oo] at C;exact ⟨-1,rfl,by simp [C]⟩
def zm2 {l:(List DArc)} {y:DArc}  (h0:Is W0 v0 l) (e0:Ext W0 w) (h1:Is W1 v1 y) (e1:Ext W1 w)  :
   CALL tp 159 [v0,v1] w λr w'=>Ext w w'/\(r=.bool (decide (y∈l))):=by
 refine co (g:=kf [] [] []) Tryz.func159 ?_;refine za2 zeI rfl h1 e1 λg0 y1 _ g1=>zcC g1 (xrf g0) ?_;refine (zsm h0 (e0.t y1) h1 (e1.trans y1)).mono ?_;rintro _ _ ⟨y2,_,rfl,g2⟩;refine zcH<|⟨(y1.t y2),?_⟩;simp [g2]
def zia {A:List DArc} (h1:Is W1 v1 A) (e1:Ext W1 w) (hn:n<=60) (hA:∀ a∈A,(0<=a.fr/\a.fr<n)/\0<=a.to/\a.to<n) (hl:A.length<=2000) :
   CALL tp 181 [.int .i64 (n:Int),v1] w λr w'=>Ext w w'/\r=.bool true:=by
 refine co (g:=kf [] [(4,1099511611440,[5])] []) Tryz.func181 ?_;refine l01In_ok.mono ?_;rintro _ _ ⟨g2,rfl⟩;refine za0<|br (λh=>absurd ⟨oo,oo⟩ h) (λ_=>?_);refine zae znd h1<|zbZ<|br (λh=>oo) (λ_=>?_);refine zar A.length (λk us w'=>us=[.int .i64 (k:Int)]/\k<=A.length/\Ext w w') 0 (z0 _) ⟨rfl,z0 _,g2⟩ ?_;rintro k mk _ _ _ ⟨hq,_,g0⟩;try replace hq:=zbv hq
 rw [hq];refine zae znd h1<|zah<|br (λ_=>?_) (λ_=>?_)
 case refine_2=>exact ⟨g0,rfl⟩
 have hk:k<A.length:=oo;obtain ⟨⟨_,_⟩,_,_⟩:=hA _ (qac hk);refine zac znd zeI h1 hk λ_ _ g3=>zaa zli<|zad ty3 (zhw g3) (e1.trans g0) λ_=>zbp io<|l01In_ok.mono ?_;rintro _ _ ⟨g1,rfl⟩;refine za0<|br (λh=>absurd ⟨oo,oo⟩ h) (λ_=>?_);refine zac znd zeI h1 hk λ_ _ g4=>zaa zlj<|zad ty3 (zhx g4) ((e1.trans g0).trans g1) λ_=>zbp io<|l01In_ok.mono ?_;rintro _ _ ⟨g5,rfl⟩;refine za0<|br (λh=>absurd ⟨oo,oo⟩ h) (λ_=>?_);refine zaw<|⟨mk-1,oo,k+1,oo,rfl,oo,(g0.t g1).trans g5⟩
structure CI (w1 wT w4 w:wD) (tv out lv:vL) (T:List Bool) (lo hi:Nat) (L:List (List Int)) (P:List Int):Prop where
 ext:Ext w1 w
 told:OwnI w1.heap.size wT.heap.size w tv T
 s1:w1.heap.size<=wT.heap.size
 s2:wT.heap.size<=lo
 s3:hi<=w4.heap.size
 s4:w4.heap.size<=w.heap.size
 s5:wT.heap.size<=w4.heap.size
 out:RowI lo hi 31 w out L
 row:RowI w4.heap.size w.heap.size 3 w lv P
def CI.push {tv out lv:vL} {T:List Bool} {L:List (List Int)} {P:List Int} {K:VW} (h:CI w1 wT w4 w tv out lv T lo hi L P) (hj:j<T.length) (gh:j<=60) (hP:P.length<=60)
   (k:∀ v' w',CI w1 wT w4 w' tv out v' (T.set j true) lo hi L (P++[(j:Int)])->K v' w') :
   OP tp (Instr.buildSlice 31 1 #[(0,.int .i64 (j:Int))]) w λs w=>OP tp (Builtin.append_ #[31,31] 31 [lv,s].toArray) w λx w=>RD tp (Instr.indexAt 125 tv (.int .i64 (j:Int))) w λa=>OPU tp (Instr.storeAt 4 a (.bool true)) w λw=>K x w:=by
 have g4:=h.s1;have g5:=h.s2;have g9:=h.s3;have g3:=h.s4;have gb:=h.s5;refine zbs (lo2:=w.heap.size) (hi2:=w.heap.size) (x:=(j:Int)) u31 ty3 z3 zc3 dD h.row g3 (zc2 _ _ io) (lr _) g3 (by rw [zak];omega) oo λv5 _ g0 gc=>?_;have:=g0.size;obtain ⟨_,hM,hF⟩:=h.told.chg g0 oo;refine zfz zdj ty4 hM hj λb _ _ hL=>zfc (upd:=λy=>T.set j y) (y':=true) ty4 hL zlx λw6 F6 gd gf gg=>?_;have g1:=gd.toI hF;have g2:=g1.size;refine k v5 w6 ⟨(h.ext.chgI g0 oo).chgI g1 (lr _),⟨F6,gf,λb hb=>hF b (gg b hb)⟩,g4,g5,g9,oo,gb,(h.out.chg g0 oo).chg g1 oo,(gc.chg g1 oo).mono (lr _) g2⟩
def zzY {way:Nat->Nat->Prop} {told:Nat->Prop} (h:OkK way told i m) (hj:j<=m):OkK way told i j:=⟨h.1,λx hx=>h.2 x oo⟩
def zu9 {A:List DArc} (h1:Is W1 v1 A) (e1:Ext W1 w) (hn:n<=60) (hA:∀ a∈A,(0<=a.fr/\a.fr<n)/\0<=a.to/\a.to<n) (hl:A.length<=2000) :
   CALL tp 98 [.int .i64 (n:Int),v1] w λr w'=>Ext w w'/\Own w.heap.size w' r ((zqV n (RP (nxA n A))).map zaK):=by
 refine co (g:=kf [(16,590295810083827747840,[10])] [(7,10384593717069655257060992591347488,[5,8]),(9,10384593717069655257060992390020896,[5,8,9]),(13,590295810083827747840,[10,11]),(19,40564819202580974365024857370624,[12,13])] []) Tryz.func98 ?_;refine zaI (α:=List Int) u40 zcn λa8 _ gi _=>?_;refine (zia h1 (e1.trans gi) hn hA hl).mono ?_;rintro _ _ ⟨gH,rfl⟩;refine zau<|zaN (λh=>by cases h) (λ_=>?_);refine (zmE h1 ((e1.trans gi).trans gH) hn hA hl).mono ?_;rintro _ w1 ⟨gU,gV⟩;have M:=gV.is;have hWl:(zgV (nxA n A) n).length=n:=zq2;have O:∀ i (h:i<(zgV (nxA n A) n).length),((zgV (nxA n A) n)[i]).length=n:=λi h=>by rw [zjt,zam]
 have gf:∀ i (h:i<(zgV (nxA n A) n).length) x (hx:x<((zgV (nxA n A) n)[i]).length),((zgV (nxA n A) n)[i])[x]=true↔RP (nxA n A) i x:=λi h x hx=>zt0 h hx;have gI:∀ i j k,RP (nxA n A) i j->RP (nxA n A) j k->RP (nxA n A) i k:=λ_ _ _=>RP.trans;generalize zgV (nxA n A) n=ws at *;generalize RP (nxA n A)=way at *;have g0:=(gi.t gH).trans gU;have gW:=g0.size;refine zhG (α:=Bool) zdj ty4 rfl rfl zFb oo oo λwT gJ gX=>?_;have gY:=gJ.size;generalize htv:(Value.slice (some ⟨w1.heap.size,0,none⟩) n n)=tv at *;have gK:=gX.own;rw [show List.replicate n (RepZ.zv:Bool)=zbT n λ_=>False from zdC n λ_=>id] at gK
 have gZ:zfu n (λ_=>False)=n:=by
   unfold zfu zbb;rw [List.filter_eq_self.2 (λa _=>by simp),qbN]
 refine zar n (λk us w'=>∃ out f told L lo hi,us=[out,.int .i64 ((zfu n told:Nat):Int)]/\f+k=n/\zfu n told<=f/\zqV n way=L++zfr n way f told/\L.length=k/\Whole way told/\Ext w1 w'/\OwnI w1.heap.size wT.heap.size w' tv (zbT n told)/\wT.heap.size<=lo/\lo<=w'.heap.size/\hi<=w'.heap.size/\RowI lo hi 31 w' out (L.map zaK)) 0 (z0 _) ⟨.slice (some a8) 0 0,n,λ_=>False,[],wT.heap.size,wT.heap.size,by rw [gZ],rfl,zpk,rfl,rfl,Whole.start,gJ,gK,lr _,qaE _,lr _,zcg _ _ _ _ _⟩ ?_;rintro k mk _ w2 _ ⟨out,f,told,L,lo,hi,hq,_,h4,gj,h5,gL,Z,gl,gM,_,_,gN⟩;obtain ⟨h6,h8⟩:=zcv hq;rw [h6,h8];have hs2:=Z.size;have hll:zfu n told<=n:=zpk;refine zbZ<|br (λ_=>?_) (λ_=>?_)
 case refine_2=>rw [zmA (zuV oo),qaJ] at gj;rw [gj];exact ⟨g0.t Z,gN.own.own.mono oo⟩
 obtain ⟨i1,h9⟩:=zuW (told:=told) gI (show 0<zfu n told by omega);refine zar n (λi us w'=>w'=w2/\i<=n/\us=[out,.int .i64 ((zfu n told:Nat):Int),.int .i64 (i:Int)]/\∀ j,j<i->¬OkC n way told j) 0 (z0 _) ⟨rfl,z0 _,rfl,λj hj=>oo⟩ ?_;rintro i mi _ w3 _ ⟨rfl,_,ha,gn⟩;obtain ⟨gp,gq,gr⟩:=zEC ha;rw [gp,gq,gr];refine zah<|br (λ_=>?_) (λ_=>?_)
 case refine_2=>have h:=zjs h9;exact absurd h (gn i1 (by have:=h.1;omega))
 have gO:i<n:=oo;have hTl:(zbT n told).length=n:=zam
 have gP:∀ x (hx:x<(zbT n told).length),(zbT n told)[x]=true↔told x:=λx hx=>by
   rw [<-zaZ hx,zaM];exact ⟨λh=>h.2,λh=>⟨oo,h⟩⟩
 refine zac (i:=i) zdj ty4 gl.is oo λ_ _ hc=>zaC ty4 hc (xrf _)<|zau<|JOIN.mk (λus w'=>w'=w3/\∃ b,us=[.bool b]/\(b=true↔OkC n way told i)) ?_ ?_
 . refine zar n (λj us w'=>w'=w3/\j<=n/\∃ b,us=[.bool b,.int .i64 (j:Int)]/\(b=true↔OkK way told i j)) 0 (z0 _) ⟨rfl,z0 _,_,rfl,?_⟩ ?_
   . rw [qaT,<-qch,gP];exact ⟨λh=>⟨h,λx hx=>oo⟩,λh=>h.1⟩
   rintro j mj _ w4 hd ⟨rfl,he,b,gs,hb⟩;obtain ⟨g1,g2⟩:=zcv gs;rw [g1,g2];refine zah<|br (λgt=>?_) (λgx=>?_)
   case refine_2=>
     have gy:j=n:=oo;rw [gy] at hb;exact ⟨rfl,b,rfl,hb.trans (zyq gO)⟩
   have hj:j<n:=oo;refine zaN (λht=>?_) (λhf=>?_)
   case refine_2=>refine ⟨rfl,b,rfl,?_⟩;rw [hf];refine ⟨(λh=>by cases h),λh=>?_⟩;have:=hb.2 (zzY ((zyq gO).2 h) oo);rw [hf] at this;cases this
   have hK:=hb.1 ht;have D:=zzW (way:=way) (told:=told) (i:=i) (j:=j);refine zkb (i:=i) (j:=j) M Z oo (by rw [O];omega) ?_;have g3:=gf i oo j (by rw [O];omega);refine zau<|zaN (λg4=>?_) (λgg=>?_)
   . rw [qaT,<-qch,g3] at g4;refine zaw<|⟨mj-1,oo,j+1,oo,rfl,oo,true,rfl,⟨λ_=>D.2 ⟨hK,λh=>absurd h g4⟩,λ_=>rfl⟩⟩
   rw [qb8,g3] at gg;refine zkb (i:=j) (j:=i) M Z oo (by rw [O];omega) ?_;have g5:=gf j oo i (by rw [O];omega);refine zaN (λgz=>?_) (λg9=>?_)
   . refine zaw ?_;exact ⟨mj-1,oo,j+1,oo,rfl,oo,true,rfl,⟨λ_=>D.2 ⟨hK,λ_=>.inl (g5.1 gz)⟩,λ_=>rfl⟩⟩
   have gA:¬way j i:=λh=>by rw [g5.2 h] at g9;cases g9
   refine zac (i:=j) zdj ty4 gl.is oo λ_ _ hg=>zaC ty4 hg (xrf _)<|zaw<|⟨mj-1,oo,j+1,oo,rfl,oo,_,rfl,?_⟩;rw [gP,D];exact ⟨λh=>⟨hK,λ_=>.inr h⟩,λh=>(h.2 gg).resolve_left gA⟩
 rintro _ w4 ⟨rfl,b,V,hb⟩;try replace V:=zbv V
 rw [V];refine zau<|zaN (λgQ=>?_) (λhh=>?_)
 . have gB:¬OkC n way told i:=λh=>by rw [hb.2 h] at gQ;cases gQ
   refine zaw<|⟨mi-1,oo,i+1,oo,rfl,oo,rfl,λj hj=>?_⟩;rcases qa9 (qbq.1 hj) with h | rfl
   . exact gn j h
   exact gB
 have gR:OkC n way told i:=hb.1 (by simpa using hh);have gC:=zj7 gR gn;obtain ⟨f',hk,gD,_⟩:=zmB h4 gC;have gS:=zzN (n:=n) gL gR.2.1;refine zaI (α:=Int) u31 ty3 λa9 w5 gh _=>?_;have hs5:=gh.size
 have gE:CI w1 wT w5 w5 tv out (.slice (some a9) 0 0) (zbT n (zmD way told i 0)) lo hi (L.map zaK) (zaK (zbb 0 (zcm way i))):=
   ⟨Z.t gh,by rw [<-zu6];exact gl.ext gh,gY,gM,oo,lr _,oo,gN.ext gh,zcg _ _ _ _ _⟩
 refine zar n (λj us w'=>∃ lv,us=[lv,.int .i64 (j:Int)]/\j<=n/\CI w1 wT w5 w' tv out lv (zbT n (zmD way told i j)) lo hi (L.map zaK) (zaK (zbb j (zcm way i)))) 0 (z0 _) ⟨_,rfl,z0 _,gE⟩ ?_;rintro j mj _ w6 hd ⟨lv,gF,he,C⟩;obtain ⟨gb,gc⟩:=zcv gF;rw [gb,gc];have hsl:(zbb j (zcm way i)).length<=j:=zbe;refine zah<|br (λgt=>?_) (λgx=>?_)
 . have hj:j<n:=oo;refine zag<|br (λ_=>?_) (λgT=>?_)
   . have hp:zcm way i j:=.inl oo;refine C.push (by rw [zam];exact hj) oo (by rw [zaf];omega) λv' w' gd=>?_;rw [zq4 hj hp,show zaK (zbb j (zcm way i))++[(j:Int)]=zaK (zbb (j+1) (zcm way i)) by rw [zdf hp,zcz];rfl] at gd;refine zaw<|⟨mj-1,oo,j+1,oo,v',rfl,oo,gd⟩
   have U:¬zcm way i j->∃ m',m'<mj/\∃ k',k'+m'=n/\∃ lv',[lv,Value.int .i64 ((j+1:Nat):Int)]=[lv',.int .i64 (k':Int)]/\k'<=n/\CI w1 wT w5 w6 tv out lv' (zbT n (zmD way told i k')) lo hi (L.map zaK) (zaK (zbb k' (zcm way i))):=λhp=>by
     rw [zzX hp,<-zdz hp] at C;exact ⟨mj-1,oo,j+1,oo,lv,rfl,oo,C⟩
   refine zkb (i:=i) (j:=j) M C.ext oo (by rw [O];omega) ?_;have g3:=gf i oo j (by rw [O];omega);refine zub (λgg=>?_) (λg4=>?_)
   . refine zkb (i:=j) (j:=i) M C.ext oo (by rw [O];omega) ?_;have g5:=gf j oo i (by rw [O];omega);refine zaN (λgz=>?_) (λg9=>?_)
     . have hp:zcm way i j:=.inr ⟨g3.1 gg,g5.1 gz⟩;refine C.push (by rw [zam];exact hj) oo (by rw [zaf];omega) λv' w' gd=>?_;rw [zq4 hj hp,show zaK (zbb j (zcm way i))++[(j:Int)]=zaK (zbb (j+1) (zcm way i)) by rw [zdf hp,zcz];rfl] at gd;refine zaw<|⟨mj-1,oo,j+1,oo,v',rfl,oo,gd⟩
     refine zaw<|U λhp=>?_;rcases hp with h | h
     . exact gT oo
     rw [g5.2 h.2] at g9;cases g9
   refine zaw<|U λhp=>?_;rcases hp with h | h
   . exact gT oo
   rw [g3.2 h.1] at g4;cases g4
 have gy:j=n:=oo;rw [gy,zyr] at C;have hsn:(zbb n (zcm way i)).length<=n:=zbe;have hc4:=C.s4;refine zae u31 C.row.is<|zbp (by rw [zaf];unfold I64;omega)<|zbs (lo2:=w5.heap.size) (hi2:=w6.heap.size) (x:=zaK (zbb n (zcm way i))) u40 zcn z31 zEs dD C.out oo C.row.own oo oo (by rw [zak,qaD];omega) (by rw [qaD];omega) λhr w9 gG hs=>?_;have hs9:=gG.size;refine ⟨mk-1,oo,k+1,oo,hr,f',zjr way told i,L++[zbb n (zcm way i)],lo,w9.heap.size,?_,oo,gD,by rw [gj,hk,qaA];rfl,by simp [h5],gL.more gI,C.ext.chgI gG oo,C.told.chg gG oo,gM,oo,lr _,?_⟩
 . have:((zfu n told:Nat):Int)-(((zaK (zbb n (zcm way i))).length:Nat):Int)=((zfu n (zjr way told i):Nat):Int):=by rw [zaf];omega
   rw [this]
 rw [qbh];exact hs
def zm3 {A:List DArc} (h1:Is W1 v1 A) (e1:Ext W1 w) (hn:n<=60) (hA:∀ a∈A,(0<=a.fr/\a.fr<n)/\0<=a.to/\a.to<n) (hl:A.length<=2000) :
   CALL tp 166 [.int .i64 (n:Int),v1] w λr w'=>Ext w w'/\r=.bool true:=by
 refine co (g:=kf [] [(4,35184371040336,[20])] []) Tryz.func166 ?_;refine zah<|br (λh=>oo) (λ_=>?_);refine zbZ<|br (λh=>oo) (λ_=>?_);refine zae znd h1<|zbZ<|br (λh=>oo) (λ_=>?_);refine zae znd h1<|zar A.length (λk us w'=>us=[.int .i64 (k:Int)]/\k<=A.length/\Ext w w') 0 (z0 _) ⟨rfl,z0 _,xrf _⟩ ?_;rintro k mk _ _ _ ⟨hq,_,g0⟩;try replace hq:=zbv hq
 rw [hq];refine zah<|br (λ_=>?_) (λ_=>?_)
 case refine_2=>exact ⟨g0,rfl⟩
 have hk:k<A.length:=oo;obtain ⟨⟨_,_⟩,_,_⟩:=hA _ (qac hk);refine zac znd zeI h1 hk λ_ _ g2=>zab zeI g2 (e1.trans g0) λ_ g3=>zbN zyR rfl zeI rfl g3 (e1.trans g0) λ_ g4 g1 _=>zaa zli<|zad ty3 (zhw g1) (xrf _) λ_=>zah<|br (λh=>oo) (λ_=>?_);refine zaa zli<|zad ty3 (zhw g1) (xrf _) λ_=>zcH<|br (λh=>oo) (λ_=>?_);refine zaa zlj<|zad ty3 (zhx g1) (xrf _) λ_=>zah<|br (λh=>oo) (λ_=>?_);refine zaa zlj<|zad ty3 (zhx g1) (xrf _) λ_=>zcH<|br (λh=>oo) (λ_=>?_);refine zaw<|⟨mk-1,oo,k+1,oo,rfl,oo,g0.t g4⟩
def zpq {A:List DArc} {p:List Nat} (h1:Is W1 v1 A) (e1:Ext W1 w) (h2:Is W2 v2 (zaK p)) (e2:Ext W2 w) (hn:n<=60) (hA:∀ a∈A,(0<=a.fr/\a.fr<n)/\0<=a.to/\a.to<n) (hl:A.length<=2000) (hp:∀ x∈p,x<n) (hpl:p.length<=60) :
   CALL tp 88 [.int .i64 (n:Int),v1,v2] w λr w'=>Ext w w'/\∃ b,r=.bool b/\(b=true↔ztU (nxA n A) p):=by
 refine co (g:=kf [] [(5,4398045987392,[19])] []) Tryz.func88 ?_;refine (zm3 h1 e1 hn hA hl).mono ?_;rintro _ _ ⟨g0,rfl⟩;refine zau<|zaN (λh=>by cases h) (λ_=>?_);refine (znV h1 (e1.trans g0) hn hA hl).mono ?_;rintro _ w2 ⟨g1,gb⟩;have g2:=gb.is;refine zae u31 h2 ?_;rw [zaf];refine zar p.length (λk us w'=>us=[.int .i64 (k:Int)]/\k<=p.length/\Ext w2 w'/\∀ x∈p.take k,¬RP (nxA n A) x x) 0 (z0 _) ⟨rfl,z0 _,xrf _,ss⟩ ?_;rintro k mk _ _ _ ⟨hq,_,C,g3⟩;try replace hq:=zbv hq
 rw [hq];refine zah<|br (λ_=>?_) (λ_=>?_)
 case refine_2=>
   have gc:k=p.length:=oo;rw [gc,qaM] at g3;exact ⟨(g0.t g1).trans C,false,rfl,(λh=>by cases h),λ⟨x,hx,hr⟩=>absurd hr (g3 x hx)⟩
 have hk:k<p.length:=oo;have g4:=hp _ (qac hk);refine zac (i:=k) u31 ty3 h2 (by rw [zaf];exact hk) λ_ _ g5=>?_;rw [zaY] at g5;refine zad ty3 g5 (((e2.trans g0).trans g1).trans C) λ_=>zcH<|br (λ_=>?_) (λh=>oo);refine zah<|br (λ_=>?_) (λh=>oo);refine zpn (i:=p[k]) g2 C (by rw [zqY];exact g4) ?_;rw [zqZ];have g9:zcU (RP (nxA n A) p[k]) n<4611686018427387904:=zeN hn;refine zcc kK zlh oo<|zka g9<|zj9 (n:=1) (qaN (zq0 _ _) g9) oo<|zag<|br (λhb=>?_) (λhb=>?_)
 . rw [zvn,za4] at hb;exact ⟨(g0.t g1).trans C,true,rfl,λ_=>⟨_,qac hk,hb.2⟩,λ_=>rfl⟩
 refine zaw<|⟨mk-1,oo,k+1,oo,rfl,oo,C,λx hx=>?_⟩;rw [tk hk] at hx;rcases qae.1 hx with hx | hx
 . exact g3 x hx
 simp only [qay] at hx;subst hx;exact λh=>hb (by rw [zvn,za4];exact ⟨g4,h⟩)
def zpr {A:List DArc} {p:List Nat} (h1:Is W1 v1 A) (e1:Ext W1 w) (h2:Is W2 v2 (zaK p)) (e2:Ext W2 w) (hn:n<=60) (hA:∀ a∈A,(0<=a.fr/\a.fr<n)/\0<=a.to/\a.to<n) (hl:A.length<=2000) (hp:∀ x∈p,x<n) (hpl:p.length<=60) :
   CALL tp 99 [.int .i64 (n:Int),v1,v2] w λr w'=>Ext w w'/\∃ b,r=.bool b/\(b=true↔ztU (nxA n A) p):=by
 refine co (g:=kf [] [(5,17592185979200,[8])] [(7,[0,1,2,3,4,5,6,7,8,9,10,11,12,13,14,15,16,17,18,19,20,21],0)]) Tryz.func99 ?_;refine (zia h1 e1 hn hA hl).mono ?_;rintro _ _ ⟨g0,rfl⟩;refine zau<|zaN (λh=>by cases h) (λ_=>?_);refine (zmE h1 (e1.trans g0) hn hA hl).mono ?_;rintro _ w2 ⟨g1,gf⟩;have g2:=gf.is;refine zar p.length (λk us w'=>us=[.int .i64 (k:Int)]/\k<=p.length/\Ext w2 w'/\∀ x∈p.take k,¬RP (nxA n A) x x) 0 (z0 _) ⟨rfl,z0 _,xrf _,ss⟩ ?_;rintro k mk _ w3 _ ⟨hq,_,g4,g3⟩;try replace hq:=zbv hq
 rw [hq];refine zae u31 h2 ?_;rw [zaf];refine zah<|br (λ_=>?_) (λ_=>?_)
 case refine_2=>
   have gg:k=p.length:=oo;rw [gg,qaM] at g3;exact ⟨(g0.t g1).trans g4,false,rfl,(λh=>by cases h),λ⟨x,hx,hr⟩=>absurd hr (g3 x hx)⟩
 have hk:k<p.length:=oo;have g5:=hp _ (qac hk);have gh:=zai w3;generalize World.drew1 w3=w4 at *;have D:=g4.t gh;have e4:=((e2.trans g0).trans g1).trans D;refine zac (i:=k) u31 ty3 h2 (by rw [zaf];exact hk) λ_ _ g9=>?_;rw [zaY] at g9;refine zad ty3 g9 e4 λ_=>zbp io<|l01In_ok.mono ?_;rintro _ _ ⟨C,rfl⟩;refine br (λ_=>?_) (λh=>absurd ⟨oo,oo⟩ h);refine zac (i:=k) u31 ty3 h2 (by rw [zaf];exact hk) λ_ _ gb=>?_;rw [zaY] at gb;refine zad ty3 gb (e4.trans C) λ_=>?_;have hi:p[k]<(zgV (nxA n A) n).length:=by rw [zq2];exact g5
 refine zac (i:=p[k]) zud zcR g2 hi λ_ _ gi=>zab zcR gi (D.t C) λ_ h7=>zac (i:=k) u31 ty3 h2 (by rw [zaf];exact hk) λ_ _ gc=>?_;rw [zaY] at gc;refine zad ty3 gc (e4.trans C) λ_=>?_;have hj:p[k]<((zgV (nxA n A) n)[p[k]]).length:=by rw [zjt,zam];exact g5
 refine zac (i:=p[k]) zdj ty4 h7 hj λ_ _ gj=>zaC ty4 gj (D.t C) ?_;have gd:=zt0 hi hj;refine zaN (λhb=>?_) (λhb=>?_)
 . exact ⟨((g0.t g1).trans D).trans C,true,rfl,λ_=>⟨_,qac hk,gd.1 hb⟩,λ_=>rfl⟩
 refine zaw<|⟨mk-1,oo,k+1,oo,rfl,oo,D.t C,λx hx=>?_⟩;rw [tk hk] at hx;rcases qae.1 hx with hx | hx
 . exact g3 x hx
 simp only [qay] at hx;subst hx;exact λh=>by rw [gd.2 h] at hb;cases hb
open Go.Sort
variable {F:List Nat} {N b hi k lo n:Nat} {W W0 W1 w w':wD} {c:DCode} {s:ByteArray} {v v0 v1:vL} {x:DRace}
def hd0 (l:List Int):Int:=l.headD 0
theorem ziA {w:wD}:∀ {l:List (List Int)} {F:List Nat} {xs:List vL},Cells F w xs l->∃ Z:List (List Nat×vL×List Int),F=Z.flatMap (·.1)/\xs=Z.map (·.2.1)/\l=Z.map (·.2.2)/\∀ z∈Z,rep z.1 w [z.2.1] z.2.2
 | [],_,_,⟨h1,h2⟩=>⟨[],h1,h2,rfl,ss⟩
 | y :: ys,_,_,⟨F1,F2,c1,c2,hF,hx,h1,h2⟩=>by
   obtain ⟨Z,e1,e2,e3,e4⟩:=ziA h2;obtain ⟨v,rfl⟩:∃ v,c1=[v]:=qbf.1 (Rep.len h1);refine ⟨(F1,v,y) :: Z,by simp [hF,e1],by simp [hx,e2],by simp [e3],λz hz=>?_⟩;rcases qaa.1 hz with rfl | hz
   . exact h1
   exact e4 z hz
theorem zmF {w:wD}:∀ {Z:List (List Nat×vL×List Int)},(∀ z∈Z,rep z.1 w [z.2.1] z.2.2)->Cells (Z.flatMap (·.1)) w (Z.map (·.2.1)) (Z.map (·.2.2))
 | [],_=>⟨rfl,rfl⟩
 | z :: Z,h=>⟨z.1,Z.flatMap (·.1),[z.2.1],Z.map (·.2.1),ss,ss,h z ss,zmF λy hy=>h y (by simp [hy])⟩
theorem zsn {l:List Int} (h:l≠[]):hd0 l=l[0]'(qbP.2 h):=by
 cases l with
 | nil=>exact absurd rfl h
 | cons x l=>rfl
def zq5 {x y:vL} {a b:List Int} (hx:Is w x a) (hy:Is w y b) (ha:a≠[]) (hb:b≠[]) (h1:0<=hd0 a/\hd0 a<1000) (h2:0<=hd0 b/\hd0 b<1000) :
   CALL tp 90 [x,y] w λr w'=>r=.int .i64 (hd0 a-hd0 b)/\ziq w w':=by
 refine co (g:=kf [] [] [(1,[0,1,2,3,4,5,6,7],0)]) Tryz.func90 ?_;have hg:ziq w (World.drew1 w):=⟨1,#[],by simp only [Go.Sort.grow,World.drewN,World.drew1,Array.append_empty]⟩;have g0:=zai w;generalize World.drew1 w=w1 at *;have e1:=zsn ha;have e2:=zsn hb;refine zac (i:=0) u31 ty3 hx (qbP.2 ha) λ_ _ g1=>zad ty3 g1 g0 λ_=>zac (i:=0) u31 ty3 hy (qbP.2 hb) λ_ _ g2=>zad ty3 g2 g0 λ_=>?_;rw [<-e1,<-e2];refine zbp io<|⟨rfl,hg⟩
set_option maxHeartbeats 4000000 in
theorem zzZ {cs:List (List Int)} (h:OwnI lo hi w v cs) (hn:cs.length<=1000) (V:∀ c∈cs,c≠[]) (hb:∀ c∈cs,0<=hd0 c/\hd0 c<1000) (hd:cs.Pairwise λa b=>hd0 a≠hd0 b) :
    CALL tp 89 [v,.func (.func 90) #[] #[]] w λ_ w'=>ChgI lo hi w w'/\∃ cs':List (List Int),OwnI lo hi w' v cs'/\cs'.Perm cs/\cs'.Pairwise λa b=>hd0 a<hd0 b:=by
  obtain ⟨F,hM,hF⟩:=h;by_cases hne0:cs=[]
  . subst hne0
    obtain ⟨a,cap,hv⟩:∃ a cap,v=.slice a 0 cap:=by
      obtain ⟨cs,⟨a,cap,_,xs,h,_⟩,hv⟩:=hM.own;exact ⟨a,cap,by rw [hv,h];rfl⟩
    subst hv;refine ⟨(AnyF.slices_SortFunc_none { Tryz.sortInts with } a cap _ w).mono ?_⟩;rintro e w' ⟨he,rfl⟩;exact ⟨_,he,ChgI.refl _,[],⟨F,hM,hF⟩,.refl _,.nil⟩
  obtain ⟨⟨_,⟨a,cap,_,xs,rfl,h1,h2,hc,h4⟩,rfl⟩,g3,hw⟩:=hM;rcases h4 with ⟨h4,_⟩ | ⟨b,o,rfl,rfl,hr,_⟩
  . exact absurd h4 hne0
  obtain ⟨Z,rfl,rfl,rfl,hZ⟩:=ziA hc;obtain ⟨c,e,g9⟩:=hw b ss;have gq:∀ z∈Z,b∉z.1:=λz hz hm=>(qaR.1 g3).1 (qaV.2 ⟨z,hz,hm⟩);have hnZ:Z.length<=1000:=by simpa using hn
  have gy:0<Z.length:=by
    rcases qcn Z.length with h | h
    . exact absurd (by rw [qaj h];rfl) hne0
    exact h
  haveI:Inhabited (Fin Z.length):=⟨⟨0,gy⟩⟩
  obtain ⟨enc,C⟩:∃ enc:Fin Z.length->vL,enc=λi=>Z[i].2.1:=⟨_,rfl⟩;obtain ⟨cf,gr⟩:∃ cf:Fin Z.length->Fin Z.length->Int,cf=λi j=>hd0 Z[i].2.2-hd0 Z[j].2.2:=⟨_,rfl⟩;obtain ⟨d,gb⟩:∃ d:Array (Fin Z.length),d=(List.finRange Z.length).toArray:=⟨_,rfl⟩;have g1:d.size=Z.length:=by rw [gb];simp
  have gc:(List.finRange Z.length).map (λi=>Z[i])=Z:=qaP ss λi h1 h2=>by simp
  have gz:∀ j (hj:j<Z.length),d[j]! = ⟨j,hj⟩:=λj hj=>by
    rw [getElem!_pos d j (by rw [g1];exact hj)];simp [gb]
  have gd:OneCell enc:=λi=>by
    have h:=Rep.one (hZ _ (qac i.2)) Z[i.1].2.1 ss;rw [C];exact h
  have gs:Holds enc w b o d:=λj hj=>by
    rw [g1] at hj;rw [gz j hj];refine ⟨hr j _ ?_,?_⟩
    . rw [C,List.getElem?_map,List.getElem?_eq_getElem hj];rfl
    simp [World.frozen?,g9]
  have D:∀ i:Fin Z.length,Z[i].2.2∈Z.map (·.2.2):=λi=>qa3.2 ⟨_,qac _,rfl⟩
  have gf:∀ i j:Fin Z.length,hd0 Z[i].2.2=hd0 Z[j].2.2->i=j:=λi j gt=>by
    rw [qbA,qbS] at hd;rcases qcv i.1 j.1 with h | h | h
    . exact absurd gt (hd i.1 j.1 i.2 j.2 h)
    . exact Fin.ext h
    exact absurd gt.symm (hd j.1 i.1 j.2 i.2 h)
  have O:∀ i j,ltOf cf i j=decide (hd0 Z[i].2.2<hd0 Z[j].2.2):=λi j=>by
    unfold ltOf;rw [gr,decide_eq_decide];show hd0 Z[i].2.2-hd0 Z[j].2.2<0↔_;omega
  have gg:SWO (ltOf cf):=by
    refine ⟨λx=>?_,λx y z h k=>?_,λx y z h k=>?_⟩
    . rw [O,decide_eq_false_iff_not];omega
    . rw [O,qau] at *;omega
    rw [O,decide_eq_false_iff_not] at *;omega
  have gh:b<w.heap.size:=(Array.getElem?_eq_some_iff.1 g9).1
  have U:∀ (m:Nat) (dk:Array (Fin Z.length)) (os:Array Obj) i,i<w.heap.size->i≠b->(sortWorld enc w b o m dk os).heap[i]?=w.heap[i]?:=λm dk os i hi V=>by
    unfold sortWorld;rw [heap_grow_old _ _ (by simpa [putRow,mapBlock,Sort.ahead] using hi)];simp [putRow,mapBlock,Sort.ahead,Array.getElem?_modify,V.symm]
  have g2:∀ (m:Nat) (dk:Array (Fin Z.length)) (os:Array Obj),∀ z∈Z,rep z.1 (sortWorld enc w b o m dk os) [z.2.1] z.2.2:=λm dk os z hz=>
    Rep.keep (hZ z hz) λi hi=>U m dk os i (Rep.lt (hZ z hz) i hi) λe=>gq z hz (e▸hi)
  have gi:CmpLays1 tp 90 #[] enc cf b o d.size w:=λm os dk _ i j=>by
    have hI:∀ k:Fin Z.length,Is (sortWorld enc w b o m dk os) (enc k) Z[k].2.2:=λk=>⟨_,_,g2 m dk os _ (qac k.2),by rw [C];rfl⟩;obtain ⟨h⟩:=zq5 (hI i) (hI j) (V _ (D i)) (V _ (D j)) (hb _ (D i)) (hb _ (D j));refine h.mono ?_;rintro e w' ⟨v,he,hv,q,gA,g4⟩;exact ⟨by rw [he,hv,gr],q,gA,g4⟩
  have gj:(Z.map (·.2.2)).length=d.size:=by rw [g1,qaD]
  show CALL tp 89 [.slice (some ⟨b,o,none⟩) (Z.map (·.2.2)).length cap,_] w _;rw [gj]
  refine ⟨(Any.slices_SortFunc_total Tryz.sortInts enc gd cf gg 90 #[] b o cap d w (zex (ent 90 dD kK)) gi gs gh oo (λx y h k=>by
      rw [O,decide_eq_false_iff_not] at *;exact gf x y oo)).mono ?_⟩
  rintro _ w' ⟨he,n,os,g4⟩;generalize hd':(d.toList.mergeSort λx y=>!(ltOf cf) y x)=d' at g4
  have M:d'.Perm (List.finRange Z.length):=by
    rw [<-hd',gb];exact qcE _ _
  have gl:d'.Pairwise λi j=>¬hd0 Z[j].2.2<hd0 Z[i].2.2:=by
    rw [<-hd']
    have:=qcq (le:=λx y=>!(ltOf cf) y x) (λa b c h1 h2=>by
      simp only [O,qaT,decide_eq_false_iff_not] at *;omega) (λa b=>by
      simp only [O,qaQ,qaT,decide_eq_false_iff_not];omega) d.toList
    exact this.imp λh=>by simpa [O] using h
  have g0:(d'.map λi=>Z[i]).Perm Z:=by
    have:=M.map λi=>Z[i];rwa [gc] at this
  have gB:d'.length=Z.length:=by rw [M.length_eq];simp
  subst g4
  have gn:w.heap.size<=(sortWorld enc w b o n d'.toArray os).heap.size:=by
    unfold sortWorld Go.Sort.grow;rw [Array.size_append];simp [putRow,mapBlock,Sort.ahead]
  have gC:∃ c',(sortWorld enc w b o n d'.toArray os).heap[b]?=some (.cells c' e (0,0)):=by
    unfold sortWorld;rw [heap_grow_old _ _ (by simpa [putRow,mapBlock,Sort.ahead] using gh)];exact ⟨_,by simp [putRow,mapBlock,Sort.ahead,Array.getElem?_modify,g9,onCells];rfl⟩
  have gp:Chg [b] w (sortWorld enc w b o n d'.toArray os):=⟨rfl,rfl,rfl,gn,λi hi hm=>U _ _ _ i hi λe=>hm (by simp [e])⟩;generalize hZ':(d'.map λi=>Z[i])=Z' at *;have gD:∀ z∈Z',z∈Z:=λz hz=>g0.mem_iff.1 hz;have g5:(Z'.flatMap (·.1)).Perm (Z.flatMap (·.1)):=g0.flatMap_right _;have gE:Z'.map (·.2.1)=d'.map enc:=by rw [<-hZ',C,List.map_map];rfl
  refine ⟨_,he,?_,Z'.map (·.2.2),⟨b :: Z'.flatMap (·.1),⟨⟨_,⟨some ⟨b,o,none⟩,cap,Z'.flatMap (·.1),Z'.map (·.2.1),rfl,?_,h2,zmF λz hz=>g2 _ _ _ z (gD z hz),.inr ⟨b,o,rfl,rfl,?_,oo⟩⟩,?_⟩,?_,?_⟩,?_⟩,g0.map _,?_⟩
  . exact gp.toI λi hi=>hF i (by simp only [qaa,qag,qaz] at hi;simp [hi])
  . have:=g0.length_eq;simp only [qaD] at h1 ⊢;omega
  . rw [gE];intro j v hv
    have hj:j<d'.length:=by
      have:=(List.getElem?_eq_some_iff.1 hv).1;simpa using this
    have:=cell?_putRow enc (Sort.ahead w n) b o d d'.toArray gs (by simp [g1,gB]) j (by simpa using hj);unfold sortWorld;rw [cell?_grow _ _ _ (by simpa [putRow,mapBlock,Sort.ahead] using gh),this];rw [List.getElem?_map,List.getElem?_eq_getElem hj] at hv;rw [getElem!_pos d'.toArray j (by simpa using hj)];simpa using hv
  . have:=g0.length_eq;simp only [mkv,Rep.agg,cond_false,qbO,qaD,g1,this]
  . rw [qaR] at g3 ⊢;exact ⟨λh=>g3.1 (g5.mem_iff.1 h),(g5.nodup_iff).2 g3.2⟩
  . intro i hi;rcases qaa.1 hi with rfl | hi
    . obtain ⟨c',gF⟩:=gC;exact ⟨c',e,gF⟩
    have gx:=g5.mem_iff.1 hi;obtain ⟨z,hz,gG⟩:=qaV.1 gx;have V:i≠b:=λe=>gq z hz (e▸gG);obtain ⟨c',e',h'⟩:=hw i (by simp [gx]);exact ⟨c',e',by rw [U _ _ _ i (Array.getElem?_eq_some_iff.1 h').1 V];exact h'⟩
  . intro i hi;rcases qaa.1 hi with rfl | hi
    . exact hF _ ss
    exact hF i (by simp [g5.mem_iff.1 hi])
  have gH:Z'.Pairwise λx y=>¬hd0 y.2.2<hd0 x.2.2:=by
    rw [<-hZ',qbA];exact gl
  have gI:Z'.Pairwise λx y=>hd0 x.2.2≠hd0 y.2.2:=by
    rw [qbA] at hd;exact g0.symm.pairwise hd λh e=>h e.symm
  rw [qbA];exact (qc8.2 ⟨gH,gI⟩).imp λh=>by have:=h.1;have:=h.2;omega
def zh1 (x:DOrder):DArc:=⟨x.fr,x.to⟩
def ltA (a b:DArc):Prop:=a.fr<b.fr\/(a.fr=b.fr/\a.to<b.to)
structure AInv (L:List DOrder) (A:List DArc):Prop where
 mem:∀ a,a∈A↔∃ x∈L,a=zh1 x
 pw:A.Pairwise ltA
section
variable {L:List DOrder} {A:List DArc} {x:DOrder}
def AInv.start:AInv [] []:=⟨ss,.nil⟩
def AInv.le (h:AInv L A) (hs:(L++[x]).Pairwise ltO):∀ a∈A,a=zh1 x\/ltA a (zh1 x):=λa ha=>by
 obtain ⟨y,hy,rfl⟩:=(h.mem a).1 ha;have:=(qce.1 hs).2.2 y hy x ss;unfold ltO at this;unfold ltA zh1;rcases this with h1 | ⟨h1,h2 | ⟨h2,_⟩⟩
 . exact .inr (.inl h1)
 . exact .inr (.inr ⟨h1,h2⟩)
 exact .inl (DArc.ext_iff.2 ⟨h1,h2⟩)
def AInv.old (h:AInv L A) (hm:zh1 x∈A):AInv (L++[x]) A:=⟨λa=>by
 rw [h.mem];constructor
 . rintro ⟨y,hy,e⟩;exact ⟨y,by simp [hy],e⟩
 rintro ⟨y,hy,rfl⟩;rcases qae.1 hy with hy | hy
 . exact ⟨y,hy,rfl⟩
 simp only [qay] at hy;subst hy;exact (h.mem _).1 hm,h.pw⟩
def AInv.new (h:AInv L A) (hs:(L++[x]).Pairwise ltO) (hm:zh1 x∉A):AInv (L++[x]) (A++[zh1 x]):=⟨λa=>by
 simp only [qae,qay,h.mem];constructor
 . rintro (⟨y,hy,e⟩ | rfl)
   . exact ⟨y,.inl hy,e⟩
   exact ⟨x,.inr rfl,rfl⟩
 . rintro ⟨y,hy | rfl,rfl⟩
   . exact .inl ⟨y,hy,rfl⟩
   exact .inr rfl,qce.2 ⟨h.pw,ss,λa ha b hb=>by
 simp only [qay] at hb;subst hb;rcases h.le hs a ha with rfl | h1
 . exact absurd ha hm
 exact h1⟩⟩
def zva (a:DArc):¬ltA a a:=by unfold ltA;omega
def zys {a b:DArc} (h:ltA a b) (k:ltA b a):False:=by unfold ltA at *;omega
def AInv.last (h:AInv L A) (hs:(L++[x]).Pairwise ltO) (hA:0<A.length):A[A.length-1]'(by omega)=zh1 x↔zh1 x∈A:=by
 constructor
 . intro e;rw [<-e];exact qac _
 intro hm;obtain ⟨i,hi,e⟩:=qcD hm;rcases h.le hs _ (qac (by omega:A.length-1<A.length)) with h1 | h1
 . exact h1
 exfalso;rcases qaw i (A.length-1) with hl | hl
 . have:=qbS.1 h.pw i (A.length-1) hi oo hl;rw [e] at this;exact zys this h1
 have:i=A.length-1:=oo;subst this;rw [e] at h1;exact zva _ h1
end
theorem zyt:∀ {l:List Nat},l.Pairwise (λa b=>a<b)->(∀ x∈l,x<N)->l.length<=N
 | l,h,hb=>by
   have h1:=qbS.1 h
   have:∀ i (hi:i<l.length),i<=l[i]:=λi=>by
     induction i with
     | zero=>intro _;exact qbt _
     | succ i ih=>
       intro hi;have h2:=ih oo;have h3:=h1 i (i+1) oo hi oo;omega
   rcases qcn l.length with h0 | h0
   . omega
   have h2:=this (l.length-1) oo;have h3:=hb _ (qac (by omega:l.length-1<l.length));omega
def zps {A:List DArc} (hn:n<=6) (hp:A.Pairwise ltA) (hb:∀ a∈A,(0<=a.fr/\a.fr<n)/\0<=a.to/\a.to<n):A.length<=36:=by
 have h1:(A.map λa=>(a.fr*6+a.to).toNat).Pairwise (λa b=>a<b):=by
   rw [qbA];refine hp.imp_of_mem λ{a b} ha g0 h=>?_;have h2:=hb a ha;have h3:=hb b g0;unfold ltA at h;omega
 have:=zyt (N:=36) h1 λ_ hx=>by
   obtain ⟨a,ha,rfl⟩:=qa3.1 hx;have:=hb a ha;omega
 simpa using this
noncomputable def nxL (c:DCode) (i:Nat):List Nat:=zbb c.locks.length λj=>∃ k,OrdP c i j k
def OrdP.in (hc:CodeR c) {i j k:Nat} (h:OrdP c i j k):i<c.locks.length/\j<c.locks.length:=
 ⟨h.2.2.2.locks hc,h.2.2.1▸(zdA hc (h.1.lt hc) (.inl h.2.1)).2.1⟩
def zk2 (hc:CodeR c) {A:List DArc} (h:AInv (ze3 c) A):nxA c.locks.length A=nxL c:=by
 funext i;refine zhN λj _=>?_;rw [h.mem];constructor
 . rintro ⟨_,_,hx,e⟩;obtain ⟨fr,to,k,ho,rfl⟩:=(zkZ hc).1 hx;have e1:(i:Int)=fr:=qat DArc.fr e;have e2:(j:Int)=to:=qat DArc.to e;have e1:=qa7.1 e1;have e2:=qa7.1 e2;subst e1;subst e2;exact ⟨k,ho⟩
 rintro ⟨k,ho⟩;exact ⟨(ho.in hc).1,mkO i j k,(zkZ hc).2 ⟨i,j,k,ho,rfl⟩,rfl⟩
def AInv.rng (hc:CodeR c) {k:Nat} {A:List DArc} (h:AInv ((ze3 c).take k) A):∀ a∈A,(0<=a.fr/\a.fr<c.locks.length)/\0<=a.to/\a.to<c.locks.length:=λa ha=>by
 obtain ⟨x,hx,rfl⟩:=(h.mem a).1 ha;obtain ⟨fr,to,i,ho,rfl⟩:=(zkZ hc).1 (qcf hx);have:=ho.in hc;show (0<=(fr:Int)/\(fr:Int)<_)/\0<=(to:Int)/\(to:Int)<_;omega
noncomputable def zbY (c:DCode):List (List Nat):=zqV c.locks.length (RP (nxL c))
open Classical in
noncomputable def zd9 (c:DCode):List (List Nat):=(List.range c.locks.length).flatMap λn=>(zbY c).filter λp=>decide (p.head?=some n/\ztU (nxL c) p)
theorem zd5 {p:List Nat}:p.head?=some n->hd0 (zaK p)=n:=by
 cases p with
 | nil=>intro h;cases h
 | cons x l=>intro h;cases h;rfl
theorem zmG:∀ {l m:List (List Int)},l.Pairwise (λa b=>hd0 a<hd0 b)->m.Pairwise (λa b=>hd0 a<hd0 b)->(∀ x,x∈l↔x∈m)->l=m
 | [],[],_,_,_=>rfl
 | [],y :: m,_,_,h=>by have:=(h y).2 ss;cases this
 | x :: l,[],_,_,h=>by have:=(h x).1 ss;cases this
 | x :: l,y :: m,h1,h2,h=>by
   rw [qaW] at h1 h2
   have hxy:x=y:=by
     rcases qaa.1 ((h x).1 ss) with e | hm
     . exact e
     rcases qaa.1 ((h y).2 ss) with e | hl
     . exact e.symm
     have:=h1.1 y hl;have:=h2.1 x hm;omega
   subst hxy;congr 1;refine zmG h1.2 h2.2 λz=>⟨λhz=>?_,λhz=>?_⟩
   . rcases qaa.1 ((h z).1 (by simp [hz])) with rfl | h'
     . have:=h1.1 z hz;omega
     exact h'
   rcases qaa.1 ((h z).2 (by simp [hz])) with rfl | h'
   . have:=h2.1 z hz;omega
   exact h'
def zq6:∀ p∈zbY c,∃ i,i<c.locks.length/\p=zbb c.locks.length (zcm (RP (nxL c)) i):=λp hp=>by
 obtain ⟨i,h1,_,h2⟩:=zj8 (way:=RP (nxL c)) Whole.start (λ_ _ _=>RP.trans) p hp;exact ⟨i,h1,h2⟩
def zz0 (c:DCode):(zbY c).Pairwise λa b=>∀ x∈a,x∉b:=zqX Whole.start λ_ _ _=>RP.trans
def zmH (c:DCode):(zbY c).length<=c.locks.length:=znT
theorem zeu {p:List Nat} (hp:p∈zbY c):∃ n,p.head?=some n/\n∈p/\n<c.locks.length:=by
 obtain ⟨i,hi,rfl⟩:=zq6 p hp;have g0:=zCK (way:=RP (nxL c)) hi;cases e:zbb c.locks.length (zcm (RP (nxL c)) i) with
 | nil=>exact absurd e g0
 | cons x l=>
   have hx:x∈zbb c.locks.length (zcm (RP (nxL c)) i):=by rw [e];simp
   exact ⟨x,rfl,ss,(zaO.1 hx).1⟩
def zgt {p:List Nat} (hp:p∈zbY c):p.length<=c.locks.length/\∀ x∈p,x<c.locks.length:=by
 obtain ⟨_,_,rfl⟩:=zq6 p hp;exact ⟨zbe,λx hx=>(zaO.1 hx).1⟩
def zq7 (c:DCode):(zbY c).Pairwise λa b=>hd0 (zaK a)≠hd0 (zaK b):=by
 refine (zz0 c).imp_of_mem λ{a b} ha hb h e=>?_;obtain ⟨n,h1,h2,_⟩:=zeu ha;obtain ⟨_,k1,k2,_⟩:=zeu hb;rw [zd5 h1,zd5 k1] at e;have e:=qa7.1 e;subst e;exact h n h2 k2
def zgu {p:List Nat}:p∈zd9 c↔p∈zbY c/\ztU (nxL c) p:=by
 unfold zd9;simp only [qaV,qaL,qbV,qau];constructor
 . rintro ⟨n,_,h1,_,h2⟩;exact ⟨h1,h2⟩
 rintro ⟨h1,h2⟩;obtain ⟨n,h3,_,h4⟩:=zeu h1;exact ⟨n,h4,h1,h3,h2⟩
def zq8 (c:DCode):(zd9 c).Pairwise λa b=>hd0 (zaK a)<hd0 (zaK b):=by
 unfold zd9;refine qbK.2 ⟨λn _=>?_,List.pairwise_lt_range.imp ?_⟩
 . refine ((zq7 c).filter _).imp_of_mem λ{a b} ha hb h=>?_;have h2:=(qbV.1 ha).2;have h3:=(qbV.1 hb).2;simp only [qau] at h2 h3;exact absurd (by rw [zd5 h2.1,zd5 h3.1]) h
 intro n _ g0 a ha b hb;have h2:=(qbV.1 ha).2;have h3:=(qbV.1 hb).2;simp only [qau] at h2 h3;rw [zd5 h2.1,zd5 h3.1];exact qc7.2 g0
def zyu {p:List Nat} (hp:p∈zd9 c):p.length<=c.locks.length/\(∀ x∈p,x<c.locks.length)/\p≠[]:=by
 have h1:=(zgu.1 hp).1;obtain ⟨_,_,h2,_⟩:=zeu h1;exact ⟨(zgt h1).1,(zgt h1).2,List.ne_nil_of_mem h2⟩
def zvb (c:DCode):(zd9 c).length<=c.locks.length:=by
 have h1:=zyt (N:=c.locks.length) (l:=(zd9 c).map λp=>(hd0 (zaK p)).toNat) (by
   rw [qbA];refine (zq8 c).imp_of_mem λ{_ _} ha hb h=>?_;obtain ⟨n,k1,_,k2⟩:=zeu (zgu.1 ha).1;obtain ⟨_,j1,_,_⟩:=zeu (zgu.1 hb).1;rw [zd5 k1,zd5 j1] at h ⊢;omega) λ_ hx=>by
   obtain ⟨p,hp,rfl⟩:=qa3.1 hx;obtain ⟨n,k1,_,k2⟩:=zeu (zgu.1 hp).1;rw [zd5 k1];omega
 simpa using h1
def zso (h1:Is W1 v1 (ze3 c)) (e1:Ext W1 w) (hc:CodeR c) :
   CALL tp 85 [v1] w λr w'=>Ext w w'/\∃ A,AInv (ze3 c) A/\Own w.heap.size w' r A:=by
 refine co (g:=kf [] [(3,134217320,[3,9])] []) Tryz.func85 ?_;have hol:=ztP hc;have gb:=hc.1.locks6;refine zae zAU h1<|zar (ze3 c).length (λk us w'=>∃ out A,us=[out,.int .i64 (k:Int)]/\k<=(ze3 c).length/\Ext w w'/\RowI w.heap.size w'.heap.size 201 w' out A/\AInv ((ze3 c).take k) A) 0 (z0 _) ⟨_,[],rfl,z0 _,xrf _,zbL _ _ _ _,by rw [qb2];exact AInv.start⟩ ?_;rintro k mk _ _ _ ⟨out,A,hq,_,M,g3,hI⟩;obtain ⟨gc,gd⟩:=zcv hq;rw [gc,gd];have hs2:=M.size;refine zah<|br (λ_=>?_) (λ_=>?_)
 case refine_2=>
   have gf:k=(ze3 c).length:=oo;rw [gf,qaM] at hI;exact ⟨M,A,hI,g3.own.own⟩
 have hk:k<(ze3 c).length:=oo
 have gg:((ze3 c).take k++[(ze3 c)[k]]).Pairwise ltO:=by
   rw [<-tk hk];exact (zse c).sublist (qcw _ _)
 have g4:=zps gb hI.pw (hI.rng hc);refine zac zAU zpI h1 hk λ_ _ gh=>zab zpI gh (e1.trans M) λ_ gi=>zbN zEH rfl zpI rfl gi (e1.trans M) λw3 g5 g0 _=>zaa zoh<|zad ty3 (zmr g0) (xrf _) λgj=>zaa zoi<|zad ty3 (zms g0) (xrf _) λgl=>zas (cells:=#[.int .i64 (ze3 c)[k].fr,.int .i64 (ze3 c)[k].to]) kK ?_;have gn:Is w3 (.agg #[.int .i64 (ze3 c)[k].fr,.int .i64 (ze3 c)[k].to]) (zh1 (ze3 c)[k]):=znW.2 ⟨rfl,gj,gl⟩;refine zbN zyR rfl zeI rfl gn (xrf _) λ_ g9 g1 _=>zab zeI g1 (xrf _) λ_ gp=>?_;have g2:=(g3.ext g5).ext g9;refine (zm2 g2.is (xrf _) gp (xrf _)).mono ?_;rintro _ w5 ⟨O,rfl⟩;have C:=(g5.t g9).trans O;refine za0<|br (λgq=>?_) (λD=>?_)
 . refine zab zeI g1 O λ_ gr=>?_;have gs:=C.size;refine zbs (lo2:=w5.heap.size) (hi2:=w5.heap.size) (x:=zh1 (ze3 c)[k]) znd zeI zE5 zDw dD (g2.ext O) oo (zjn (gr.ext O)) oo oo (by rw [zak];omega) oo λv' _ gt gx=>zaw<|⟨mk-1,oo,k+1,oo,v',A++[zh1 (ze3 c)[k]],rfl,oo,(M.t C).chgI gt (lr _),gx,?_⟩;rw [tk hk];exact hI.new gg gq
 have D:=qaf.1 D;refine zaw<|⟨mk-1,oo,k+1,oo,out,A,rfl,oo,M.t C,(g2.ext O).mono (lr _) C.size,?_⟩;rw [tk hk];exact hI.old D
def zt1 (hc:CodeR c) {A:List DArc} (h:AInv (ze3 c) A):(∀ a∈A,(0<=a.fr/\a.fr<c.locks.length)/\0<=a.to/\a.to<c.locks.length)/\A.length<=2000:=by
 have h1:AInv ((ze3 c).take (ze3 c).length) A:=by rw [qaM];exact h
 have h2:=h1.rng hc;have:=zps hc.1.locks6 h.pw h2;exact ⟨h2,oo⟩
open Classical in
noncomputable def zsp (c:DCode) (k:Nat):List (List Nat):=((zbY c).take k).filter λp=>decide (ztU (nxL c) p)
def zz1 (hk:k<(zbY c).length) (h:ztU (nxL c) (zbY c)[k]):zsp c (k+1)=zsp c k++[(zbY c)[k]]:=by
 unfold zsp;rw [tk hk,qbm];simp [h]
def zCP (hk:k<(zbY c).length) (h:¬ztU (nxL c) (zbY c)[k]):zsp c (k+1)=zsp c k:=by
 unfold zsp;rw [tk hk,qbm];simp [h]
def zt2 (c:DCode) (k:Nat):(zsp c k).length<=k:=qal (qbI _ _) (by rw [qao];omega)
def zsq {cs:List (List Int)} (hp:cs.Perm ((zsp c (zbY c).length).map zaK)) (hs:cs.Pairwise λa b=>hd0 a<hd0 b):cs=(zd9 c).map zaK:=by
 refine zmG hs (by rw [qbA];exact zq8 c) λ_=>?_;rw [hp.mem_iff];simp only [qa3,zgu];unfold zsp;rw [qaM];simp only [qbV,qau]
def zz2 {α:Type} {f:α->List Nat} {Z:List α} {z:α} (hz:z∈Z) (h:(Z.flatMap f).Nodup):(f z).Nodup:=by
 obtain ⟨_,_,rfl⟩:=qcl hz;rw [qaO,qav] at h;have h2:=h.2.1;rw [qbG,qav] at h2;exact h2.1
def zyv {l:List (List Int)} (hM:Mine F w v l):∃ Z:List (List Nat×vL×List Int),l=Z.map (·.2.2)/\(∀ z∈Z,Mine z.1 w z.2.1 z.2.2)/\(Z.flatMap (·.1)).Nodup/\(∀ c∈Z.flatMap (·.1),c∈F) /\
   (Z≠[]->∃ b o cap,v=.slice (some ⟨b,o,none⟩) l.length cap/\b∈F/\b∉Z.flatMap (·.1)/\w.rangeAt b o (Z.map (·.2.1))):=by
 obtain ⟨⟨_,⟨_,cap,_,_,rfl,_,_,hc,h4⟩,rfl⟩,g0,hw⟩:=hM;obtain ⟨Z,rfl,rfl,rfl,hZ⟩:=ziA hc;rcases h4 with ⟨h4,rfl⟩ | ⟨b,o,rfl,rfl,hr,_⟩
 . have:Z=[]:=by simpa using h4
   subst this;exact ⟨[],rfl,ss,ss,ss,λh=>absurd rfl h⟩
 rw [qaR] at g0;have g1:∀ z∈Z,∀ c∈z.1,c∈Z.flatMap (·.1):=λz hz c hc=>qaV.2 ⟨z,hz,hc⟩;refine ⟨Z,rfl,λz hz=>⟨⟨_,hZ z hz,rfl⟩,?_,hw.sub λc hc=>qcd _ (g1 z hz c hc)⟩,g0.2,λc hc=>qcd _ hc,λ_=>⟨b,o,cap,rfl,ss,g0.1,hr⟩⟩;exact zz2 (f:=(·.1)) hz g0.2
def zq9 {α β:Type} {f:α->List β} {l:List α} {x:β} (h:x∈(l.take k).flatMap f):x∈l.flatMap f:=by
 obtain ⟨z,hz,hx⟩:=qaV.1 h;exact qaV.2 ⟨z,qcf hz,hx⟩
def zvc {α:Type} {f:α->List Nat} {l:List α} (hk:k<l.length) (hn:(l.flatMap f).Nodup):∀ c∈f l[k],c∉(l.take k).flatMap f:=λc hc h=>by
 have e:l=l.take k++l[k] :: l.drop (k+1):=by rw [<-qax hk,qca]
 rw [e,qaO,qav] at hn;exact hn.2.2 c h c (by rw [qbG];exact qa1 _ hc) rfl
def zev {α β:Type} {f:α->List β} {l:List α} (hk:k<l.length):(l.take (k+1)).flatMap f=(l.take k).flatMap f++f l[k]:=by
 rw [tk hk,qaO];simp
def zyw (hW:WAt W0 b c) (e0:Ext W0 w) (hc:CodeR c) :
   CALL tp 32 [.pointer (some ⟨b,0,none⟩)] w λr w'=>Ext w w'/\Own w.heap.size w' r ((zd9 c).map zaK):=by
 refine co (g:=kf [] [(4,17177772192,[5,21])] [(1,[0,1,2,3,4,5,6,7,8,9,10],384)]) Tryz.func32 ?_;have h6l:=hc.1.locks6;have g1:=hW.wl.code;have g9:=zai w;generalize World.drew1 w=w1 at *;refine NIL.mk rfl<|zaa zbc<|zaa zdM<|zab zb9 (zbq g1) (e0.t g9) λ_ gF=>zae u26 gF ?_;refine (zx7 hW (e0.t g9) hc).mono ?_;rintro _ w2 ⟨gj,gG⟩;refine ⟨gj,?_⟩;refine (zso gG.is (xrf _) hc).mono ?_;rintro _ w3 ⟨gl,_,gb,gn⟩;refine ⟨gl,?_⟩;obtain ⟨gp,gq⟩:=zt1 hc gb;refine (zsk gn.is (xrf _) oo gp gq).mono ?_;rintro gH w4 ⟨gr,gs⟩;rw [zk2 hc gb] at gs;have g2:=(g9.t gj).trans gl;have gt:=g2.size;have hs4:=gr.size;obtain ⟨F,hM,hF⟩:=gs;change Mine F w4 gH ((zbY c).map zaK) at hM;have hll:=zmH c;refine zae u40 hM.is ?_;rw [qaD];obtain ⟨Z,gx,hZ,gI,gJ,gK⟩:=zyv hM;have gy:Z.length=(zbY c).length:=by have:=qat List.length gx;simpa using this.symm
 refine zar (zbY c).length (λk us w'=>∃ out FO,us=[out,.int .i64 (k:Int)]/\k<=(zbY c).length/\Ext w3 w'/\w4.heap.size<=w'.heap.size/\RowG FO 31 w' out ((zsp c k).map zaK)/\FO.Nodup/\(∀ x∈FO,x∈(Z.take k).flatMap (·.1)\/w4.heap.size<=x)/\∀ x,x<w4.heap.size->x∉(Z.take k).flatMap (·.1)->w'.heap[x]?=w4.heap[x]?) 0 (z0 _) ⟨_,[],rfl,z0 _,gr,lr _,.inl ⟨none,rfl,by simp [zsp],rfl⟩,qas,ss,λ_ _ _=>rfl⟩ ?_;rintro k mk _ w5 _ ⟨out,FO,hq,_,g4,_,V,gc,g3,C⟩;obtain ⟨gL,gM⟩:=zcv hq;rw [gL,gM];have hcl:=zt2 c k
 have O:∀ x∈FO,w3.heap.size<=x:=λx hx=>by
   rcases g3 x hx with h | h
   . exact hF x (gJ x (zq9 h))
   omega
 refine zah<|br (λ_=>?_) (λ_=>?_)
 case refine_2=>
   have gN:k=(zbY c).length:=oo;rw [gN] at V;have gd:OwnI w3.heap.size w5.heap.size w5 out ((zsp c (zbY c).length).map zaK):=⟨FO,⟨V.own,gc,V.wr⟩,λx hx=>⟨O x hx,V.lt x hx⟩⟩
   have gz:∀ p∈zsp c (zbY c).length,p∈zbY c:=λp hp=>by
     unfold zsp at hp;exact qcf (qbV.1 hp).1
   refine (zzZ gd (by rw [qaD];have:=zt2 c (zbY c).length;omega) (λx hx=>?_) (λx hx=>?_) ?_).mono ?_
   . obtain ⟨p,hp,rfl⟩:=qa3.1 hx;obtain ⟨n,_,h2,_⟩:=zeu (gz p hp);intro e;have h3:p=[]:=qaj (by rw [<-zaf,e];rfl);rw [h3] at h2;cases h2
   . obtain ⟨p,hp,rfl⟩:=qa3.1 hx;obtain ⟨n,h1,_,h2⟩:=zeu (gz p hp);rw [zd5 h1];omega
   . rw [qbA];unfold zsp;exact ((zq7 c).sublist (qcw _ _)).filter _
   rintro _ w6 ⟨gO,_,gA,gP,gB⟩;rw [zsq gP gB] at gA;exact ⟨(g2.t g4).chgI gO gt,gA.own.mono gt⟩
 have hk:k<(zbY c).length:=oo;have U:k<Z.length:=oo;obtain ⟨b9,o9,_,rfl,gQ,gR,gS⟩:=gK (qcM oo);have gf:=hZ _ (qac U)
 have gT:Z[k].2.2=zaK (zbY c)[k]:=by
   have h1:((zbY c).map zaK)[k]?=(Z.map (·.2.2))[k]?:=by rw [gx]
   rw [List.getElem?_map,List.getElem?_map,List.getElem?_eq_getElem hk,List.getElem?_eq_getElem U] at h1;simpa using h1.symm
 have gC:=zvc (f:=(·.1)) U gI;have M:Mine Z[k].1 w5 Z[k].2.1 Z[k].2.2:=gf.keep λx hx=>C x (gf.lt x hx) (gC x hx);have gU:w5.heap[b9]?=w4.heap[b9]?:=C b9 (hM.lt b9 gQ) λh=>gR (zq9 h)
 have gV:w5.rangeAt b9 (o9+k*1) [Z[k].2.1]:=λj v hj=>by
   cases j with
   | zero=>
     simp only [List.getElem?_cons_zero,qaq] at hj;subst hj;rw [World.cell?_of_block (w:=w4) gU,qcW,qck];exact gS k _ (by rw [List.getElem?_map,List.getElem?_eq_getElem U];rfl)
   | succ j=>simp at hj
 refine za9 (v:=.pointer (some ⟨b9,o9+k*1,none⟩)) (λw' _=>by rw [zdL u40 zcn oo (by rw [qaD];omega)];simp) ?_
 refine zsB (α:=List Int) zcn (by
   obtain ⟨cs,hr,hv⟩:=M.own;obtain ⟨v,rfl⟩:∃ v,cs=[v]:=qbf.1 (Rep.len hr);have:Z[k].2.1=v:=hv;rw [this];exact hr) gV ?_
 change CALL tp _ [_,_,Z[k].2.1] w5 _;rw [gT] at M;refine (zpq gn.is g4 M.is (xrf _) oo gp gq (zgt (qac hk)).2 (by have:=(zgt (qac hk)).1;omega)).mono ?_;rintro _ w6 ⟨g0,_,rfl,gg⟩;rw [zk2 hc gb] at gg;have gB:=g0.size;have gD:=V.keep λx hx=>g0.heap (V.lt x hx);have D:∀ x,x<w4.heap.size->x∉(Z.take k).flatMap (·.1)->w6.heap[x]?=w4.heap[x]?:=λx hx hn=>(g0.heap oo).trans (C x hx hn);refine zaN (λhy=>?_) (λhn=>?_)
 . have gh:=gg.1 hy;refine zdD (K:=λw1 r w2=>_) u40 zcn z31 zEs dD gD gc (M.ext g0) (λx hx gW=>?_) (by rw [qaD,zak];omega) (by rw [qaD];omega) (λw7 v' _ G' g5 gi gX gY gZ=>?_) λ_ w7 _ h=>h
   . rcases g3 x gW with h | h
     . exact gC x hx h
     have:=gf.lt x hx;omega
   refine zaw<|⟨mk-1,oo,k+1,oo,v',G',rfl,oo,((g4.t g0).trans g5).chg_trans gi O,?_,?_,gY,λx hx=>?_,λx hx hn=>?_⟩
   . have:=g5.size;have:=gi.size;omega
   . rw [zz1 hk gh,qbh];exact gX
   . rw [zev U];rcases gZ x hx with h | h | h
     . rcases g3 x h with h | h
       . exact .inl (qa1 _ h)
       exact .inr h
     . exact .inl (qbw _ h)
     exact .inr oo
   rw [zev U] at hn;have gE:x∉(Z.take k).flatMap (·.1):=λh=>hn (qa1 _ h)
   have h4:x∉FO:=λh=>by
     rcases g3 x h with h | h
     . exact gE h
     omega
   have h7:=g5.size;rw [gi.block x oo h4,g5.heap oo];exact D x hx gE
 have gh:¬ztU (nxL c) (zbY c)[k]:=λh=>by rw [gg.2 h] at hn;cases hn
 refine zaw<|⟨mk-1,oo,k+1,oo,out,FO,rfl,oo,g4.t g0,oo,by rw [zCP hk gh];exact gD,gc,λx hx=>?_,λx hx hn=>?_⟩
 . rw [zev U];rcases g3 x hx with h | h
   . exact .inl (qa1 _ h)
   exact .inr h
 rw [zev U] at hn;exact D x hx λh=>hn (qa1 _ h)
open Classical in
noncomputable def zmI (c:DCode):List (List Int):=if CodeR c then (zd9 c).map zaK else []
def znX (c:DCode):(zmI c).length<=6/\∀ x∈zmI c,x.length<=6:=by
 unfold zmI;split
 . rename_i h;have:=h.1.locks6;refine ⟨by rw [qaD];have:=zvb c;omega,λx hx=>?_⟩;obtain ⟨_,hp,rfl⟩:=qa3.1 hx;have:=(zyu hp).1;rw [zaf];omega
 simp
theorem zra {c:DCode} {a held:Int} {i:DIns} {x:DTouch}:∀ {k:Nat},x∈zcA c a held i k->0<=x.global/\x.global<k
 | 0,h=>by simp [zcA] at h
 | k+1,h=>by
   rw [zcA] at h;rcases qae.1 h with h | h
   . rcases qae.1 h with h | h
     . have:=zra h;omega
     split at h
     . simp only [qaa,qag,qaz] at h;subst h;constructor<;>(show _ ;simp)<;>omega
     simp at h
   split at h
   . simp only [qaa,qag,qaz] at h;subst h;constructor<;>(show _ ;simp)<;>omega
   simp at h
def zEj {x:DTouch} (h:x∈znQ c):0<=x.global/\x.global<c.globals.length:=by
 unfold znQ at h;obtain ⟨_,_,hx⟩:=qaV.1 h;unfold ztR zep at hx;split at hx
 . exact zra hx
 simp at hx
noncomputable def rcR (c:DCode):List DRace:=zht (zhv c (znQ c) (znQ c).length)
def zyx (hc:CodeR c):(rcR c).length<=324000000:=qal (zqJ _) (zmy (zk1 hc) (zk1 hc))
def zEk (h:x∈rcR c):0<=x.g/\x.g<c.globals.length:=by
 have h:=zqH.1 h;unfold zhv at h;obtain ⟨_,hi,hx⟩:=qaV.1 h;rw [zk0 (qaL.1 hi)] at hx;obtain ⟨_,_,hx⟩:=qaV.1 hx;unfold rc1 at hx;split at hx
 . simp only [qaa,qag,qaz] at hx;subst hx;exact zEj (qac _)
 simp at hx
theorem zmJ {c:DCode} {part:List Int} (h:zix c part):∀ k,k<=part.length->(zfm c part k).size<=5+13*k
 | 0,_=>by rw [zfm];decide
 | k+1,hk=>by
   have h1:=zmJ h k oo;have h2:=h.2.2.2 _ (qac (l:=part) (n:=k) oo);have h3:part.getD k 0=part[k]'(by omega):=zfO oo;have h4:=h.1.1.lock_size (i:=(part.getD k 0).toNat) (by rw [h3];omega);have h5:blankS.size=1:=rfl;rw [zfm,qar,qar,zfO (by rw [h3];omega)];omega
def zib (c:DCode) (g0:List Int):(za5 c g0).size<=100:=by
 unfold za5;split
 . rename_i h;have:=zmJ h g0.length (lr _);have:=h.2.2.1;have:lineS.size=1:=rfl;rw [qar];omega
 exact qbt _
def znY (hc:CodeR c) {x:DRace} (hg:0<=x.g/\x.g<c.globals.length) (ha:I64 x.a) (hb:I64 x.b):(zgp c x).size<=100:=by
 have:=zer x.a ha;have:=zer x.b hb;have:=hc.1.global_size (i:=x.g.toNat) oo;have:raceS.size=5:=rfl;have:blankS.size=1:=rfl;have:lineS.size=1:=rfl;unfold zgp;simp only [qar];rw [zfO oo];omega
noncomputable def znZ (c:DCode):List UInt8:=(rcR c).flatMap λx=>bts (zgp c x)
noncomputable def zpt (c:DCode):List UInt8:=((zd9 c).map zaK).flatMap λp=>bts (za5 c p)
def zEl:ByteArray:=ByteArray.mk #[99,108,101,97,110,10]
open Classical in
noncomputable def zew (c:DCode):ByteArray:=if CodeR c then (if (znZ c++zpt c).length=0 then zEl else ⟨(znZ c++zpt c).toArray⟩) else ByteArray.empty
def zhZ {X:Nat->Prop} {a w w':wD} (h:ExtX X w w') (h0:Ext a w) (hX:∀ b,X b->a.heap.size<=b):Ext a w':=
 ⟨h.os.trans h0.os,h.tape.trans h0.tape,h.output.trans h0.output,qal h0.size h.size,λi hi=>(h.block i (qan hi h0.size) (λhx=>by have:=hX i hx;omega)).trans (h0.block i hi)⟩
def zgW {X:Nat->Prop} (h:Ext w w'):ExtX X w w':=⟨h.os,h.tape,h.output,h.size,λb hb _=>h.block b hb⟩
def zmK {α:Type} [Rep α] {lo:Nat} {X:Nat->Prop} {w w':wD} {v:vL} {x:α} (h:Own lo w v x) (hx:ExtX X w w') (hX:∀ b,lo<=b->b<w.heap.size->¬X b):Is w' v x:=by
 obtain ⟨_,hm,hF⟩:=h;exact (hm.keep λb hb=>hx.block b (hm.lt b hb) (hX b (hF b hb) (hm.lt b hb))).is
def zmL (h0:Is W0 v0 c) (e0:Ext W0 w) (hT:PowT w) :
   CALL tp 10 [v0] w λr w'=>Ext w w'/\r=.string (zew c):=by
 refine co (g:=kf [] [(6,17592184995968,[20]),(11,71916856549573120,[47])] [(8,[0,1,2,3,4,5,6,7,8,9,13,14,10,11,12,15,16,17,18],33792)]) Tryz.func10 ?_;refine zbk h0 e0 λ_ gx hA=>zab zbO hA (xrf _) λ_ gB=>?_;refine (zuH gB (xrf _)).mono ?_;rintro _ wv ⟨g3,h⟩;rcases h with ⟨hn,rfl⟩ | ⟨hc,b,rfl,hW⟩
 . refine zal rfl ?_;refine zal rfl<|zau<|zaN (λ_=>⟨gx.t g3,by unfold zew;rw [qad hn];rfl⟩) (λh=>by cases h)
 refine zal rfl<|zal rfl<|zau<|zaN (λh=>by cases h) (λ_=>?_);have gy:=hA.ext g3;have g4:=gx.t g3;refine zCx (X:=λb=>b<0) λwg gf gz=>?_;have hgl:=gz.lt;refine (zzM hW gf hc).mono ?_;rintro v18 W1 ⟨gg,hR⟩;have hs1:=gg.size;have hsv:=g3.size;have hsg:=gf.size;have hsw:=g4.size;have gC:=gz.ext gg;have hRl:=zyx hc;change Own wg.heap.size W1 v18 (rcR c) at hR;have gD:=λx (hx:x∈rcR c)=>zEk hx;have gh:znZ c=(rcR c).flatMap λx=>bts (zgp c x):=rfl;generalize hRe:rcR c=R at *;generalize hge:wv.heap.size=g at *;refine zae u38 hR.is<|zar R.length (λk us w'=>us=[.int .i64 (k:Int)]/\k<=R.length/\ExtX (λb=>b=g\/W1.heap.size<=b) W1 w'/\BldAt w' g ((R.take k).flatMap λx=>bts (zgp c x)) (λb=>W1.heap.size<=b)/\((R.take k).flatMap λx=>bts (zgp c x)).length<=k*100) 0 (z0 _) ⟨rfl,z0 _,zgW (xrf _),by simpa using gC.mono λk hk _=>absurd hk (Nat.not_lt_zero k),ss⟩ ?_;rintro i mk _ w3 _ ⟨hu,_,g5,g9,gi⟩;try replace hu:=zbv hu
 rw [hu];have hs3:=g5.size;refine zah ?_;have D:Ext wv w3:=zhZ g5 (gf.t gg) λb hb=>oo;refine br (λgE=>?_) (λ_=>?_)
 case refine_1=>
   have hi:i<R.length:=oo;have gF:Is w3 v18 R:=zmK hR g5 λb gG gH=>oo;refine zac u38 zfY (i:=i) gF hi λ_ _ gI=>zab zfY gI (xrf _) λ_ gJ=>zbN zED rfl zfY rfl gJ (xrf _) λw4 gK gj _=>?_;have gL:=gD R[i] (qac _);generalize hxe:R[i]=x at *;have gb:=zai w4;generalize World.drew1 w4=w5 at *;have g0:Ext w3 w5:=gK.t gb;have M:=D.t g0;refine zaa zez<|zab zb9 (zbH gy) M λ_ gM=>zaa ziK<|zad ty3 (zeg gj) gb λ_=>?_;obtain ⟨j,hj⟩:∃ j:Nat,x.g=(j:Int):=⟨x.g.toNat,oo⟩;have gl:j<c.globals.length:=oo;rw [hj];refine zac u26 ty9 gM gl λ_ _ gN=>zaq ty9 gN M λ_=>?_;have hsz:=hc.1.global_size gl;have h5:(ByteArray.mk #[114,97,99,101,32]).size=5:=rfl;have h1':(ByteArray.mk #[32]).size=1:=rfl;have h1n:(ByteArray.mk #[10]).size=1:=rfl;refine zbt oo<|zbt (by simp only [qar];omega)<|zaa zkf<|zad ty3 (ze4 gj) gb λgn=>zaa znb<|zad ty3 (zhB gj) gb λgp=>?_;have hda:=zer x.a gn;have hdb:=zer x.b gp;have g1:=g4.t M;refine (zc6 hT g1 gn).mono ?_;rintro _ w6 ⟨V,rfl⟩;refine ⟨V,?_⟩;refine zbt (by simp only [qar];omega)<|zbt (by simp only [qar];omega) ?_;refine (zc6 hT (g1.t V) gp).mono ?_;rintro _ _ ⟨gA,rfl⟩;refine ⟨gA,?_⟩;refine zbt (by simp only [qar];omega)<|zbt (by simp only [qar];omega) ?_;have O:=(g0.t V).trans gA;have gO:=O.size
   have gP:ByteArray.mk #[114,97,99,101,32]++c.globals[j]++ByteArray.mk #[32]++znl x.a++ByteArray.mk #[32]++znl x.b++ByteArray.mk #[10]=zgp c x:=by
     unfold zgp;rw [hj,qaF,zfO gl];rfl
   rw [gP];have gQ:=znY hc gL gn gp;refine (zh9 (g9.ext O) (λk hk=>oo) oo (by rw [zak];omega)).mono ?_;rintro _ _ ⟨gR,gS⟩;refine zaw ?_
   have Z:((R.take (i+1)).flatMap λx=>bts (zgp c x))=((R.take i).flatMap λx=>bts (zgp c x))++bts (zgp c x):=by
     rw [tk hi,qaO,hxe];simp
   refine ⟨mk-1,oo,i+1,oo,rfl,oo,zyB (zyB g5 (zgW O)) gR,by rw [Z];exact gS,?_⟩;rw [Z,qab,zaB];omega
 have gT:i=R.length:=oo;rw [gT,qaM,<-gh] at g9 gi;refine (zyw hW D hc).mono ?_;rintro gU W2 ⟨gq,hQ⟩;have hs2:=gq.size;have gV:=g9.lt;have gW:=(g9.mono (Y:=λb=>(W1.heap.size<=b/\b<w3.heap.size)\/W2.heap.size<=b) λk hk gX=>.inl ⟨hk,gX⟩).ext gq;have hQl:((zd9 c).map zaK).length<=6:=by have:=(znX c).1;unfold zmI at this;rwa [qah hc] at this
 have g2:zpt c=((zd9 c).map zaK).flatMap λp=>bts (za5 c p):=rfl;generalize hQe:(zd9 c).map zaK=Q at *;refine zae u40 hQ.is<|zar Q.length (λk us w'=>us=[.int .i64 (k:Int)]/\k<=Q.length/\ExtX (λb=>b=g\/(W1.heap.size<=b/\b<w3.heap.size)\/W2.heap.size<=b) W2 w'/\BldAt w' g (znZ c++(Q.take k).flatMap λp=>bts (za5 c p)) (λb=>(W1.heap.size<=b/\b<w3.heap.size)\/W2.heap.size<=b)/\((Q.take k).flatMap λp=>bts (za5 c p)).length<=k*100) 0 (z0 _) ⟨rfl,z0 _,zgW (xrf _),by simpa using gW,ss⟩ ?_;rintro i2 gY _ w4 _ ⟨gr,_,gc,gd,gs⟩;try replace gr:=zbv gr
 rw [gr];have hs4:=gc.size;refine zah ?_;have C:Ext wv w4:=zhZ gc (D.t gq) λb hb=>oo;refine br (λgE=>?_) (λ_=>?_)
 case refine_1=>
   have hi:i2<Q.length:=oo;have gZ:Is w4 gU Q:=zmK hQ gc λb gG gH=>oo;refine zac u40 zcn (i:=i2) gZ hi λ_ _ h4=>zab zcn h4 (xrf _) λ_ h6=>zab zbO gy C λ_ h8=>?_;refine (zkB (h8.ext C) (xrf _) h6 (xrf _)).mono ?_;rintro _ w5 ⟨U,rfl⟩;have hs5:=U.size;have gQ:=zib c Q[i2];refine (zh9 (gd.ext U) (λk hk=>oo) (by rw [qab];omega) (by rw [zak];omega)).mono ?_;rintro _ w6 ⟨h9,ha⟩;refine zaw ?_
   have Z:((Q.take (i2+1)).flatMap λp=>bts (za5 c p))=((Q.take i2).flatMap λp=>bts (za5 c p))++bts (za5 c Q[i2]):=by
     rw [tk hi,qaO];simp
   refine ⟨gY-1,oo,i2+1,oo,rfl,oo,zyB (zyB gc (zgW U)) h9,by rw [Z,<-qaA];exact ha,?_⟩;rw [Z,qab,zaB];omega
 have gt:i2=Q.length:=oo;rw [gt,qaM,<-g2] at gd gs;refine (zpb gd).mono ?_;rintro _ w5 ⟨U,rfl⟩;refine zag<|br (λhz=>⟨g4.t (C.t U),?_⟩) (λhz=>?_)
 . unfold zew;rw [qah hc,qah oo];rfl
 refine (zkA (gd.ext U) (g4.t (C.t U)) oo).mono ?_;rintro _ w6 ⟨V,rfl⟩;refine ⟨V,?_⟩;unfold zew;rw [qah hc,qad oo]
def zvd (h0:Is W0 v0 c) (e0:Ext W0 w) (hc:CodeR c) :
   CALL tp 97 [v0] w λr w'=>Ext w w'/\∃ A,AInv (ze3 c) A/\Own w.heap.size w' r A:=by
 refine co (g:=kf [] [(4,17592186043496,[3,5])] [(6,[0,1,2,3,4,5,6,7,8,9,10,11,12],2048),(7,[0,1,2,3,4,5,6,7,8,9,10,11,12],0)]) Tryz.func97 ?_;have hol:=ztP hc;have gg:=hc.1.locks6;refine zbk h0 e0 λ_ gh hA=>zaI (α:=DArc) znd zeI λ_ _ g2 _=>zab zbO hA g2 λ_ h8=>?_;refine (zx8 h8 g2 hc).mono ?_;rintro _ w3 ⟨gi,gj⟩;have h9:=gj.is;have g0:=(gh.t g2).trans gi;have g3:=g0.size;refine zar (ze3 c).length (λk us w'=>∃ out A,us=[out,.int .i64 (k:Int)]/\k<=(ze3 c).length/\Ext w3 w'/\RowI w3.heap.size w'.heap.size 201 w' out A/\AInv ((ze3 c).take k) A) 0 (z0 _) ⟨_,[],rfl,z0 _,xrf _,zcg _ _ _ _ _,by rw [qb2];exact AInv.start⟩ ?_;rintro k mk _ w4 _ ⟨out,A,hq,_,U,gb,hI⟩;obtain ⟨gl,gn⟩:=zcv hq;rw [gl,gn];have hs4:=U.size;refine zae zAU h9<|zah<|br (λ_=>?_) (λ_=>?_)
 case refine_2=>
   have gp:k=(ze3 c).length:=oo;rw [gp,qaM] at hI;exact ⟨g0.t U,A,hI,gb.own.own.mono g3⟩
 have hk:k<(ze3 c).length:=oo
 have gc:((ze3 c).take k++[(ze3 c)[k]]).Pairwise ltO:=by
   rw [<-tk hk];exact (zse c).sublist (qcw _ _)
 have gd:=zps gg hI.pw (hI.rng hc);have g4:=zai w4;generalize World.drew1 w4=w5 at *;have e5:=U.t g4;refine zac zAU zpI h9 hk λ_ _ gq=>zaa zoh<|zad ty3 (zmr gq) e5 λgr=>zac zAU zpI h9 hk λ_ _ gs=>zaa zoi<|zad ty3 (zms gs) e5 λgt=>zas (cells:=#[.int .i64 (ze3 c)[k].fr,.int .i64 (ze3 c)[k].to]) kK ?_;have gx:Is w5 (.agg #[.int .i64 (ze3 c)[k].fr,.int .i64 (ze3 c)[k].to]) (zh1 (ze3 c)[k]):=znW.2 ⟨rfl,gr,gt⟩;refine zBP zyR rfl zeI rfl gx (xrf _) λw6 gf g1 _=>?_;have C:=zai w6;generalize World.drew1 w6=w7 at *;have V:=((gb.ext g4).ext gf).ext C;have O:=(g4.t gf).trans C;have g5:=O.size
 have D:zh1 (ze3 c)[k]∉A->RD tp (Instr.loadAt 201 (.pointer (some ⟨w5.heap.size,0,none⟩))) w7 λgy=>OP tp (Instr.buildSlice 139 1 #[(0,gy)]) w7 λgz w=>OP tp (Builtin.append_ #[139,139] 139 [out,gz].toArray) w λgA w=>RD tp (bin .add 3 (.tmp 0) (.const undef) (.int .i64 (k:Int)) (.int .i64 1)) w λgB=>∃ m',m'<mk/\∃ k',k'+m'=(ze3 c).length/\∃ out A,[gA,gB]=[out,.int .i64 (k':Int)]/\k'<=(ze3 c).length/\Ext w3 w/\RowI w3.heap.size w.heap.size 201 w out A/\AInv ((ze3 c).take k') A:=λgC=>by
   refine zab zeI g1 C λ_ gD=>zbs (lo2:=w7.heap.size) (hi2:=w7.heap.size) (x:=zh1 (ze3 c)[k]) znd zeI zE5 zDw dD V oo (zjn (gD.ext C)) oo oo (by rw [zak];omega) oo λv' _ gE gF=>zaw<|⟨mk-1,oo,k+1,oo,v',A++[zh1 (ze3 c)[k]],rfl,oo,(U.t O).chgI gE (lr _),gF,?_⟩;rw [tk hk];exact hI.new gc gC
 refine zae znd V.is<|zag<|br (λh0=>?_) (λ_=>?_)
 . have:A=[]:=qaj oo;exact D (by rw [this];simp)
 have M:=hI.last gc oo;refine zae znd V.is<|zbp io ?_;rw [show ((A.length:Int)-1)=((A.length-1:Nat):Int) by omega];refine zac (i:=A.length-1) znd zeI V.is oo λ_ _ gG=>zab zeI gG (xrf _) λ_ gH=>zab zeI g1 C λ_ gI=>zu8 gH gI<|br (λgJ=>?_) (λgK=>?_)
 . exact D λh=>gJ (M.2 h)
 have g9:=M.1 (qaf.1 gK);refine zaw<|⟨mk-1,oo,k+1,oo,out,A,rfl,oo,U.t O,V.mono (lr _) g5,?_⟩;rw [tk hk];exact hI.old g9
open Classical in
noncomputable def zmM (c:DCode) (n:Nat):List (List Nat):=(List.range n).flatMap λn=>(zbY c).filter λp=>decide (p.head?=some n/\ztU (nxL c) p)
open Classical in
noncomputable def zg4 (c:DCode) (n k:Nat):List (List Nat):=((zbY c).take k).filter λp=>decide (p.head?=some n/\ztU (nxL c) p)
def zsr (c:DCode) (n:Nat):zmM c (n+1)=zmM c n++zg4 c n (zbY c).length:=by
 unfold zmM zg4;rw [qbC,qaO,qaM];simp
def zve (hk:k<(zbY c).length) (h:(zbY c)[k].head?=some n/\ztU (nxL c) (zbY c)[k]):zg4 c n (k+1)=zg4 c n k++[(zbY c)[k]]:=by
 unfold zg4;rw [tk hk,qbm];simp [h]
def zyy (hk:k<(zbY c).length) (h:¬((zbY c)[k].head?=some n/\ztU (nxL c) (zbY c)[k])):zg4 c n (k+1)=zg4 c n k:=by
 unfold zg4;rw [tk hk,qbm];simp [h]
def zvf (c:DCode) (n k:Nat):(zg4 c n k).length<=k:=qal (qbI _ _) (by rw [qao];omega)
open Classical in
def zvg (hc:CodeR c) (n:Nat):(zmM c n).length<=n*6:=by
 have h6:=hc.1.locks6;have hll:=zmH c;have:=zj5 (l:=List.range n) (B:=6) (f:=λn=>(zbY c).filter λp=>decide (p.head?=some n/\ztU (nxL c) p)) λ_ _=>qal (qbI _ _) oo;rw [qbN] at this;exact this
def zrb (h0:Is W0 v0 c) (e0:Ext W0 w) (hc:CodeR c) :
   CALL tp 37 [v0] w λr w'=>Ext w w'/\Own w.heap.size w' r ((zd9 c).map zaK):=by
 refine co (g:=kf [] [(5,144115188075790560,[5,6]),(8,144115188067467424,[5,7])] [(10,[0,1,2,3,4,5,6,7,8,9,10,11,12,13,14,15,16,17,18],0)]) Tryz.func37 ?_;have h6l:=hc.1.locks6;refine zbk h0 e0 λ_ gH hA=>zab zbO hA (xrf _) λ_ h8=>?_;refine (zvd h8 (xrf _) hc).mono ?_;rintro _ w2 ⟨g9,_,gd,gy⟩;obtain ⟨gz,gA⟩:=zt1 hc gd;refine zaa zdM<|zab zb9 (zbq hA) g9 λ_ gI=>zae u26 gI ?_;refine (zu9 gy.is (xrf _) oo gz gA).mono ?_;rintro v14 w3 ⟨gb,g1⟩;rw [zk2 hc gd] at g1;change Own w2.heap.size w3 v14 ((zbY c).map zaK) at g1;have g2:=(gH.t g9).trans gb;have gf:=g2.size;have hll:=zmH c;refine zaI (α:=List Int) u40 zcn λ_ _ gJ _=>zar c.locks.length (λn us w'=>∃ out,us=[out,.int .i64 (n:Int)]/\n<=c.locks.length/\Ext w3 w'/\RowI w3.heap.size w'.heap.size 31 w' out ((zmM c n).map zaK)) 0 (z0 _) ⟨_,rfl,z0 _,gJ,zcg _ _ _ _ _⟩ ?_;rintro n mn _ _ _ ⟨out,hq,_,gg,gh⟩;obtain ⟨gK,gL⟩:=zcv hq;rw [gK,gL];refine zaa zdM<|zab zb9 (zbq hA) ((g9.t gb).trans gg) λ_ gM=>zae u26 gM<|zah<|br (λ_=>?_) (λ_=>?_)
 case refine_2=>
   have gi:n=c.locks.length:=oo;rw [gi] at gh;exact ⟨g2.t gg,gh.own.own.mono gf⟩
 have hn:n<c.locks.length:=oo;have hKl:=zvg hc n;refine zar (zbY c).length (λk us w'=>∃ out,us=[out,.int .i64 (k:Int)]/\k<=(zbY c).length/\Ext w3 w'/\RowI w3.heap.size w'.heap.size 31 w' out ((zmM c n++zg4 c n k).map zaK)) 0 (z0 _) ⟨_,rfl,z0 _,gg,by simpa [zg4] using gh⟩ ?_;rintro k mk _ w6 _ ⟨O,gN,_,gj,gl⟩;obtain ⟨gn,gp⟩:=zcv gN;rw [gn,gp];have hIl:=zvf c n k;refine zae u40 g1.is ?_;rw [qaD];refine zah<|br (λ_=>?_) (λ_=>?_)
 case refine_2=>
   have gO:k=(zbY c).length:=oo;rw [gO,<-zsr] at gl;refine zaw<|⟨mn-1,oo,n+1,oo,O,rfl,oo,gj,gl⟩
 have hk:k<(zbY c).length:=oo;obtain ⟨_,gP⟩:=zgt (qac hk);obtain ⟨hd,gc,gQ,_⟩:=zeu (qac hk);have U:k<((zbY c).map zaK).length:=by rw [qaD];exact hk
 have gq:=zai w6;generalize World.drew1 w6=w7 at *;have C:=gj.t gq;have gB:=gl.ext gq;have hs7:=gq.size;have gR:=gj.size
 have V:0<(zaK (zbY c)[k]).length:=by
   rw [zaf];exact qb4 gQ
 have gS:(zaK (zbY c)[k])[0]'V=(hd:Int):=by
   rw [<-zsn (qcM V)];exact zd5 gc
 have D:¬((zbY c)[k].head?=some n/\ztU (nxL c) (zbY c)[k])->∀ w8,Ext w7 w8->∃ m',m'<mk/\∃ k',k'+m'=(zbY c).length/\∃ out,[O,Value.int .i64 ((k+1:Nat):Int)]=[out,.int .i64 (k':Int)]/\k'<=(zbY c).length/\Ext w3 w8/\RowI w3.heap.size w8.heap.size 31 w8 out ((zmM c n++zg4 c n k').map zaK):=λh w8 M=>
   ⟨mk-1,oo,k+1,oo,O,rfl,oo,C.t M,by rw [zyy hk h];exact (gB.ext M).mono (lr _) (by have:=M.size;omega)⟩
 refine zac (i:=k) u40 zcn g1.is U λ_ _ gC=>?_;rw [qbM] at gC;refine zab zcn gC C λ_ gT=>zac (i:=0) u31 ty3 gT V λ_ _ gD=>?_;rw [gS] at gD;refine zad ty3 gD C λ_=>zag<|br (λ_=>?_) (λgi=>?_)
 case refine_2=>refine zaw<|D (λh=>gi ?_) _ (xrf _);rw [gc] at h;have:=qco h.1;omega
 have gU:hd=n:=oo;rw [gU] at gc;refine zaa zdM<|zab zb9 (zbq hA) ((g9.t gb).trans C) λ_ gV=>zae u26 gV<|zac (i:=k) u40 zcn g1.is U λ_ _ gE=>?_;rw [qbM] at gE;refine zab zcn gE C λ_ gW=>?_;refine (zpr gy.is (gb.t C) gW C oo gz gA gP oo).mono ?_;rintro _ w8 ⟨M,_,rfl,gr⟩;rw [zk2 hc gd] at gr;refine zaN (λhy=>?_) (λgF=>?_)
 case refine_2=>refine zaw<|D (λh=>by rw [gr.2 h.2] at gF;cases gF) _ M
 have gX:=gr.1 hy;have hs8:=M.size;refine zaI (α:=Int) u31 ty3 λ_ w9 gs gY=>?_;have hs9:=gs.size;have Z:=(C.t M).trans gs;refine zac (i:=k) u40 zcn g1.is U λ_ _ gG=>?_;rw [qbM] at gG;refine zab zcn gG Z λ_ gZ=>zek u31 ty3 zc3 gY (lr _) gZ Z (by rw [zaf,zak];simp;omega) (by rw [zaf];simp;omega) λ_ h4 g0 g3=>?_;rw [qbo] at g3;have h5:=g0.size;have g4:=((gB.ext M).ext gs).chg g0 oo;have g5:=Z.chgI g0 oo;have hsx:=g5.size;refine zbs (lo2:=w9.heap.size) (hi2:=h4.heap.size) (x:=zaK (zbY c)[k]) u40 zcn z31 zEs dD g4 oo g3.own oo oo (by rw [qaD,qab,zak];omega) (by rw [qaD,qab];omega) λh6 _ gt gx=>zaw<|⟨mk-1,oo,k+1,oo,h6,rfl,oo,g5.chgI gt (lr _),?_⟩;rw [zve hk ⟨gc,gX⟩,<-qaA,qbh];exact gx
def SRow (X:Nat->Prop) (w:wD) (v:vL) (l:List UInt8):Prop:=(∃ a,v=.slice (some a) 0 0/\l=[])\/(w.ownsRow 0 5 1 v l.length (Lib.byteCells l)/\∀ k,v.ownBlock=some k->X k)
section
variable {w w':wD} {v:vL} {l:List UInt8} {X Y:Nat->Prop}
def SRow.ext (h:SRow X w v l) (hx:Ext w w'):SRow X w' v l:=by
 rcases h with h | ⟨h1,h2⟩
 . exact .inl h
 exact .inr ⟨zxM h1 hx,h2⟩
def SRow.mono (h:SRow X w v l) (hx:∀ k,X k->k<w.heap.size->Y k):SRow Y w v l:=by
 rcases h with h | ⟨h1,h2⟩
 . exact .inl h
 exact .inr ⟨h1,λk hk=>hx k (h2 k hk) (h1.lt k hk).2⟩
theorem zt3 (w:wD):∀ l:List UInt8,Cells [] w (Lib.byteCells l) l
 | []=>⟨rfl,rfl⟩
 | b :: l=>⟨[],[],[.int .u8 (b.toNat:Int)],Lib.byteCells l,rfl,rfl,⟨rfl,rfl⟩,zt3 w l⟩
def SRow.is (h:SRow X w v l):Is w v l:=by
 rcases h with ⟨a,rfl,rfl⟩ | ⟨h1,_⟩
 . exact ⟨[],_,⟨some a,0,[],[],rfl,lr _,z0 _,⟨rfl,rfl⟩,.inl ⟨rfl,rfl⟩⟩,rfl⟩
 rcases h1.2 with ⟨rfl,hl⟩ | ⟨g,cap,_,rfl,_,hg,hn,hm,_,_⟩
 . obtain rfl:=qaj hl;exact zC9 rfl
 refine ⟨[g],_,⟨some ⟨g,0,none⟩,cap,[],_,rfl,hn,hm,zt3 w l,.inr ⟨g,0,rfl,rfl,λj u hu=>?_,(Array.getElem?_eq_some_iff.1 hg).1⟩⟩,rfl⟩;have h2:=h1.cells (g:=g) rfl j u hu;have g0:(⟨g,0,none⟩:Addr).add j=⟨g,j,none⟩:=by unfold Addr.add;split<;>simp_all
 rw [g0] at h2;rw [qba];exact h2
def zn0 {s:ByteArray} {K:VW} (h:SRow X w v l) (hX:∀ k,w.heap.size<=k->X k) (hn:l.length+s.size<=140737488355328)
   (k:∀ v' w',ExtX X w w'->SRow X w' v' (l++bts s)->K v' w'):OP tp (Builtin.append_ #[24,9] 24 [v,.string s].toArray) w K:=by
 have hm:∀ {n:Nat},n<=140737488355328->n<=maxLen:=λh=>by rw [zak];omega
 rcases h with ⟨a,rfl,rfl⟩ | ⟨h1,h2⟩
 . obtain ⟨i,hi,hz,hs,hy⟩:=byI;by_cases hs0:s.size=0
   . refine ⟨.slice (some a) 0 0,w,?_,k _ w (zgW (xrf _)) (.inl ⟨a,rfl,?_⟩)⟩
     . have hf:=Lib.run_firstCells_string (P:=tp) w 1 s;have hn:Lib.strCells s=[]:=qaj (by rw [Lib.strCells_length];exact hs0);rw [hs0,hn] at hf;simp [Builtin.append_,run_underlying Tryz.underlying24,run_underlying Tryz.underlying9,sizeOf,typeInfo,hi,hs,Builtin.lenOf,hs0,hf,storeCells]
     exact qaj (by rw [qbo,zaB];exact hs0)
   have hr:=Lib.run_append_grow_string (P:=tp) w 24 9 24 5 i (.int .u8 0) Tryz.underlying24 Tryz.underlying9 hi hz a 0 0 [] ss ss s oo (by simp only [qaI] at hn;omega) (by rw [hy];simp only [qaI] at hn;exact growslice_fits oo oo);obtain ⟨v2,w2,g2,g1,C,_⟩:=Lib.run_append_own_string (P:=tp) w w.heap.size 24 9 24 5 i Tryz.underlying24 Tryz.underlying9 hi hz hs hy _ 0 [] (World.ownsRow_nil w w.heap.size 5 1) s (hm (by simpa using hn)) (by simpa using hn) (lr _);have g0:=run_append_nil_string (P:=tp) w 24 9 24 5 i (.int .u8 0) Tryz.underlying24 Tryz.underlying9 hi hz s oo (by simp only [qaI] at hn;omega) (by rw [hy];simp only [qaI] at hn;omega)
   have he:(Builtin.append_ #[24,9] 24 #[.slice (some a) 0 0,.string s]).run tp w=.ok v2 w2:=by
     have e1:(s.data.map λb=>Value.int .u8 b.toNat)=(Lib.strCells s).toArray:=by
       apply qcc;simp [Lib.strCells]
     rw [e1] at g0;rw [hr,<-g2,g0];simp
   refine ⟨v2,w2,he,k v2 w2 ⟨C.os,C.tape,C.output,C.size,λb hb _=>C.block b hb (by simp [Value.ownBlock])⟩ (.inr ⟨?_,λj hj=>hX j (g1.lt j hj).1⟩)⟩;rw [zmk,qab,zaB];exact ztG (by simpa [Lib.byteCells] using g1) (z0 _)
 refine znF h1 hn (z0 _) λv' w' h3 hg h4=>k v' w' ⟨hg.os,hg.tape,hg.output,hg.size,λb hb hn=>hg.block b hb λe=>hn (h2 b e.symm)⟩ (.inr ⟨?_,λj hj=>?_⟩)
 . rw [zmk,qab,zaB];exact h3
 rcases h4 j hj with h | h
 . exact h2 j h
 exact hX j h
end
def zss (hc:CodeR c) {x:DRace} (hg:0<=x.g/\x.g<c.globals.length):zhT c x=zgp c x:=by
 unfold zhT;rw [qah ⟨hc,hg⟩]
def zmN (h0:Is W0 v0 c) (e0:Ext W0 w) :
   CALL tp 15 [v0] w λr w'=>Ext w w'/\r=.string (zew c):=by
 refine co (g:=kf [] [(6,268419112,[3,5]),(11,17591112302728,[3,7])] [(8,[0,1,2,3,4,5,6,7,8],64),(13,[0,1,2,3,4,5,6,7,8],64)]) Tryz.func15 ?_;refine zbk h0 e0 λwa g4 hA=>zab zbO hA (xrf _) λ_ h8=>?_;refine (zgG h8 (xrf _)).mono ?_;rintro _ _ ⟨Z,rfl⟩;refine za0<|br (λhn=>⟨g4.t Z,by unfold zew;rw [qad hn];rfl⟩) (λhy=>?_);have hc:=qaf.1 hy;have gx:=g4.t Z;refine ziI (α:=UInt8) u24 ty5 λa wg g5 _=>zab zbO hA (Z.t g5) λ_ gy=>?_;refine (zyh gy (Z.t g5) hc).mono ?_;rintro gz W1 ⟨gn,hR⟩;have hs1:=gn.size;have hsv:=Z.size;have hsg:=g5.size;have hsw:=gx.size;have hRl:=zyx hc;change Own wg.heap.size W1 gz (rcR c) at hR;have gA:=λx (hx:x∈rcR c)=>zEk hx;have gc:znZ c=(rcR c).flatMap λx=>bts (zgp c x):=rfl;generalize hRe:rcR c=R at *;have g0:=(Z.t g5).trans gn;refine zar R.length (λk us w'=>∃ out,us=[out,.int .i64 (k:Int)]/\k<=R.length/\ExtX (λb=>W1.heap.size<=b) W1 w'/\SRow (λb=>W1.heap.size<=b) w' out ((R.take k).flatMap λx=>bts (zgp c x))/\((R.take k).flatMap λx=>bts (zgp c x)).length<=k*100) 0 (z0 _) ⟨_,rfl,z0 _,zgW (xrf _),.inl ⟨a,rfl,ss⟩,ss⟩ ?_;rintro i mk _ w3 _ ⟨out,hu,_,gd,gf,gg⟩;obtain ⟨gB,gh⟩:=zcv hu;rw [gB,gh];have hs3:=gd.size;have M:Ext W1 w3:=zhZ gd (xrf _) λb hb=>hb;refine zae u38 (hR.is.ext M)<|zah ?_;have C:=g0.t M;refine br (λgC=>?_) (λ_=>?_)
 case refine_1=>
   have hi:i<R.length:=oo;have D:=zai w3;generalize World.drew1 w3=w4 at *;refine zab zbO hA (C.t D) λ_ gD=>zac u38 zfY (i:=i) hR.is hi λ_ _ gE=>zab zfY gE (M.t D) λ_ gp=>?_;have gq:=gA R[i] (qac _);have g1:=zjB.1 gp;refine (zmn gD (C.t D) gp (M.t D)).mono ?_;rintro _ w5 ⟨gr,rfl⟩;refine ⟨gr,?_⟩;have U:=D.t gr;have gF:=U.size;rw [zss hc gq];have gG:=znY hc gq g1.2.2.1 g1.2.2.2;refine zn0 (gf.ext U) (λk hk=>oo) oo λv' w6 gH gI=>zaw ?_
   have g2:((R.take (i+1)).flatMap λx=>bts (zgp c x))=((R.take i).flatMap λx=>bts (zgp c x))++bts (zgp c R[i]):=by
     rw [tk hi,qaO];simp
   refine ⟨mk-1,oo,i+1,oo,v',rfl,oo,zyB (zyB gd (zgW U)) gH,by rw [g2];exact gI,?_⟩;rw [g2,qab,zaB];omega
 have gJ:i=R.length:=oo;rw [gJ,qaM,<-gc] at gf gg;refine zab zbO hA C λ_ gK=>?_;refine (zrb gK C hc).mono ?_;rintro gL W2 ⟨gi,hQ⟩;have hs2:=gi.size;have gM:=(gf.mono (Y:=λb=>(W1.heap.size<=b/\b<w3.heap.size)\/W2.heap.size<=b) λk hk gN=>.inl ⟨hk,gN⟩).ext gi;have hQl:((zd9 c).map zaK).length<=6:=by have:=(znX c).1;unfold zmI at this;rwa [qah hc] at this
 have g3:zpt c=((zd9 c).map zaK).flatMap λp=>bts (za5 c p):=rfl;generalize hQe:(zd9 c).map zaK=Q at *;refine zar Q.length (λk us w'=>∃ out,us=[out,.int .i64 (k:Int)]/\k<=Q.length/\ExtX (λb=>(W1.heap.size<=b/\b<w3.heap.size)\/W2.heap.size<=b) W2 w'/\SRow (λb=>(W1.heap.size<=b/\b<w3.heap.size)\/W2.heap.size<=b) w' out (znZ c++(Q.take k).flatMap λp=>bts (za5 c p))/\((Q.take k).flatMap λp=>bts (za5 c p)).length<=k*100) 0 (z0 _) ⟨_,rfl,z0 _,zgW (xrf _),by simpa using gM,ss⟩ ?_;rintro i2 gO _ w4 _ ⟨_,gh,_,g9,gb,gj⟩;obtain ⟨gP,gQ⟩:=zcv gh;rw [gP,gQ];have hs4:=g9.size;have gs:Is w4 gL Q:=zmK hQ g9 λb _ _=>oo;refine zae u40 gs<|zah ?_;have O:Ext wa w4:=zhZ g9 (C.t gi) λb hb=>by have:=g0.size;omega
 refine br (λgC=>?_) (λ_=>?_)
 case refine_1=>
   have hi:i2<Q.length:=oo;have D:=zai w4;generalize World.drew1 w4=w5 at *;refine zab zbO hA (O.t D) λ_ gR=>zac u40 zcn (i:=i2) gs hi λ_ _ gS=>zab zcn gS D λ_ gT=>?_;refine (zkC gR (O.t D) gT D).mono ?_;rintro _ w6 ⟨gt,rfl⟩;refine ⟨gt,?_⟩;have V:=D.t gt;have gU:=V.size;have gG:=zib c Q[i2];refine zn0 (gb.ext V) (λk hk=>oo) (by rw [qab];omega) λv' _ gV gW=>zaw ?_
   have g2:((Q.take (i2+1)).flatMap λp=>bts (za5 c p))=((Q.take i2).flatMap λp=>bts (za5 c p))++bts (za5 c Q[i2]):=by
     rw [tk hi,qaO];simp
   refine ⟨gO-1,oo,i2+1,oo,v',rfl,oo,zyB (zyB g9 (zgW V)) gV,by rw [g2,<-qaA];exact gW,?_⟩;rw [g2,qab,zaB];omega
 have gl:i2=Q.length:=oo;rw [gl,qaM,<-g3] at gb gj;refine zae u24 gb.is<|zag<|br (λhz=>⟨g4.t O,?_⟩) (λhz=>?_)
 . unfold zew;rw [qah hc,qah oo];rfl
 refine zly u24 Tryz.underlying5 Tryz.underlying9 gb.is (xrf _)<|⟨g4.t O,?_⟩;unfold zew;rw [qah hc,qad oo]
def zBw (f:DFault):ByteArray:=(((ByteArray.mk #[102,97,117,108,116,32]++znl f.code)++ByteArray.mk #[32])++znl f.at_)++ByteArray.mk #[10]
def zBx (k:Int):ByteArray:=(ByteArray.mk #[119,114,111,110,103,32]++znl k)++ByteArray.mk #[10]
noncomputable def zkw (s:ByteArray):ByteArray:=match zg6 s with | .error f=>zBw f | .ok p=>if zcT p=0 then zew (zc1 p) else zBx (zcT p)
def zt4 {p:DProg} (h:zg6 s=.ok p):ShP p:=by
 unfold zg6 at h;split at h
 . cases hp:zij (zdk s).1 s.size with
   | error f=>rw [hp] at h;cases h
   | ok x=>
     obtain ⟨_,_⟩:=x;rw [hp] at h;cases h;exact zy5 (zrC s).1 hp
 cases h
def zrc (p:DProg):I64 (zcT p):=by
 unfold zcT I64;repeat' split
 all_goals omega
def zm4 {p:DProg} (h:Is W v p) (e:Ext W w) (hp:ShP p) (hf:zcT p≠0) :
   CALL tp 23 [v] w λr w'=>Ext w w'/\∃ a,r=.tuple #[a,.bool false]/\OwnI w.heap.size w'.heap.size w' a (RepZ.zv:DCode):=by
 refine co (g:=⟨extL,[],[(5,35184363700288,[23])],[],[(3,1046544,10)],[],[]⟩) Tryz.func23 ?_;refine zbk h e λw1 g2 hA=>?_;have hs1:=g2.size;refine zck (α:=DCode) zAT λ_ g0 g3=>?_;have hs2:=g0.size;refine zab zfs hA g0 λ_ h7=>?_;refine (zeM h7 g0 hp).mono ?_;rintro _ _ ⟨g1,rfl⟩;have hs3:=g1.size;refine zaJ<|br (λ_=>?_) (λhc=>absurd hf hc);refine zas (cells:=#[.slice none 0 0,.slice none 0 0,.slice none 0 0,.slice none 0 0,.slice none 0 0]) kK ?_;have hb2:=g3.lt
 have hg1:w.heap.size<w1.heap.size:=by
   obtain ⟨_,_,hr,g5⟩:=hA;have:=zea g5 (by rw [Rep.len hr];exact Rep.pos);exact this
 refine zb0 zbO (g3.ext g1) (zpY (lo:=w.heap.size) (hi:=w.heap.size)) (.inr oo) λ_ g4 g9=>?_;have hs4:=g4.size;refine zhA zbO g9 (xrf _) λu ou=>⟨((g2.t g0).trans g1).chgI g4 oo,u,rfl,ou.mono (lr _) oo⟩
def zn1 (f:DFault) (h:I64 f.code/\I64 f.at_):(znl f.code).size<=21/\(znl f.at_).size<=21:=⟨zer _ h.1,zer _ h.2⟩
theorem zrd {p:DProg} {f:DFault} (hR:zfj s p f) (hn:f.code≠0):zkw s=zBw f:=by
 unfold zfj at hR;unfold zkw;cases hr:zg6 s with
 | error f'=>rw [hr] at hR;rw [hR.1]
 | ok p'=>rw [hr] at hR;rw [hR.1] at hn;exact absurd rfl hn
theorem zre {p:DProg} {f:DFault} (hR:zfj s p f) (h0:f.code=0):zg6 s=.ok p:=by
 unfold zfj at hR;cases hr:zg6 s with
 | error f'=>rw [hr] at hR;exact absurd h0 hR.2
 | ok p'=>rw [hr] at hR;rw [hR.2]
def zmO {p:DProg} (h:zg6 s=.ok p) (hf:¬zcT p=0):zkw s=zBx (zcT p):=by unfold zkw;rw [h];exact qad hf
def zn2 {p:DProg} (h:zg6 s=.ok p) (hf:zcT p=0):zkw s=zew (zc1 p):=by unfold zkw;rw [h];exact qah hf
def zQ0:(ByteArray.mk #[102,97,117,108,116,32]).size=6:=rfl
def zQ1:(ByteArray.mk #[32]).size=1:=rfl
def zQ2:(ByteArray.mk #[10]).size=1:=rfl
def zQ3:(ByteArray.mk #[119,114,111,110,103,32]).size=6:=rfl
def zrf (hT:PowT W0) (e0:Ext W0 w) (hs:s.size<=maxLen) :
   CALL tp 6 [.string s] w λr w'=>Ext w w'/\r=.string (zkw s):=by
 refine co (g:=kf [] [] [(3,[0,1,5,6,2,3,4,7,8,9,10],132)]) Tryz.func6 ?_;refine (zlZ (hT:=hT) (e0:=e0) hs).mono ?_;rintro _ _ ⟨gi,p,f,a,rfl,oa,hI,hR⟩;have:=gi.size;have:=zn1 f hI;refine zal (v:=a) rfl<|zal (v:=.agg #[.int .i64 f.code,.int .i64 f.at_]) rfl<|zck (α:=DProg) zAS λw2 g4 gj=>?_;have:=g4.size;have:=gj.lt;refine za1 zA9 λ_ g0 g5=>?_;have:=g0.size;have:=g5.lt;refine zb0 zfs (gj.ext g0) ((oa.ext g4).ext g0) (.inr oo) λ_ g9 gs=>?_;have:=g9.size;have gt:=g5.keep (g9.block _ g5.lt (.inr oo));refine za3 (α:=DFault) (lo:=0) (hi:=0) zmR rfl gt rfl (zh6 hI.1 hI.2) λw5 gb g1=>?_;have:=gb.size;have g1:Blk w2.heap.size 49 w5 [.int .i64 f.code,.int .i64 f.at_]:=g1;have gl:=gs.chg gb (.inl oo) (.inl oo);have D:Ext w w5:=(((gi.t g4).trans g0).chgI g9 oo).chgI gb oo;refine zaa ze9<|zaj ty3 g1 rfl<|zaJ<|br (λhn=>?_) (λh0=>?_)
 . rw [zrd hR hn];have O:=zai w5;have gn:=g1.ext O;have U:=D.t O;generalize World.drew1 w5=w6 at *;refine zaa ze9<|zaj ty3 gn rfl<|zaa zsL<|zaj ty3 gn rfl ?_;refine (zc6 hT (e0.t U) hI.1).mono ?_;rintro _ w7 ⟨M,rfl⟩;refine ⟨M,?_⟩;refine zbt (by have:=zQ0;omega)<|zbt (by simp only [qar];have:=zQ0;have:=zQ1;omega) ?_;refine (zc6 hT ((e0.t U).trans M) hI.2).mono ?_;rintro _ w8 ⟨gp,rfl⟩;refine ⟨gp,?_⟩;refine zbt (by simp only [qar];have:=zQ0;have:=zQ1;omega)<|zbt (by simp only [qar];have:=zQ0;have:=zQ1;have:=zQ2;omega)<|⟨(U.t M).trans gp,rfl⟩
 have h0:=qaf.1 h0;have gc:=zre hR h0;have gd:=zt4 gc;refine zdG zfs gl (xrf _) λ_ o6=>?_;by_cases hf:zcT p=0
 rotate_left
 . rw [zmO gc hf];refine (zm4 o6.is (xrf _) gd hf).mono ?_;rintro _ w6 ⟨O,a6,rfl,gf⟩;have gx:=O.size;refine zal (v:=a6) rfl<|zal (v:=.bool false) rfl<|zck (α:=DCode) zAT λw7 M gg=>?_;have gy:=M.size;refine zb0 zbO gg (gf.ext M) (.inr oo) λw8 g2 gq=>?_;have C:Ext w5 w8:=(O.t M).chgI g2 oo;have:=g2.size;refine zau<|zaN (λ_=>?_) (λhh=>by cases hh);refine zdG zfs (gl.ext C) (xrf _) λu9 o9=>?_;refine (zeM o9.is (xrf _) gd).mono ?_;rintro _ w9 ⟨g3,rfl⟩;have gr:=zrc p;refine (zc6 hT (((e0.t D).trans C).trans g3) gr).mono ?_;rintro _ _ ⟨gh,rfl⟩;have:=zer _ gr;refine zbt (by have:=zQ3;omega)<|zbt (by simp only [qar];have:=zQ3;have:=zQ2;omega)<|⟨((D.t C).trans g3).trans gh,rfl⟩
 have gz:=zwE gd hf;rw [zn2 gc hf];refine (zo9 o6.is (xrf _) gz).mono ?_;rintro _ w6 ⟨O,a6,rfl,gf⟩;have gx:=O.size;refine zal (v:=a6) rfl<|zal (v:=.bool true) rfl<|zck (α:=DCode) zAT λw7 M gg=>?_;have gy:=M.size;refine zb0 zbO gg (gf.ext M) (.inr oo) λw8 g2 gq=>?_;have C:Ext w5 w8:=(O.t M).chgI g2 oo;refine zau<|zaN (λhh=>by cases hh) (λ_=>?_);refine zdG zbO gq (xrf _) λu9 o9=>?_;refine (zmL o9.is (xrf _) (hT.ext ((e0.t D).trans C))).mono ?_;rintro _ w9 ⟨g3,rfl⟩;exact ⟨(D.t C).trans g3,rfl⟩
def zrg (hs:s.size<=maxLen) :
   CALL tp 5 [.string s] w λr w'=>Ext w w'/\r=.string (zkw s):=by
 refine co (g:=kf [] [] [(3,[0,1,5,6,2,3,4,7,8,9,10],132)]) Tryz.func5 ?_;refine (zlW hs).mono ?_;rintro _ _ ⟨gf,p,f,a,rfl,oa,hI,hR⟩;have:=gf.size;have:=zn1 f hI;refine zal (v:=a) rfl<|zal (v:=.agg #[.int .i64 f.code,.int .i64 f.at_]) rfl<|zck (α:=DProg) zAS λw2 g2 gg=>?_;have:=g2.size;have:=gg.lt;refine za1 zA9 λ_ g0 g3=>?_;have:=g0.size;have:=g3.lt;refine zb0 zfs (gg.ext g0) ((oa.ext g2).ext g0) (.inr oo) λ_ g4 gn=>?_;have:=g4.size;have gp:=g3.keep (g4.block _ g3.lt (.inr oo));refine za3 (α:=DFault) (lo:=0) (hi:=0) zmR rfl gp rfl (zh6 hI.1 hI.2) λw5 g5 g1=>?_;have:=g5.size;have g1:Blk w2.heap.size 49 w5 [.int .i64 f.code,.int .i64 f.at_]:=g1;have gh:=gn.chg g5 (.inl oo) (.inl oo);have C:Ext w w5:=(((gf.t g2).trans g0).chgI g4 oo).chgI g5 oo;refine zaa ze9<|zaj ty3 g1 rfl<|zaJ<|br (λhn=>?_) (λh0=>?_)
 . rw [zrd hR hn];have M:=zai w5;have gi:=g1.ext M;have g9:=C.t M;generalize World.drew1 w5=w6 at *;refine zaa ze9<|zaj ty3 gi rfl<|zaa zsL<|zaj ty3 gi rfl ?_;refine (zc7 hI.1).mono ?_;rintro _ w7 ⟨U,rfl⟩;refine ⟨U,?_⟩;refine zbt (by have:=zQ0;omega)<|zbt (by simp only [qar];have:=zQ0;have:=zQ1;omega) ?_;refine (zc7 hI.2).mono ?_;rintro _ w8 ⟨O,rfl⟩;refine ⟨O,?_⟩;refine zbt (by simp only [qar];have:=zQ0;have:=zQ1;omega)<|zbt (by simp only [qar];have:=zQ0;have:=zQ1;have:=zQ2;omega)<|⟨(g9.t U).trans O,rfl⟩
 have h0:=qaf.1 h0;have gb:=zre hR h0;have gc:=zt4 gb;refine zdG zfs gh (xrf _) λ_ o6=>?_;refine (zhl o6.is (xrf _) gc).mono ?_;rintro _ w6 ⟨M,rfl⟩;have gj:=gh.ext M;refine zaJ<|br (λhf=>?_) (λhf=>?_)
 . have hf:¬zcT p=0:=hf;rw [zmO gb hf];refine zdG zfs gj (xrf _) λu9 o9=>?_;refine (zhl o9.is (xrf _) gc).mono ?_;rintro _ w9 ⟨gq,rfl⟩;have gl:=zrc p;refine (zc7 gl).mono ?_;rintro _ gr ⟨D,rfl⟩;have:=zer _ gl;refine zbt (by have:=zQ3;omega)<|zbt (by simp only [qar];have:=zQ3;have:=zQ2;omega)<|⟨((C.t M).trans gq).trans D,rfl⟩
 have hf:=qaf.1 hf;have gs:=zwE gc hf;rw [zn2 gb hf];refine zdG zfs gj (xrf _) λ_ o7=>?_;refine (zpa o7.is (xrf _) gs).mono ?_;rintro _ w7 ⟨U,a7,rfl,gt⟩;have:=U.size;refine zal (v:=a7) rfl<|zal (v:=.bool true) rfl<|zck (α:=DCode) zAT λw8 O gx=>?_;have:=O.size;refine zb0 zbO gx (gt.ext O) (.inr oo) λw9 gy gz=>?_;have gd:Ext w6 w9:=(U.t O).chgI gy oo;refine zdG zbO gz (xrf _) λu9 o9=>?_;refine (zmN o9.is (xrf _)).mono ?_;rintro _ gr ⟨D,rfl⟩;exact ⟨((C.t M).trans gd).trans D,rfl⟩
def zz3 (hT:PowT w) :
   CALL tp 3 [.string s] w λr w'=>Ext w w'/\r=.bool true:=by
 refine co (g:=kf [] [] []) Tryz.func3 ?_;refine zb8 u9<|zbZ<|br (λ_=>⟨xrf _,rfl⟩) (λ_=>?_);have hs:s.size<=maxLen:=by rw [zak];omega
 refine (zrg hs).mono ?_;rintro _ _ ⟨g0,rfl⟩;refine (zrf (hT:=hT) (e0:=g0) hs).mono ?_;rintro _ _ ⟨g1,rfl⟩;refine ze7<|br (λg2=>absurd rfl g2) (λ_=>?_);exact ⟨g0.t g1,rfl⟩
def zcj {a b:Bool} (h:a=true) (k:b=true):(a&&b)=true:=by rw [h,k];rfl
def zCQ:laidOutB tp=true:=by kernel_rfl
def zCR:mapsRowed tp=true:=by kernel_rfl
def zz4:(Rows.fnExactWatchRow.plainKeys == tp.plainKeys)=true:=by kernel_rfl
def zz5:tp.stopsHeard=true:=by kernel_rfl
def zEm:tp.mayEnter=true:=by kernel_rfl
def zCS:(Rows.fnExactWatchRow.lifted == tp.liftsFinal)=true:=by kernel_rfl
def zCT:(tp.make == some Rows.fnExactWatchRow.make)=true:=by kernel_rfl
end Go.Proofs.YtkgiigmcbgifdaaGreatDoor
