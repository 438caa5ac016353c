/-
  Parts of the proof, put together by program.
-/
import Derived.Test.YtcnglfeoglgebaaGreatPFnTop3
set_option maxRecDepth 20000
set_option linter.defProp false
set_option linter.unusedVariables false
set_option linter.unusedSimpArgs false
set_option linter.unusedSectionVars false
namespace Go.Sh
open Rep (rep)
variable {F:List Nat} {W w w':World} {g:Nat}
def ChgI.toC (h:ChgI g (g+1) w w'):Chg [g] w w':=⟨h.os,h.tape,h.output,h.size,λi hi hn=>h.block i hi (by simp only [qax] at hn;omega)⟩
def Ext.chgL (h:Ext W w) (k:Chg F w w') (hl:∀ c∈F,W.heap.size<=c):Ext W w':=
 ⟨k.os.trans h.os,k.tape.trans h.tape,k.output.trans h.output,qan h.size k.size,λi hi=>(k.block i (qal hi h.size) λe=>by have:=hl i e;omega).trans (h.block i hi)⟩
def Mine.chgF {α:Type} [Rep α] {F G:List Nat} {w w':World} {v:Value} {x:α} (h:Mine F w v x) (hc:Chg G w w') (hd:∀ c∈F,c∉G):Mine F w' v x:=h.keep λc hcm=>hc.block c (h.lt c hcm) (hd c hcm)
def IsK {α:Type} [Rep α] (lo hi:Nat) (w:World) (v:Value) (x:α):Prop:=hi<=w.heap.size/\∀ w':World,(∀ b,lo<=b->b<hi->w'.heap[b]?=w.heap[b]?)->Is w' v x
section
variable {α:Type} [Rep α] {lo hi:Nat} {w w':World} {v:Value} {x:α}
def IsK.is (h:IsK lo hi w v x):Is w v x:=h.2 w λ_ _ _=>rfl
def IsK.chgF {G:List Nat} (h:IsK lo hi w v x) (hc:Chg G w w') (hd:∀ c∈G,c<lo\/hi<=c):IsK lo hi w' v x:=
 ⟨qan h.1 hc.size,λw2 h2=>h.2 w2 λb h3 h4=>(h2 b h3 h4).trans (hc.block b (qal h4 h.1) λhm=>by have:=hd b hm;omega)⟩
def IsK.ext (h:IsK lo hi w v x) (hx:Ext w w'):IsK lo hi w' v x:=h.chgF (hx.chg []) sS
def OwnI.isK (h:OwnI lo hi w v x) (hh:hi<=w.heap.size):IsK lo hi w v x:=by
 obtain ⟨F,hm,hF⟩:=h
 exact ⟨hh,λw' hw=>⟨F,by
   obtain ⟨cs,hr,hv⟩:=hm.own;exact ⟨cs,Rep.keep hr λb hb=>hw b (hF b hb).1 (hF b hb).2,hv⟩⟩⟩
def IsK.take {l:List α} {a:Option Addr} {cap k:Nat} (h:IsK lo hi w (.slice a l.length cap) l) (hk:k<=l.length):IsK lo hi w (.slice a k cap) (l.take k):=⟨h.1,λw' hw=>zoK (h.2 w' hw) k hk⟩
def IsK.drop {l:List α} {a:Option Addr} {cap k:Nat} (h:IsK lo hi w (.slice a l.length cap) l) (hk:k<=l.length):IsK lo hi w (.slice (if cap=k then a else a.map (·.add (k*Rep.size α))) (l.length-k) (cap-k)) (l.drop k):=⟨h.1,λw' hw=>zrU (h.2 w' hw) k hk _ rfl⟩
end
end Go.Sh
namespace Go.Proofs.YtcnglfeoglgebaaGreat
open Go Go.Sh Go.Proofs
open Rep (rep)
variable {F:List Nat} {P:Program} {W w w':World} {fld g gs i k:Nat}
def CurAt.chgF {bs:List UInt8} {s:Cur} (h:CurAt W g bs s w) (hc:Chg F w w') (hg:g∉F) (hl:∀ c∈F,W.heap.size<=c):CurAt W g bs s w':=by
 obtain ⟨v,h0,hx,h2,h3,h4⟩:=h;exact ⟨v,h0,hx.chgL hc hl,h2,h3.chg hc hg,h4⟩
def ztM {a:Prop} [Decidable a] {Q kt kf:Prop} (hq:a->Q) (key:Q->kt) (rest:(Q->kt)->¬a->kf):BR (.bool (decide a)) kt kf:=br (λh=>key (hq h)) λh=>rest key h
def zCQ {γ β:Type} [Rep γ] [Rep β] {w w2:World} {v u:Value} {F G G2:List Nat} {g:Nat} {m2:List β} {upd:List β->γ}
   (hb:∀ w' G' l',Chg G w w'->Mine G' w' u l'->(∀ c∈G',c∈G\/c∉F)->∃ F',MH v F' w' (upd l')/\∀ c∈F',c∈F\/c∈G') (g4:∀ c∈G,c∈F) (hc:Chg (g :: G) w w2) (hg:g∉F) (g3:g<w.heap.size)
   (gh:Mine G2 w2 u m2) (hs:∀ c∈G2,c∈G):∃ F',Mine F' w2 v (upd m2)/\∀ c∈F',c∈F:=by
 obtain ⟨w3,h3⟩:∃ w3:World,w3={ w2 with heap:=w2.heap.setIfInBounds g w.heap[g] }:=⟨_,rfl⟩;have g0:g<w2.heap.size:=qal g3 hc.size
 have g1:∀ c,c≠g->w3.heap[c]?=w2.heap[c]?:=λc g9=>by
   rw [h3];exact Array.getElem?_setIfInBounds_ne (λe=>g9 e.symm)
 have gb:w3.heap[g]?=w.heap[g]?:=by
   rw [h3];show (w2.heap.setIfInBounds g w.heap[g])[g]?=_;rw [Array.getElem?_setIfInBounds_self_of_lt g0,Array.getElem?_eq_getElem g3]
 have gc:w3.heap.size=w2.heap.size:=by rw [h3];simp
 have gd:Chg G w w3:=⟨by rw [h3];exact hc.os,by rw [h3];exact hc.tape,by rw [h3];exact hc.output,by rw [gc];exact hc.size,λc gf gg=>by
   by_cases e:c=g
   . rw [e];exact gb
   rw [g1 c e];exact hc.block c gf (by simp [e,gg])⟩
 have g2:∀ c∈G2,c≠g:=λc r e=>hg (by rw [<-e];exact g4 c (hs c r));obtain ⟨F',h1,h2⟩:=hb w3 G2 m2 gd (gh.keep λc r=>g1 c (g2 c r)) λc r=>.inl (hs c r);have g5:∀ c∈F',c∈F:=λc r=>(h2 c r).elim id λh=>g4 c (hs c h);refine ⟨F',Mine.keep h1 λc r=>(g1 c λe=>hg (by rw [<-e];exact g5 c r)).symm,g5⟩
def zqu {α:Type} [Rep α] {t e:TypeId} {by_:Nat} {F:List Nat} {v:Value} {l:List α} {k:Nat} {K:Value->Prop} (ht:P.underlying t=some (.slice e)) (he:tyI P e=some (Rep.size α,by_,Rep.agg α)) (hm:Mine F w v l) (hk:k<l.length)
   (kk:∀ b a cap G,v=.slice (some ⟨b,a,none⟩) l.length cap->Lens (MH v) F w b (a+k*Rep.size α) G l[k] (λy=>l.set k y)->K (.pointer (some ⟨b,a+k*Rep.size α,none⟩))):RD P (Instr.indexAt t v (.int .i64 (k:Int))) w K:=by
 obtain ⟨b,a,cap,G,hv,hL⟩:=zwu hm hk;refine zbb (v:=.pointer (some ⟨b,a+k*Rep.size α,none⟩)) (λw' _=>?_) (kk _ _ _ _ hv hL);rw [hv,zch ht he oo oo];simp
def zo1 {α:Type} {D r:List α} {x y:α} (h:D.length=k):(D++x :: r).set k y=D++y :: r:=by
 subst h;rw [qba _ _ (lr _)];simp
def zjZ {α:Type} {D r:List α} {x:α} (h:D.length=k) (hk:k<(D++x :: r).length):(D++x :: r)[k]=x:=by
 subst h;simp
def zsh (l:List DStmt):Prop:=∀ {W w:World} {g:Nat} {bs:List UInt8} {s:Cur} {v vp:Value} {F:List Nat} {lp hp:Nat} {pr:List ByteArray},CurAt W g bs s w->Mine F w v l->g∉F->(∀ c∈F,W.heap.size<=c)->IsK lp hp w vp pr->(g<lp\/hp<=g)->(∀ c∈F,c<lp\/hp<=c)->0<pr.length->pr.length<=1000 ->
 CALL tp 95 [.pointer (some ⟨g,0,none⟩),v,vp] w λr w'=>r=v/\Chg (g :: F) w w'/\CurAt W g bs (zeX bs pr l s).2 w'/\∃ F',Mine F' w' v (zeX bs pr l s).1/\∀ c∈F',c∈F
def zxy {sel:DStmt->List DStmt} {put:DStmt->List DStmt->DStmt} (gi:zdP tp 56 fld=some gs) (gQ:∀ x m m',put (put x m) m'=put x m') (gR:∀ x m,sel (put x m)=m)
   (hl:∀ {H:List Nat->World->List DStmt->Prop} {F:List Nat} {w:World} {b o:Nat} {G:List Nat} {x:DStmt} {upd:DStmt->List DStmt},Lens H F w b o G x upd->∃ G1,Lens H F w b (o+gs) G1 (sel x) (λy=>upd (put x y)))
   {W w:World} {g k:Nat} {bs:List UInt8} {s:Cur} {v vp:Value} {F:List Nat} {lp hp:Nat} {pr:List ByteArray} {D r:List DStmt} {y:DStmt} {K:World->Prop} (hC:CurAt W g bs s w) (hM:Mine F w v (D++y :: r)) (hD:D.length=k) (g1:g∉F) (gj:∀ c∈F,W.heap.size<=c)
   (hP:IsK lp hp w vp pr) (gl:g<lp\/hp<=g) (g9:∀ c∈F,c<lp\/hp<=c) (gC:0<pr.length) (gD:pr.length<=1000) (ih:zsh (sel y))
   (kk:∀ w' F',Chg (g :: F) w w'->CurAt W g bs (zeX bs pr (sel y) s).2 w'->Mine F' w' v (D++put y (zeX bs pr (sel y) s).1 :: r)->(∀ c∈F',c∈F)->IsK lp hp w' vp pr->K w') :
   RD tp (Instr.indexAt 29 v (.int .i64 (k:Int))) w λx44=>RD tp (Instr.fieldAt 56 x44 fld) w λx45=>RD tp (Instr.loadAt 29 x45) w λx46=>
     CALL tp 95 [.pointer (some ⟨g,0,none⟩),x46,vp] w λx48 w=>RD tp (Instr.indexAt 29 v (.int .i64 (k:Int))) w λx49=>RD tp (Instr.fieldAt 56 x49 fld) w λx50=>
     OPU tp (Instr.storeAt 29 x50 x48) w λw=>K w:=by
 have gf:k<(D++y :: r).length:=by simp;omega
 refine zqu u29 ze6 hM gf λb a cap G hv hL=>?_;rw [zjZ hD gf] at hL;obtain ⟨G3,g5⟩:=hl hL;obtain ⟨cs3,_,_,_,_,gt,_⟩:=g5.here;have gg:b∈F:=g5.sub b sS;obtain ⟨ub,gx,gh,C,gy⟩:=g5.row;have gz:=hC.lt.2;refine zab gi<|zcD ziT gh ?_;refine (ih hC gx (λh=>g1 (C _ h)) (λc hc=>gj c (C c hc)) hP gl (λc hc=>g9 c (C c hc)) gC gD).mono ?_;rintro r48 w3 ⟨gE,g2,gF,Gb',gb,gc⟩;rw [gE];obtain ⟨F3,gp,I⟩:=zCQ gy C g2 g1 gz gb gc;rw [zo1 hD] at gp
 have gG:=hP.chgF g2 λc hc=>by
   rcases qaa.1 hc with rfl | h
   . exact gl
   exact g9 c (C c h)
 have g0:k<(D++put y (zeX bs pr (sel y) s).1 :: r).length:=by simp;omega
 refine zqu u29 ze6 gp g0 λb5 a5 gH G5 g3 gq=>?_;rw [zjZ hD g0] at gq
 have gI:b5=b/\a5=a:=by
   rw [hv] at g3;simp only [Value.slice.injEq,qak,Addr.mk.injEq,and_true] at g3;exact ⟨g3.1.1.symm,g3.1.2.symm⟩
 obtain ⟨rfl,rfl⟩:=gI;obtain ⟨G6,gr⟩:=hl gq;obtain ⟨u6,gJ,gK,gM,_⟩:=gr.row
 have gN:w3.heap[b5]?=w.heap[b5]?:=g2.block b5 (hM.lt b5 gg) (by
   simp only [qaa,not_or];exact ⟨λe=>g1 (by rw [<-e];exact gg),gt⟩)
 have gO:u6=ub:=by
   have h1:=gK 0 u6 rfl;have h2:=(zbo gh gN) 0 ub rfl;rw [h1] at h2;exact qaW h2
 subst gO;refine zab gi<|zk2 ziT gr gJ (λc hc=>.inl hc) λw4 gd ⟨F4,g4,gP⟩=>?_;have g4:Mine F4 w4 v ((D++put y (zeX bs pr (sel y) s).1 :: r).set k (put (put y (zeX bs pr (sel y) s).1) (sel (put y (zeX bs pr (sel y) s).1)))):=g4;rw [zo1 hD,gQ,gR] at g4;refine kk w4 F4 ((g2.mono λc hc=>?_).trans (gd.mono λc hc=>by simp [I c hc])) (gF.chgF gd (λh=>g1 (I _ h)) λc hc=>gj c (I c hc)) g4 (λc hc=>?_) (gG.chgF gd λc hc=>g9 c (I c hc))
 . rcases qaa.1 hc with rfl | hc
   . simp
   simp [C c hc]
 rcases gP c hc with h | h
 . exact I c h
 exact I c (gM c h)
def zCR {bs:List UInt8} {pr:List ByteArray} (x:DStmt) (s:Cur) {n:ByteArray} {s2:Cur} (h:(if x.kind=4\/x.kind=5 then (zdl bs pr s,zap bs (pr.length:Int) s) else (x.name,s))=(n,s2)) :
   zsc bs pr x s=(.mk x.kind n x.term (zeX bs pr x.body s2).1 (zeX bs pr x.els (zeX bs pr x.body s2).2).1,(zeX bs pr x.els (zeX bs pr x.body s2).2).2):=by
 obtain ⟨k,nm,t,b,e⟩:=x;have h:(if k=4\/k=5 then (zdl bs pr s,zap bs (pr.length:Int) s) else (nm,s))=(n,s2):=h;show _=(DStmt.mk k n t (zeX bs pr b s2).1 (zeX bs pr e (zeX bs pr b s2).2).1,(zeX bs pr e (zeX bs pr b s2).2).2);by_cases hk:k=4\/k=5
 . rw [if_pos hk] at h
   simp only [qb6] at h;obtain ⟨rfl,rfl⟩:=h;rw [zsc,if_pos hk]
 rw [if_neg hk] at h;simp only [qb6] at h;obtain ⟨rfl,rfl⟩:=h;rw [zsc,if_neg hk]
def zE5 (x:DStmt) (m:List DStmt):DStmt:=.mk x.kind x.name x.term m x.els
def zFk (x:DStmt) (m:List DStmt):DStmt:=.mk x.kind x.name x.term x.body m
def zir {l:List DStmt} (ih:∀ x∈l,zsh x.body/\zsh x.els):zsh l:=by
 intro W w g bs s v vp F lp hp pr hC hM g3 g5 hP g9 gb gs gt;have hln:=zaj hM.is;refine co (g:=kf [(6,549755797504,[])] [(2,9223372036854775680,[7])] []) Tryz.func95 ?_
 refine zao l.length (λk us w'=>us=[.int .i64 (k:Int)]/\∃ (D:List DStmt) (s1:Cur) (F1:List Nat),D.length=k/\k<=l.length/\zeX bs pr l s=(D++(zeX bs pr (l.drop k) s1).1,(zeX bs pr (l.drop k) s1).2)/\Chg (g :: F) w w'/\CurAt W g bs s1 w' /\
     Mine F1 w' v (D++l.drop k)/\(∀ c∈F1,c∈F)/\IsK lp hp w' vp pr) 0 (z0 _) ⟨rfl,[],s,F,rfl,z0 _,sS,Chg.refl _ _,hC,by simpa using hM,λ_ h=>h,hP⟩ ?_
 rintro k m u w1 hkm ⟨hu,D,s1,F1,hD,hkl,U,gc,gd,I,M,gf⟩;try replace hu:=zbt hu
 rw [hu];refine zae u29 I.is ?_;have gg:(D++l.drop k).length=l.length:=by simp;omega
 rw [gg];refine zag<|br (λhlt=>?_) (λhge=>?_)
 . have hk:k<l.length:=oo
   obtain ⟨x,hx⟩:∃ x,x=l[k]:=⟨_,rfl⟩;have gx:x∈l:=by rw [hx];exact qab hk
   have gy:l.drop k=x :: l.drop (k+1):=by rw [hx];exact qau hk
   rw [gy] at I;rw [gy,zeX] at U;have r:k<(D++x :: l.drop (k+1)).length:=by simp;omega
   refine JOIN.mk (λus w'=>∃ F2 n s2,Chg (g :: F) w w'/\CurAt W g bs s2 w'/\Mine F2 w' v (D++DStmt.mk x.kind n x.term x.body x.els :: l.drop (k+1))/\(∀ c∈F2,c∈F)/\IsK lp hp w' vp pr /\
       (if x.kind=4\/x.kind=5 then (zdl bs pr s1,zap bs (pr.length:Int) s1) else (x.name,s1))=(n,s2)) ?_ ?_
   . refine zad u29 ze6 I.is r λb16 o16 g0=>?_
     rw [zjZ hD r] at g0;refine zab zic<|zac ty3 (zc5 g0) (xrf _) λgz=>zai<|ztM (Q:=x.kind=4\/x.kind=5) .inl (λhQ=>?_) (λgC h4=>?_)
     . refine zae u24 gf.is ?_
       refine (zcW gd oo).mono ?_;rintro _ w2 ⟨gh,gi,rfl⟩;have V:=gh.toC
       have gj:=I.chgF V λc hc h=>by
         simp only [qax] at h;exact g3 (h▸M c hc)
       have g4:=gf.chgF V λc hc=>by
         simp only [qax] at hc;exact hc▸g9
       have gD:=zcM bs (n:=(pr.length:Int)) oo s1;refine zaL u24 ty9 g4.is gD.1 oo λb35 o35 gl=>zaB ty9 gl (xrf _) λgp=>zeZ u29 ze6 gj r λb37 o37 G37 g1=>?_;rw [zjZ hD r] at g1;refine zab zey ?_;obtain ⟨G38,gq⟩:=zp5 g1;refine zdX ty9 gq (ztH gp) λw3 F3 X O gr=>?_;have O:Mine F3 w3 v ((D++x :: l.drop (k+1)).set k (.mk x.kind (pr[(zbN bs (pr.length:Int) s1).toNat]'(by omega)) x.term x.body x.els)):=O;rw [zo1 hD] at O;refine ⟨F3,_,_,((gc.trans (V.mono sS)).trans (X.mono λc hc=>by simp [M c hc])),gi.chgF X (λh=>g3 (M _ h)) (λc hc=>g5 c (M c hc)),O,λc hc=>M c (gr c hc),g4.chgF X (λc hc=>gb c (M c hc)),?_⟩;rw [if_pos hQ];unfold zdl;rw [<-zfo oo]
     refine zad u29 ze6 I.is r λb23 o23 g2=>?_;rw [zjZ hD r] at g2;refine zab zic<|zac ty3 (zc5 g2) (xrf _) λgE=>zai<|br (λh5=>gC (.inr h5)) λh5=>⟨F1,x.name,s1,gc,gd,by rw [DStmt.eta];exact I,M,gf,by rw [if_neg oo]⟩
   rintro u6 w2 ⟨F2,n,s2,V,gi,gj,Y,g4,hn⟩;have gF:=zCR x s1 hn;rw [gF] at U;refine zxy (fld:=3) (sel:=DStmt.body) (put:=zE5) zg4 (λ_ _ _=>rfl) (λ_ _=>rfl) zp6 gi gj hD (λh=>g3 (Y _ h)) (λc hc=>g5 c (Y c hc)) g4 g9 (λc hc=>gb c (Y c hc)) gs gt (ih x gx).1 λw3 F3 X gG O gr gH=>?_;have C:∀ c∈F3,c∈F:=λc hc=>Y c (gr c hc);refine zxy (fld:=4) (sel:=DStmt.els) (put:=zFk) zfA (λ_ _ _=>rfl) (λ_ _=>rfl) zky gG O hD (λh=>g3 (C _ h)) (λc hc=>g5 c (C c hc)) gH g9 (λc hc=>gb c (C c hc)) gs gt (ih x gx).2 λw4 F4 gI gJ gK gM gN=>zau<|⟨m-1,oo,k+1,oo,rfl,D++[DStmt.mk x.kind n x.term (zeX bs pr x.body s2).1 (zeX bs pr x.els (zeX bs pr x.body s2).2).1],_,F4,by simp [hD],oo,?_,(V.trans (X.mono λc hc=>?_)).trans (gI.mono λc hc=>?_),gJ,?_,λc hc=>C c (gM c hc),gN⟩
   . rw [U];simp [DStmt.body,DStmt.els,zE5]
   . rcases qaa.1 hc with rfl | hc
     . simp
     simp [Y c hc]
   . rcases qaa.1 hc with rfl | hc
     . simp
     simp [C c hc]
   simpa [zFk,zE5,DStmt.body,DStmt.els,DStmt.kind,DStmt.name,DStmt.term] using gK
 have hk:k=l.length:=oo
 subst hk;rw [qbo,ztF] at U;rw [qbo] at I;rw [U];exact ⟨rfl,gc,gd,F1,I,M⟩
def zxz (l:List DStmt):zsh l:=by
 refine zir λx _=>DStmt.ind (p:=λx=>zsh x.body/\zsh x.els) (λt hb he=>⟨?_,?_⟩) x
 . intro W w g bs s v vp F lp hp pr;exact zir hb
 intro W w g bs s v vp F lp hp pr;exact zir he
def zxA (t:DTerm):Prop:=∀ {w W:World} {v:Value},Is W v t->Ext W w->wT t<=1048576 ->
 CALL tp 254 [v] w λr w'=>Ext w w'/\Own w.heap.size w' r t
def zqv {t:DTerm} (ih:∀ x∈t.kids,zxA x):zxA t:=by
 intro w W v h e hw;have hkl:t.kids.length<=1048576:=by have:=zCI t;have:=zxl t.kids;omega
 have gs:∀ x∈t.kids,wT x<=1048576:=λx hx=>by have:=zCI t;have:=zxl t.kids;have:=zEg wT hx;omega
 refine co (g:=kf [] [(3,1073737744,[4])] [(5,[0,1,2,3,4,5,6,7,8,9,10,11],384)]) Tryz.func254 ?_;refine za9 h e λw1 gi hA=>?_;have hs1:=gi.size;refine zb5 zDA λw2 D gj=>?_;have hg2:=gj.lt;have hs2:=D.size;refine zab zeO<|zac ty3 (zbK hA) D λg5=>zab zf7<|zac ty3 (zci hA) D λgl=>zab zfi<|zaB ty9 (zbS hA) D λg0=>zaX (cells:=#[.int .i64 t.kind,.int .i64 t.num,.string t.name,.slice none 0 0]) kK<|zb5 zDA λw3 g9 gp=>?_;have hg3:=gp.lt;have hs3:=g9.size;refine zcg (x:=DTerm.mk t.kind t.num t.name []) (lo:=w3.heap.size) (hi:=w3.heap.size) zdj rfl gp rfl (zf6 g5 gl g0 zcN) λw4 gb gt=>?_;have hs4:=gb.size;have gc:Ext w1 w4:=Ext.chgI (D.t g9) gb oo
 refine zao t.kids.length (λk us w'=>us=[.int .i64 (k:Int)]/\∃ v1 hi,hi<=w'.heap.size/\w4.heap.size<=hi/\Ext w1 w'/\Blk w2.heap.size 53 w' [.int .i64 t.kind,.int .i64 t.num,.string t.name,v1] /\
     RowI w4.heap.size hi 53 w' v1 (t.kids.take k)/\Blk w1.heap.size 53 w' [.int .i64 0,.int .i64 0,.string ByteArray.empty,.slice none 0 0]/\k<=t.kids.length) 0 (z0 _)
     ⟨rfl,.slice none 0 0,w4.heap.size,lr _,qas _,gc,gt,zb6 _ _ _ _,(gj.ext g9).chgI gb oo,qbJ _⟩ ?_
 rintro k m u w5 hkm ⟨hu,v1,hi,hhi,hlo,I,gd,r5,g1,gx⟩;try replace hu:=zbt hu
 rw [hu];have hs5:=I.size;refine zab zcp<|zaa ziH (zaZ hA) I λv14 gy=>zae u51 gy<|zag<|br (λhlt=>?_) (λhge=>?_)
 . have hk:k<t.kids.length:=oo
   have g2:=zah w5;have hs6:=g2.size;have C:=I.t g2;refine zab zcp<|zax ziH (gd.ext g2) rfl<|zab zcp<|zaa ziH (zaZ hA) C λv22 gz=>zad u51 zdj gz hk λb24 o24 gf=>zaa zdj gf C λv25 gC=>?_;refine (ih _ (qab hk) gC C (gs _ (qab hk))).mono ?_;rintro r26 w7 ⟨gg,gh⟩;have gh:=gh.toI;have hs7:=gg.size;refine ⟨gg,?_⟩;have r:=g2.t gg;refine zoJ (α:=DTerm) u51 zdj z53 zFC qd (r5.ext r) oo gh oo oo (by rw [zal,qai];omega) (by rw [qai];omega) λgD w8 g3 r8=>?_;have hs8:=g3.size;refine zab zcp<|zbW (α:=List DTerm) ziH rfl rfl ((gd.ext r).chgI g3 oo) sS r8.own λw9 g4 gE=>?_;have hs9:=g4.size;refine zau<|⟨m-1,oo,k+1,oo,rfl,gD,w8.heap.size,oo,oo,Ext.chgI (Ext.chgI (I.t r) g3 oo) g4 oo,gE,?_,((g1.ext r).chgI g3 oo).chgI g4 oo,oo⟩;have:=r8.chg g4 oo
   rwa [<-tk hk] at this
 have hk:t.kids.length<=k:=oo
 refine ziq gd zdj ?_;have hI:=(show I64 t.kind from g5)
 have gq:OwnI w4.heap.size hi w5 (.agg #[.int .i64 t.kind,.int .i64 t.num,.string t.name,v1]) t:=by
   have:=zf6 g5 gl g0 r5.own
   rwa [qaf hk,DTerm.eta] at this
 refine zcg zdj rfl g1 rfl gq λw6 gr gF=>zeI gF zdj<|⟨Ext.chgI (gi.t I) gr oo,(gq.chg gr oo).own.mono oo⟩
def zj0 (t:DTerm):zxA t:=DTerm.ind (λt ih {_ _ _}=>zqv ih) t
section
variable (G L P:List ByteArray)
mutual
def emS:DStmt->Nat->List DIns
  | .mk k n t b e,at_=>
    if k=1 then [⟨1,plc n G,t,0⟩]
    else if k=4 then [⟨4,plc n P,term0,0⟩]
    else if k=5 then [⟨5,plc n P,term0,0⟩]
    else if k=6 then [⟨6,plc n L,term0,0⟩]
    else if k=7 then [⟨7,plc n L,term0,0⟩]
    else if k=8 then [⟨8,0,term0,0⟩]
    else if k=3 then ⟨2,0,t,((at_+1+(emL b (at_+1)).length+1:Nat):Int)⟩ :: (emL b (at_+1)++[⟨3,0,term0,(at_:Int)⟩])
    else if k=2 then
      (if e.length=0 then ⟨2,0,t,((at_+1+(emL b (at_+1)).length:Nat):Int)⟩ :: emL b (at_+1)
      else ⟨2,0,t,((at_+1+(emL b (at_+1)).length+1:Nat):Int)⟩ :: (emL b (at_+1) ++
        (⟨3,0,term0,((at_+1+(emL b (at_+1)).length+1+(emL e (at_+1+(emL b (at_+1)).length+1)).length:Nat):Int)⟩ :: emL e (at_+1+(emL b (at_+1)).length+1))))
    else []
def emL:List DStmt->Nat->List DIns
  | [],_=>[]
  | x :: l,at_=>emS x at_++emL l (at_+(emS x at_).length)
end
def InsQ (x:DIns) (lo hi:Nat):Prop:=1<=x.op/\x.op<=8 /\
 (0<=x.arg/\x.arg<if x.op=1 then (G.length:Int) else if x.op=4\/x.op=5 then P.length else if x.op=6\/x.op=7 then L.length else 1) /\
 (if x.op=1\/x.op=2 then TmR G x.term else x.term=term0)/\(if x.op=2\/x.op=3 then (lo:Int)<=x.to/\x.to<=hi else x.to=0)
end
section
variable {G L P:List ByteArray}
def InsQ.mono {x:DIns} {lo hi g0 g1:Nat} (h:InsQ G L P x lo hi) (h1:g0<=lo) (h2:hi<=g1):InsQ G L P x g0 g1:=by
 obtain ⟨a,b,c,d,e⟩:=h;refine ⟨a,b,c,d,?_⟩;split at e
 . rename_i hh;rw [if_pos hh];omega
 rename_i hh;rw [if_neg hh];exact e
def zqw {n:ByteArray} {l:List ByteArray} (h:n∈l):0<=plc n l/\plc n l<l.length:=⟨zfR.2 h,zlL.2⟩
def zBO {op arg to:Int} {t:DTerm} {lo hi:Nat} (h1:1<=op) (h1':op<=8) (h2:0<=arg/\arg<if op=1 then (G.length:Int) else if op=4\/op=5 then P.length else if op=6\/op=7 then L.length else 1)
   (h3:if op=1\/op=2 then TmR G t else t=term0) (h4:if op=2\/op=3 then (lo:Int)<=to/\to<=hi else to=0):InsQ G L P ⟨op,arg,t,to⟩ lo hi:=⟨h1,h1',h2,h3,h4⟩
def zxB {t:DTerm} (ht:TmR G t) {to lo hi:Nat} (h1:lo<=to) (h2:to<=hi):InsQ G L P ⟨2,0,t,(to:Int)⟩ lo hi:=
 zBO qd qd (by rw [if_neg qd,if_neg qd,if_neg qd];decide) (by rw [if_pos (.inr rfl)];exact ht) (by rw [if_pos (.inl rfl)];omega)
def zBP {to lo hi:Nat} (h1:lo<=to) (h2:to<=hi):InsQ G L P ⟨3,0,term0,(to:Int)⟩ lo hi:=
 zBO qd qd (by rw [if_neg qd,if_neg qd,if_neg qd];decide) (by rw [if_neg qd]) (by rw [if_pos (.inr rfl)];omega)
theorem zE6 {c:Scp} (hG:G=c.gl) (hL:L=c.lk) (hP:∀ x∈c.pr,x∈P):∀ (n:Nat),
   (∀ (t:DStmt) (a:Nat),StR c n t->(∀ x∈emS G L P t a,InsQ G L P x a (a+(emS G L P t a).length))/\(emS G L P t a).length<=2*szS t) /\
   ∀ (l:List DStmt) (a:Nat),(∀ x∈l,StR c n x)->(∀ x∈emL G L P l a,InsQ G L P x a (a+(emL G L P l a).length))/\(emL G L P l a).length<=2*szL l:=by
 have hl:∀ n,(∀ (t:DStmt) (a:Nat),StR c n t->(∀ x∈emS G L P t a,InsQ G L P x a (a+(emS G L P t a).length))/\(emS G L P t a).length<=2*szS t) ->
     ∀ (l:List DStmt) (a:Nat),(∀ x∈l,StR c n x)->(∀ x∈emL G L P l a,InsQ G L P x a (a+(emL G L P l a).length))/\(emL G L P l a).length<=2*szL l:=by
   intro n hs l
   induction l with
   | nil=>intro a _;rw [emL];exact ⟨(λx hx=>by cases hx),qbJ _⟩
   | cons t l ih=>
     intro a h;have h1:=hs t a (h t sS);have h2:=ih (a+(emS G L P t a).length) λx hx=>h x (by simp [hx]);rw [emL,szL];generalize emS G L P t a=u at *;generalize emL G L P l (a+u.length)=v at *;rw [qag];refine ⟨λx hx=>?_,oo⟩;rcases qae.1 hx with hx | hx
     . exact (h1.1 x hx).mono (lr _) oo
     exact (h2.1 x hx).mono oo oo
 have h0:∀ (t:DStmt) (a:Nat),St0 c t->(∀ x∈emS G L P t a,InsQ G L P x a (a+(emS G L P t a).length))/\(emS G L P t a).length<=2*szS t:=by
   rintro ⟨k,n,t,b,e⟩ a h;rw [emS,szS];rcases h with ⟨hk,hn,ht,_,_⟩ | ⟨hk,hn,_⟩ | ⟨hk,hn,_⟩ | ⟨hk,hn,_⟩
   . have hk:k=1:=hk
     have hn:n∈c.gl:=hn;rw [if_pos hk];refine ⟨λx hx=>?_,by simp;omega⟩;simp only [qaa,qac,or_false] at hx;subst hx;exact zBO qd qd (by rw [if_pos rfl];exact zqw (by rw [hG];exact hn)) (by rw [if_pos (.inl rfl)];exact hG▸ht) (by rw [if_neg qd])
   . have hk:k=4\/k=5:=hk
     have hn:n∈c.pr:=hn;rw [if_neg oo];rcases hk with hk | hk
     . rw [if_pos hk]
       refine ⟨λx hx=>?_,by simp;omega⟩;simp only [qaa,qac,or_false] at hx;subst hx;exact zBO qd qd (by rw [if_neg qd,if_pos (.inl rfl)];exact zqw (hP _ hn)) (by rw [if_neg qd]) (by rw [if_neg qd])
     rw [if_neg oo,if_pos hk];refine ⟨λx hx=>?_,by simp;omega⟩;simp only [qaa,qac,or_false] at hx;subst hx;exact zBO qd qd (by rw [if_neg qd,if_pos (.inr rfl)];exact zqw (hP _ hn)) (by rw [if_neg qd]) (by rw [if_neg qd])
   . have hk:k=6\/k=7:=hk
     have hn:n∈c.lk:=hn;rw [if_neg oo,if_neg oo,if_neg oo];rcases hk with hk | hk
     . rw [if_pos hk]
       refine ⟨λx hx=>?_,by simp;omega⟩;simp only [qaa,qac,or_false] at hx;subst hx;exact zBO qd qd (by rw [if_neg qd,if_neg qd,if_pos (.inl rfl)];exact zqw (by rw [hL];exact hn)) (by rw [if_neg qd]) (by rw [if_neg qd])
     rw [if_neg oo,if_pos hk];refine ⟨λx hx=>?_,by simp;omega⟩;simp only [qaa,qac,or_false] at hx;subst hx;exact zBO qd qd (by rw [if_neg qd,if_neg qd,if_pos (.inr rfl)];exact zqw (by rw [hL];exact hn)) (by rw [if_neg qd]) (by rw [if_neg qd])
   have hk:k=8:=hk;rw [if_neg oo,if_neg oo,if_neg oo,if_neg oo,if_neg oo,if_pos hk];refine ⟨λx hx=>?_,by simp;omega⟩;simp only [qaa,qac,or_false] at hx;subst hx;exact zBO qd qd (by rw [if_neg qd,if_neg qd,if_neg qd];decide) (by rw [if_neg qd]) (by rw [if_neg qd])
 intro n
 induction n with
 | zero=>exact ⟨λt a h=>h0 t a h.zero,hl 0 λt a h=>h0 t a h.zero⟩
 | succ n ih=>
   have hs:∀ (t:DStmt) (a:Nat),StR c (n+1) t->(∀ x∈emS G L P t a,InsQ G L P x a (a+(emS G L P t a).length))/\(emS G L P t a).length<=2*szS t:=by
     intro t a h;rcases h.succ with h | ⟨hk,hn,ht,hb,he⟩
     . exact h0 t a h
     obtain ⟨k,nm,t,b,e⟩:=t;have hq:k=2\/k=3/\e=[]:=hk;clear hk
     replace ht:TmR G t:=hG▸ht
     have h1:=ih.2 b (a+1) hb;have h2:=ih.2 e (a+1+(emL G L P b (a+1)).length+1) he;rw [emS,szS,if_neg oo,if_neg oo,if_neg oo,if_neg oo,if_neg oo,if_neg oo];generalize emL G L P b (a+1)=u at *;generalize emL G L P e (a+1+u.length+1)=v at *;rcases hq with hq | ⟨hq,rfl⟩
     . rw [if_neg oo,if_pos hq]
       split
       . refine ⟨λx hx=>?_,by simp only [qaj];omega⟩
         rw [qaj];rcases qaa.1 hx with rfl | hx
         . exact zxB ht oo oo
         exact (h1.1 x hx).mono oo oo
       rename_i hne
       refine ⟨λx hx=>?_,?_⟩
       . simp only [qaj,qag]
         rcases qaa.1 hx with rfl | hx
         . exact zxB ht oo oo
         rcases qae.1 hx with hx | hx
         . exact (h1.1 x hx).mono oo oo
         rcases qaa.1 hx with rfl | hx
         . exact zBP oo oo
         exact (h2.1 x hx).mono oo oo
       have:=zoY e;simp only [qaj,qag];omega
     rw [if_pos hq];refine ⟨λx hx=>?_,by simp only [qaj,qag,qay];omega⟩;simp only [qaj,qag,qay];rcases qaa.1 hx with rfl | hx
     . exact zxB ht oo oo
     rcases qae.1 hx with hx | hx
     . exact (h1.1 x hx).mono oo oo
     simp only [qaa,qac,or_false] at hx;subst hx;exact zBP oo oo
   exact ⟨hs,hl (n+1) hs⟩
end
def zCS:DIns:=⟨9,0,term0,0⟩
section
variable (G L P:List ByteArray)
def emP:List DProc->Nat->List DIns
 | [],_=>[]
 | x :: l,a=>emL G L P x.body a++(zCS :: emP l (a+(emL G L P x.body a).length+1))
def zqx:List DProc->Nat->List Int
 | [],_=>[]
 | x :: l,a=>(a:Int) :: zqx l (a+(emL G L P x.body a).length+1)
end
def zcE (p:DProg):DCode:=
 ⟨p.globals,p.locks,p.procs.map DProc.name,zqx p.globals p.locks (p.procs.map DProc.name) p.procs 0,emP p.globals p.locks (p.procs.map DProc.name) p.procs 0⟩
theorem zlc (G L P:List ByteArray):∀ (l:List DProc) (a:Nat),(zqx G L P l a).length=l.length
 | [],_=>by rw [zqx];rfl
 | x :: l,a=>by rw [zqx,qaj,qaj,zlc G L P l]
theorem zBQ (G L P:List ByteArray):∀ (l:List DProc) (a i:Nat) (hi:i<l.length),∃ s,(zqx G L P l a)[i]?=some ((a+s:Nat):Int)/\s+(emL G L P l[i].body (a+s)).length+1<=(emP G L P l a).length /\
   (∀ k,k<(emL G L P l[i].body (a+s)).length->(emP G L P l a)[s+k]?=(emL G L P l[i].body (a+s))[k]?)/\(emP G L P l a)[s+(emL G L P l[i].body (a+s)).length]?=some zCS /\
   (i=0->s=0)/\(i+1<l.length->(zqx G L P l a)[i+1]?=some ((a+s+(emL G L P l[i].body (a+s)).length+1:Nat):Int))/\(i+1=l.length->s+(emL G L P l[i].body (a+s)).length+1=(emP G L P l a).length)
 | x :: l,a,0,hi=>by
   refine ⟨0,?_⟩;simp only [qcf,qa9,qcX];rw [zqx,emP];generalize emL G L P x.body a=u;refine ⟨sS,sS,λk hk=>List.getElem?_append_left hk,sS,sS,λh=>?_,λh=>?_⟩
   . cases l with
     | nil=>simp at h
     | cons y l=>rw [zqx];rfl
   have:l=[]:=qam (by simpa using h);subst this;rw [emP];simp
 | x :: l,a,i+1,hi=>by
   obtain ⟨s,h1,h2,h3,h4,h5,h6,h7⟩:=zBQ G L P l (a+(emL G L P x.body a).length+1) i (by simpa using hi);refine ⟨(emL G L P x.body a).length+1+s,?_⟩;simp only [List.getElem_cons_succ];rw [zqx,emP];have e:a+((emL G L P x.body a).length+1+s)=a+(emL G L P x.body a).length+1+s:=oo
   rw [e];generalize emL G L P x.body a=u at *;have g0:i<l.length:=by simpa using hi
   generalize emL G L P (l[i]'g0).body (a+u.length+1+s)=v at *
   have sh:∀ (q:Nat) (m:List DIns),(u++zCS :: m)[u.length+1+q]?=m[q]?:=by
     intro q m;rw [List.getElem?_append_right oo,show u.length+1+q-u.length=q+1 by omega,List.getElem?_cons_succ]
   refine ⟨by simpa using h1,by simp only [qag,qaj];omega,λk hk=>?_,?_,λh=>oo,λh=>?_,λh=>?_⟩
   . rw [show u.length+1+s+k=u.length+1+(s+k) by omega,sh];exact h3 k hk
   . rw [show u.length+1+s+v.length=u.length+1+(s+v.length) by omega,sh];exact h4
   . rw [List.getElem?_cons_succ];exact h6 (by simpa using h)
   have:=h7 (by simpa using h);simp only [qag,qaj];omega
theorem zxC (G L P:List ByteArray) {m:Nat}:∀ (l:List DProc) (a:Nat),(∀ x∈l,∀ b,(emL G L P x.body b).length<=m)->(emP G L P l a).length<=l.length*(m+1)
 | [],_,_=>by rw [emP];simp
 | x :: l,a,h=>by
   have h1:=h x sS a;have h2:=zxC G L P l (a+(emL G L P x.body a).length+1) λy hy=>h y (by simp [hy]);rw [emP,qag,qaj,qaj,qbi,qbS];omega
def zo2 {α:Type} {l:List α} {x d:α} (h:l[i]?=some x):l.getD i d=x:=by rw [List.getD_eq_getElem?_getD,h];rfl
theorem zqy:∀ k,k<4->(prc4.take (1+k)).length<=4/\(prc4.take (1+k)).all zbF=true/\(prc4.take (1+k)).Nodup/\zh6∈prc4.take (1+k)
 | 0,_=>by decide
 | 1,_=>by decide
 | 2,_=>by decide
 | 3,_=>by decide
 | k+4,h=>absurd h oo
def code_at {p:DProg} (hp:ProgR p) {i:Nat} (hi:i<p.procs.length):∃ s n:Nat,en (zcE p) i=(s:Int)/\zep (zcE p) i=((s+n+1:Nat):Int)/\s+n+1<=(zcE p).ins.length /\
   (∀ k,k<n->InsQ (zcE p).globals (zcE p).locks (zcE p).procs (zam (zcE p) (s+k)) s (s+n))/\zam (zcE p) (s+n)=zCS/\(i=0->s=0):=by
 obtain ⟨s,h1,h2,h3,h4,h5,h6,h7⟩:=zBQ p.globals p.locks (p.procs.map DProc.name) p.procs 0 i hi;simp only [qa9] at h1 h2 h3 h4 h5 h6 h7;have hb:=hp.b _ (qab hi);have hr:=(zE6 (G:=p.globals) (L:=p.locks) (P:=p.procs.map DProc.name) (c:=⟨p.globals,p.locks,(p.procs.map DProc.name).drop 1⟩) rfl rfl (λx hx=>qbI hx) 2).2 p.procs[i].body s hb.1;generalize emL p.globals p.locks (p.procs.map DProc.name) p.procs[i].body s=u at *;refine ⟨s,u.length,zo2 h1,?_,h2,λk hk=>?_,zo2 h4,h5⟩
 . unfold zep
   have hl:(zcE p).entry.length=p.procs.length:=zlc _ _ _ _ _;split
   . rename_i hh;exact zo2 (h6 oo)
   rename_i hh;show ((emP _ _ _ _ _).length:Int)=_;rw [<-h7 oo]
 have e:zam (zcE p) (s+k)=u[k]:=zo2 (by
   have:=h3 k hk;rw [List.getElem?_eq_getElem hk] at this;exact this)
 rw [e];exact (hr.1 _ (qab hk)).mono (lr _) (lr _)
def zj1 {p:DProg} (hp:ProgR p):CodeR (zcE p)/\(zcE p).ins.length<=436:=by
 obtain ⟨k,hk,hn⟩:=hp.n;obtain ⟨n1,n2,n3,n4⟩:=zqy k hk;have hl:(zcE p).entry.length=p.procs.length:=zlc _ _ _ _ _;have g0:(p.procs.map DProc.name).length=p.procs.length:=qav _;have hp4:p.procs.length<=4:=by rw [<-g0,hn];exact n1
 have hN:NamesR (zcE p):=by
   refine ⟨?_,?_,?_,?_,?_,?_,?_⟩
   . show (decide ((p.globals.length:Int)<=6)&&p.globals.all zbF)=true
     rcases hp.g with e | e<;>(rw [e];decide)
   . show (decide ((p.locks.length:Int)<=6)&&p.locks.all zbF)=true
     rcases hp.l with e | e | e<;>(rw [e];decide)
   . show (decide (((p.procs.map DProc.name).length:Int)<=8)&&(p.procs.map DProc.name).all zbF)=true
     rw [hn,n2,decide_eq_true oo];rfl
   . show p.globals.Nodup
     rcases hp.g with e | e<;>(rw [e];decide)
   . show p.locks.Nodup
     rcases hp.l with e | e | e<;>(rw [e];decide)
   . show (p.procs.map DProc.name).Nodup
     rw [hn];exact n3
   show zh6∈p.procs.map DProc.name;rw [hn];exact n4
 have g1:(zcE p).ins.length<=436:=by
   have:=zxC p.globals p.locks (p.procs.map DProc.name) (m:=108) p.procs 0 λx hx b=>by
     have hb:=hp.b x hx;have hr:=(zE6 (G:=p.globals) (L:=p.locks) (P:=p.procs.map DProc.name) (c:=⟨p.globals,p.locks,(p.procs.map DProc.name).drop 1⟩) rfl rfl (λx hx=>qbI hx) 2).2 x.body b hb.1;have:=hb.2;omega
   show (emP _ _ _ _ _).length<=436;omega
 have h0:0<p.procs.length:=by
   rw [<-g0,hn];exact qbY n4
 have hF:EntF (zcE p):=by
   refine ⟨by rw [hl];exact g0.symm,oo,?_,λi hi=>?_⟩
   . obtain ⟨s,n,e1,_,_,_,_,e0⟩:=code_at hp h0
     rw [e1,e0 rfl];rfl
   obtain ⟨s,n,e1,e2,e3,_,_,_⟩:=code_at hp (i:=i) oo;rw [e1,e2];omega
 have g2:0<(zcE p).procs.length:=by show 0<(p.procs.map DProc.name).length;omega
 have r:∀ j:Nat,j<(zcE p).ins.length->∃ i s n:Nat,i<p.procs.length/\en (zcE p) i=(s:Int)/\zep (zcE p) i=((s+n+1:Nat):Int)/\s<=j/\j<=s+n/\zas (zcE p) j=i /\
     (∀ k,k<n->InsQ (zcE p).globals (zcE p).locks (zcE p).procs (zam (zcE p) (s+k)) s (s+n))/\zam (zcE p) (s+n)=zCS:=by
   intro j hj;obtain ⟨i,hi,a1,a2,a3⟩:=hF.find g2 (a:=(j:Int)) oo oo;obtain ⟨s,n,e1,e2,e3,e4,e5,_⟩:=code_at hp (i:=i) oo;rw [e1] at a1;rw [e2] at a2;exact ⟨i,s,n,oo,e1,e2,oo,oo,a3,e4,e5⟩
 have C:∀ (i:Nat),zfT (zcE p) i=zep (zcE p) i-1:=λi=>zdU _ i;refine ⟨⟨hN,⟨hF.len,hF.ins,λi hi=>⟨λh=>by subst h;exact hF.zero,λh=>?_,?_⟩,λj hj=>?_⟩,λj hj=>?_⟩,g1⟩
 . have h1:=(hF.lt (i-1) oo).1
   rw [hF.step oo,show i-1+1=i by omega] at h1;exact h1
 . have:=hF.lt i hi;omega
 . obtain ⟨i,s,n,hi,e1,e2,a1,a2,a3,e4,e5⟩:=r j hj
   rw [a3,C,e2];constructor
   . intro h9
     by_cases hjn:j=s+n
     . omega
     have:=e4 (j-s) oo;rw [show s+(j-s)=j by omega] at this;have:=this.2.1;omega
   intro h9;have:j=s+n:=oo
   rw [this,e5];rfl
 obtain ⟨i,s,n,hi,e1,e2,a1,a2,a3,e4,e5⟩:=r j hj;rw [a3,C,e2];simp only [qah];rw [e1];by_cases hjn:j=s+n
 . rw [hjn,e5]
   have ha:(0:Int)<zcl (zcE p) 9:=by
     unfold zcl;rw [if_neg qd,if_neg qd,if_neg qd];decide
   refine ⟨qd,⟨qd,ha⟩,by rw [if_neg qd];rfl,by rw [if_neg qd];rfl⟩
 have hq:=e4 (j-s) oo;rw [show s+(j-s)=j by omega] at hq;generalize zam (zcE p) j=x at *;obtain ⟨q1,q2,q3,q4,q5⟩:=hq;refine ⟨⟨q1,oo⟩,?_,?_,?_⟩
 . unfold zcl;exact q3
 . split at q4
   . rename_i hh
     rw [if_pos hh];refine ⟨q4.1,λy hy=>?_⟩;show y∈p.globals;exact q4.2.1 y hy
   rename_i hh;rw [if_neg hh];exact q4
 split at q5
 . rename_i hh;rw [if_pos hh];omega
 rename_i hh;rw [if_neg hh];exact q5
end Go.Proofs.YtcnglfeoglgebaaGreat
namespace Go.Sh
open Rep (rep)
structure UpG (g lo:Nat) (w w':World):Prop where
 os:w'.os=w.os
 tape:w'.tape=w.tape
 output:w'.output=w.output
 size:w.heap.size<=w'.heap.size
 block:∀ b,b<w.heap.size->b<lo->b≠g->w'.heap[b]?=w.heap[b]?
section
variable {g lo:Nat} {w w' w2:World} {α:Type} [Rep α]
def UpG.refl (g lo:Nat) (w:World):UpG g lo w w:=⟨rfl,rfl,rfl,lr _,λ_ _ _ _=>rfl⟩
def UpG.trans (h:UpG g lo w w') (k:UpG g lo w' w2):UpG g lo w w2:=
 ⟨k.os.trans h.os,k.tape.trans h.tape,k.output.trans h.output,qan h.size k.size,λb h1 h2 h3=>(k.block b (qal h1 h.size) h2 h3).trans (h.block b h1 h2 h3)⟩
def UpG.mono {lo2:Nat} (h:UpG g lo w w') (hl:lo2<=lo):UpG g lo2 w w':=⟨h.os,h.tape,h.output,h.size,λb h1 h2 h3=>h.block b h1 oo h3⟩
def Ext.upG (h:Ext w w'):UpG g lo w w':=⟨h.os,h.tape,h.output,h.size,λb h1 _ _=>h.block b h1⟩
def ChgI.upG1 (h:ChgI g (g+1) w w'):UpG g lo w w':=⟨h.os,h.tape,h.output,h.size,λb h1 _ h3=>h.block b h1 oo⟩
def ChgI.upG {a b:Nat} (h:ChgI a b w w') (ha:lo<=a):UpG g lo w w':=⟨h.os,h.tape,h.output,h.size,λc h1 h2 _=>h.block c h1 oo⟩
def Chg.upG {F:List Nat} (h:Chg (g :: F) w w') (hF:∀ c∈F,lo<=c):UpG g lo w w':=⟨h.os,h.tape,h.output,h.size,λc h1 h2 h3=>h.block c h1 λhm=>by
 rcases qaa.1 hm with e | hm
 . exact h3 e
 have:=hF c hm;omega⟩
def UpG.toI (h:UpG g lo w w') (hl:w.heap.size<=lo):ChgI g (g+1) w w':=⟨h.os,h.tape,h.output,h.size,λb h1 h2=>h.block b h1 oo oo⟩
def Blk.upG {b e:Nat} {cs:List Value} (h:Blk b e w cs) (hu:UpG g lo w w') (h1:b<lo) (h2:b≠g):Blk b e w' cs:=h.keep (hu.block b h.lt h1 h2)
def OwnI.upG {a b:Nat} {v:Value} {x:α} (h:OwnI a b w v x) (hu:UpG g lo w w') (h1:b<=lo) (h2:g<a\/b<=g):OwnI a b w' v x:=by
 obtain ⟨F,hm,hF⟩:=h;exact ⟨F,hm.keep λc hc=>hu.block c (hm.lt c hc) (by have:=hF c hc;omega) (by have:=hF c hc;omega),hF⟩
def RowI.upG {a b e:Nat} {v:Value} {l:List α} (h:RowI a b e w v l) (hu:UpG g lo w w') (h1:b<=lo) (h2:g<a\/b<=g):RowI a b e w' v l:=by
 obtain ⟨F,hm,hn,hF⟩:=zgL.1 h;exact zgL.2 ⟨F,hm.keep λc hc=>hu.block c (hm.lt c hc) (by have:=hF c hc;omega) (by have:=hF c hc;omega),hn,hF⟩
def IsK.upG {a b:Nat} {v:Value} {x:α} (h:IsK a b w v x) (hu:UpG g lo w w') (h1:b<=lo) (h2:g<a\/b<=g):IsK a b w' v x:=
 ⟨qan h.1 hu.size,λw3 h3=>h.2 w3 λc h4 h5=>(h3 c h4 h5).trans (hu.block c (qal h5 h.1) oo oo)⟩
def znO {v:Value} {x:α} (h:OwnI lo lo w v x):Mine [] w v x:=by
 obtain ⟨F,hm,hF⟩:=h;have:F=[]:=qbR.2 λc hc=>by have:=hF c hc;omega
 subst this;exact hm
def zxD {hi:Nat} {n:ByteArray} {vb:Value} {l:List DStmt} (hn:n.size<=maxLen) (h:OwnI lo hi w vb l):OwnI lo hi w (.agg #[.string n,vb]) (⟨n,l⟩:DProc):=by
 obtain ⟨F,⟨⟨cs,hr,hv⟩,g0,hw⟩,hF⟩:=h;obtain ⟨c,rfl⟩:=zex hr;simp only [mkv,Rep.agg,cond_false,qbk] at hv;subst hv;exact ⟨F,⟨⟨[.string n,vb],za2 (F:=[]) (c1:=[.string n]) (show rep [] w [.string n] n from ⟨rfl,rfl,hn⟩) hr,rfl⟩,g0,hw⟩,hF⟩
def zqz {a b c:Value} {p:DProg} {lo hi l0 h0 l1 h1 l2 h2:Nat} (m0:OwnI l0 h0 w a p.globals) (m1:OwnI l1 h1 w b p.locks) (m2:OwnI l2 h2 w c p.procs) (d01:h0<=l1\/h1<=l0) (d02:h0<=l2\/h2<=l0) (d12:h1<=l2\/h2<=l1)
   (b0:lo<=l0/\h0<=hi) (b1:lo<=l1/\h1<=hi) (b2:lo<=l2/\h2<=hi):OwnI lo hi w (.agg #[a,b,c]) p:=by
 obtain ⟨F0,M0,B0⟩:=m0;obtain ⟨F1,M1,B1⟩:=m1;obtain ⟨F2,M2,B2⟩:=m2;refine ⟨F0++(F1++F2),⟨⟨[a,b,c],za2 (zb2 rfl M0.own) (za2 (zb2 rfl M1.own) (zb2 rfl M2.own)),rfl⟩,?_,M0.wr.append (M1.wr.append M2.wr)⟩,λx hx=>?_⟩
 . rw [qao,qao]
   refine ⟨M0.nodup,⟨M1.nodup,M2.nodup,λp hp q hq e=>?_⟩,λp hp q hq e=>?_⟩
   . subst e;have:=B1 p hp;have:=B2 p hq;omega
   subst e;have:=B0 p hp;rcases qae.1 hq with hq | hq
   . have:=B1 p hq;omega
   have:=B2 p hq;omega
 rcases qae.1 hx with hx | hx
 . have:=B0 x hx;omega
 rcases qae.1 hx with hx | hx
 . have:=B1 x hx;omega
 have:=B2 x hx;omega
end
end Go.Sh
namespace Go.Proofs.YtcnglfeoglgebaaGreat
open Go Go.Sh Go.Proofs
open Rep (rep)
variable {K:Value->Prop} {P:Program} {W W0 w:World} {v v0 v1:Value}
section
variable {w:World} {K:VW}
def zxE (k:∀ v w',Ext w w'->OwnI w.heap.size w'.heap.size w' v lks->K v w'):OP tp (Instr.buildSlice 24 3 #[(0,(Value.string (ByteArray.mk #[97]))),(1,(Value.string (ByteArray.mk #[98]))),(2,(Value.string (ByteArray.mk #[109])))]) w K:=
 zhh (vs:=lks.map Value.string) (l:=lks) u24 ty9 zcV qd kK rfl (λw=>zda qd) k
def zEn (k:∀ v w',Ext w w'->OwnI w.heap.size w'.heap.size w' v glb->K v w'):OP tp (Instr.buildSlice 24 4 #[(0,(Value.string (ByteArray.mk #[120]))),(1,(Value.string (ByteArray.mk #[121]))),(2,(Value.string (ByteArray.mk #[122]))),(3,(Value.string (ByteArray.mk #[117])))]) w K:=
 zhh (vs:=glb.map Value.string) (l:=glb) u24 ty9 zcV qd kK rfl (λw=>zda qd) k
def zEo (k:∀ v w',Ext w w'->OwnI w.heap.size w'.heap.size w' v prc4->K v w'):OP tp (Instr.buildSlice 24 4 #[(0,(Value.string (ByteArray.mk #[109,97,105,110]))),(1,(Value.string (ByteArray.mk #[112]))),(2,(Value.string (ByteArray.mk #[113]))),(3,(Value.string (ByteArray.mk #[114])))]) w K:=
 zhh (vs:=prc4.map Value.string) (l:=prc4) u24 ty9 zcV qd kK rfl (λw=>zda qd) k
end
mutual
theorem zCT:∀ (x:DStmt) (n:Int),0<=n->-1<=zwe x n/\zwe x n<=n
  | .mk k s t b e,n,hn=>by
    rw [zwe];have h1:=zl2 b (n-1) oo;have h2:=zl2 e (zkD b (n-1)) h1.1;omega
theorem zl2:∀ (l:List DStmt) (n:Int),-1<=n->-1<=zkD l n/\zkD l n<=n
  | [],n,hn=>by rw [zkD];omega
  | x :: l,n,hn=>by
    rw [zkD];split
    . rename_i h
      have h1:=zCT x n h;have h2:=zl2 l (zwe x n) h1.1;omega
    omega
end
def zzU (x:DStmt) (n:Int):zwe x n=zkD x.els (zkD x.body (n-1)):=by cases x;rw [zwe];rfl
def zCU (l:List DStmt):Prop:=∀ {w W:World} {v:Value} {n:Int},Is W v l->Ext W w->-1<=n->n<=1000->CALL tp 92 [v,.int .i64 n] w λr w'=>Ext w w'/\(r=.int .i64 (zkD l n))
def zgM {l:(List DStmt)} {n:Int}  (h0:Is W0 v0 l) (e0:Ext W0 w) (ih:∀ x∈l,zCU x.body/\zCU x.els) (g4:-1<=n) (g5:n<=1000) :
   CALL tp 92 [v0,.int .i64 n] w λr w'=>Ext w w'/\(r=.int .i64 (zkD l n)):=by
 refine co (g:=kf [] [(2,1073741794,[1,5])] [(4,[0,1,2,3,4,5,6,7,8,9,10,11,12,13,14],4096)]) Tryz.func92 ?_;refine zao (l.length) (λk us w'=>∃ (n1:Int),us=[.int .i64 n1,.int .i64 (k:Int)]/\Ext w w'/\(zkD l n=zkD (l.drop k) n1/\-1<=n1/\n1<=1000/\k<=l.length)) (0) oo ⟨n,rfl,xrf w,sS,g4,g5,oo⟩ ?_;rintro k m2 uu2 g9 hk2 ⟨n1,hu,y1,g0,hm0,hm1,hkl⟩;obtain ⟨g1,g2⟩:=zcB hu;try rw [g1]
 try rw [g2]
 try clear g1 g2
 have gb:=zaj h0;refine zae u29 h0<|zag<|br (λc1=>?_) (λc1=>?_)
 . refine zcb ?_
   refine br (λc2=>?_) (λc2=>?_)
   . have y2:=zah g9
     have hk:k<l.length:=oo
     have g3:=zl2 (l[k]).body (n1-1) oo;refine zad u29 ze6 h0 oo λb18 o18 gc=>zab zfA<|zaa ziT (zc6 gc) (e0.t (y1.t y2)) λv20 gd=>zad u29 ze6 h0 oo λb23 o23 gf=>zab zg4<|zaa ziT (zdu gf) (e0.t (y1.t y2)) λv25 gg=>zbc (by unfold I64;omega) ?_;refine ((ih _ (qab hk)).1 gg (e0.t (y1.t y2)) oo oo).mono ?_;rintro _ w3_ ⟨y3,rfl⟩;refine ⟨y3,?_⟩;refine ((ih _ (qab hk)).2 gd (e0.t (y1.t (y2.t y3))) g3.1 oo).mono ?_;rintro _ w4_ ⟨y4,rfl⟩;refine zau<|⟨m2-1,oo,k+1,oo,_,rfl,(y1.t (y2.t (y3.t y4))),?_⟩;have h2:=zl2 (l[k]).els _ g3.1;refine ⟨?_,oo,oo,oo⟩;rw [g0,qau hk,zkD,if_pos oo,zzU]
   refine ⟨y1,?_⟩;rw [g0];cases h:l.drop k with
   | nil=>rw [zkD]
   | cons x r=>rw [zkD,if_neg oo]
 refine ⟨y1,?_⟩;rw [g0,qbZ oo,zkD]
def zl3 (l:List DStmt):zCU l:=by
 have h:∀ x:DStmt,zCU x.body/\zCU x.els:=λx=>by
   refine DStmt.ind (p:=λx=>zCU x.body/\zCU x.els) (λt hb he=>⟨?_,?_⟩) x
   . intro w W v n h e h0 h1;exact zgM h e hb h0 h1
   intro w W v n h e h0 h1;exact zgM h e he h0 h1
 intro w W v n hv e h0 h1;exact zgM hv e (λx _=>h x) h0 h1
def zo3 {g M gi:Nat} {bs:List UInt8} {s:Cur} {body:List DStmt} (hC:CurAt W g bs s w) (h1:OwnI M gi w v1 body) (hlo:M<=w.heap.size) (hhi:gi<=w.heap.size) (hg1:g<M) (hbl:body.length<=1000) :
   CALL tp 94 [.pointer (some ⟨g,0,none⟩),v1] w λr w'=>UpG g M w w'/\CurAt W g bs (zlV bs body s).2 w'/\RowI M w'.heap.size 56 w' r (zlV bs body s).1:=by
 have hgl:=hC.lt;have g5:((lks.length:Nat):Int)=3:=rfl;refine co (g:=kf [(6,536739968,[7])] [] []) Tryz.func94 ?_;refine zxE λv9 w1 O o9=>?_;have hs1:=O.size;refine (zdK (hC.ext O) o9 oo oo oo qd qd).mono ?_;rintro _ w2 ⟨X,g9,rfl,D⟩;have hs2:=X.size;rw [g5] at g9;refine zxE λv12 w3 U gj=>?_;have hs3:=U.size;refine (zdK (g9.ext U) gj oo oo oo qd qd).mono ?_;rintro _ w4 ⟨Y,gb,rfl,g0⟩;have hs4:=Y.size;rw [g5] at gb;refine zdm (lo:=w4.heap.size) (hi:=w4.heap.size) (lr _) (by unfold I64;omega) D λv15 gc=>zb7 (β:=DStmt) u29 ze6 z56 qd (znO gc) λgd w5 I g4=>?_;have hs5:=I.size;have hu5:UpG g M w w5:=(O.upG.trans X.upG1).trans ((U.upG.trans Y.upG1).trans I.upG);have h15:=((((h1.ext O).chg X oo).ext U).chg Y oo).ext I;have gf:=gb.ext I;obtain ⟨na,g1⟩:∃ x,x=zdl bs lks s:=⟨_,rfl⟩;obtain ⟨nb,g2⟩:∃ x,x=zdl bs lks (zap bs 3 s):=⟨_,rfl⟩;rw [<-g1] at D gc g4;rw [<-g2] at g0;rw [<-g1,<-g2]
 have hg:zlV bs body s=(if na=nb then (zga na :: (body++[zel na]),zap bs 3 (zap bs 3 s)) else if zbN bs 2 (zap bs 3 (zap bs 3 s))=0 then (zga na :: zga nb :: (body++[zel na]),zap bs 2 (zap bs 3 (zap bs 3 s)))
     else (zga na :: (body++[zel na]),zap bs 2 (zap bs 3 (zap bs 3 s)))):=by unfold zlV;rw [<-g1,<-g2]
 clear g1 g2;refine JOIN.mk (λus w'=>∃ v l s',us=[v]/\ChgI g (g+1) w4 w'/\CurAt W g bs s' w'/\RowI w4.heap.size w'.heap.size 56 w' v l/\l.length<=2/\zlV bs body s=(l++(body++[zel na]),s')) ?_ ?_
 . refine zox ?_
   refine br (λgg=>?_) (λhe=>?_)
   . refine (zhK gf oo).mono ?_
     rintro _ w6 ⟨C,g3,rfl⟩;have gl:=C.size;have r6:=g4.chg C oo;refine br (λh0=>?_) (λh0=>?_)
     . refine zdm (lo:=w6.heap.size) (hi:=w6.heap.size) (lr _) (by unfold I64;omega) g0 λv26 gp=>?_
       refine zbO (α:=DStmt) u29 ze6 z56 zDB qd r6 oo gp oo oo (by rw [zal];simp) sS λgq w7 V gr=>⟨gq,[zga na,zga nb],_,rfl,ChgI.out (I.toI.trans C) V oo,g3.chg V oo oo,gr,sS,?_⟩;rw [hg,if_neg gg,if_pos h0];rfl
     refine ⟨gd,[zga na],_,rfl,I.toI.trans C,g3,r6.mono oo oo,sS,?_⟩;rw [hg,if_neg gg,if_neg h0];rfl
   refine ⟨gd,[zga na],_,rfl,I.toI,gf,g4,sS,?_⟩;rw [hg,if_pos (qad.1 he)];rfl
 rintro u6 w6 ⟨v,l,s',hu,C,g3,r6,hll,gs⟩;try replace hu:=zbt hu
 rw [hu,gs];have gl:=C.size;have gt:=(((((h1.ext O).chg X oo).ext U).chg Y oo)).chg C oo;refine zjV (α:=DStmt) (lo0:=M) u29 ze6 zDB r6 oo gt oo oo oo (by rw [zal];omega) oo λv31 w7 V gx=>?_;have hs7:=V.size;refine zdm (lo:=w7.heap.size) (hi:=w7.heap.size) (lr _) (by unfold I64;omega) D λv34 gy=>zbO (α:=DStmt) u29 ze6 z56 zDB qd gx oo gy oo oo (by rw [zal,qag];omega) (by rw [qag];omega) λv36 w8 gh gz=>⟨(((O.upG.trans X.upG1).trans (U.upG.trans Y.upG1)).trans C.upG1).trans ((V.upG oo).trans (gh.upG oo)),(g3.chg V oo oo).chg gh oo oo,?_⟩;simpa [zel] using gz
def zzV {X:Nat->Prop} {m:Sem Value} (h:∀ w':World,m.run P w'=.ok v w') (k:K v):RDX P X m w K:=⟨v,λw' _=>h w',k⟩
def zxF (bs:List UInt8) (s:Cur):2<=(zlW bs s).length/\(zlW bs s).length<=4:=by
 have:=zxv bs s;unfold zlW;rw [qai];show 2<=min _ 4/\min _ 4<=4;omega
end Go.Proofs.YtcnglfeoglgebaaGreat
namespace Go.Sh
open Rep (rep)
section
variable {P:Program} {w w0 w':World} {α:Type} [Rep α] {lo hi e:Nat} {v:Value} {l:List α}
def RowG.flat [Flat α] {F:List Nat} (h:RowG F e w v l):F=[]\/∃ b,F=[b]:=by
 rcases h with ⟨_,_,_,rfl⟩ | ⟨xs,Fi,_,hc,rfl,_⟩
 . exact .inl rfl
 have:=Cells.flat (xs:=xs) hc;subst this;rcases hv:v.ownBlock with _ | b
 . exact .inl sS
 exact .inr ⟨b,sS⟩
def zxG [RepZ α]:OwnI lo hi w (mkv α (RepZ.zc α)) (RepZ.zv:α):=⟨[],⟨⟨RepZ.zc α,RepZ.zr w,rfl⟩,qaq,Wr.nil w⟩,sS⟩
def Chg.ofI {F:List Nat} (h:Chg F w w') (hF:∀ b∈F,lo<=b/\b<hi):ChgI lo hi w w':=
 ⟨h.os,h.tape,h.output,h.size,λb hb hx=>h.block b hb λhm=>by have:=hF b hm;omega⟩
def ChgI.ext_left {w1:World} (hx:Ext w w1) (h:ChgI lo hi w1 w'):ChgI lo hi w w':=
 ⟨h.os.trans hx.os,h.tape.trans hx.tape,h.output.trans hx.output,qan hx.size h.size,λb hb ho=>by rw [h.block b (qal hb hx.size) ho,hx.block b hb]⟩
def zdA [Flat α] {t ty:TypeId} {by_:Nat} {u:Value} {x:α} {lo2 hi2:Nat} {K:VW} (ht:P.underlying t=some (.slice e)) (he:tyI P e=some (Rep.size α,by_,Rep.agg α)) (hz:zb1 P e=true)
   (g3:(P.info? e).map (λi=>(i.zero.map (·.cells.size)))=some (some (Rep.size α))) (g4:Rep.size α<=1000) (hv:RowI lo hi e w v l) (hx:OwnI lo2 hi2 w u x) (hm:l.length+1<=maxLen) (hb:(l.length+1)*by_<=140737488355328)
   (k:∀ v' w' lo' hi',ChgI lo hi w w'->RowI lo' hi' e w' v' (l++[x])->(lo'=lo/\hi'=hi\/lo'=w.heap.size/\hi'=w'.heap.size)->K v' w'):OP P (Instr.buildSlice t 1 #[(0,u)]) w λs w1=>OP P (Builtin.append_ #[t,t] ty [v,s].toArray) w1 K:=by
 obtain ⟨F,h1,h2,h3⟩:=zgL.1 hv;obtain ⟨G,g1,hG⟩:=hx;have g2:G=[]:=by obtain ⟨cs,hr,_⟩:=g1.own;exact Flat.flat hr
 subst g2;refine zdD (K:=λ_=>K) ht he hz g3 g4 h1 h2 g1 sS hm hb (λw1 v' w' G' g5 hc hR hN hs=>?_) λ_ _ _ h=>h;have g0:=ChgI.ext_left g5 (hc.ofI h3);have g9:=hR.lt;rcases hR.flat with rfl | ⟨b,rfl⟩
 . exact k v' w' lo hi g0 (zgL.2 ⟨[],hR,hN,sS⟩) (.inl ⟨rfl,rfl⟩)
 rcases hs b sS with h | h | h
 . exact k v' w' lo hi g0 (zgL.2 ⟨[b],hR,hN,λc hc=>by simp at hc;subst hc;exact h3 _ h⟩) (.inl ⟨rfl,rfl⟩)
 . cases h
 exact k v' w' w.heap.size w'.heap.size g0 (zgL.2 ⟨[b],hR,hN,λc hc=>by simp at hc;subst hc;exact ⟨h,g9 _ sS⟩⟩) (.inr ⟨rfl,rfl⟩)
end
end Go.Sh
namespace Go.Proofs.YtcnglfeoglgebaaGreat
open Go Go.Sh Go.Proofs
open Rep (rep)
variable {W W0 w:World} {n:Nat} {v v0 vk vo:Value}
def zE7 (t:DStmt):Prop:=(t.kind=1/\zbF t.name=true/\zbk 6 t.term=true/\t.body=[]/\t.els=[])\/((t.kind=4\/t.kind=5\/t.kind=6\/t.kind=7)/\zbF t.name=true/\t.term=term0/\t.body=[]/\t.els=[]) \/
 (t.kind=8/\t.name=ByteArray.mk #[]/\t.term=term0/\t.body=[]/\t.els=[])\/(t.kind=2/\t.name=ByteArray.mk #[]/\zbk 6 t.term=true)\/(t.kind=3/\t.name=ByteArray.mk #[]/\zbk 6 t.term=true/\t.els=[])
def zEQ (c:Scp):Prop:=(∀ x∈c.gl,zbF x=true)/\(∀ x∈c.lk,zbF x=true)/\∀ x∈c.pr,zbF x=true
theorem StR.one {c:Scp} {t:DStmt} (hp:zEQ c) (h:StR c n t):zE7 t:=by
 have h0:St0 c t->zE7 t:=λh=>by
   rcases h with ⟨h1,h2,h3,h4,h5⟩ | ⟨h1,h2,h3,h4,h5⟩ | ⟨h1,h2,h3,h4,h5⟩ | ⟨h1,h2,h3,h4,h5⟩
   . exact .inl ⟨h1,hp.1 _ h2,h3.1,h4,h5⟩
   . exact .inr (.inl ⟨oo,hp.2.2 _ h2,h3,h4,h5⟩)
   . exact .inr (.inl ⟨oo,hp.2.1 _ h2,h3,h4,h5⟩)
   exact .inr (.inr (.inl ⟨h1,h2,h3,h4,h5⟩))
 cases n with
 | zero=>exact h0 h.zero
 | succ n=>
   rcases h.succ with h | ⟨h1,h2,h3,h4,h5⟩
   . exact h0 h
   rcases h1 with h1 | ⟨h1,h6⟩
   . exact .inr (.inr (.inr (.inl ⟨h1,h2,h3.1⟩)))
   exact .inr (.inr (.inr (.inr ⟨h1,h2,h3.1,h6⟩)))
def zxH {t:DStmt}  (h0:Is W0 v0 t) (e0:Ext W0 w) (hr:zE7 t) :
   CALL tp 341 [v0] w λr w'=>Ext w w'/\(r=.bool true):=by
 refine co (g:=kf [] [] []) Tryz.func341 ?_
 have V:t.kind≠2->t.kind≠3->t.body=[]/\t.els=[]:=λn2 n3=>by
   rcases hr with ⟨k1,k2,k3,k4,k5⟩ | ⟨k1,k2,k3,k4,k5⟩ | ⟨k1,k2,k3,k4,k5⟩ | ⟨k1,k2,k3⟩ | ⟨k1,k2,k3,k4⟩
   . exact ⟨k4,k5⟩
   . exact ⟨k4,k5⟩
   . exact ⟨k4,k5⟩
   . omega
   omega
 refine zat ze6 rfl h0 e0 λX y1 C hV1=>zab zkz<|zaa zdj (zdH C) (xrf X) λv5 h5=>zaX (cells:=#[.int .i64 0,.int .i64 0,.string ByteArray.empty,.slice none 0 0]) kK ?_;have o6:OwnI (α:=DTerm) X.heap.size X.heap.size X (.agg #[.int .i64 0,.int .i64 0,.string ByteArray.empty,.slice none 0 0]) RepZ.zv:=zxG;refine (zkC h5 (xrf X) o6.is (xrf X) rfl).mono ?_;rintro _ w2_ ⟨y2,rfl⟩;refine zab zic<|zac ty3 (zc5 C) y2 λhI9=>zai<|br (λc1=>?_) (λc1=>?_)
 . refine zab zey ?_
   refine zaB ty9 (zbL C) y2 λgh=>?_;refine (zcw ).mono ?_;rintro _ w3_ ⟨y3,rfl⟩;refine zbz (λc2=>?_) (λc2=>?_)
   . refine zab zkz ?_
     refine zaa zdj (zdH C) (y2.t y3) λv17 gi=>?_;refine (zcU gi (y2.t y3)).mono ?_;rintro _ w4_ ⟨y4,rfl⟩;refine zbz (λc3=>?_) (λc3=>?_)
     . refine zab zg4 ?_
       refine zaa ziT (zdu C) (y2.t (y3.t y4)) λv22 g2=>?_;have g3:=zaj g2;refine zae u29 g2<|zab zfA<|zaa ziT (zc6 C) (y2.t (y3.t y4)) λv25 g4=>?_;have g5:=zaj g4;refine zae u29 g4<|zc1 (by obtain ⟨q1,q2⟩:=V oo oo;rw [q1,q2];simp [I64])<|zai<|⟨(y1.t (y2.t (y3.t y4))),?_⟩;rcases hr with ⟨k1,k2,k3,k4,k5⟩ | ⟨k1,k2,k3,k4,k5⟩ | ⟨k1,k2,k3,k4,k5⟩ | ⟨k1,k2,k3⟩ | ⟨k1,k2,k3,k4⟩<;>first | (exfalso;omega) | simp_all
     refine ⟨(y1.t (y2.t (y3.t y4))),?_⟩;rcases hr with ⟨k1,k2,k3,k4,k5⟩ | ⟨k1,k2,k3,k4,k5⟩ | ⟨k1,k2,k3,k4,k5⟩ | ⟨k1,k2,k3⟩ | ⟨k1,k2,k3,k4⟩<;>first | (exfalso;omega) | simp_all
   refine ⟨(y1.t (y2.t y3)),?_⟩;rcases hr with ⟨k1,k2,k3,k4,k5⟩ | ⟨k1,k2,k3,k4,k5⟩ | ⟨k1,k2,k3,k4,k5⟩ | ⟨k1,k2,k3⟩ | ⟨k1,k2,k3,k4⟩<;>first | (exfalso;omega) | simp_all
 refine zai<|br (λc4=>?_) (λc4=>?_)
 . refine zab zey ?_
   refine zaB ty9 (zbL C) y2 λgj=>zbe<|br (λc5=>?_) (λc5=>?_)
   . refine zab zkz ?_
     refine zaa zdj (zdH C) y2 λv37 gl=>?_;refine (zcU gl y2).mono ?_;rintro _ w5_ ⟨y5,rfl⟩;refine ⟨(y1.t (y2.t y5)),?_⟩;rcases hr with ⟨k1,k2,k3,k4,k5⟩ | ⟨k1,k2,k3,k4,k5⟩ | ⟨k1,k2,k3,k4,k5⟩ | ⟨k1,k2,k3⟩ | ⟨k1,k2,k3,k4⟩<;>first | (exfalso;omega) | simp_all
   refine ⟨(y1.t y2),?_⟩;rcases hr with ⟨k1,k2,k3,k4,k5⟩ | ⟨k1,k2,k3,k4,k5⟩ | ⟨k1,k2,k3,k4,k5⟩ | ⟨k1,k2,k3⟩ | ⟨k1,k2,k3,k4⟩<;>first | (exfalso;omega) | simp_all
 refine zai<|br (λc6=>?_) (λc6=>?_)
 . refine zab zey ?_
   refine zaB ty9 (zbL C) y2 λgp=>zbe<|br (λc7=>?_) (λc7=>?_)
   . refine zab zkz ?_
     refine zaa zdj (zdH C) y2 λv47 gq=>?_;refine (zcU gq y2).mono ?_;rintro _ w6_ ⟨y6,rfl⟩;refine zbz (λc8=>?_) (λc8=>?_)
     . refine zab zfA ?_
       refine zaa ziT (zc6 C) (y2.t y6) λv52 g9=>?_;have gb:=zaj g9;refine zae u29 g9<|zai<|⟨(y1.t (y2.t y6)),?_⟩;rcases hr with ⟨k1,k2,k3,k4,k5⟩ | ⟨k1,k2,k3,k4,k5⟩ | ⟨k1,k2,k3,k4,k5⟩ | ⟨k1,k2,k3⟩ | ⟨k1,k2,k3,k4⟩<;>first | (exfalso;omega) | simp_all
     refine ⟨(y1.t (y2.t y6)),?_⟩;rcases hr with ⟨k1,k2,k3,k4,k5⟩ | ⟨k1,k2,k3,k4,k5⟩ | ⟨k1,k2,k3,k4,k5⟩ | ⟨k1,k2,k3⟩ | ⟨k1,k2,k3,k4⟩<;>first | (exfalso;omega) | simp_all
   refine ⟨(y1.t y2),?_⟩;rcases hr with ⟨k1,k2,k3,k4,k5⟩ | ⟨k1,k2,k3,k4,k5⟩ | ⟨k1,k2,k3,k4,k5⟩ | ⟨k1,k2,k3⟩ | ⟨k1,k2,k3,k4⟩<;>first | (exfalso;omega) | simp_all
 refine zai<|br (λc9=>?_) (λc9=>?_)
 . refine zab zey ?_
   refine zaB ty9 (zbL C) y2 λU=>?_;refine (zcw ).mono ?_;rintro _ w7_ ⟨y7,rfl⟩;refine zbz (λgr=>?_) (λgr=>?_)
   . refine br (λgs=>?_) (λgs=>?_)
     . refine zab zg4 ?_
       refine zaa ziT (zdu C) (y2.t y7) λg0 D=>?_;have I:=zaj D;refine zae u29 D<|zab zfA<|zaa ziT (zc6 C) (y2.t y7) λg1 M=>?_;have O:=zaj M;refine zae u29 M<|zc1 (by obtain ⟨q1,q2⟩:=V oo oo;rw [q1,q2];simp [I64])<|zai<|⟨(y1.t (y2.t y7)),?_⟩;rcases hr with ⟨k1,k2,k3,k4,k5⟩ | ⟨k1,k2,k3,k4,k5⟩ | ⟨k1,k2,k3,k4,k5⟩ | ⟨k1,k2,k3⟩ | ⟨k1,k2,k3,k4⟩<;>first | (exfalso;omega) | simp_all
     refine ⟨(y1.t (y2.t y7)),?_⟩;rcases hr with ⟨k1,k2,k3,k4,k5⟩ | ⟨k1,k2,k3,k4,k5⟩ | ⟨k1,k2,k3,k4,k5⟩ | ⟨k1,k2,k3⟩ | ⟨k1,k2,k3,k4⟩<;>first | (exfalso;omega) | simp_all
   refine ⟨(y1.t (y2.t y7)),?_⟩;rcases hr with ⟨k1,k2,k3,k4,k5⟩ | ⟨k1,k2,k3,k4,k5⟩ | ⟨k1,k2,k3,k4,k5⟩ | ⟨k1,k2,k3⟩ | ⟨k1,k2,k3,k4⟩<;>first | (exfalso;omega) | simp_all
 refine zai<|br (λgt=>?_) (λgt=>?_)
 . refine zab zey ?_
   refine zaB ty9 (zbL C) y2 λU=>?_;refine (zcw ).mono ?_;rintro _ w8_ ⟨y8,rfl⟩;refine zbz (λgx=>?_) (λgx=>?_)
   . refine br (λgy=>?_) (λgy=>?_)
     . refine zab zg4 ?_
       refine zaa ziT (zdu C) (y2.t y8) λg0 D=>?_;have I:=zaj D;refine zae u29 D<|zab zfA<|zaa ziT (zc6 C) (y2.t y8) λg1 M=>?_;have O:=zaj M;refine zae u29 M<|zc1 (by obtain ⟨q1,q2⟩:=V oo oo;rw [q1,q2];simp [I64])<|zai<|⟨(y1.t (y2.t y8)),?_⟩;rcases hr with ⟨k1,k2,k3,k4,k5⟩ | ⟨k1,k2,k3,k4,k5⟩ | ⟨k1,k2,k3,k4,k5⟩ | ⟨k1,k2,k3⟩ | ⟨k1,k2,k3,k4⟩<;>first | (exfalso;omega) | simp_all
     refine ⟨(y1.t (y2.t y8)),?_⟩;rcases hr with ⟨k1,k2,k3,k4,k5⟩ | ⟨k1,k2,k3,k4,k5⟩ | ⟨k1,k2,k3,k4,k5⟩ | ⟨k1,k2,k3⟩ | ⟨k1,k2,k3,k4⟩<;>first | (exfalso;omega) | simp_all
   refine ⟨(y1.t (y2.t y8)),?_⟩;rcases hr with ⟨k1,k2,k3,k4,k5⟩ | ⟨k1,k2,k3,k4,k5⟩ | ⟨k1,k2,k3,k4,k5⟩ | ⟨k1,k2,k3⟩ | ⟨k1,k2,k3,k4⟩<;>first | (exfalso;omega) | simp_all
 refine zai<|br (λgz=>?_) (λgz=>?_)
 . refine zab zey ?_
   refine zaB ty9 (zbL C) y2 λU=>?_;refine (zcw ).mono ?_;rintro _ w9_ ⟨y9,rfl⟩;refine zbz (λgC=>?_) (λgC=>?_)
   . refine br (λgD=>?_) (λgD=>?_)
     . refine zab zg4 ?_
       refine zaa ziT (zdu C) (y2.t y9) λg0 D=>?_;have I:=zaj D;refine zae u29 D<|zab zfA<|zaa ziT (zc6 C) (y2.t y9) λg1 M=>?_;have O:=zaj M;refine zae u29 M<|zc1 (by obtain ⟨q1,q2⟩:=V oo oo;rw [q1,q2];simp [I64])<|zai<|⟨(y1.t (y2.t y9)),?_⟩;rcases hr with ⟨k1,k2,k3,k4,k5⟩ | ⟨k1,k2,k3,k4,k5⟩ | ⟨k1,k2,k3,k4,k5⟩ | ⟨k1,k2,k3⟩ | ⟨k1,k2,k3,k4⟩<;>first | (exfalso;omega) | simp_all
     refine ⟨(y1.t (y2.t y9)),?_⟩;rcases hr with ⟨k1,k2,k3,k4,k5⟩ | ⟨k1,k2,k3,k4,k5⟩ | ⟨k1,k2,k3,k4,k5⟩ | ⟨k1,k2,k3⟩ | ⟨k1,k2,k3,k4⟩<;>first | (exfalso;omega) | simp_all
   refine ⟨(y1.t (y2.t y9)),?_⟩;rcases hr with ⟨k1,k2,k3,k4,k5⟩ | ⟨k1,k2,k3,k4,k5⟩ | ⟨k1,k2,k3,k4,k5⟩ | ⟨k1,k2,k3⟩ | ⟨k1,k2,k3,k4⟩<;>first | (exfalso;omega) | simp_all
 refine zai<|br (λgE=>?_) (λgE=>?_)
 . refine zab zey ?_
   refine zaB ty9 (zbL C) y2 λU=>?_;refine (zcw ).mono ?_;rintro _ gF ⟨Y,rfl⟩;refine zbz (λgG=>?_) (λgG=>?_)
   . refine br (λgH=>?_) (λgH=>?_)
     . refine zab zg4 ?_
       refine zaa ziT (zdu C) (y2.t Y) λg0 D=>?_;have I:=zaj D;refine zae u29 D<|zab zfA<|zaa ziT (zc6 C) (y2.t Y) λg1 M=>?_;have O:=zaj M;refine zae u29 M<|zc1 (by obtain ⟨q1,q2⟩:=V oo oo;rw [q1,q2];simp [I64])<|zai<|⟨(y1.t (y2.t Y)),?_⟩;rcases hr with ⟨k1,k2,k3,k4,k5⟩ | ⟨k1,k2,k3,k4,k5⟩ | ⟨k1,k2,k3,k4,k5⟩ | ⟨k1,k2,k3⟩ | ⟨k1,k2,k3,k4⟩<;>first | (exfalso;omega) | simp_all
     refine ⟨(y1.t (y2.t Y)),?_⟩;rcases hr with ⟨k1,k2,k3,k4,k5⟩ | ⟨k1,k2,k3,k4,k5⟩ | ⟨k1,k2,k3,k4,k5⟩ | ⟨k1,k2,k3⟩ | ⟨k1,k2,k3,k4⟩<;>first | (exfalso;omega) | simp_all
   refine ⟨(y1.t (y2.t Y)),?_⟩;rcases hr with ⟨k1,k2,k3,k4,k5⟩ | ⟨k1,k2,k3,k4,k5⟩ | ⟨k1,k2,k3,k4,k5⟩ | ⟨k1,k2,k3⟩ | ⟨k1,k2,k3,k4⟩<;>first | (exfalso;omega) | simp_all
 refine zai<|br (λgI=>?_) (λgI=>?_)
 . refine zab zey ?_
   refine zaB ty9 (zbL C) y2 λgJ=>zbe<|br (λgK=>?_) (λgK=>?_)
   . refine br (λgM=>?_) (λgM=>?_)
     . refine zab zg4 ?_
       refine zaa ziT (zdu C) y2 λv87 gc=>?_;have gd:=zaj gc;refine zae u29 gc<|zab zfA<|zaa ziT (zc6 C) y2 λv90 gf=>?_;have gg:=zaj gf;refine zae u29 gf<|zc1 (by obtain ⟨q1,q2⟩:=V oo oo;rw [q1,q2];simp [I64])<|zai<|⟨(y1.t y2),?_⟩;rcases hr with ⟨k1,k2,k3,k4,k5⟩ | ⟨k1,k2,k3,k4,k5⟩ | ⟨k1,k2,k3,k4,k5⟩ | ⟨k1,k2,k3⟩ | ⟨k1,k2,k3,k4⟩<;>first | (exfalso;omega) | simp_all
     refine ⟨(y1.t y2),?_⟩;rcases hr with ⟨k1,k2,k3,k4,k5⟩ | ⟨k1,k2,k3,k4,k5⟩ | ⟨k1,k2,k3,k4,k5⟩ | ⟨k1,k2,k3⟩ | ⟨k1,k2,k3,k4⟩<;>first | (exfalso;omega) | simp_all
   refine ⟨(y1.t y2),?_⟩;rcases hr with ⟨k1,k2,k3,k4,k5⟩ | ⟨k1,k2,k3,k4,k5⟩ | ⟨k1,k2,k3,k4,k5⟩ | ⟨k1,k2,k3⟩ | ⟨k1,k2,k3,k4⟩<;>first | (exfalso;omega) | simp_all
 refine ⟨(y1.t y2),?_⟩;rcases hr with ⟨k1,k2,k3,k4,k5⟩ | ⟨k1,k2,k3,k4,k5⟩ | ⟨k1,k2,k3,k4,k5⟩ | ⟨k1,k2,k3⟩ | ⟨k1,k2,k3,k4⟩<;>first | (exfalso;omega) | simp_all
def zxI (c:Scp) (n:Nat) (l:List DStmt):Prop:=∀ {w W:World} {v:Value} {d:Int},Is W v l->Ext W w->(∀ x∈l,StR c n x)->(n:Int)<=d->d<=6 ->
 CALL tp 331 [v,.int .i64 d] w λr w'=>Ext w w'/\r=.bool true
def zi1 {c:Scp} {l:List DStmt} (hp:zEQ c) (ih:∀ m l,m+1=n->zxI c m l):zxI c n l:=by
 intro w W v d h e hs hd0 hd1;have hln:=zaj h;refine co (g:=kf [(6,66846848,[7])] [(2,36028797018963952,[5])] []) Tryz.func331 ?_;refine zao l.length (λk us w'=>us=[.int .i64 (k:Int)]/\Ext w w'/\k<=l.length) 0 (z0 _) ⟨rfl,xrf w,qbJ _⟩ ?_;rintro k m u w1 hkm ⟨hu,C,hkl⟩;try replace hu:=zbt hu
 rw [hu];refine zae u29 h<|zag<|br (λhlt=>?_) (λhge=>?_)
 . have hk:k<l.length:=oo
   obtain ⟨x,hx⟩:∃ x,x=l[k]:=⟨_,rfl⟩;have g3:StR c n x:=by rw [hx];exact hs _ (qab hk)
   refine zad u29 ze6 h hk λb16 o16 g0=>?_;rw [<-hx] at g0;refine zaa ze6 g0 (e.trans C) λv17 gb=>zck zEc rfl ze6 rfl gb (e.trans C) λw2 g4 g2 gc=>JOIN.mk (λus w'=>us=[.bool (decide (x.kind=2\/x.kind=3))]/\Ext w2 w') ?_ ?_
   . refine zab zic ?_
     refine zac ty3 (zc5 g2) (xrf _) λhI=>zai<|br (λh2=>?_) (λh2=>?_)
     . exact ⟨by rw [decide_eq_true (.inl h2)],xrf _⟩
     refine zab zic<|zac ty3 (zc5 g2) (xrf _) λhI=>zai<|⟨by simp [h2],xrf _⟩
   rintro u6 w3 ⟨hu,g5⟩;try replace hu:=zbt hu
   rw [hu];refine zaF gc g5 ?_;refine (zxH gb ((e.trans C).trans (g4.t g5)) (g3.one hp)).mono ?_;rintro _ w4 ⟨gd,rfl⟩;have r:=g5.t gd;refine zaV<|zbz (λhc=>by simp at hc) (λ_=>?_);refine gbr (λhm=>?_) (λhm=>?_)
   . have hn0:0<n:=by
       rcases qbx n with h0 | h0
       . subst h0
         rcases g3.zero with q | q | q | q<;>(have:=q.1;omega)
       exact h0
     have g1:(∀ y∈x.body,StR c (n-1) y)/\∀ y∈x.els,StR c (n-1) y:=by
       obtain ⟨q,rfl⟩:∃ q,n=q+1:=⟨n-1,oo⟩;rcases g3.succ with h | ⟨_,_,_,h4,h5⟩
       . exfalso
         rcases h with q | q | q | q<;>(have:=q.1;omega)
       exact ⟨h4,h5⟩
     refine zai<|br (λhc=>oo) (λ_=>?_);refine gbr (λ_=>?_) (λhc=>absurd hm hc);refine zab zg4<|zaa ziT (zdu g2) r λv40 gf=>zbc (by unfold I64;omega) ?_;refine (ih (n-1) _ oo gf r g1.1 oo oo).mono ?_;rintro _ w5 ⟨g9,rfl⟩;refine zaV<|zzz (λhc=>by simp at hc) (λ_=>?_);refine zab zfA<|zaa ziT (zc6 g2) (r.t g9) λv47 gg=>zbc (by unfold I64;omega) ?_;refine (ih (n-1) _ oo gg (r.t g9) g1.2 oo oo).mono ?_;rintro _ w6 ⟨gh,rfl⟩;refine zaV<|zbz (λhc=>by simp at hc) (λ_=>?_);refine zau<|⟨m-1,oo,k+1,oo,rfl,C.t (g4.t (r.t (g9.t gh))),oo⟩
   refine gbr (λhc=>absurd hc hm) (λ_=>?_);refine zau<|⟨m-1,oo,k+1,oo,rfl,C.t (g4.t r),oo⟩
 exact ⟨C,rfl⟩
theorem zl4 {c:Scp} (hp:zEQ c):∀ (n:Nat) (l:List DStmt),zxI c n l
 | 0,l=>zi1 (n:=0) (l:=l) hp (λm l h=>absurd h oo)
 | n + 1, l => zi1 (n := n + 1) (l := l) hp λm l h => by
     obtain rfl:m=n:=oo
     exact zl4 hp m l
def zzW {c:Scp} {l:List DStmt} (hp:zEQ c) (h:Is W v l) (e:Ext W w) (hb:zu6 c l):CALL tp 299 [v] w λr w'=>Ext w w'/\r=.bool true:=by
 refine co (g:=kf [] [] []) Tryz.func299 ?_;refine (zl3 l h e oo oo).mono ?_;rintro _ w1 ⟨g0,rfl⟩;refine zcb ?_;have hc:=(zjQ l 60).1 (by have:=hb.2;omega);refine br (λ_=>?_) (λhn=>by have:=hb.2;omega);refine (zl4 hp 2 l h (e.trans g0) hb.1 oo oo).mono ?_;rintro _ w2 ⟨g1,rfl⟩;exact ⟨g0.t g1,rfl⟩
def zl5 {p:DProg} (h:Is W v p) (e:Ext W w) (hn:p.procs.length<=1000):CALL tp 251 [v] w λr w'=>Ext w w'/\Own w.heap.size w' r (p.procs.map DProc.name):=by
 refine co (g:=kf [] [(3,4194264,[3,4])] []) Tryz.func251 ?_;refine za9 h e λw1 g1 hA=>?_;have hs1:=g1.size;refine zaK (α:=ByteArray) u24 ty9 λv5 w2 g2 r5=>?_;have hs2:=g2.size
 refine zao p.procs.length (λk us w'=>∃ v hi,us=[v,.int .i64 (k:Int)]/\k<=p.procs.length/\Ext w1 w'/\RowI w2.heap.size hi 9 w' v ((p.procs.take k).map DProc.name)/\hi<=w'.heap.size/\w2.heap.size<=hi) 0 (z0 _)
   ⟨.slice (some v5) 0 0,w2.heap.size,rfl,z0 _,g2,r5,lr _,qas _⟩ ?_
 rintro k m u w3 hkm ⟨v3,hi,hu,hkl,C,r3,hhi,hlo⟩;obtain ⟨g4,g5⟩:=zcB hu;rw [g4,g5];refine zab zfg<|zaa zr3 (zcj hA) C λv8 h8=>zae u25 h8<|zag<|br (λhlt=>?_) (λhge=>?_)
 . have hk:k<p.procs.length:=oo
   refine zab zfg<|zaa zr3 (zcj hA) C λv15 g9=>zad u25 zBF g9 hk λb17 o17 g0=>zab ztt<|zaB ty9 (zhF g0) C λhS=>?_;have hs3:=C.size;refine zbO (α:=ByteArray) (lo2:=w3.heap.size) (hi2:=w3.heap.size) u24 ty9 z9 zc9 qd r3 oo (zzC hS) oo oo (by rw [zal,qav,qai];omega) (by rw [qav,qai];omega) λgb w4 g3 r4=>?_;have hs4:=g3.size;refine zau<|⟨m-1,oo,k+1,oo,gb,w4.heap.size,rfl,oo,Ext.chgI C g3 oo,?_,lr _,oo⟩;rw [tk hk,qa6];exact r4
 refine ⟨g1.t C,?_⟩;rw [qaf oo] at r3;exact r3.own.own.mono oo
def zi2 {l:List ByteArray} {s:ByteArray} (h:Is W vk l) (e:Ext W w) (hm:s∈l):CALL tp 332 [vo,vk,.string s] w λr w'=>Ext w w'/\r=vo:=by
 refine co (g:=kf [] [] []) Tryz.func332 ?_;refine (zlM h e).mono ?_;rintro _ w1 ⟨g0,rfl⟩;exact br (λ_=>⟨g0,rfl⟩) (λhn=>absurd hm hn)
def zDE (p:DProg) (c:Scp) (n:Nat) (l:List DStmt):Prop:=∀ {w W W':World} {v vp vo:Value},Is W vp p->Ext W w->Is W' v l->Ext W' w->(∀ x∈l,StR c n x) ->
 CALL tp 300 [vp,v,vo] w λr w'=>Ext w w'/\r=vo
def zhj {p:DProg} {c:Scp} {l:List DStmt} (hg:p.globals=c.gl) (hl:p.locks=c.lk) (gN:∀ x∈c.pr,x∈p.procs.map DProc.name) (gK:p.procs.length<=1000) (ih:∀ m l,m+1=n->zDE p c m l):zDE p c n l:=by
 intro w W W' v vp vo hP eP h e hs;have hln:=zaj h;refine co (g:=kf [(14,562949951324164,[2]),(20,604462909244364633933316,[2])] [(2,618970019642690137449561988,[2,7]),(17,604426016319167168250884,[2,10])] [(13,[0,1,3,4,2,5,6],4),(19,[0,1,2,3,4,5,6,7,8],0)]) Tryz.func300 ?_;refine za9 hP eP λw0 g4 U=>zao l.length (λk us w'=>us=[vo,.int .i64 (k:Int)]/\Ext w0 w'/\k<=l.length) 0 (z0 _) ⟨rfl,xrf _,qbJ _⟩ ?_;rintro k m u w1 gy ⟨hu,Y,hkl⟩;obtain ⟨Z,g0⟩:=zcB hu;clear hu;rw [Z,g0];refine zae u29 h<|zag<|br (λgb=>?_) (λgp=>⟨g4.t Y,rfl⟩);have hk:k<l.length:=oo
 obtain ⟨x,hx⟩:∃ x,x=l[k]:=⟨_,rfl⟩;have g5:StR c n x:=by rw [hx];exact hs _ (qab hk)
 have gz:(x.kind=1->x.name∈c.gl)/\(x.kind=6\/x.kind=7->x.name∈c.lk)/\(x.kind=4\/x.kind=5->x.name∈c.pr)/\(x.kind=1\/x.kind=2\/x.kind=3->TmR c.gl x.term):=by
   have h0:St0 c x->(x.kind=1->x.name∈c.gl)/\(x.kind=6\/x.kind=7->x.name∈c.lk)/\(x.kind=4\/x.kind=5->x.name∈c.pr)/\(x.kind=1\/x.kind=2\/x.kind=3->TmR c.gl x.term):=λq=>by
     rcases q with q | q | q | q
     . exact ⟨λ_=>q.2.1,λ_=>by have:=q.1;omega,λ_=>by have:=q.1;omega,λ_=>q.2.2.1⟩
     . exact ⟨λ_=>by have:=q.1;omega,λ_=>by have:=q.1;omega,λ_=>q.2.1,λ_=>by have:=q.1;omega⟩
     . exact ⟨λ_=>by have:=q.1;omega,λ_=>q.2.1,λ_=>by have:=q.1;omega,λ_=>by have:=q.1;omega⟩
     exact ⟨λ_=>by have:=q.1;omega,λ_=>by have:=q.1;omega,λ_=>by have:=q.1;omega,λ_=>by have:=q.1;omega⟩
   cases n with
   | zero=>exact h0 g5.zero
   | succ n=>
     rcases g5.succ with q | ⟨h1,h2,h3,_,_⟩
     . exact h0 q
     exact ⟨λ_=>oo,λ_=>oo,λ_=>oo,λ_=>h3⟩
 obtain ⟨gC,gD,gE,gF⟩:=gz;refine zad u29 ze6 h hk λb19 o19 g1=>?_;rw [<-hx] at g1;have gq:=e.trans (g4.t Y);refine zaa ze6 g1 gq λv20 gG=>zck zEc rfl ze6 rfl gG gq λw2 gH M hV8=>?_;have r:=Y.t gH;refine JOIN.mk (λus w'=>us=[vo]/\Ext w2 w') ?_ ?_
 . refine zab zic ?_
   refine zac ty3 (zc5 M) (xrf _) λhI=>zai<|br (λh1=>?_) (λh1=>?_)
   . refine zab znC ?_
     refine zaa zcv (zf5 U) r λgI gc=>zab zey<|zaB ty9 (zbL M) (xrf _) λhS=>?_;refine (zi2 gc r (by rw [hg];exact gC h1)).mono ?_;rintro _ w3 ⟨O,rfl⟩;exact ⟨rfl,O⟩
   refine zai<|ztM (Q:=x.kind=6\/x.kind=7) .inl (λhQ=>?_) (λg9 h6=>?_)
   . refine zab zqc ?_
     refine zaa zcv (zhG U) r λgI gc=>zab zey<|zaB ty9 (zbL M) (xrf _) λhS=>?_;refine (zi2 gc r (by rw [hl];exact gD hQ)).mono ?_;rintro _ w3 ⟨O,rfl⟩;exact ⟨rfl,O⟩
   refine zai<|br (λh7=>g9 (.inr h7)) (λh7=>?_);refine zai<|ztM (Q:=x.kind=4\/x.kind=5) .inl (λhQ=>?_) (λgd h4=>?_)
   . have O:=zah w2
     refine zaa zqb U (r.t O) λv44 gJ=>zab zey<|zaB ty9 (zbL M) O λhS=>?_;refine (zl5 gJ (r.t O) gK).mono ?_;rintro v45 w4 ⟨gr,gM⟩;refine ⟨gr,?_⟩;refine (zi2 gM.is (xrf _) (gN _ (gE hQ))).mono ?_;rintro _ w5 ⟨gO,rfl⟩;exact ⟨rfl,O.t (gr.t gO)⟩
   refine zai<|br (λh5=>gd (.inr h5)) λh5=>⟨rfl,xrf _⟩
 rintro u14 w6 ⟨hu,V⟩;try replace hu:=zbt hu
 rw [hu];refine JOIN.mk (λus w'=>us=[vo]/\Ext w6 w') ?_ ?_
 . refine zab zic ?_
   refine zac ty3 (zc5 M) V λhI=>zai<|ztM (Q:=x.kind=1\/x.kind=2\/x.kind=3) .inl (λhQ=>?_) (λg9 h1=>?_)
   . have hT:=gF hQ
     refine zab zkz<|zaa zdj (zdH M) V λv63 gP=>?_;refine (zeo gP V).mono ?_;rintro v64 w7 ⟨gs,gt⟩;have hrl:=zr9 x.term;refine zao (zbT x.term).length (λq us w'=>us=[vo,.int .i64 (q:Int)]/\Ext w7 w'/\q<=(zbT x.term).length) 0 (z0 _) ⟨rfl,xrf _,qbJ _⟩ ?_;rintro q mq uq w8 hqm ⟨hu,gx,hql⟩;obtain ⟨Z,g0⟩:=zcB hu;clear hu;rw [Z,g0];refine zae u24 gt<|zag<|br (λgb=>?_) (λgp=>⟨rfl,gs.t gx⟩);have hq:q<(zbT x.term).length:=oo
     have gQ:=zah w8;have X:=gx.t gQ;have g2:=r.t (V.t (gs.t X));refine zab znC<|zaa zcv (zf5 U) g2 λv73 gR=>zad u24 ty9 gt hq λb76 o76 gf=>zaB ty9 gf X λhS=>?_;refine (zi2 gR g2 (by rw [hg];exact hT.2.1 _ (qab hq))).mono ?_;rintro _ w10 ⟨gg,rfl⟩;refine zau<|⟨mq-1,oo,q+1,oo,rfl,X.t gg,oo⟩
   refine zab zic<|zac ty3 (zc5 M) V λhI=>zai<|br (λh2=>g9 (.inr (.inl h2))) (λh2=>?_);refine zab zic<|zac ty3 (zc5 M) V λhI=>zai<|br (λh3=>g9 (.inr (.inr h3))) (λh3=>⟨rfl,xrf _⟩)
 rintro u20 w11 ⟨hu,gh⟩;try replace hu:=zbt hu
 rw [hu];have C:=V.t gh;have D:=r.t C
 have gi:∃ q,(∀ y∈x.body,StR c q y)/\(∀ y∈x.els,StR c q y)/\(q+1=n\/(x.body=[]/\x.els=[])):=by
   have h0:St0 c x->x.body=[]/\x.els=[]:=λh=>by rcases h with q | q | q | q<;>exact ⟨q.2.2.2.1,q.2.2.2.2⟩
   cases n with
   | zero=>
     obtain ⟨h1,h2⟩:=h0 g5.zero;exact ⟨0,by rw [h1];simp,by rw [h2];simp,.inr ⟨h1,h2⟩⟩
   | succ n=>
     rcases g5.succ with q | ⟨_,_,_,h4,h5⟩
     . obtain ⟨h1,h2⟩:=h0 q
       exact ⟨0,by rw [h1];simp,by rw [h2];simp,.inr ⟨h1,h2⟩⟩
     exact ⟨n,h4,h5,.inl rfl⟩
 obtain ⟨q,hb,he,hq⟩:=gi
 have g3:zDE p c q []:=by
   intro w W W' v vp vo hP eP h e hs;refine co (g:=kf [(14,562949951324164,[2]),(20,604462909244364633933316,[2])] [(2,618970019642690137449561988,[2,7]),(17,604426016319167168250884,[2,10])] [(13,[0,1,3,4,2,5,6],4),(19,[0,1,2,3,4,5,6,7,8],0)]) Tryz.func300 ?_;refine za9 hP eP λw0 g4 U=>zao 0 (λk us w'=>us=[vo,.int .i64 (k:Int)]/\Ext w0 w') 0 (z0 _) ⟨rfl,xrf _⟩ ?_;rintro k m u w1 gy ⟨hu,Y⟩;obtain ⟨Z,g0⟩:=zcB hu;rw [Z,g0];refine zae u29 h<|zag<|br (λgb=>by simp at gb;omega) (λgp=>⟨g4.t Y,rfl⟩)
 have gS:zDE p c q x.body:=by
   rcases hq with hq | ⟨h1,_⟩
   . exact ih q _ hq
   rw [h1];exact g3
 have gU:zDE p c q x.els:=by
   rcases hq with hq | ⟨_,h1⟩
   . exact ih q _ hq
   rw [h1];exact g3
 refine zaa zqb U D λv79 gV=>zab zg4<|zaa ziT (zdu M) C λv81 gW=>?_;refine (gS gV D gW C hb).mono ?_;rintro _ w12 ⟨I,rfl⟩;refine zaa zqb U (D.t I) λv84 gX=>zab zfA<|zaa ziT (zc6 M) (C.t I) λv86 gY=>?_;refine (gU gX (D.t I) gY (C.t I) he).mono ?_;rintro _ w13 ⟨gj,rfl⟩;refine zau<|⟨m-1,oo,k+1,oo,rfl,D.t (I.t gj),oo⟩
theorem zi3 {p:DProg} {c:Scp} (hg:p.globals=c.gl) (hl:p.locks=c.lk) (g0:∀ x∈c.pr,x∈p.procs.map DProc.name) (g1:p.procs.length<=1000):∀ (n:Nat) (l:List DStmt),zDE p c n l
 | 0,l=>zhj (n:=0) (l:=l) hg hl g0 g1 (λm l h=>absurd h oo)
 | n + 1, l => zhj (n := n + 1) (l := l) hg hl g0 g1 λm l h => by
     obtain rfl:m=n:=oo
     exact zi3 hg hl g0 g1 m l
def ProgR.facts {p:DProg} (hp:ProgR p):p.procs.length<=4/\(∀ x∈p.procs.map DProc.name,zbF x=true)/\(p.procs.map DProc.name).Nodup/\zh6∈p.procs.map DProc.name:=by
 obtain ⟨k,hk,hn⟩:=hp.n;obtain ⟨n1,n2,n3,n4⟩:=zqy k hk;rw [<-hn] at n1 n2 n3 n4;rw [qav] at n1;exact ⟨n1,λx hx=>qaI.1 n2 x hx,n3,n4⟩
def ProgR.gn {p:DProg} (hp:ProgR p):∀ x∈p.globals,zbF x=true:=by
 intro x hx;rcases hp.g with e | e<;>rw [e] at hx
 . exact zoW hx
 exact zoW (qbc hx)
def ProgR.ln {p:DProg} (hp:ProgR p):∀ x∈p.locks,zbF x=true:=by
 intro x hx;rcases hp.l with e | e | e<;>rw [e] at hx
 . exact zoX hx
 . exact zoX (qbc hx)
 exact zoX (qbc hx)
def zqA {p:DProg} (h:Is W v p) (e:Ext W w) (hp:ProgR p):CALL tp 250 [v] w λr w'=>Ext w w'/\r=.bool true:=by
 obtain ⟨f1,f2,f3,f4⟩:=hp.facts;refine co (g:=kf [] [(4,35184371040268,[3])] []) Tryz.func250 ?_;refine za9 h e λw1 g9 hA=>zab znC<|zaa zcv (zf5 hA) (xrf _) λv5 h5=>?_;refine (zfk h5 (xrf _)).mono ?_;rintro _ w2 ⟨g3,rfl⟩;refine zaV<|zbz (λhc=>by rcases hp.g with e | e<;>(rw [e] at hc;exact absurd hc qd)) (λ_=>?_);refine zab zqc<|zaa zcv (zhG hA) g3 λv10 gb=>?_;refine (zfk gb g3).mono ?_;rintro _ w3 ⟨gc,rfl⟩;refine zaV<|zbz (λhc=>by rcases hp.l with e | e | e<;>(rw [e] at hc;exact absurd hc qd)) (λ_=>?_);have g0:=g3.t gc;refine zab zfg<|zaa zr3 (zcj hA) g0 λv16 gd=>zae u25 gd<|zcK<|br (λhc=>oo) (λ_=>?_);refine zao p.procs.length (λk us w'=>us=[.int .i64 (k:Int)]/\Ext w1 w'/\k<=p.procs.length) 0 (z0 _) ⟨rfl,g0,qbJ _⟩ ?_;rintro k m u w4 hkm ⟨hu,C,hkl⟩;try replace hu:=zbt hu
 rw [hu];refine zab zfg<|zaa zr3 (zcj hA) C λv22 gf=>zae u25 gf<|zag<|br (λhlt=>?_) (λhge=>⟨g9.t C,rfl⟩);have hk:k<p.procs.length:=oo
 have g1:p.procs[k]∈p.procs:=qab hk;refine zab zfg<|zaa zr3 (zcj hA) C λv28 gg=>zad u25 zBF gg hk λb30 o30 g4=>zab ztt<|zaB ty9 (zhF g4) C λhS=>?_;refine (zcw (w:=w4)).mono ?_;rintro _ w5 ⟨g2,rfl⟩;refine zaV<|zbz (λhc=>by rw [f2 _ (qaZ.2 ⟨_,g1,rfl⟩)] at hc;cases hc) (λ_=>?_);refine zab zfg<|zaa zr3 (zcj hA) (C.t g2) λv37 gh=>zad u25 zBF gh hk λb39 o39 g5=>zab zxd<|zaa ziT (zjH g5) (C.t g2) λv41 gi=>?_;refine (zzW ⟨hp.gn,hp.ln,λx hx=>f2 x (qbI hx)⟩ gi (C.t g2) (hp.b _ g1)).mono ?_;rintro _ w6 ⟨gj,rfl⟩;refine zaV<|zbz (λhc=>by cases hc) (λ_=>?_);refine zau<|⟨m-1,oo,k+1,oo,rfl,C.t (g2.t gj),oo⟩
def zqB {p:DProg} (h:Is W v p) (e:Ext W w) (hp:ProgR p):CALL tp 252 [v] w λr w'=>Ext w w'/\Is w' r ([]:List ByteArray):=by
 obtain ⟨f1,f2,f3,f4⟩:=hp.facts;refine co (g:=kf [] [(3,67108824,[3,4])] [(5,[0,1,2,3,4,5,6,7,8,9],0)]) Tryz.func252 ?_;refine za9 h e λw1 g5 hA=>zaK (α:=ByteArray) u24 ty9 λv5 w2 g9 r5=>zao p.procs.length (λk us w'=>us=[.slice (some v5) 0 0,.int .i64 (k:Int)]/\Ext w2 w'/\k<=p.procs.length) 0 (z0 _) ⟨rfl,xrf _,qbJ _⟩ ?_;rintro k m u w3 hkm ⟨hu,g0,hkl⟩;obtain ⟨gb,gc⟩:=zcB hu;rw [gb,gc];have D:=g9.t g0;refine zaa zqb hA D λv6 h6=>?_;refine (zqA h6 D hp).mono ?_;rintro _ w4 ⟨g1,rfl⟩;have I:=D.t g1;refine zbz (λ_=>?_) (λhc=>by cases hc);refine zab zfg<|zaa zr3 (zcj hA) I λv11 gd=>zae u25 gd<|zag<|br (λhlt=>?_) (λhge=>⟨g5.t I,r5.is.ext (g0.t g1)⟩);have hk:k<p.procs.length:=oo
 have g2:p.procs[k]∈p.procs:=qab hk;have g4:=zah w4;have C:=I.t g4;refine zaa zqb hA C λv17 gf=>zab zfg<|zaa zr3 (zcj hA) C λv19 gg=>zad u25 zBF gg hk λb21 o21 g3=>zab zxd<|zaa ziT (zjH g3) C λv23 gh=>?_;refine (zi3 rfl rfl (λx hx=>qbI hx) oo 2 _ gf C gh C (hp.b _ g2).1).mono ?_;rintro _ w6 ⟨gi,rfl⟩;refine zau<|⟨m-1,oo,k+1,oo,rfl,g0.t (g1.t (g4.t gi)),oo⟩
def zl6 {p:DProg} {s:ByteArray}  (h0:Is W0 v0 p) (e0:Ext W0 w)  :
   CALL tp 253 [v0,.string s] w λr w'=>Ext w w'/\(r=.int .i64 (plc s (p.procs.map DProc.name))):=by
 refine co (g:=kf [] [(2,4194288,[5])] []) Tryz.func253 ?_;refine zat zqb rfl h0 e0 λg0 y1 g1 hV2=>zao (p.procs.length) (λk us w'=>us=[.int .i64 (k:Int)]/\Ext g0 w'/\(s∉(p.procs.map DProc.name).take k)) (0) oo ⟨sS,xrf g0,sS⟩ ?_;rintro k m2 uu2 w2_ hk2 ⟨hu,y2,C⟩;try replace hu:=zbt hu
 try rw [hu]
 try clear hu
 refine zab zfg<|zaa zr3 (zcj g1) y2 λv8 h8=>?_;have g2:=zaj h8;refine zae u25 h8<|zag<|br (λc1=>?_) (λc1=>?_)
 . refine zab zfg ?_
   refine zaa zr3 (zcj g1) y2 λv14 g3=>zad u25 zBF g3 oo λb16 o16 g4=>zab ztt<|zaB ty9 (zhF g4) y2 λg5=>zbe<|br (λc2=>?_) (λc2=>?_)
   . refine ⟨(y1.t y2),?_⟩
     rw [znI (k:=k) (by rw [qav];omega) C (by rw [qbH];assumption)]
   refine zau<|⟨m2-1,oo,k+1,oo,sS,y2,?_⟩;refine zc7 (by rw [qav];omega) C ?_;rw [qbH];assumption
 refine ⟨(y1.t y2),?_⟩;rw [zk7 (by rw [qaf (by rw [qav];omega)] at C;exact C)]
def zqC {p:DProg} (h:Is W v p) (e:Ext W w) (hp:ProgR p):CALL tp 202 [v] w λr w'=>Ext w w'/\r=.int .i64 0:=by
 obtain ⟨f1,f2,f3,f4⟩:=hp.facts;refine co (g:=kf [] [] []) Tryz.func202 ?_;refine za9 h e λw1 g1 hA=>zaa zqb hA (xrf _) λv4 h4=>?_;refine (zqA h4 (xrf _) hp).mono ?_;rintro _ w2 ⟨g0,rfl⟩;refine zaV<|zbz (λhc=>by cases hc) (λ_=>?_);refine zab znC<|zaa zcv (zf5 hA) g0 λv9 h9=>?_;refine (zei h9 g0).mono ?_;rintro _ w3 ⟨g2,rfl⟩;have C:=g0.t g2;refine br (λhc=>by rcases hp.g with e | e<;>(rw [e] at hc;exact absurd qd hc)) (λ_=>?_);refine zab zqc<|zaa zcv (zhG hA) C λv13 g3=>?_;refine (zei g3 C).mono ?_;rintro _ w4 ⟨g4,rfl⟩;have D:=C.t g4;refine br (λhc=>by rcases hp.l with e | e | e<;>(rw [e] at hc;exact absurd qd hc)) (λ_=>?_);refine zaa zqb hA D λv17 g5=>?_;refine (zl5 g5 D oo).mono ?_;rintro v18 w5 ⟨g9,gb⟩;refine (zei gb.is (xrf _)).mono ?_;rintro _ w6 ⟨gc,rfl⟩;have I:=D.t (g9.t gc);refine br (λhc=>absurd f3 hc) (λ_=>?_);refine zaa zqb hA I λv22 gd=>?_;refine (zqB gd I hp).mono ?_;rintro v23 w7 ⟨gf,gg⟩;have M:=I.t gf;refine zae u24 gg<|zcK<|br (λhc=>by simp at hc) (λ_=>?_);refine zaa zqb hA M λv27 gh=>?_;refine (zl6 gh M).mono ?_;rintro _ w8 ⟨gi,rfl⟩;refine zag ?_;have hm:=zfR.2 f4;refine br (λhc=>by unfold zh6 at hm;omega) (λ_=>?_);exact ⟨g1.t (M.t gi),rfl⟩
end Go.Proofs.YtcnglfeoglgebaaGreat
namespace Go.Sh
open Rep (rep)
open Go.Sort Go.Proofs
section
variable {α:Type} [Inhabited α] {enc:α->List Value} {k:Nat}
theorem ztN (hk:∀ x,(enc x).length=k):∀ (l:List α),(l.flatMap enc).length=l.length*k
 | []=>by simp
 | x :: l=>by rw [qbs,qag,hk,ztN hk l,qaj,qbi];omega
theorem ztO (hk:∀ x,(enc x).length=k) (h0:0<k):∀ {l:List α} {t:Nat},t<l.length*k->(l.flatMap enc)[t]?=some ((enc l[t / k]!)[t%k]!)
 | [],t,h=>by simp at h
 | x :: l,t,h=>by
   rw [qbs];rcases qaA t k with ht | ht
   . rw [List.getElem?_append_left (by rw [hk];exact ht),qca ht,qbn ht]
     have:t<(enc x).length:=by rw [hk];exact ht
     rw [List.getElem?_eq_getElem this];simp [this]
   rw [List.getElem?_append_right (by rw [hk];exact ht),hk];have h':t-k<l.length*k:=by rw [qaj,qbi] at h;omega
   rw [ztO hk h0 h']
   have e1:t / k=(t-k) / k+1:=by
     have:t=(t-k)+k:=oo
     conv=>lhs;rw [this]
     rw [Nat.add_div_right _ h0]
   have e2:t%k=(t-k)%k:=by
     have:t=(t-k)+k:=oo
     conv=>lhs;rw [this]
     rw [Nat.add_mod_right]
   rw [e1,e2];simp
def zqD (hk:∀ x,(enc x).length=k) (h0:0<k) {l:List α} {t:Nat} (h:t<l.length*k):(l.flatMap enc)[t]?=some (flatK enc k l.toArray)[t]!:=by
 rw [ztO hk h0 h,get_flatK enc k l.toArray t (by simpa using h)];simp
end
section
variable {α:Type} [Rep α] [Flat α] [Inhabited α] {w:World} {enc:α->List Value} {b o n cap:Nat} {l:List α}
theorem zqE (henc:∀ {F w cs} {x:α},rep F w cs x->cs=enc x):∀ {l:List α} {F:List Nat} {xs:List Value},Cells F w xs l->xs=l.flatMap enc
 | [],_,_,⟨_,h⟩=>by simp [h]
 | y :: ys,_,_,⟨F1,F2,c1,c2,_,h,h1,h2⟩=>by rw [h,henc h1,zqE henc h2,qbs]
theorem zqF {w':World} (henc:∀ {F w cs} {x:α},rep F w cs x->cs=enc x):∀ {l:List α},(∀ x∈l,∃ F cs,rep F w cs x)->Cells [] w' (l.flatMap enc) l
 | [],_=>⟨rfl,rfl⟩
 | y :: ys,h=>by
   obtain ⟨F,cs,hr⟩:=h y sS;have hF:=Flat.flat hr;subst hF;have hc:=henc hr;subst hc;exact ⟨[],[],enc y,ys.flatMap enc,rfl,rfl,Rep.keep hr sS,zqF henc λx hx=>h x (by simp [hx])⟩
theorem zqG:∀ {l:List α} {F:List Nat} {xs:List Value},Cells F w xs l->∀ x∈l,∃ F cs,rep F w cs x
 | y :: ys,_,_,⟨F1,F2,c1,c2,_,h,h1,h2⟩,x,hx=>by
   rcases qaa.1 hx with rfl | hx
   . exact ⟨_,_,h1⟩
   exact zqG h2 x hx
def zl7 (g0:∀ {F w cs} {x:α},rep F w cs x->cs=enc x) (hk:∀ x,(enc x).length=Rep.size α) (hw:∃ c e,w.heap[b]?=some (.cells c e (0,0))) {xs:List Value} (hc:Cells [] w xs l) (hr:w.rangeAt b o xs):HoldsK enc (Rep.size α) w b o l.toArray:=by
 intro j hj;rw [size_flatK] at hj;have g1:j<l.length*Rep.size α:=by simpa using hj
 have:=zqE g0 hc;subst this;have h1:=hr j _ (zqD hk Rep.pos g1);refine ⟨h1,?_⟩;obtain ⟨c,e,he⟩:=hw;simp [World.frozen?,he]
def zl8 (g0:∀ {F w cs} {x:α},rep F w cs x->cs=enc x) (hk:∀ x,(enc x).length=Rep.size α) {d':Array α} {m:Nat} {os:Array Obj} {w3:World} (g4:w3=sortWorldK enc (Rep.size α) w b o m d' os) (hw:∃ c e,w.heap[b]?=some (.cells c e (0,0))) {xs:List Value} (hc:Cells [] w xs l) (hr:w.rangeAt b o xs)
   (h1:l.length<=cap) (h2:cap<=maxLen) (hl:d'.size=l.length) (hp:∀ x∈d'.toList,x∈l):Chg [b] w w3/\Mine [b] w3 (.slice (some ⟨b,o,none⟩) l.length cap) d'.toList:=by
 subst g4;have hH:=zl7 g0 hk hw hc hr;obtain ⟨c,e,he⟩:=hw;have hb:b<w.heap.size:=(Array.getElem?_eq_some_iff.1 he).1;have g1:(putRowK enc (Rep.size α) (Sort.ahead w m) b o d').heap.size=w.heap.size:=by simp [putRowK,putRow,mapBlock,Sort.ahead]
 have g2:∀ i,i<w.heap.size->i≠b->(sortWorldK enc (Rep.size α) w b o m d' os).heap[i]?=w.heap[i]?:=λi hi g5=>by
   unfold sortWorldK;rw [heap_grow_old _ _ (by rw [g1];exact hi)];simp [putRowK,putRow,mapBlock,Sort.ahead,Array.getElem?_modify,g5.symm]
 have g9:∃ c',(sortWorldK enc (Rep.size α) w b o m d' os).heap[b]?=some (.cells c' e (0,0)):=by
   unfold sortWorldK;rw [heap_grow_old _ _ (by rw [g1];exact hb)];exact ⟨_,by simp [putRowK,putRow,mapBlock,Sort.ahead,Array.getElem?_modify,he,onCells];rfl⟩
 have g3:w.heap.size<=(sortWorldK enc (Rep.size α) w b o m d' os).heap.size:=by
   unfold sortWorldK grow;rw [Array.size_append,g1];omega
 refine ⟨⟨rfl,rfl,rfl,g3,λi hi hm=>g2 i hi λe=>hm (by simp [e])⟩,⟨⟨_,⟨some ⟨b,o,none⟩,cap,[],d'.toList.flatMap enc,rfl,by simpa [hl] using h1,h2,?_,.inr ⟨b,o,rfl,rfl,?_,oo⟩⟩,by simp [mkv,Rep.agg,hl]⟩,sS,λi hi=>?_⟩⟩
 . exact zqF (w:=w) g0 λx hx=>zqG hc x (hp x hx)
 . intro j v hv
   have hj:j<d'.toList.length*Rep.size α:=by
     have:=(List.getElem?_eq_some_iff.1 hv).1
     rwa [ztN hk] at this
   rw [zqD hk Rep.pos hj,qak] at hv;have gb:j<(flatK enc (Rep.size α) d').size:=by rw [size_flatK];simpa using hj
   have:=cell?_putRow id (Sort.ahead w m) b o (flatK enc (Rep.size α) l.toArray) (flatK enc (Rep.size α) d') hH (by simp [hl]) j gb;unfold sortWorldK;rw [cell?_grow _ _ _ (by rw [g1];exact hb)];show (putRow id (Sort.ahead w m) b o (flatK enc (Rep.size α) d')).cell? _=_;rw [this,<-hv];simp
 simp only [qaa,qac,or_false] at hi;subst hi;obtain ⟨c',gc⟩:=g9;exact ⟨c',e,gc⟩
end
end Go.Sh
namespace Go.Sh
open Rep (rep)
section
variable {P:Program} {w:World} {α:Type} [Rep α] [Flat α] {b o n cap k:Nat} {l:List α}
def zdL {F:List Nat} {v:Value} (hm:Mine F w v l) (hl:l≠[]):∃ b o cap xs,v=.slice (some ⟨b,o,none⟩) l.length cap/\F=[b]/\l.length<=cap/\cap<=maxLen/\Cells [] w xs l/\w.rangeAt b o xs/\(∃ c e,w.heap[b]?=some (.cells c e (0,0))):=by
 obtain ⟨⟨cs,⟨a,cap,Fi,xs,rfl,h1,h2,hc,h4⟩,rfl⟩,hn,hw⟩:=hm;rcases h4 with ⟨h4,_⟩ | ⟨b,o,rfl,rfl,hr,hb⟩
 . exact absurd h4 hl
 have g0:=Cells.flat (xs:=xs) hc;subst g0;exact ⟨b,o,cap,xs,rfl,rfl,h1,h2,hc,hr,hw b sS⟩
def zgN {xs:List Value} (h1:l.length<=cap) (h2:cap<=maxLen) (hc:Cells [] w xs l) (hr:w.rangeAt b o xs) (hw:∃ c e,w.heap[b]?=some (.cells c e (0,0))):Mine [b] w (.slice (some ⟨b,o,none⟩) l.length cap) l:=
 ⟨⟨_,⟨some ⟨b,o,none⟩,cap,[],xs,rfl,h1,h2,hc,.inr ⟨b,o,rfl,rfl,hr,by obtain ⟨c,e,h⟩:=hw;exact (Array.getElem?_eq_some_iff.1 h).1⟩⟩,rfl⟩,sS,λi hi=>by simp at hi;subst hi;exact hw⟩
def zxJ {t e:TypeId} {by_:Nat} {K:Value->Prop} (ht:P.underlying t=some (.slice e)) (he:tyI P e=some (Rep.size α,by_,Rep.agg α)) (hk:k<=n) (hn:n<=cap) (kk:K (.slice (some ⟨b,o,none⟩) k cap)) :
   RD P (Instr.sliceAt t (.slice (some ⟨b,o,none⟩) n cap) none (some (.int .i64 (k:Int))) none) w K:=by
 refine zbb (λw' _=>?_) kk
 have g0:(Instr.sliceBounds true n cap none (some (.int .i64 (k:Int))) none).run P w'=.ok (0,k,cap) w':=by
   have h5:(k:Int)<=(cap:Int):=oo
   simp [Instr.sliceBounds,Instr.sliceBound,asIntOf,h5];intro h6;omega
 simp only [Instr.sliceAt,Instr.slice,Sem.run_bind,run_underlying ht,Result.andThen_ok,g0,zaS he];simp [Addr.add_mid]
def ztP {t e:TypeId} {by_:Nat} {K:Value->Prop} (ht:P.underlying t=some (.slice e)) (he:tyI P e=some (Rep.size α,by_,Rep.agg α)) (hk:k<=n) (hn:n<=cap) (kk:K (.slice (if cap=k then some ⟨b,o,none⟩ else some ⟨b,o+k*Rep.size α,none⟩) (n-k) (cap-k))) :
   RD P (Instr.sliceAt t (.slice (some ⟨b,o,none⟩) n cap) (some (.int .i64 (k:Int))) none none) w K:=by
 refine zbb (λw' _=>?_) kk
 have hb:(Instr.sliceBounds true n cap (some (.int .i64 (k:Int))) none none).run P w'=.ok (k,n,cap) w':=by
   have:(k:Int)<=(n:Int):=oo
   simp [Instr.sliceBounds,Instr.sliceBound,asIntOf,this];try (intro h;omega)
 simp [Instr.sliceAt,Instr.slice,run_underlying ht,hb,zaS he,Addr.add_mid]
def ztQ {t e:TypeId} {by_ j:Nat} {K:Value->Prop} (ht:P.underlying t=some (.slice e)) (he:tyI P e=some (Rep.size α,by_,Rep.agg α)) (hk:k<=j) (hn:j<=cap) {a:Option Addr} (kk:∀ a',(k≠0->a'=a)->K (.slice a' k j)) :
   RD P (Instr.sliceAt t (.slice a n cap) none (some (.int .i64 (k:Int))) (some (.int .i64 (j:Int)))) w K:=by
 have hb:∀ w',(Instr.sliceBounds true n cap none (some (.int .i64 (k:Int))) (some (.int .i64 (j:Int)))).run P w'=.ok (0,k,j) w':=λw'=>by
   have h1:(j:Int)<=(cap:Int):=oo
   have h2:(k:Int)<=(j:Int):=oo
   simp [Instr.sliceBounds,Instr.sliceBound,asIntOf,h1,h2];try (intro h;omega)
 have:∃ a',(∀ w',(Instr.sliceAt t (.slice a n cap) none (some (.int .i64 (k:Int))) (some (.int .i64 (j:Int)))).run P w'=.ok (.slice a' k j) w')/\(k≠0->a'=a):=by
   cases a with
   | none=>exact ⟨none,λw'=>by simp [Instr.sliceAt,Instr.slice,run_underlying ht,hb,zaS he],λ_=>rfl⟩
   | some a=>exact ⟨some a,λw'=>by simp [Instr.sliceAt,Instr.slice,run_underlying ht,hb,zaS he,Addr.add],λ_=>rfl⟩
 obtain ⟨a',h1,h2⟩:=this;exact zbb (λw' _=>h1 w') (kk a' h2)
theorem zxK [RepZ α] {t e ty:TypeId} {K:VW} (ht:P.underlying t=some (.slice e)) (hz:zcz P e=some (RepZ.zc α)) (hm:Mine [b] w (.slice (some ⟨b,o,none⟩) n cap) l) (hl:l.length=n) (hk:k<=n) (hk0:0<k) (hn:n<=cap)
   (kk:∀ w',Chg [b] w w'->Mine [b] w' (.slice (some ⟨b,o,none⟩) k cap) (l.take k)->K (.tuple #[]) w') :
   OP P (Builtin.clear_ #[t] ty [Value.slice (if cap=k then some ⟨b,o,none⟩ else some ⟨b,o+k*Rep.size α,none⟩) (n-k) (cap-k)].toArray) w K:=by
 have gf:l≠[]:=λe=>by rw [e] at hl;simp at hl;omega
 obtain ⟨b',o',gg,xs,hv,hb',h1,h2,hc,hr,hw⟩:=zdL hm gf;simp only [Value.slice.injEq,qak,Addr.mk.injEq] at hv;obtain ⟨⟨rfl,rfl,_⟩,hnl,rfl⟩:=hv;have g2:(l.take k).length=k:=by simp;omega
 have e0:l=l.take k++l.drop k:=by simp
 have gb:=hc;rw [e0] at gb;obtain ⟨F1,F2,x1,x2,gh,rfl,c1,c2⟩:=Cells.split gb;obtain ⟨rfl,rfl⟩:=qbK.1 gh.symm;have gi:x1.length=k*Rep.size α:=by rw [Cells.len c1,g2]
 have gc:=(zaO hr).1;by_cases hnk:n=k
 . subst hnk
   refine ⟨.tuple #[],w,?_,kk w (Chg.refl _ _) ?_⟩
   . rw [qc0]
     by_cases g1:cap=n
     . rw [if_pos g1];simp [Builtin.clear_,run_underlying ht]
     rw [if_neg g1];simp [Builtin.clear_,run_underlying ht]
   have:=zgN (l:=l.take n) (cap:=cap) oo h2 c1 gc hw
   rwa [g2] at this
 have g1:¬cap=k:=oo
 rw [if_neg g1];obtain ⟨c,e',he⟩:=hw;unfold zcz at hz;cases hi:P.info? e with
 | none=>simp [hi] at hz
 | some i=>
   simp only [hi] at hz;obtain ⟨z,gj,gd⟩:=qaU.1 hz
   have gl:z.cells.size=Rep.size α:=by
     rw [<-qaB,gd];exact Rep.len (RepZ.zr (α:=α) w)
   have g0:=Rep.pos (α:=α);obtain ⟨m,gp⟩:∃ m,n-k=m+1:=⟨n-k-1,oo⟩;have gq:(Builtin.zeroCells z.cells (n-k)).toList.length=(n-k)*Rep.size α:=by simp [Builtin.zeroCells,gl]
   have g3:o+(k*Rep.size α)+0+(Builtin.zeroCells z.cells (n-k)).toList.length<=c.size:=by
     rw [gq];have hx:(x1++x2).length=n*Rep.size α:=by rw [Cells.len hc,hl]
     have r:=hr (n*Rep.size α-1) ((x1++x2)[n*Rep.size α-1]'(by rw [hx];have:=Nat.mul_pos (show 0<n by omega) g0;omega)) (List.getElem?_eq_getElem _);simp only [World.cell?,he] at r;have:=(Array.getElem?_eq_some_iff.1 (by simpa using r)).1;have h3:(n-k)*Rep.size α+k*Rep.size α=n*Rep.size α:=by rw [<-qbi];congr 1;omega
     have h4:=Nat.mul_pos (show 0<n by omega) g0;omega
   have g4:∀ v∈(Builtin.zeroCells z.cells (n-k)).toList,v.oneCell'=true:=λv hv=>by
     simp only [Builtin.zeroCells,Array.toList_map,Array.toList_range,qaZ,qaw] at hv;obtain ⟨i,_,rfl⟩:=hv;have g5:i%z.cells.size<z.cells.size:=Nat.mod_lt _ oo;have e3:z.cells[i%z.cells.size]! = z.cells[i%z.cells.size]'g5:=by simp [g5]
     rw [e3];refine Rep.one (RepZ.zr (α:=α) w) _ ?_;rw [<-gd];exact Array.getElem_mem_toList g5
   have g9:=run_storeCells_at (P:=P) b (o+k*Rep.size α) e' (Builtin.zeroCells z.cells (n-k)).toList 0 c w he g3 g4;simp only [qcf] at g9;refine ⟨.tuple #[],_,?_,kk _ (zed w b (c.toList.take (o+k*Rep.size α)++(Builtin.zeroCells z.cells (n-k)).toList++c.toList.drop (o+k*Rep.size α+(Builtin.zeroCells z.cells (n-k)).toList.length)).toArray) ?_⟩
   . rw [gp] at g9 ⊢
     simp [Builtin.clear_,run_underlying ht,zeroValue,typeInfo,hi,gj,g9]
   have hB:=setRow_heap w b c (c.toList.take (o+k*Rep.size α)++(Builtin.zeroCells z.cells (n-k)).toList++c.toList.drop (o+k*Rep.size α+(Builtin.zeroCells z.cells (n-k)).toList.length)).toArray e' _ he;have:=zgN (w:=w.setRow b (c.toList.take (o+k*Rep.size α)++(Builtin.zeroCells z.cells (n-k)).toList++c.toList.drop (o+k*Rep.size α+(Builtin.zeroCells z.cells (n-k)).toList.length)).toArray) (b:=b) (o:=o) (l:=l.take k) (cap:=cap) (xs:=x1) oo h2 (c1.keep sS) (λj v hv=>?_) ⟨_,_,hB⟩
   . rwa [g2] at this
   have hj:=(List.getElem?_eq_some_iff.1 hv).1;rw [gi] at hj;have h5:=gc j v hv;simp only [World.cell?,he] at h5;have h6:c[o+j]?=some v:=by simpa using h5
   simp only [World.cell?,hB];simp only [qcj,qa1,if_false,List.getElem?_toArray];rw [qar,List.getElem?_append_left (by simp;have:=(Array.getElem?_eq_some_iff.1 h6).1;omega),List.getElem?_take,if_pos oo];simpa using h6
end
end Go.Sh
namespace Go.Proofs.YtcnglfeoglgebaaGreat
open Go Go.Sh Go.Proofs
open Rep (rep)
set_option maxRecDepth 20000 in
theorem zis {w w0 w1:World} {K:Value->Prop} {x y:Operand} {v1 v2:Value} {a b:DRace} (h1:Is w0 v1 a) (h2:Is w1 v2 b) (k:K (.bool (decide (a=b)))):RD tp (bin .eql 58 x y v1 v2) w K:=by
  obtain ⟨rfl,_⟩:=zlx.1 h1;obtain ⟨rfl,_⟩:=zlx.1 h2;refine zbb (λw' _=>?_) k;have hg:tp.eqGuardType tp.depth 58=false:=by kernel_rfl
  have e0:∀ xs ys w,(eqGuard .eql 58 x y (.agg xs) (.agg ys)).run tp w=.ok () w:=λxs ys w=>run_eqGuard_agg (P:=tp) w .eql 58 x y xs ys hg;have e1:∀ xs ys w,(Op.equalIn 10000 58 (.agg xs) (.agg ys)).run tp w=(Op.eqFields 9999 xs ys (tp.fieldsOf 58).toList).run tp w:=λxs ys w=>run_equalIn_struct w 9999 58 xs ys kK kK;have e2:(tp.fieldsOf 58).toList.map (λf=>(f.name,f.type,f.offset))=[("Global", 3,0),("A", 3,1),("B", 3,2)]:=by kernel_rfl
  have e3:∀ (c d:Int) (w:World),(Op.equalIn 9999 3 (.int .i64 c) (.int .i64 d)).run tp w=.ok (c == d) w:=λc d w=>run_equalIn_int w 9998 3 .i64 .i64 c d u3;have hd:(a=b)↔(a.g=b.g/\a.a=b.a/\a.b=b.b):=⟨λe=>by rw [e];exact ⟨rfl,rfl,rfl⟩,λ⟨x,y,z⟩=>by cases a;cases b;simp only at x y z;rw [x,y,z]⟩;generalize hF:(tp.fieldsOf 58).toList=fs at e1 e2
  match fs,e2 with
  | [f0,f1,f2],e2=>
    simp only [qbC,qb4,qbf,qb6,and_true] at e2;obtain ⟨⟨n0,t0,o0⟩,⟨n1,t1,o1⟩,⟨n2,t2,o2⟩⟩:=e2;have p0:∀ (a b c:Value) (w:World),(part 3 #[a,b,c] 0).run tp w=.ok a w:=λa b c w=>by simp [part,zcc ty3]
    have p1:∀ (a b c:Value) (w:World),(part 3 #[a,b,c] 1).run tp w=.ok b w:=λa b c w=>by simp [part,zcc ty3]
    have p2:∀ (a b c:Value) (w:World),(part 3 #[a,b,c] 2).run tp w=.ok c w:=λa b c w=>by simp [part,zcc ty3]
    simp only [bin,Sem.run_bind,e0,Result.andThen_ok,run_eql_struct,e1,Op.eqFields,n0,n1,n2,t0,t1,t2,o0,o1,o2];simp only [ne_eq,String.reduceEq,not_false_eq_true,if_true,Sem.run_bind,p0,p1,p2,Result.andThen_ok,e3,Sem.run_ite,Sem.run_pure,hd];by_cases x0:a.g=b.g<;>by_cases x1:a.a=b.a<;>by_cases x2:a.b=b.b<;>simp [x0,x1,x2]
set_option maxRecDepth 20000 in
theorem zl9 {w w0 w1:World} {K:Value->Prop} {x y:Operand} {v1 v2:Value} {a b:DRace} (h1:Is w0 v1 a) (h2:Is w1 v2 b) (k:K (.bool (decide (a≠b)))):RD tp (bin .neq 58 x y v1 v2) w K:=by
  obtain ⟨rfl,_⟩:=zlx.1 h1;obtain ⟨rfl,_⟩:=zlx.1 h2;refine zbb (λw' _=>?_) k;have hg:tp.eqGuardType tp.depth 58=false:=by kernel_rfl
  have e0:∀ xs ys w,(eqGuard .neq 58 x y (.agg xs) (.agg ys)).run tp w=.ok () w:=λxs ys w=>run_eqGuard_agg (P:=tp) w .neq 58 x y xs ys hg;have e1:∀ xs ys w,(Op.equalIn 10000 58 (.agg xs) (.agg ys)).run tp w=(Op.eqFields 9999 xs ys (tp.fieldsOf 58).toList).run tp w:=λxs ys w=>run_equalIn_struct w 9999 58 xs ys kK kK;have e2:(tp.fieldsOf 58).toList.map (λf=>(f.name,f.type,f.offset))=[("Global", 3,0),("A", 3,1),("B", 3,2)]:=by kernel_rfl
  have e3:∀ (c d:Int) (w:World),(Op.equalIn 9999 3 (.int .i64 c) (.int .i64 d)).run tp w=.ok (c == d) w:=λc d w=>run_equalIn_int w 9998 3 .i64 .i64 c d u3;have hd:(a=b)↔(a.g=b.g/\a.a=b.a/\a.b=b.b):=⟨λe=>by rw [e];exact ⟨rfl,rfl,rfl⟩,λ⟨x,y,z⟩=>by cases a;cases b;simp only at x y z;rw [x,y,z]⟩;generalize hF:(tp.fieldsOf 58).toList=fs at e1 e2
  match fs,e2 with
  | [f0,f1,f2],e2=>
    simp only [qbC,qb4,qbf,qb6,and_true] at e2;obtain ⟨⟨n0,t0,o0⟩,⟨n1,t1,o1⟩,⟨n2,t2,o2⟩⟩:=e2;have p0:∀ (a b c:Value) (w:World),(part 3 #[a,b,c] 0).run tp w=.ok a w:=λa b c w=>by simp [part,zcc ty3]
    have p1:∀ (a b c:Value) (w:World),(part 3 #[a,b,c] 1).run tp w=.ok b w:=λa b c w=>by simp [part,zcc ty3]
    have p2:∀ (a b c:Value) (w:World),(part 3 #[a,b,c] 2).run tp w=.ok c w:=λa b c w=>by simp [part,zcc ty3]
    simp only [bin,Sem.run_bind,e0,Result.andThen_ok,run_neq_struct,e1,Op.eqFields,n0,n1,n2,t0,t1,t2,o0,o1,o2];simp only [ne_eq,String.reduceEq,not_false_eq_true,if_true,Sem.run_bind,p0,p1,p2,Result.andThen_ok,e3,Sem.run_ite,Sem.run_pure,hd];by_cases x0:a.g=b.g<;>by_cases x1:a.a=b.a<;>by_cases x2:a.b=b.b<;>simp [x0,x1,x2,hd]
end Go.Proofs.YtcnglfeoglgebaaGreat
namespace Go.Sh
open Rep (rep)
variable {F G:List Nat} {b o:Nat} {cs:List Value} {w:World}
abbrev RInts:=RV Int 3
abbrev RIntss:=RV RInts 33
structure DStV where
 vars:List Int
 owner:List Int
 stacks:RIntss
def DStV.ext_iff {x y:DStV}:x=y↔(x.vars=y.vars/\x.owner=y.owner/\x.stacks=y.stacks):=⟨λh=>by rw [h];exact ⟨rfl,rfl,rfl⟩,λh=>by obtain ⟨h0,h1,h2⟩:=h;cases x;cases y;simp only at h0 h1 h2;simp only [h0,h1,h2]⟩
instance:Rep DStV:=Rep.via λx=>(x.vars,x.owner,x.stacks)
def zfq {x:DStV} (h:At w b o x):At w b (o+2) x.stacks:=zbh (α:=List Int) (β:=RIntss) (p:=(x.owner,x.stacks)) (zbh (α:=List Int) (β:=(List Int)×RIntss) (p:=(x.vars,x.owner,x.stacks)) h)
instance:RepZ DStV:=⟨⟨(RepZ.zv:List Int),(RepZ.zv:List Int),(RepZ.zv:RIntss)⟩,RepZ.zc ((List Int)×(List Int)×RIntss),λw=>RepZ.zr (α:=(List Int)×(List Int)×RIntss) w⟩
def zsi {γ:Type} {H:List Nat->World->γ->Prop} {x:DStV} {upd:DStV->γ} (h:Lens H F w b o G x upd) :
   ∃ G1,Lens H F w b (o+0) G1 x.vars (λy=>upd ⟨y,x.owner,x.stacks⟩):=by
 have h':Lens H F w b o G (x.vars,x.owner,x.stacks) (λp:(List Int)×(List Int)×RIntss=>upd ⟨p.1,p.2.1,p.2.2⟩):=⟨h.here,h.sub,λw' G' y' hc hO hs=>h.back w' G' _ hc hO hs⟩;obtain ⟨G0,h'⟩:=h'.fst;exact ⟨_,h'⟩
def zsj {γ:Type} {H:List Nat->World->γ->Prop} {x:DStV} {upd:DStV->γ} (h:Lens H F w b o G x upd) :
   ∃ G1,Lens H F w b (o+1) G1 x.owner (λy=>upd ⟨x.vars,y,x.stacks⟩):=by
 have h':Lens H F w b o G (x.vars,x.owner,x.stacks) (λp:(List Int)×(List Int)×RIntss=>upd ⟨p.1,p.2.1,p.2.2⟩):=⟨h.here,h.sub,λw' G' y' hc hO hs=>h.back w' G' _ hc hO hs⟩;obtain ⟨G0,h'⟩:=h'.snd;obtain ⟨G1,h'⟩:=h'.fst;exact ⟨_,h'⟩
def zdn {γ:Type} {H:List Nat->World->γ->Prop} {x:DStV} {upd:DStV->γ} (h:Lens H F w b o G x upd) :
   ∃ G1,Lens H F w b (o+2) G1 x.stacks (λy=>upd ⟨x.vars,x.owner,y⟩):=by
 have h':Lens H F w b o G (x.vars,x.owner,x.stacks) (λp:(List Int)×(List Int)×RIntss=>upd ⟨p.1,p.2.1,p.2.2⟩):=⟨h.here,h.sub,λw' G' y' hc hO hs=>h.back w' G' _ hc hO hs⟩;obtain ⟨G0,h'⟩:=h'.snd;obtain ⟨G1,h'⟩:=h'.snd;exact ⟨_,h'⟩
def ztR {x:DStV} (h:rep F w cs x):∃ F0 c0 F1 c1 F2 c2,F=(F0++(F1++F2))/\cs=(c0++(c1++c2))/\rep F0 w c0 x.vars/\rep F1 w c1 x.owner/\rep F2 w c2 x.stacks:=by
 obtain ⟨F0,G0,c0,d0,rfl,rfl,h0,h⟩:=h;obtain ⟨F1,G1,c1,d1,rfl,rfl,h1,h⟩:=h;exact ⟨_,_,_,_,_,_,rfl,rfl,h0,h1,h⟩
def DStV.er (z:DStV):DState:=⟨z.vars,z.owner,z.stacks.l.map RV.l⟩
section
variable {w:World}
def zzX {F G H:List Nat} {a b:Value} {s:DStV} (h1:Mine F w a s.vars) (h2:Mine G w b s.owner) (h3:Mine H w s.stacks.v s.stacks) (hn:(F++(G++H)).Nodup):Mine (F++(G++H)) w (.agg #[a,b,s.stacks.v]) s:=
 ⟨⟨[a,b,s.stacks.v],za2 (zb2 rfl h1.own) (za2 (zb2 rfl h2.own) (zb2 rfl h3.own)),rfl⟩,hn,h1.wr.append (h2.wr.append h3.wr)⟩
def ztS {a b:Value} {s:DStV} {lo hi l0 h0 l1 h1 l2 h2:Nat} (m0:OwnI l0 h0 w a s.vars) (m1:OwnI l1 h1 w b s.owner) (m2:OwnI l2 h2 w s.stacks.v s.stacks) (d01:h0<=l1\/h1<=l0) (d02:h0<=l2\/h2<=l0) (d12:h1<=l2\/h2<=l1)
   (b0:lo<=l0/\h0<=hi) (b1:lo<=l1/\h1<=hi) (b2:lo<=l2/\h2<=hi):OwnI lo hi w (.agg #[a,b,s.stacks.v]) s:=by
 obtain ⟨F0,M0,B0⟩:=m0;obtain ⟨F1,M1,B1⟩:=m1;obtain ⟨F2,M2,B2⟩:=m2;refine ⟨F0++(F1++F2),zzX M0 M1 M2 ?_,λx hx=>?_⟩
 . rw [qao,qao]
   refine ⟨M0.nodup,⟨M1.nodup,M2.nodup,λp hp q hq e=>?_⟩,λp hp q hq e=>?_⟩
   . subst e;have:=B1 p hp;have:=B2 p hq;omega
   subst e;have:=B0 p hp;rcases qae.1 hq with hq | hq
   . have:=B1 p hq;omega
   have:=B2 p hq;omega
 rcases qae.1 hx with hx | hx
 . have:=B0 x hx;omega
 rcases qae.1 hx with hx | hx
 . have:=B1 x hx;omega
 have:=B2 x hx;omega
end
end Go.Sh
namespace Go.Proofs.YtcnglfeoglgebaaGreat
open Go Go.Sh Go.Proofs
open Rep (rep)
variable {K:Value->Prop} {P:Program} {W w w0:World} {ag:Bool} {hi lo:Nat} {s:DState} {u v:Value}
def zxL:zcz tp 46=some [.slice none 0 0,.slice none 0 0,.slice none 0 0]:=by kernel_rfl
def zge {α:Type} [Rep α] {l:List α} (h:OwnI lo hi w v l):∃ a n c,v=.slice a n c:=by
 obtain ⟨a,cap,Fi,xs,hv,_⟩:=zcT h.is;exact ⟨a,_,cap,hv⟩
def zfa {α:Type} [Rep α] [Flat α] {t ty e:TypeId} {by_:Nat} {a:Option Addr} {src:Value} {m:List α} {K:VW} (ht:P.underlying t=some (.slice e)) (he:tyI P e=some (Rep.size α,by_,Rep.agg α))
   (hzc:(P.info? e).map (λi=>(i.zero.map (·.cells.size)))=some (some (Rep.size α))) (hs:Is w0 src m) (hx:Ext w0 w) (hm:m.length<=maxLen) (hb:m.length*by_<=140737488355328)
   (k:∀ v' w',Ext w w'->RowI w.heap.size w'.heap.size e w' v' m->K v' w'):OP P (Builtin.append_ #[t,t] ty [.slice a 0 0,src].toArray) w K:=
 zeh (lo:=w.heap.size) (hi:=w.heap.size) (l:=([]:List α)) ht he hzc (zcx _ _ _ _ _) (lr _) hs hx (by simpa using hm) (by simpa using hb) λv' w' hc hr=>k v' w' ((xrf w).chgI hc (lr _)) (by simpa using hr)
def zxM {l:List Int} (h:Is w0 v l) (hx:Ext w0 w) (hn:l.length<=1073741824) :
   CALL tp 157 [v] w λr w'=>Ext w w'/\RowI w.heap.size w'.heap.size 3 w' r l:=by
 refine co (g:=kf [] [] []) Tryz.func157 ?_;obtain ⟨a,cap,Fi,xs,rfl,h1,h2,hc,h4⟩:=zcT h;refine zhd zuU<|zbz (λg0=>?_) (λhnn=>?_)
 . have:l=[]:=by
     rcases h4 with h4 | ⟨b,o,ha,_⟩
     . exact h4
     subst ha;simp at g0
   subst this;exact ⟨xrf w,zb6 _ _ _ _⟩
 refine zaK (α:=Int) zuU zzK λa1 w1 g1 hr1=>zfa (α:=Int) zuU zzK zEb h (hx.t g1) (by rw [zal];omega) oo λv2 w2 g2 g3=>⟨g1.t g2,g3.mono g1.size (lr _)⟩
def zCV (s:DState):Prop:=s.vars.length<=1073741824/\s.owner.length<=1073741824/\s.stacks.length<=1073741824/\∀ x∈s.stacks,x.length<=1073741824
def cpQ (s:DState) (g1:Nat) (w0:World):ParQ:=λi u T w=>match i with
 | 0=>u 6=.pointer (some ⟨g1,0+0,none⟩)
 | 1=>Is w0 (u 7) s.vars
 | 2=>OwnI (T 2).1 (T 2).2 w (u 8) s.vars
 | 3=>u 9=.pointer (some ⟨g1,0+1,none⟩)
 | 4=>Is w0 (u 10) s.owner
 | 5=>OwnI (T 5).1 (T 5).2 w (u 11) s.owner
 | 6=>u 12=.agg #[u 8,u 11,.slice none 0 0]
 | 7=>∃ g,u 3=.pointer (some ⟨g,0,none⟩)/\(T 7).1<=g/\g<(T 7).2/\Blk g 46 w [.slice none 0 0,.slice none 0 0,.slice none 0 0]
 | _=>True
def zkH (h:Is W v s) (e:Ext W w) (gx:zCV s) :
   CALL tp 77 [v] w λr w'=>Ext w w'/\∃ z:DStV,OwnI w.heap.size w'.heap.size w' r z/\z.er=s:=by
 obtain ⟨gr,gs,hz3,gt⟩:=gx;refine co (g:=⟨extL,[],[(3,268369952,[16])],[(5,[0,1,2,3,4,5,6,7],24)],[(1,8136,8)],[],[]⟩) Tryz.func77 ?_;refine za9 h e λw1 gh hA=>zb5 zxL λw2 Y gi=>?_;have hg2:=gi.lt;have hs1:=gh.size;have U:=zah w2;have hs3:=U.size;refine PAR.mk (cpQ s w.heap.size (World.drew1 w2)) ?_ ?_ ?_
 . intro i u u' T T' wa wb hxa g5 hd hq
   match i,hd,hq with
   | 0,hd,hq=>exact (hd (0,6) qd).1.trans hq
   | 1,hd,hq=>have:=(hd (1,7) qd).1;show Is _ (u' 7) _;simp only [this];exact hq
   | 2,hd,hq=>
     obtain ⟨e1,e2⟩:=hd (2,8) qd;simp only at e1 e2;show OwnI (T' 2).1 (T' 2).2 wb (u' 8) s.vars;rw [e1,e2];exact OwnI.ext hq g5
   | 3,hd,hq=>exact (hd (3,9) qd).1.trans hq
   | 4,hd,hq=>have:=(hd (4,10) qd).1;show Is _ (u' 10) _;simp only [this];exact hq
   | 5,hd,hq=>
     obtain ⟨e1,e2⟩:=hd (5,11) qd;simp only at e1 e2;show OwnI (T' 5).1 (T' 5).2 wb (u' 11) s.owner;rw [e1,e2];exact OwnI.ext hq g5
   | 6,hd,hq=>
     have e1:=(hd (6,12) qd).1;have e2:=(hd (2,8) qd).1;have e3:=(hd (5,11) qd).1;simp only at e1 e2 e3;show u' 12=.agg #[u' 8,u' 11,.slice none 0 0];rw [e1,e2,e3];exact hq
   | 7,hd,⟨g,q1,q2,q3,q4⟩=>
     obtain ⟨e1,e2⟩:=hd (7,3) qd;simp only at e1 e2;exact ⟨g,e1.trans q1,by rw [e2];exact q2,by rw [e2];exact q3,q4.ext g5⟩
   | n+8,_,_=>trivial
 . refine ⟨λu T w' hx _ _=>?_,λu T w' hx _ hp=>?_,λu T w' hx _ hp=>?_,λu T w' hx _ _=>?_,λu T w' hx _ hp=>?_,λu T w' hx _ hp=>?_,λu T w' hx _ hp=>?_,λu T w' hx _ _=>?_,trivial⟩
   . exact zab zfh ⟨xrf _,rfl⟩
   . have q0:u 6=_:=hp.1
     rw [q0];exact zaa za4 (zbQ hA) (Y.t (U.t hx)) λv6 h6=>⟨xrf _,(h6.ext (Y.t U))⟩
   . have q1:Is _ (u 7) s.vars:=hp.1
     exact (zts q1 hx gr).mono λr w4 ⟨M,ho⟩=>⟨M,ho.toI⟩
   . exact zab zdy ⟨xrf _,rfl⟩
   . have q0:u 9=_:=hp.1
     rw [q0];exact zaa za4 (zbR hA) (Y.t (U.t hx)) λv6 h6=>⟨xrf _,(h6.ext (Y.t U))⟩
   . have q1:Is _ (u 10) s.owner:=hp.1
     exact (zts q1 hx gs).mono λr w4 ⟨M,ho⟩=>⟨M,ho.toI⟩
   . have o1:OwnI _ _ _ (u 8) s.vars:=hp.1
     have o2:OwnI _ _ _ (u 11) s.owner:=hp.2.1;obtain ⟨a,n,cap,q1⟩:=zge o1;obtain ⟨a',n',g9,gj⟩:=zge o2;rw [q1,gj];refine zaX (cells:=#[.slice a n cap,.slice a' n' g9,.slice none 0 0]) kK ⟨xrf _,?_⟩;show _=Value.agg #[u 8,u 11,.slice none 0 0];rw [q1,gj];rfl
   exact zb5 zxL λw4 M hB=>⟨M,w'.heap.size,rfl,lr _,hB.lt,hB⟩
 rintro u T w4 M X ⟨-,-,o8,-,-,O,gb,⟨g,q3,hg0,hg1,gy⟩,-⟩;have gb:u 12=.agg #[u 8,u 11,.slice none 0 0]:=gb;have o8:OwnI (T 2).1 (T 2).2 w4 (u 8) s.vars:=o8;have O:OwnI (T 5).1 (T 5).2 w4 (u 11) s.owner:=O;have t2:=X.1 2 qd;have t5:=X.1 5 qd;have t7:=X.1 7 qd;have d25:=X.2 2 qd 5 qd qd;have d27:=X.2 2 qd 7 qd qd;have d57:=X.2 5 qd 7 qd qd;generalize u 8=v8 at *;generalize u 11=v11 at *;have hs4:=M.size;rw [gb,q3]
 refine zcg (x:=(⟨s.vars,s.owner,[]⟩:DState)) (lo:=0) (hi:=w4.heap.size) zc0 rfl gy rfl
   (zgb (l2:=0) (h2:=0) o8 O (zdz none) oo oo oo oo oo oo) λw5 Z gz=>?_
 have hs5:=Z.size;have g0:Ext w1 w5:=Ext.chgI (Y.t (U.t M)) Z oo
 replace o8:=o8.chg Z oo
 replace O:=O.chg Z oo
 have gc:=((gi.ext U).ext M).chgI Z oo;refine zab zbj<|zaa zeN (zaJ hA) g0 λv14 gl=>zae u44 gl ?_
 refine zao s.stacks.length (λk us w'=>us=[.int .i64 (k:Int)]/\w5.heap.size<=w'.heap.size/\Ext w1 w'/\OwnI (T 2).1 (T 2).2 w' v8 s.vars/\OwnI (T 5).1 (T 5).2 w' v11 s.owner /\
   (∃ v1 hi,∃ l:List RInts,hi<=w'.heap.size/\w5.heap.size<=hi/\l.map RV.l=s.stacks.take k/\Blk g 46 w' [v8,v11,v1]/\RowI w5.heap.size hi 33 w' v1 l)/\Blk w1.heap.size 46 w' [.slice none 0 0,.slice none 0 0,.slice none 0 0]) 0 (z0 _)
   ⟨rfl,lr _,g0,o8,O,⟨.slice none 0 0,w5.heap.size,[],lr _,qas _,sS,gz,zb6 _ _ _ _⟩,gc⟩ ?_
 rintro k m uu w7 hkm ⟨hu,hs7,g3,o8,O,⟨v1,hi,l,hhi,gC,hl,gd,r7⟩,g1⟩;try replace hu:=zbt hu
 rw [hu];have hll:l.length=k:=by have:=congrArg List.length hl;simp at this;omega
 refine zag<|br (λhlt=>?_) (λhge=>?_)
 . have hk:k<s.stacks.length:=oo
   refine zad u44 za4 gl hk λb o gD=>zaa za4 gD g3 λv19 gE=>?_;have g2:=zah w7;have hs8:=g2.size;refine zab zbj<|zax zeN (gd.ext g2) rfl ?_;refine (zxM gE (g3.t g2) (gt _ (qab hk))).mono ?_;rintro r23 w9 ⟨g4,r9⟩;have hs9:=g4.size;refine ⟨g4,?_⟩;refine zoJ (α:=RInts) u44 za4 z33 zBG qd ((r7.ext g2).ext g4) oo (zjY r9) oo oo (by rw [zal];omega) oo λgF gG C gp=>?_;have gH:=C.size;have I:=g2.t g4;refine zab zbj<|zbW (α:=List RInts) zeN rfl rfl ((gd.ext I).chgI C oo) sS gp.own λw11 D gf=>?_;have gI:=D.size;refine zau<|⟨m-1,oo,k+1,oo,rfl,oo,Ext.chgI (Ext.chgI (g3.t I) C oo) D oo,((o8.ext I).chg C oo).chg D oo,((O.ext I).chg C oo).chg D oo,⟨gF,gG.heap.size,_,oo,oo,?_,gf,gp.chg D oo⟩,((g1.ext I).chgI C oo).chgI D oo⟩;rw [qa6,hl,tk hk];rfl
 have hk:k=s.stacks.length:=oo
 refine ziq gd zc0 ?_
 have gq:OwnI w2.heap.size w7.heap.size w7 (.agg #[v8,v11,v1]) (⟨s.vars,s.owner,⟨v1,l⟩⟩:DStV):=
   ztS (s:=⟨s.vars,s.owner,⟨v1,l⟩⟩) o8 O (zjY r7) oo oo oo oo oo oo
 refine zcg zc0 rfl g1 rfl gq λw13 V gg=>?_;have gJ:=V.size;refine zeI gg zc0<|⟨Ext.chgI (gh.t g3) V oo,_,(gq.chg V oo).mono oo oo,?_⟩;show (⟨s.vars,s.owner,l.map RV.l⟩:DState)=s;rw [hl,hk,qaD]
def cqQ (s:DState) (g1:Nat) (w0:World):ParQ:=λi u T w=>match i with
 | 0=>∃ a,u 5=.slice (some a) 0 0
 | 1=>u 6=.pointer (some ⟨g1,0+0,none⟩)
 | 2=>Is w0 (u 7) s.vars
 | 3=>OwnI (T 3).1 (T 3).2 w (u 8) s.vars
 | 4=>∃ a,u 9=.slice (some a) 0 0
 | 5=>u 10=.pointer (some ⟨g1,0+1,none⟩)
 | 6=>Is w0 (u 11) s.owner
 | 7=>OwnI (T 7).1 (T 7).2 w (u 12) s.owner
 | 8=>u 13=.agg #[u 8,u 12,.slice none 0 0]
 | 9=>∃ g,u 3=.pointer (some ⟨g,0,none⟩)/\(T 9).1<=g/\g<(T 9).2/\Blk g 46 w [.slice none 0 0,.slice none 0 0,.slice none 0 0]
 | _=>True
def znP (h:Is W v s) (e:Ext W w) (gx:zCV s) :
   CALL tp 79 [v] w λr w'=>Ext w w'/\∃ z:DStV,OwnI w.heap.size w'.heap.size w' r z/\z.er=s:=by
 obtain ⟨hz1,hz2,hz3,gt⟩:=gx;refine co (g:=⟨extL,[],[(3,8589918224,[4])],[(5,[0,1,3,4,5,6,7,2,8,9,10,11,12],772)],[(1,16360,10)],[],[]⟩) Tryz.func79 ?_;refine za9 h e λw1 gl hA=>zb5 zxL λw2 g2 gp=>?_;have hg2:=gp.lt;have hs1:=gl.size;have V:=zah w2;have hs3:=V.size;refine PAR.mk (cqQ s w.heap.size (World.drew1 w2)) ?_ ?_ ?_
 . intro i u u' T T' wa wb hxa g5 hd hq
   match i,hd,hq with
   | 0,hd,⟨a,hq⟩=>exact ⟨a,(hd (0,5) qd).1.trans hq⟩
   | 1,hd,hq=>exact (hd (1,6) qd).1.trans hq
   | 2,hd,hq=>have:=(hd (2,7) qd).1;show Is _ (u' 7) _;simp only [this];exact hq
   | 3,hd,hq=>
     obtain ⟨e1,e2⟩:=hd (3,8) qd;simp only at e1 e2;show OwnI (T' 3).1 (T' 3).2 wb (u' 8) s.vars;rw [e1,e2];exact OwnI.ext hq g5
   | 4,hd,⟨a,hq⟩=>exact ⟨a,(hd (4,9) qd).1.trans hq⟩
   | 5,hd,hq=>exact (hd (5,10) qd).1.trans hq
   | 6,hd,hq=>have:=(hd (6,11) qd).1;show Is _ (u' 11) _;simp only [this];exact hq
   | 7,hd,hq=>
     obtain ⟨e1,e2⟩:=hd (7,12) qd;simp only at e1 e2;show OwnI (T' 7).1 (T' 7).2 wb (u' 12) s.owner;rw [e1,e2];exact OwnI.ext hq g5
   | 8,hd,hq=>
     have e1:=(hd (8,13) qd).1;have e2:=(hd (3,8) qd).1;have e3:=(hd (7,12) qd).1;simp only at e1 e2 e3;show u' 13=.agg #[u' 8,u' 12,.slice none 0 0];rw [e1,e2,e3];exact hq
   | 9,hd,⟨g,q1,q2,q3,q4⟩=>
     obtain ⟨e1,e2⟩:=hd (9,3) qd;simp only at e1 e2;exact ⟨g,e1.trans q1,by rw [e2];exact q2,by rw [e2];exact q3,q4.ext g5⟩
   | n+10,_,_=>trivial
 . refine ⟨λu T w' hx _ _=>?_,λu T w' hx _ _=>?_,λu T w' hx _ hp=>?_,λu T w' hx _ hp=>?_,λu T w' hx _ _=>?_,λu T w' hx _ _=>?_,λu T w' hx _ hp=>?_,λu T w' hx _ hp=>?_,λu T w' hx _ hp=>?_,λu T w' hx _ _=>?_,trivial⟩
   . exact zaK (α:=Int) u33 ty3 λa w4 C _=>⟨C,a,rfl⟩
   . exact zab zfh ⟨xrf _,rfl⟩
   . have q0:u 6=_:=hp.1
     rw [q0];exact zaa za4 (zbQ hA) (g2.t (V.t hx)) λv6 h6=>⟨xrf _,(h6.ext (g2.t V))⟩
   . obtain ⟨a,q0⟩:∃ a,u 5=.slice (some a) 0 0:=hp.1
     have q1:Is _ (u 7) s.vars:=hp.2.1;rw [q0];exact zfa (α:=Int) u33 ty3 zc3 q1 hx (by rw [zal];omega) oo λv4 w4 C r4=>⟨C,r4.own⟩
   . exact zaK (α:=Int) u33 ty3 λa w4 C _=>⟨C,a,rfl⟩
   . exact zab zdy ⟨xrf _,rfl⟩
   . have q0:u 10=_:=hp.1
     rw [q0];exact zaa za4 (zbR hA) (g2.t (V.t hx)) λv6 h6=>⟨xrf _,(h6.ext (g2.t V))⟩
   . obtain ⟨a,q0⟩:∃ a,u 9=.slice (some a) 0 0:=hp.1
     have q1:Is _ (u 11) s.owner:=hp.2.1;rw [q0];exact zfa (α:=Int) u33 ty3 zc3 q1 hx (by rw [zal];omega) oo λv4 w4 C r4=>⟨C,r4.own⟩
   . have o1:OwnI _ _ _ (u 8) s.vars:=hp.1
     have o2:OwnI _ _ _ (u 12) s.owner:=hp.2.1;obtain ⟨a,n,cap,q1⟩:=zge o1;obtain ⟨a',n',g9,gq⟩:=zge o2;rw [q1,gq];refine zaX (cells:=#[.slice a n cap,.slice a' n' g9,.slice none 0 0]) kK ⟨xrf _,?_⟩;show _=Value.agg #[u 8,u 12,.slice none 0 0];rw [q1,gq];rfl
   exact zb5 zxL λw4 C hB=>⟨C,w'.heap.size,rfl,lr _,hB.lt,hB⟩
 rintro u T w4 C g0 ⟨-,-,-,o8,-,-,-,O,gb,⟨g,q3,hg0,hg1,gy⟩,-⟩;have gb:u 13=.agg #[u 8,u 12,.slice none 0 0]:=gb;have o8:OwnI (T 3).1 (T 3).2 w4 (u 8) s.vars:=o8;have O:OwnI (T 7).1 (T 7).2 w4 (u 12) s.owner:=O;have t2:=g0.1 3 qd;have t5:=g0.1 7 qd;have t7:=g0.1 9 qd;have d25:=g0.2 3 qd 7 qd qd;have d27:=g0.2 3 qd 9 qd qd;have d57:=g0.2 7 qd 9 qd qd;generalize u 8=v8 at *;generalize u 12=v11 at *;have hs4:=C.size;rw [gb,q3]
 refine zcg (x:=(⟨s.vars,s.owner,[]⟩:DState)) (lo:=0) (hi:=w4.heap.size) zc0 rfl gy rfl
   (zgb (l2:=0) (h2:=0) o8 O (zdz none) oo oo oo oo oo oo) λw5 g3 gz=>?_
 have hs5:=g3.size;have gc:Ext w1 w5:=Ext.chgI (g2.t (V.t C)) g3 oo
 replace o8:=o8.chg g3 oo
 replace O:=O.chg g3 oo
 have gd:=((gp.ext V).ext C).chgI g3 oo
 refine zao s.stacks.length (λk us w'=>us=[.int .i64 (k:Int)]/\w5.heap.size<=w'.heap.size/\Ext w1 w'/\OwnI (T 3).1 (T 3).2 w' v8 s.vars/\OwnI (T 7).1 (T 7).2 w' v11 s.owner /\
   (∃ v1 hi,∃ l:List RInts,hi<=w'.heap.size/\w5.heap.size<=hi/\l.map RV.l=s.stacks.take k/\Blk g 46 w' [v8,v11,v1]/\RowI w5.heap.size hi 33 w' v1 l)/\Blk w1.heap.size 46 w' [.slice none 0 0,.slice none 0 0,.slice none 0 0]) 0 (z0 _)
   ⟨rfl,lr _,gc,o8,O,⟨.slice none 0 0,w5.heap.size,[],lr _,qas _,sS,gz,zb6 _ _ _ _⟩,gd⟩ ?_
 rintro k m uu w7 hkm ⟨hu,hs7,g1,o8,O,⟨v1,hi,l,hhi,gC,hl,gf,r7⟩,g4⟩;try replace hu:=zbt hu
 rw [hu];have hll:l.length=k:=by have:=congrArg List.length hl;simp at this;omega
 refine zab zbj<|zaa zeN (zaJ hA) g1 λv16 gD=>zae u44 gD<|zag<|br (λhlt=>?_) (λhge=>?_)
 . have hk:k<s.stacks.length:=oo
   have X:=zah w7;have hs8:=X.size;refine zab zbj<|zax zeN (gf.ext X) rfl<|zab zbj<|zaa zeN (zaJ hA) (g1.t X) λv14 gE=>zad u44 za4 gE hk λb o gF=>zaa za4 gF (g1.t X) λv19 gG=>?_;have hlk:=gt _ (qab hk);refine zaK (α:=Int) u33 ty3 λa23 w8' U _=>⟨U,?_⟩;have gg:=U.size;refine zfa (α:=Int) u33 ty3 zc3 gG (g1.t (X.t U)) (by rw [zal];omega) oo λr23 w9 Y gH=>?_;have gI:=Y.size;refine ⟨Y,?_⟩;have gh:=U.trans Y;have hs9:=gh.size;have r9:=gH.mono gg (lr _);refine zoJ (α:=RInts) u44 za4 z33 zBG qd ((r7.ext X).ext gh) oo (zjY r9) oo oo (by rw [zal];omega) oo λgJ gK D gr=>?_;have gM:=D.size;have M:=X.t gh;refine zab zbj<|zbW (α:=List RInts) zeN rfl rfl ((gf.ext M).chgI D oo) sS gr.own λw11 I gi=>?_;have gN:=I.size;refine zau<|⟨m-1,oo,k+1,oo,rfl,oo,Ext.chgI (Ext.chgI (g1.t M) D oo) I oo,((o8.ext M).chg D oo).chg I oo,((O.ext M).chg D oo).chg I oo,⟨gJ,gK.heap.size,_,oo,oo,?_,gi,gr.chg I oo⟩,((g4.ext M).chgI D oo).chgI I oo⟩;rw [qa6,hl,tk hk];rfl
 have hk:k=s.stacks.length:=oo
 refine ziq gf zc0 ?_
 have gs:OwnI w2.heap.size w7.heap.size w7 (.agg #[v8,v11,v1]) (⟨s.vars,s.owner,⟨v1,l⟩⟩:DStV):=
   ztS (s:=⟨s.vars,s.owner,⟨v1,l⟩⟩) o8 O (zjY r7) oo oo oo oo oo oo
 refine zcg zc0 rfl g4 rfl gs λw13 Z gj=>?_;have gO:=Z.size;refine zeI gj zc0<|⟨Ext.chgI (gl.t g1) Z oo,_,(gs.chg Z oo).mono oo oo,?_⟩;show (⟨s.vars,s.owner,l.map RV.l⟩:DState)=s;rw [hl,hk,qaD]
def zo4 {t e:TypeId} {b a n cap sz by_ k:Nat} (ht:P.underlying t=some (.slice e)) (he:tyI P e=some (sz,by_,ag)) (hu:u=.slice (some ⟨b,a,none⟩) n cap) (hk:k<n) (kk:K (.pointer (some ⟨b,a+k*sz,none⟩))) :
   RD P (Instr.indexAt t u (.int .i64 (k:Int))) w K:=by
 subst hu;exact zbb (λw' _=>by rw [zch ht he oo oo];simp) kk
instance:Flat DRace:=⟨λh=>by obtain ⟨F1,F2,c1,c2,rfl,rfl,⟨rfl,_⟩,⟨F3,F4,c3,c4,rfl,rfl,⟨rfl,_⟩,⟨rfl,_⟩⟩⟩:=h;rfl⟩
section
variable {α:Type} [DecidableEq α]
def ddg (x:α):List α->List α
 | []=>[]
 | y :: l=>if y=x then ddg x l else y :: ddg y l
def ddp:List α->List α
 | []=>[]
 | x :: l=>x :: ddg x l
theorem zo5 (y:α):∀ (l:List α) (x:α),ddg x (l++[y])=if y=l.getLastD x then ddg x l else ddg x l++[y]
 | [],x=>rfl
 | a :: l,x=>by
   rw [qbA,ddg,ddg,List.getLastD_cons];by_cases h:a=x
   . rw [if_pos h,if_pos h,zo5 y l x,h]
   rw [if_neg h,if_neg h,zo5 y l a];split<;>rfl
theorem zo6 {l:List α} {k:Nat} (h0:0<k) (hk:k<l.length):ddp (l.take (k+1))=if l[k]=l[k-1] then ddp (l.take k) else ddp (l.take k)++[l[k]]:=by
 rw [tk hk];cases l with
 | nil=>simp at hk
 | cons x l=>
   obtain ⟨j,rfl⟩:∃ j,k=j+1:=⟨k-1,oo⟩;have hj:j<l.length:=by simpa using hk
   have e:(l.take j).getLastD x=(x :: l)[j+1-1]:=by
     rw [List.getLastD_eq_getLast?,List.getLast?_eq_getElem?,qai,qby oo];cases j with
     | zero=>simp
     | succ j=>simp [List.getElem?_take];rw [List.getElem?_eq_getElem oo];rfl
   rw [List.take_succ_cons,qbA,ddp,ddp,zo5,e];split<;>rfl
end
def znQ {l:List DRace} (h:OwnI lo hi w v l) (hn:l.length<=1073741824) :
   CALL tp 166 [v] w λr w'=>ChgI lo hi w w'/\OwnI lo hi w' r (ddp l):=by
 obtain ⟨F,hM,hF⟩:=h;refine co (g:=kf [] [(4,1152921504606846012,[3]),(9,18014397972611112,[3,5])] [(6,[0,1,2,3,4,5,6,7,8,9],0),(11,[0,1,2,3,4,5,6,7,8,9],0)]) Tryz.func166 ?_;refine zae u39 hM.is<|zag<|br (λgl=>?_) (λgp=>?_)
 . refine ⟨ChgI.refl w,F,?_,hF⟩
   have:ddp l=l:=by
     match l,gl with
     | [],_=>rfl
     | [x],_=>rfl
     | _ :: _ :: _,h=>simp only [qaj] at h;omega
   rw [this];exact hM
 have gq:l≠[]:=λe=>by rw [e] at gp;simp at gp
 obtain ⟨b,o,cap,xs,rfl,rfl,h1,h2,hcc,hrr,hww⟩:=zdL hM gq;have g3:=hM.is;refine zao l.length (λk us w'=>us=[.int .i64 (k:Int)]/\Ext w w'/\1<=k/\k<=l.length/\ddp (l.take k)=l.take k) 1 oo ⟨rfl,xrf w,lr _,oo,?_⟩ ?_
 . cases l with
   | nil=>exact absurd rfl gq
   | cons x l=>rfl
 rintro k0 mk u w1 hkm ⟨hu,g4,hk1,hkl,hd0⟩;try replace hu:=zbt hu
 rw [hu];refine zae u39 g3<|zag<|br (λgl=>?_) (λgH=>?_)
 case refine_2=>
   have:k0=l.length:=oo
   subst this;rw [qaD] at hd0;rw [hd0];exact ⟨g4.toI,[b],hM.ext g4,hF⟩
 have hk:k0<l.length:=oo
 have gI:=zah w1;have C:=g4.t gI;generalize World.drew1 w1=w2 at *;refine zad u39 zd9 g3 hk λb1 o1 gJ=>zaa zd9 gJ C λv19 gK=>zbc (by unfold I64;omega) ?_;rw [show ((k0:Int)-1)=((k0-1:Nat):Int) by omega];refine zad (i:=k0-1) u39 zd9 g3 oo λb2 o2 gM=>zaa zd9 gM C λv24 gN=>zis gK gN<|br (λgO=>?_) (λg5=>?_)
 case refine_2=>refine zau<|⟨mk-1,oo,k0+1,oo,rfl,C,oo,oo,?_⟩;rw [zo6 oo hk,if_neg g5,hd0,<-tk hk]
 refine ztP (α:=DRace) u39 zd9 oo h1 ?_;rw [if_neg oo];have e3:Rep.size DRace=3:=rfl;rw [e3]
 refine zao (l.length-k0) (λk2 us w'=>∃ (k:Nat) (cur:List DRace),us=[.int .i64 (k:Int),.int .i64 (k2:Int)]/\Chg [b] w w'/\Mine [b] w' (.slice (some ⟨b,o,none⟩) l.length cap) cur/\cur.length=l.length/\1<=k2/\k2<=l.length-k0/\k0<=k/\k+1<=k0+k2 /\
     cur.take k=ddp (l.take (k0+k2))/\∀ j,k<=j->cur[j]?=l[j]?) 1 oo
   ⟨k0,l,rfl,C.chg _,hM.ext C,rfl,lr _,oo,lr _,oo,by rw [zo6 oo hk,if_pos gO,hd0],λ_ _=>rfl⟩ ?_
 rintro k2 gr u9 w3 gP ⟨k,cur,gQ,gs,gt,M,gR,gS,gU,hkk,g1,D⟩;obtain ⟨g9,gb⟩:=zcB gQ;rw [g9,gb];refine zbb (v:=.int .i64 ((l.length-k0:Nat):Int)) (λw' _=>by simp [Builtin.len_,run_underlying u39];rfl)<|zag<|br (λgV=>?_) (λgW=>?_)
 . have hp:k0+k2<l.length:=oo
   have gx:=zah w3;have gc:=gt.ext gx;have gy:=gs.trans (gx.chg _);generalize World.drew1 w3=w4 at *;have gd:cur≠[]:=λe=>by rw [e] at M;simp at M;omega
   obtain ⟨b',o',gX,xs',gz,hb',_,_,gf,gg,gY⟩:=zdL gc gd;simp only [Value.slice.injEq,qak,Addr.mk.injEq] at gz;obtain ⟨⟨rfl,rfl,_⟩,_,rfl⟩:=gz;have gC:∀ i (hi:i<cur.length),At w4 b (o+i*3) cur[i]:=λi hi=>gf.at gg hi
   have g0:∀ i (hi:i<l.length) (gD:k<=i),cur[i]'(by omega)=l[i]:=λi hi gD=>by
     have:=D i gD;rw [List.getElem?_eq_getElem oo,List.getElem?_eq_getElem hi] at this;exact qaW this
   have gh:=gC (k0+k2) oo;have gE:=gC (k0+k2-1) oo;rw [g0 _ hp oo] at gh;rw [g0 _ oo oo] at gE;refine zo4 (k:=k2) u39 zd9 rfl oo ?_;rw [show o+k0*3+k2*3=o+(k0+k2)*3 by omega];refine zaa zd9 gh (xrf _) λv38 gZ=>zbc (by unfold I64;omega) ?_;rw [show ((k2:Int)-1)=((k2-1:Nat):Int) by omega];refine zo4 (k:=k2-1) u39 zd9 rfl oo ?_;rw [show o+k0*3+(k2-1)*3=o+(k0+k2-1)*3 by omega];refine zaa zd9 gE (xrf _) λv43 h4=>zl9 gZ h4 ?_;have gF:=zo6 (l:=l) (k:=k0+k2) oo hp;refine br (λgi=>?_) (λI=>?_)
   . refine zo4 (k:=k2) u39 zd9 rfl oo ?_
     rw [show o+k0*3+k2*3=o+(k0+k2)*3 by omega];refine zaa zd9 gh (xrf _) λv50 h5=>?_;obtain ⟨F5,h6,gG,h8⟩:=h5;have h9:=Flat.flat gG;subst h9;refine zte (α:=DRace) u39 zd9 gc (k:=k) oo ⟨h6,gG,h8⟩ λw5 gj g2=>zau<|zau<|⟨gr-1,oo,k2+1,oo,k+1,_,rfl,gy.trans gj,g2,by simp [M],oo,oo,oo,oo,?_,λj hj=>?_⟩
     . rw [show k0+(k2+1)=k0+k2+1 by omega,gF,if_neg gi,<-g1]
       rw [tk (by simp;omega),qcw,List.take_set_of_le (lr _)]
     rw [List.getElem?_set_ne oo];exact D j oo
   have I:=qad.1 I;refine zau<|⟨gr-1,oo,k2+1,oo,k,cur,rfl,gy,gc,M,oo,oo,gU,oo,?_,D⟩;rw [show k0+(k2+1)=k0+k2+1 by omega,gF,if_pos I,g1]
 have ha:k0+k2=l.length:=oo
 rw [ha,qaD] at g1;refine ztP (α:=DRace) u39 zd9 oo h1<|zxK (α:=DRace) u39 zEW gt M oo oo h1 λw5 gj g2=>zxJ (α:=DRace) u39 zd9 oo h1 ?_;rw [g1] at g2;exact ⟨(gs.trans gj).toI hF,[b],g2,hF⟩
def zqH {l:List DRace} (h:Is W v l) (e:Ext W w) (hn:l.length<=1073741824) :
   CALL tp 162 [v] w λr w'=>Ext w w'/\Own w.heap.size w' r l:=by
 refine co (g:=kf [] [] []) Tryz.func162 ?_;obtain ⟨a,cap,Fi,xs,rfl,h1,h2,h3,h4⟩:=zcT h;refine zhd u39<|zbz (λg0=>?_) (λ_=>?_)
 . have:l=[]:=by
     rcases h4 with h4 | ⟨b,o,rfl,_⟩
     . exact h4
     simp at g0
   subst this;exact ⟨xrf w,zfP rfl⟩
 refine zaK (α:=DRace) u39 zd9 λa5 w1 g1 r5=>?_;have hs1:=g1.size;refine zeh (α:=DRace) u39 zd9 zCF r5 (lr _) h (e.trans g1) (by rw [zal];simp;omega) (by simp;omega) λv7 w2 g2 r7=>?_;rw [qbu] at r7;exact ⟨Ext.chgI g1 g2 oo,r7.own.own.mono oo⟩
def ztT {l:List DRace} (h:OwnI lo hi w v l) :
   CALL tp 165 [v] w λr w'=>Ext w w'/\OwnI lo hi w' r l:=by
 obtain ⟨F,hM,hF⟩:=h;refine co (g:=kf [] [] []) Tryz.func165 ?_;refine zae u39 hM.is<|zae u39 hM.is ?_;by_cases hne:l=[]
 . subst hne
   obtain ⟨a,cap,Fi,xs,rfl,h1,h2,h3,h4⟩:=zcT hM.is;refine ztQ (α:=DRace) (k:=0) (j:=0) u39 zd9 (lr _) h1 λa' _=>⟨xrf w,zdz a'⟩
 obtain ⟨b,o,cap,xs,rfl,rfl,h1,h2,hc,hr,hw⟩:=zdL hM hne;refine ztQ (α:=DRace) (k:=l.length) (j:=l.length) u39 zd9 (lr _) h1 λa' ha=>?_;rw [ha (λe=>hne (qam e))];exact ⟨xrf w,[b],zgN (lr _) oo hc hr hw,hF⟩
end Go.Proofs.YtcnglfeoglgebaaGreat
namespace Go.Sh
open Rep (rep)
variable {F G:List Nat} {b o:Nat} {w:World}
instance:RepZ Raw:=⟨⟨.slice none 0 0⟩,[.slice none 0 0],λ_=>⟨rfl,rfl,rfl⟩⟩
abbrev RIns:=RV DIns 84
structure DEm where
 a:Raw
 b:Raw
 c:Raw
 ins:RIns
def DEm.ext_iff {x y:DEm}:x=y↔(x.a=y.a/\x.b=y.b/\x.c=y.c/\x.ins=y.ins):=⟨λh=>by rw [h];exact ⟨rfl,rfl,rfl,rfl⟩,λh=>by obtain ⟨h0,h1,h2,h3⟩:=h;cases x;cases y;simp only at h0 h1 h2 h3;simp only [h0,h1,h2,h3]⟩
instance:Rep DEm:=Rep.via λx=>(x.a,x.b,x.c,x.ins)
def zo7 {x:DEm} (h:At w b o x):At w b (o+3) x.ins:=zbh (α:=Raw) (β:=RIns) (p:=(x.c,x.ins)) (zbh (α:=Raw) (β:=Raw×RIns) (p:=(x.b,x.c,x.ins)) (zbh (α:=Raw) (β:=Raw×Raw×RIns) (p:=(x.a,x.b,x.c,x.ins)) h))
instance:RepZ DEm:=⟨⟨(RepZ.zv:Raw),(RepZ.zv:Raw),(RepZ.zv:Raw),(RepZ.zv:RIns)⟩,RepZ.zc (Raw×Raw×Raw×RIns),λw=>RepZ.zr (α:=Raw×Raw×Raw×RIns) w⟩
def zvb {γ:Type} {H:List Nat->World->γ->Prop} {x:DEm} {upd:DEm->γ} (h:Lens H F w b o G x upd) :
   ∃ G1,Lens H F w b (o+0) G1 x.a (λy=>upd ⟨y,x.b,x.c,x.ins⟩):=by
 have h':Lens H F w b o G (x.a,x.b,x.c,x.ins) (λp:Raw×Raw×Raw×RIns=>upd ⟨p.1,p.2.1,p.2.2.1,p.2.2.2⟩):=⟨h.here,h.sub,λw' G' y' hc hO hs=>h.back w' G' _ hc hO hs⟩;obtain ⟨G0,h'⟩:=h'.fst;exact ⟨_,h'⟩
def zvc {γ:Type} {H:List Nat->World->γ->Prop} {x:DEm} {upd:DEm->γ} (h:Lens H F w b o G x upd) :
   ∃ G1,Lens H F w b (o+1) G1 x.b (λy=>upd ⟨x.a,y,x.c,x.ins⟩):=by
 have h':Lens H F w b o G (x.a,x.b,x.c,x.ins) (λp:Raw×Raw×Raw×RIns=>upd ⟨p.1,p.2.1,p.2.2.1,p.2.2.2⟩):=⟨h.here,h.sub,λw' G' y' hc hO hs=>h.back w' G' _ hc hO hs⟩;obtain ⟨G0,h'⟩:=h'.snd;obtain ⟨G1,h'⟩:=h'.fst;exact ⟨_,h'⟩
def zj2 {γ:Type} {H:List Nat->World->γ->Prop} {x:DEm} {upd:DEm->γ} (h:Lens H F w b o G x upd) :
   ∃ G1,Lens H F w b (o+3) G1 x.ins (λy=>upd ⟨x.a,x.b,x.c,y⟩):=by
 have h':Lens H F w b o G (x.a,x.b,x.c,x.ins) (λp:Raw×Raw×Raw×RIns=>upd ⟨p.1,p.2.1,p.2.2.1,p.2.2.2⟩):=⟨h.here,h.sub,λw' G' y' hc hO hs=>h.back w' G' _ hc hO hs⟩;obtain ⟨G0,h'⟩:=h'.snd;obtain ⟨G1,h'⟩:=h'.snd;obtain ⟨G2,h'⟩:=h'.snd;exact ⟨_,h'⟩
section
variable {P:Program} {w w':World} {lo hi:Nat}
def zi4 {op r to:Int} {t0 t1 t2 t3:Value} {t:DTerm} (h0:I64 op) (h1:I64 r) (h2:I64 to) (ht:OwnI lo hi w (.agg #[t0,t1,t2,t3]) t):OwnI lo hi w (.agg #[.int .i64 op,.int .i64 r,t0,t1,t2,t3,.int .i64 to]) (⟨op,r,t,to⟩:DIns):=by
 obtain ⟨F,⟨⟨cs,hr,hv⟩,g0,hw⟩,hF⟩:=ht
 have g1:cs=[t0,t1,t2,t3]:=by
   simp only [mkv,Rep.agg,cond_true,Value.agg.injEq] at hv;have:=congrArg Array.toList hv;simpa using this.symm
 subst g1;refine ⟨F,⟨⟨[.int .i64 op,.int .i64 r,t0,t1,t2,t3,.int .i64 to],?_,rfl⟩,g0,hw⟩,hF⟩;have:=za2 (F:=[]) (c1:=[.int .i64 op]) (show rep [] w [.int .i64 op] op from ⟨rfl,rfl,h0⟩) (za2 (F:=[]) (c1:=[.int .i64 r]) (show rep [] w [.int .i64 r] r from ⟨rfl,rfl,h1⟩) (za2 hr (show rep [] w [.int .i64 to] to from ⟨rfl,rfl,h2⟩)));simp only [qbu,qaC] at this;exact this
def zCW {X:Nat->Prop} {t g:Nat} {v:Value} {K:Value->Prop} (h:Var P t w g v) (hX:¬X g) (k:K v):RDX P X (Instr.loadAt t (.pointer (some ⟨g,0,none⟩))) w K:=by
 refine ⟨v,λw' hx=>?_,k⟩;obtain ⟨u,h1,h2⟩:=zaF (P:=P) (K:=λu=>u=v) (h.keep (hx.block g h.lt hX)) (xrf w') rfl;subst h2;exact h1 w' (xrf w')
def zsk {α β:Type} [Rep α] [Rep β] {e b o g:Nat} {F G:List Nat} {t by_:Nat} {x:RV β e} {upd:RV β e->α} {w2:World} {v':Value} {l':List β} {G':List Nat} {K:World->Prop} (ht:tyI P t=some (1,by_,false)) (hL:Lens (VH g) (g :: F) w b o G x upd) (gf:∀ c∈g :: F,c<w.heap.size) (hc:Chg G w w2)
   (hR:RowG G' e w2 v' l') (hN:G'.Nodup) (hs:∀ c∈G',c∈G\/c∉g :: F)
   (k:∀ w3,Chg (b :: G) w w3->(∃ F',OAt F' w3 g 0 (upd ⟨v',l'⟩)/\∀ c∈F',c∈g :: F\/c∈G')->K w3):OPU P (Instr.storeAt t (.pointer (some ⟨b,o,none⟩)) v') w2 K:=by
 obtain ⟨cs,⟨rfl,g4⟩,hr,hn,hw,hb,gc⟩:=hL.here;have gd:b<w.heap.size:=gf b (hL.sub b sS);have g5:w2.heap[b]?=w.heap[b]?:=hc.block b gd hb;have g0:∃ c e,w2.heap[b]?=some (.cells c e (0,0)):=by obtain ⟨c,e,h⟩:=gc;exact ⟨c,e,by rw [g5];exact h⟩
 have g1:b∉G':=λhm=>by
   rcases hs b hm with h | h
   . exact hb h
   exact h (hL.sub b sS)
 refine zlb ht g0 (zbo hr g5) g4.one hR.one λw3 g3 gg=>?_
 have g2:ChgAt b o 1 G w w3:=by
   refine ⟨(hc.mono (by simp +contextual)).trans (g3.chg.mono (by simp +contextual)),λc e gh=>?_⟩;obtain ⟨c',h1,h2⟩:=g3.cell c e (by rw [g5];exact gh);exact ⟨c',h1,h2⟩
 have r:∀ c∈G',w3.heap[c]?=w2.heap[c]?:=λc gb=>g3.chg.block c (hR.lt c gb) (by simp;exact λe=>g1 (e▸gb));obtain ⟨c',e',gi⟩:=g0;obtain ⟨gj,g9,_⟩:=g3.cell c' e' gi;obtain ⟨F',h1,h2⟩:=hL.back w3 G' ⟨v',l'⟩ g2 ⟨[v'],⟨rfl,hR.keep r⟩,gg,hN,(hR.keep r).wr,g1,gj,e',g9⟩ hs;exact k w3 g2.chg ⟨F',h1,h2⟩
end
end Go.Sh
namespace Go.Proofs.YtcnglfeoglgebaaGreat
open Go Go.Sh Go.Proofs
open Rep (rep)
variable {F F1:List Nat} {K:Value->Prop} {W w w1 w2:World} {b cap g hi i k lo n:Nat} {v:Value}
section
variable {w:World} {lo hi:Nat} {K:Value->Prop}
def zsl {a b:Int} {u:Value} {t:DTerm} (ha:I64 a) (hb:I64 b) (hu:OwnI lo hi w u t) (k:∀ v,OwnI lo hi w v (⟨a,b,t,0⟩:DIns)->K v):RD tp (Instr.build 84 #[(0,.int .i64 a),(1,.int .i64 b),(2,u)]) w K:=by
 obtain ⟨p,q,rfl⟩:=zhH hu.is;exact zaX (cells:=#[.int .i64 a,.int .i64 b,.int .i64 t.kind,.int .i64 t.num,.string t.name,.slice p t.kids.length q,.int .i64 0]) kK (k _ (zi4 ha hb zl0 hu))
def znR {a:Int} {u:Value} {t:DTerm} (ha:I64 a) (hu:OwnI lo hi w u t) (k:∀ v,OwnI lo hi w v (⟨a,0,t,0⟩:DIns)->K v):RD tp (Instr.build 84 #[(0,.int .i64 a),(2,u)]) w K:=by
 obtain ⟨p,q,rfl⟩:=zhH hu.is;exact zaX (cells:=#[.int .i64 a,.int .i64 0,.int .i64 t.kind,.int .i64 t.num,.string t.name,.slice p t.kids.length q,.int .i64 0]) kK (k _ (zi4 ha zl0 zl0 hu))
def zhO {a b:Int} (ha:I64 a) (hb:I64 b) (k:∀ v,OwnI lo hi w v (⟨a,b,term0,0⟩:DIns)->K v):RD tp (Instr.build 84 #[(0,.int .i64 a),(1,.int .i64 b)]) w K:=
 zaX (cells:=#[.int .i64 a,.int .i64 b,.int .i64 0,.int .i64 0,.string nO,.slice none 0 0,.int .i64 0]) kK (k _ (zi4 ha hb zl0 zgd))
def zvd {a b:Int} (ha:I64 a) (hb:I64 b) (k:∀ v,OwnI lo hi w v (⟨a,0,term0,b⟩:DIns)->K v):RD tp (Instr.build 84 #[(0,.int .i64 a),(3,.int .i64 b)]) w K:=
 zaX (cells:=#[.int .i64 a,.int .i64 0,.int .i64 0,.int .i64 0,.string nO,.slice none 0 0,.int .i64 b]) kK (k _ (zi4 ha zl0 hb zgd))
def zma {a:Int} (ha:I64 a) (k:∀ v,OwnI lo hi w v (⟨a,0,term0,0⟩:DIns)->K v):RD tp (Instr.build 84 #[(0,.int .i64 a)]) w K:=
 zaX (cells:=#[.int .i64 a,.int .i64 0,.int .i64 0,.int .i64 0,.string nO,.slice none 0 0,.int .i64 0]) kK (k _ (zi4 ha zl0 zl0 zgd))
end
def EmF (W:World) (g:Nat) (p:DProg) (L:List DIns) (F:List Nat) (w:World):Prop:=
 ∃ c0 c1 c2 rv,Is W (.agg #[c0,c1,c2]) p/\OAt F w g 0 (⟨⟨c0⟩,⟨c1⟩,⟨c2⟩,⟨rv,L⟩⟩:DEm)/\Ext W w/\W.heap.size<=g/\∀ c∈F,W.heap.size<=c
section
variable {W w w':World} {g:Nat} {p:DProg} {L:List DIns} {F:List Nat}
def EmF.ext (h:EmF W g p L F w) (hx:Ext w w'):EmF W g p L F w':=by
 obtain ⟨c0,c1,c2,rv,h1,h2,h3,h4⟩:=h;exact ⟨c0,c1,c2,rv,h1,h2.ext hx,h3.trans hx,h4⟩
def EmF.old (h:EmF W g p L F w):Ext W w:=by obtain ⟨c0,c1,c2,rv,h1,h2,h3,h4⟩:=h;exact h3
def EmF.lt (h:EmF W g p L F w):g<w.heap.size/\(∀ c∈F,c<w.heap.size)/\W.heap.size<=g/\g∉F/\∀ c∈F,W.heap.size<=c:=by
 obtain ⟨c0,c1,c2,rv,h1,h2,h3,h4,h5⟩:=h;have:=h2.lts;obtain ⟨_,_,_,_,_,h6,_⟩:=h2;exact ⟨this g sS,λc hc=>this c (by simp [hc]),h4,h6,h5⟩
def EmF.keep (h:EmF W g p L F w) (hk:∀ c∈g :: F,w'.heap[c]?=w.heap[c]?) (hx:Ext W w'):EmF W g p L F w':=by
 obtain ⟨c0,c1,c2,rv,h1,h2,h3,h4⟩:=h;exact ⟨c0,c1,c2,rv,h1,h2.keep hk,hx,h4⟩
def zi5 {c0 c1 c2:Value} (h:Is W (.agg #[c0,c1,c2]) p):Is W c0 p.globals/\Is W c1 p.locks/\Is W c2 p.procs:=by
 obtain ⟨F,cs,hr,hv⟩:=h
 have g0:cs=[c0,c1,c2]:=by
   simp only [mkv,Rep.agg,cond_true,Value.agg.injEq] at hv;have:=congrArg Array.toList hv;simpa using this.symm
 subst g0;obtain ⟨F1,F2,x1,x2,rfl,hx,h1,F3,F4,x3,x4,rfl,g1,h2,h3⟩:=hr;have e1:∃ a,x1=[a]:=by obtain ⟨a,cap,Fi,xs,rfl,_⟩:=h1;exact ⟨_,rfl⟩
 have e2:∃ a,x3=[a]:=by obtain ⟨a,cap,Fi,xs,rfl,_⟩:=h2;exact ⟨_,rfl⟩
 have e3:∃ a,x4=[a]:=by obtain ⟨a,cap,Fi,xs,rfl,_⟩:=h3;exact ⟨_,rfl⟩
 obtain ⟨a1,rfl⟩:=e1;obtain ⟨a2,rfl⟩:=e2;obtain ⟨a3,rfl⟩:=e3;subst g1;simp only [qbA,qbu,qbf,and_true] at hx;obtain ⟨rfl,rfl,rfl⟩:=hx;exact ⟨⟨F1,_,h1,rfl⟩,⟨F3,_,h2,rfl⟩,⟨F4,_,h3,rfl⟩⟩
def zEp {K:Value->Prop} (h:EmF W g p L F w) (k:∀ v,Is W v p.globals->K v) :
   RD tp (Instr.fieldAt 207 (.pointer (some ⟨g,0,none⟩)) 0) w λx26=>RD tp (Instr.fieldAt 27 x26 0) w λx27=>RD tp (Instr.loadAt 24 x27) w λx28=>K x28:=by
 obtain ⟨c0,c1,c2,rv,h1,h2,h3,h4,h5⟩:=h;obtain ⟨G1,hL⟩:=zvb (Lens.var h2);obtain ⟨cs,⟨_,rfl,_⟩,hr,_⟩:=hL.here;refine zab zr4<|zab znC<|zcD zcv hr (k _ (zi5 h1).1)
def zBR {K:Value->Prop} (h:EmF W g p L F w) (k:∀ v,Is W v p.locks->K v) :
   RD tp (Instr.fieldAt 207 (.pointer (some ⟨g,0,none⟩)) 0) w λx26=>RD tp (Instr.fieldAt 27 x26 1) w λx27=>RD tp (Instr.loadAt 24 x27) w λx28=>K x28:=by
 obtain ⟨c0,c1,c2,rv,h1,h2,h3,h4,h5⟩:=h;obtain ⟨G1,hL⟩:=zvc (Lens.var h2);obtain ⟨cs,⟨_,rfl,_⟩,hr,_⟩:=hL.here;refine zab zr4<|zab zqc<|zcD zcv hr (k _ (zi5 h1).2.1)
def zBS {K:Value->Prop} (h:EmF W g p L F w) (k:∀ v,Is W v p->K v) :
   RD tp (Instr.fieldAt 207 (.pointer (some ⟨g,0,none⟩)) 0) w λx42=>RD tp (Instr.loadAt 27 x42) w λx43=>K x43:=by
 obtain ⟨c0,c1,c2,rv,h1,h2,h3,h4,h5⟩:=h;refine zab zr4 ?_;obtain ⟨F1,g5,g1,g2⟩:=h1
 have g9:g5=[c0,c1,c2]:=by
   simp only [mkv,Rep.agg,cond_true,Value.agg.injEq] at g2;have:=congrArg Array.toList g2;simpa using this.symm
 subst g9;obtain ⟨cs,gb,g3,_⟩:=h2;obtain ⟨F2,F3,x1,x2,_,rfl,⟨_,rfl,_⟩,F4,F5,x3,x4,_,rfl,⟨_,rfl,_⟩,F6,F7,x5,x6,_,rfl,⟨_,rfl,_⟩,_⟩:=gb
 have g4:w.rangeAt g 0 [c0,c1,c2]:=by
   have:([c0]++([c1]++([c2]++x6)))=[c0,c1,c2]++x6:=rfl;rw [this] at g3;exact (zaO g3).1
 have hat:At w g (0+0) p:=⟨F1,_,zcr g1 h3,g4⟩;have g0:AtB W w g (0+0) p:=⟨F1,_,g1,g4⟩;exact zfj zqb g0 h3 (xrf w) λv hv=>k v hv
def zi6 {lo hi:Nat} {u:Value} {x:DIns} (h:EmF W g p L F w) (hx:OwnI lo hi w u x) (hgl:g<lo) (gp:∀ c∈F,c<lo) (hlo:lo<=w.heap.size) (hL:L.length<=1000000) :
   CALL tp 204 [.pointer (some ⟨g,0,none⟩),u] w λr w'=>r=.int .i64 (L.length:Int)/\Chg (g :: F) w w'/\∃ F',EmF W g p (L++[x]) F' w'/\∀ c∈F',c∈F\/lo<=c:=by
 obtain ⟨e1,e2,e3,e4,e5⟩:=h.lt;obtain ⟨GX,gj,g3⟩:=hx;refine co (g:=⟨extL,[],[],[(1,[0,1,2,3,4,5,6,7,8,9,10],192)],[],[1],[]⟩) Tryz.func204 ?_;refine zat zcL rfl gj.is (xrf w) λw1 gl hA1 gt=>?_;have hs1:=gl.size;have g5:=zah w1;have hs2:=g5.size;have gx:=gt.ext g5;have C:=gl.t g5;generalize World.drew1 w1=w2 at *;have gy:=gj.ext C;obtain ⟨c0,c1,c2,rv,h1,h2,h3,h4,h5⟩:=h.ext C;obtain ⟨G1,g9⟩:=zj2 (Lens.var h2);obtain ⟨cs1,⟨rfl,gb⟩,gz,gC,_,gD,_⟩:=g9.here
 have D:∀ c∈G1,c∈F:=λc hc=>by
   rcases qaa.1 (g9.sub c (by simp [hc])) with e | h
   . exact absurd (e▸hc) gD
   exact h
 have g0:=h2.lts;refine XR.mk (λc=>c∈F)<|NIL.mk rfl<|zfp zij<|zfD zcQ gz (λh=>e4 h)<|zCW gx (λh=>by have:=e2 _ h;omega)<|zdD (β:=DIns) (G:=G1) u34 zcL z84 zFE qd gb gC gy (λc hc gE=>by have:=g3 c hc;have:=gp c (D c gE);omega) (by rw [zal];show L.length+1<=_;omega) (by show (L.length+1)*_<=_;omega) (λw3 gc w4 G' g4 gq gF gG gd=>?_) λs' w3 g4 h=>⟨g4.toX,h⟩;have hs3:=g4.size;refine ⟨gq.toX (λc hc=>D c hc),?_⟩;refine NIL.mk rfl<|zfp zij ?_;have gf:Chg G1 w2 w4:=(g4.chg G1).trans gq;refine zsk zcQ g9 g0 gf gF gG (λc hc=>?_) λw5 gH ⟨F',gg,gr⟩=>?_
 . rcases gd c hc with h | h | h
   . exact .inl h
   . refine .inr λhm=>?_
     have:=g3 c h;rcases qaa.1 hm with e | hm
     . omega
     have:=gp c hm;omega
   exact .inr λhm=>by have:=g0 c hm;omega
 have g1:g∉F':=by obtain ⟨_,_,_,_,_,hn,_⟩:=gg;exact hn
 have g2:Chg (g :: F) w w5:=(C.chg _).trans (gH.mono λc hc=>by
   rcases qaa.1 hc with rfl | hc
   . simp
   simp [D c hc])
 refine NIL.mk rfl<|zab zij<|zaa (α:=RIns) zcQ (zo7 gg.at) (xrf w5) λv18 gI=>?_;obtain ⟨gh,gi⟩:=znb gI;have gh:v18=gc:=gh;have gi:Is w5 gc (L++[x]):=gi;rw [gh];refine zae u34 gi ?_;have gs:((L++[x]).length:Int)=(L.length:Int)+1:=by simp
 refine zbc (by show I64 (((L++[x]).length:Int)-1);rw [gs];unfold I64;omega)<|⟨?_,g2,F',⟨c0,c1,c2,gc,h1,gg,h.old.chgL g2 (λc hc=>?_),h4,λc hc=>?_⟩,λc hc=>?_⟩
 . show Value.int .i64 (((L++[x]).length:Int)-1)=_
   rw [gs];congr 1;omega
 . rcases qaa.1 hc with rfl | hc
   . exact h4
   exact e5 c hc
 . rcases gr c hc with h | h
   . rcases qaa.1 h with rfl | h
     . exact absurd hc g1
     exact e5 c h
   rcases gd c h with h | h | h
   . exact e5 c (D c h)
   . have:=g3 c h;omega
   omega
 rcases gr c hc with h | h
 . rcases qaa.1 h with rfl | h
   . exact absurd hc g1
   exact .inl h
 rcases gd c h with h | h | h
 . exact .inl (D c h)
 . exact .inr (g3 c h).1
 exact .inr oo
def zld {A R:List DIns} {y:DIns} {k:Nat} {K:World->Prop} (h:EmF W g p (A++y :: R) F w) (hk:A.length=k) (hL:(A++y :: R).length<=1000000)
   (kk:∀ w' F',Chg (g :: F) w w'->EmF W g p (A++(⟨y.op,y.arg,y.term,((A++y :: R).length:Int)⟩:DIns) :: R) F' w'->(∀ c∈F',c∈F)->K w') :
   NIL (.pointer (some ⟨g,0,none⟩))<|RD tp (Instr.fieldAt 207 (.pointer (some ⟨g,0,none⟩)) 1) w λx110=>RD tp (Instr.loadAt 34 x110) w λx111=>
     NIL (.pointer (some ⟨g,0,none⟩))<|RD tp (Instr.fieldAt 207 (.pointer (some ⟨g,0,none⟩)) 1) w λx115=>RD tp (Instr.loadAt 34 x115) w λx116=>
     RD tp (Builtin.len_ #[34] 3 [x116].toArray) w λx117=>RD tp (Instr.indexAt 34 x111 (.int .i64 (k:Int))) w λx118=>RD tp (Instr.fieldAt 84 x118 3) w λx119=>
     OPU tp (Instr.storeAt 3 x119 x117) w λw=>K w:=by
 obtain ⟨e1,e2,e3,e4,e5⟩:=h.lt;obtain ⟨c0,c1,c2,rv,h1,h2,h3,h4,h5⟩:=h;have g4:=h2.lts;have C:k<(A++y :: R).length:=by simp;omega
 obtain ⟨G1,g2⟩:=zj2 (Lens.var h2);obtain ⟨cs1,⟨rfl,g0⟩,g3,_⟩:=g2.here;obtain ⟨b2,a2,g5,G2,g9,gb,gc⟩:=g2.elemV (k:=k) C;refine NIL.mk rfl<|zab zij<|zcD zcQ g3<|NIL.mk rfl<|zab zij<|zcD zcQ g3<|zae u34 (show Is w rv (A++y :: R) from g0.own.is)<|zo4 u34 zcL g9 C ?_;obtain ⟨G3,gd⟩:=zr0 gc;refine zab zea<|zk2 ty3 gd (zbA (by unfold I64;omega)) sS λw' hc ⟨F',hO,gf⟩=>?_;have g1:g∉F':=by obtain ⟨_,_,_,_,_,hn,_⟩:=hO;exact hn
 have hF:∀ c∈F',c∈F:=λc r=>by
   rcases gf c r with h | h
   . rcases qaa.1 h with rfl | h
     . exact absurd r g1
     exact h
   simp at h
 refine kk w' F' hc ⟨c0,c1,c2,rv,h1,?_,h3.chgL hc λc r=>?_,h4,λc r=>e5 c (hF c r)⟩ hF
 . have hO:OAt F' w' g 0 (⟨⟨c0⟩,⟨c1⟩,⟨c2⟩,⟨rv,(A++y :: R).set k ⟨((A++y :: R)[k]'C).op,((A++y :: R)[k]'C).arg,((A++y :: R)[k]'C).term,((A++y :: R).length:Int)⟩⟩⟩:DEm):=hO
   rw [zo1 hk,zjZ hk C] at hO;exact hO
 rcases qaa.1 r with rfl | r
 . exact e3
 exact e5 c r
end
def zgO (G L P:List ByteArray) (x:DStmt) (a:Nat):emS G L P x a =
   if x.kind=1 then [⟨1,plc x.name G,x.term,0⟩]
   else if x.kind=4 then [⟨4,plc x.name P,term0,0⟩]
   else if x.kind=5 then [⟨5,plc x.name P,term0,0⟩]
   else if x.kind=6 then [⟨6,plc x.name L,term0,0⟩]
   else if x.kind=7 then [⟨7,plc x.name L,term0,0⟩]
   else if x.kind=8 then [⟨8,0,term0,0⟩]
   else if x.kind=3 then ⟨2,0,x.term,((a+1+(emL G L P x.body (a+1)).length+1:Nat):Int)⟩ :: (emL G L P x.body (a+1)++[⟨3,0,term0,(a:Int)⟩])
   else if x.kind=2 then
     (if x.els.length=0 then ⟨2,0,x.term,((a+1+(emL G L P x.body (a+1)).length:Nat):Int)⟩ :: emL G L P x.body (a+1)
     else ⟨2,0,x.term,((a+1+(emL G L P x.body (a+1)).length+1:Nat):Int)⟩ :: (emL G L P x.body (a+1) ++
       (⟨3,0,term0,((a+1+(emL G L P x.body (a+1)).length+1+(emL G L P x.els (a+1+(emL G L P x.body (a+1)).length+1)).length:Nat):Int)⟩ :: emL G L P x.els (a+1+(emL G L P x.body (a+1)).length+1))))
   else []:=by cases x;rw [emS];rfl
section
variable (G L P:List ByteArray)
mutual
theorem zxN:∀ (x:DStmt) (a:Nat),(emS G L P x a).length<=2*szS x
  | .mk k n t b e,a=>by
    have h1:=zj3 b (a+1);have h2:=zj3 e (a+1+(emL G L P b (a+1)).length+1);rw [emS,szS]
    repeat' split
    all_goals simp only [qaj,qay,qag];omega
theorem zj3:∀ (l:List DStmt) (a:Nat),(emL G L P l a).length<=2*szL l
  | [],a=>by rw [emL];simp
  | x :: l,a=>by
    have h1:=zxN x a;have h2:=zj3 l (a+(emS G L P x a).length);rw [emL,szL,qag];omega
end
end
def zCX (x:DStmt):szS x=1+szL x.body+szL x.els:=by cases x;rw [szS];rfl
def zeq (h:Chg (g :: F) w w1) (k:Chg (g :: F1) w1 w2) (hF:∀ c∈F1,c∈F\/w.heap.size<=c):Chg (g :: F) w w2:=
 ⟨k.os.trans h.os,k.tape.trans h.tape,k.output.trans h.output,qan h.size k.size,λb hb hn=>(k.block b (qal hb h.size) λhm=>by
   simp only [qaa,not_or] at hn;rcases qaa.1 hm with e | hm
   . exact hn.1 e
   rcases hF b hm with h | h
   . exact hn.2 h
   omega).trans (h.block b hb hn)⟩
def zEq {x:DStmt} (h:AtB W w b 0 x):AtB W w b (0+6) x.body:=by
 obtain ⟨F,cs,hr,hc⟩:=h;have h:AtB W w b 0 x.tup:=⟨F,cs,zfz.1 hr,hc⟩;exact h.snd.snd.snd.fst
def zEr {x:DStmt} (h:AtB W w b 0 x):AtB W w b (0+7) x.els:=by
 obtain ⟨F,cs,hr,hc⟩:=h;have h:AtB W w b 0 x.tup:=⟨F,cs,zfz.1 hr,hc⟩;exact h.snd.snd.snd.snd
def ztU {p:DProg} (h:Is W v p):p.procs.length<=9223372036854775807:=by
 obtain ⟨F,cs,hr,hv⟩:=h;obtain ⟨F1,F2,x1,x2,rfl,hx,h1,F3,F4,x3,x4,rfl,hx2,h2,h3⟩:=hr;obtain ⟨a,cap,Fi,xs,_,q1,q2,_⟩:=h3;have q1:p.procs.length<=cap:=q1;rw [zal] at q2;omega
def zsm (c:Scp) (n:Nat) (l:List DStmt):Prop:=∀ {W w:World} {g:Nat} {p:DProg} {L:List DIns} {F:List Nat} {v:Value},EmF W g p L F w->Is W v l->(∀ x∈l,StR c n x)->L.length+2*szL l<=1000000 ->
 CALL tp 203 [.pointer (some ⟨g,0,none⟩),v] w λr w'=>Chg (g :: F) w w'/\∃ F',EmF W g p (L++emL p.globals p.locks (p.procs.map DProc.name) l L.length) F' w'/\∀ c∈F',c∈F\/w.heap.size<=c
def zFl (W w:World) (g:Nat) (p:DProg) (L:List DIns) (F:List Nat) (l:List DStmt) (k:Nat) (us:List Value) (w':World):Prop:=
 us=[.int .i64 (k:Int)]/\∃ L1 F1,k<=l.length/\L++emL p.globals p.locks (p.procs.map DProc.name) l L.length=L1++emL p.globals p.locks (p.procs.map DProc.name) (l.drop k) L1.length/\L1.length+2*szL (l.drop k)<=1000000 /\
   Chg (g :: F) w w'/\EmF W g p L1 F1 w'/\∀ c∈F1,c∈F\/w.heap.size<=c
def zi7 {c:Scp} {l:List DStmt} (ih:∀ m l,m+1=n->zsm c m l) (g9:∀ m,zsm c m []):zsm c n l:=by
 intro W w g p L F v hE h hs gX;have hln:=zaj h;obtain ⟨-,e2,e3,e4,e5⟩:=hE.lt;have e1:=hE.lt.1;refine co (g:=kf [] [(1,766247770432944429179173513575154591809369561091801072,[4])] [(6,[0,1,2,3,4,5,6,7,9,10,8,11,12,13],2304),(8,[0,1,2,3,4,5,6,7,8,9],128),(10,[0,1,2,3,4,5,6,7,8,9],128),(12,[0,1,2,3,4,5,6,7,8,9,10],256),(14,[0,1,2,3,4,5,6,7,8,9,10],256),(21,[0,1,2,3,4,5,6,7,8,9,10,11,12],0),(27,[0,1,2,3,4,5,6,7,8,9,10,11,12],0),(29,[0,1,2,3,4,5,6,7,8,9,10,11,12],0),(30,[0,1,2,3,4,5,6,7,8,9,10,11,12],0)]) Tryz.func203 ?_;refine zao l.length (zFl W w g p L F l) 0 (z0 _) ⟨rfl,L,F,z0 _,sS,by simpa using gX,Chg.refl _ _,hE,λc hc=>.inl hc⟩ ?_;rintro k m u w1 hkm ⟨hu,L1,F1,hkl,gR,gx,gY,gS,g0⟩;try replace hu:=zbt hu
 rw [hu];have hW:=gY.size;refine zae u29 h<|zag<|br (λhlt=>?_) (λhge=>?_)
 rotate_left
 . have hk:k=l.length:=oo
   subst hk;rw [qbo,emL,qaC] at gR;rw [gR];exact ⟨gY,F1,gS,g0⟩
 have hk:k<l.length:=oo
 obtain ⟨x,hx⟩:∃ x,x=l[k]:=⟨_,rfl⟩;have gr:StR c n x:=by rw [hx];exact hs _ (qab hk)
 have hD:l.drop k=x :: l.drop (k+1):=by rw [hx];exact qau hk
 rw [hD,emL] at gR;rw [hD,szL] at gx;have hel:=zxN p.globals p.locks (p.procs.map DProc.name) x L1.length;have hX:=zCX x
 have I:∀ w' F2,Chg (g :: F) w w'->EmF W g p (L1++emS p.globals p.locks (p.procs.map DProc.name) x L1.length) F2 w'->(∀ c∈F2,c∈F\/w.heap.size<=c) ->
     ∃ m',m'<m/\∃ k',k'+m'=l.length/\zFl W w g p L F l k' [.int .i64 ((k+1:Nat):Int)] w':=λw' F2 hc hE hF=>
   ⟨m-1,oo,k+1,oo,rfl,_,F2,oo,by rw [gR,qag,qar],by rw [qag];omega,hc,hE,hF⟩
 obtain ⟨f1,f2,f3,f4,f5⟩:=gS.lt;have hG:=gS.old;refine zad u29 ze6 h hk λb17 o17 gy=>?_;rw [<-hx] at gy;refine zaa ze6 gy hG λv18 hH=>zck zEc rfl ze6 rfl hH hG λw2 gZ hA5 hI=>?_;have hs2:=gZ.size;have hg5:=hI.lt;have gh:=gS.ext gZ;have hJ:=zgF hH hI rfl;have hY:Chg (g :: F) w w2:=gY.trans (gZ.chg _)
 have g1:(x.kind=1\/x.kind=2\/x.kind=3)->TmR c.gl x.term:=λhq=>by
   have h0:St0 c x->TmR c.gl x.term:=λq=>by
     rcases q with q | q | q | q
     . exact q.2.2.1
     . have:=q.1;omega
     . have:=q.1;omega
     have:=q.1;omega
   cases n with
   | zero=>exact h0 gr.zero
   | succ n=>
     rcases gr.succ with q | ⟨_,_,h3,_⟩
     . exact h0 q
     exact h3
 have h6:∃ q,(∀ y∈x.body,StR c q y)/\(∀ y∈x.els,StR c q y)/\zsm c q x.body/\zsm c q x.els:=by
   have h0:St0 c x->x.body=[]/\x.els=[]:=λh=>by rcases h with q | q | q | q<;>exact ⟨q.2.2.2.1,q.2.2.2.2⟩
   cases n with
   | zero=>
     obtain ⟨h1,h2⟩:=h0 gr.zero;rw [h1,h2];exact ⟨0,sS,sS,g9 0,g9 0⟩
   | succ n=>
     rcases gr.succ with q | ⟨_,_,_,h4,h5⟩
     . obtain ⟨h1,h2⟩:=h0 q
       rw [h1,h2];exact ⟨0,sS,sS,g9 0,g9 0⟩
     exact ⟨n,h4,h5,ih n _ rfl,ih n _ rfl⟩
 obtain ⟨q,hL,hZ,hM,j0⟩:=h6;have M:=hJ.at gh.old;refine zab zic<|zac ty3 (zc5 M) (xrf _) λj1=>?_
 have U:∀ {w3:World} {lo hi:Nat} {u:Value} {y:DIns} {K:VW},Ext w2 w3->OwnI lo hi w3 u y->w1.heap.size<=lo->lo<=w3.heap.size ->
     (∀ w4 F4,Chg (g :: F) w w4->EmF W g p (L1++[y]) F4 w4->(∀ c∈F4,c∈F1\/w1.heap.size<=c)->AtB W w4 w1.heap.size 0 x->w1.heap.size<w4.heap.size->w1.heap.size∉F4\/lo<=w1.heap.size->K (.int .i64 (L1.length:Int)) w4)->CALL tp 204 [.pointer (some ⟨g,0,none⟩),u] w3 K:=by
   intro w3 lo hi u y K r ho h1 h2 hK;have gz:=r.size;refine (zi6 (gh.ext r) ho oo (λc hc=>by have:=f2 c hc;omega) h2 oo).mono ?_;rintro _ w4 ⟨rfl,h8,F4,j2,hN⟩;have gi:=h8.size;refine hK w4 F4 (zeq (hY.trans (r.chg _)) h8 g0) j2 (λc hc=>(hN c hc).imp id λh=>oo) ((hJ.ext r).keep (h8.block _ oo λhm=>?_)) oo ?_
   . rcases qaa.1 hm with e | hm
     . omega
     have:=f2 _ hm;omega
   rcases qaA w1.heap.size lo with hl | hl
   . refine .inl λhm=>?_
     rcases hN _ hm with h | h
     . have:=f2 _ h;omega
     omega
   exact .inr hl
 refine zai<|br (λk1=>?_) (λk1=>?_)
 . have r:=zah w2
   have Y:=gh.ext r;refine NIL.mk rfl<|zEp Y λgU Z=>zab zey<|zaB ty9 (zbL M) r λhS=>zab zkz<|zaa zdj (zdH M) r λv33 j3=>?_;refine (zcC Z Y.old).mono ?_;rintro _ w4 ⟨C,rfl⟩;refine ⟨C,?_⟩;have gC:=(g1 (.inl k1)).2.2;refine (zj0 _ j3 (r.t C) oo).mono ?_;rintro v34 w5 ⟨h9,ha⟩;have ha:=ha.toI;have gz:=r.size;have gi:=C.size;have hO:=h9.size;refine ⟨h9,?_⟩;have gs:=zlL (s:=x.name) (l:=p.globals);have gb:=zaj Z;refine zsl (by unfold I64;omega) (by unfold I64;omega) ha λgD g2=>U (r.t (C.t h9)) g2 oo oo λw6 F6 O D V _ _ _=>zau<|I w6 F6 O ?_ λc hc=>(V c hc).elim (g0 c) λh=>.inr oo;rw [zgO,if_pos k1];exact D
 refine zai<|br (λk4=>?_) (λk4=>?_)
 . have r:=zah w2
   have Y:=gh.ext r;have gz:=r.size;refine NIL.mk rfl<|zBS Y λgU Z=>zab zey<|zaB ty9 (zbL M) r λhS=>?_;refine (zl6 Z Y.old).mono ?_;rintro _ w4 ⟨C,rfl⟩;have gi:=C.size;refine ⟨C,?_⟩;have gs:=zlL (s:=x.name) (l:=p.procs.map DProc.name);have gb:p.procs.length<=9223372036854775807:=ztU Z;rw [qav] at gs;refine zhO (lo:=w4.heap.size) (hi:=w4.heap.size) (by unfold I64;omega) (by unfold I64;omega) λgD g2=>U (r.t C) g2 oo oo λw6 F6 O D V _ _ _=>zau<|I w6 F6 O ?_ λc hc=>(V c hc).elim (g0 c) λh=>.inr oo;rw [zgO,if_neg k1,if_pos k4];exact D
 refine zai<|br (λk5=>?_) (λk5=>?_)
 . have r:=zah w2
   have Y:=gh.ext r;have gz:=r.size;refine NIL.mk rfl<|zBS Y λgU Z=>zab zey<|zaB ty9 (zbL M) r λhS=>?_;refine (zl6 Z Y.old).mono ?_;rintro _ w4 ⟨C,rfl⟩;have gi:=C.size;refine ⟨C,?_⟩;have gs:=zlL (s:=x.name) (l:=p.procs.map DProc.name);have gb:p.procs.length<=9223372036854775807:=ztU Z;rw [qav] at gs;refine zhO (lo:=w4.heap.size) (hi:=w4.heap.size) (by unfold I64;omega) (by unfold I64;omega) λgD g2=>U (r.t C) g2 oo oo λw6 F6 O D V _ _ _=>zau<|I w6 F6 O ?_ λc hc=>(V c hc).elim (g0 c) λh=>.inr oo;rw [zgO,if_neg k1,if_neg k4,if_pos k5];exact D
 refine zai<|br (λk6=>?_) (λk6=>?_)
 . have r:=zah w2
   have Y:=gh.ext r;have gz:=r.size;refine NIL.mk rfl<|zBR Y λgU Z=>zab zey<|zaB ty9 (zbL M) r λhS=>?_;refine (zcC Z Y.old).mono ?_;rintro _ w4 ⟨C,rfl⟩;have gi:=C.size;refine ⟨C,?_⟩;have gs:=zlL (s:=x.name) (l:=p.locks);have gb:=zaj Z;refine zhO (lo:=w4.heap.size) (hi:=w4.heap.size) (by unfold I64;omega) (by unfold I64;omega) λgD g2=>U (r.t C) g2 oo oo λw6 F6 O D V _ _ _=>zau<|I w6 F6 O ?_ λc hc=>(V c hc).elim (g0 c) λh=>.inr oo;rw [zgO,if_neg k1,if_neg k4,if_neg k5,if_pos k6];exact D
 refine zai<|br (λk7=>?_) (λk7=>?_)
 . have r:=zah w2
   have Y:=gh.ext r;have gz:=r.size;refine NIL.mk rfl<|zBR Y λgU Z=>zab zey<|zaB ty9 (zbL M) r λhS=>?_;refine (zcC Z Y.old).mono ?_;rintro _ w4 ⟨C,rfl⟩;have gi:=C.size;refine ⟨C,?_⟩;have gs:=zlL (s:=x.name) (l:=p.locks);have gb:=zaj Z;refine zhO (lo:=w4.heap.size) (hi:=w4.heap.size) (by unfold I64;omega) (by unfold I64;omega) λgD g2=>U (r.t C) g2 oo oo λw6 F6 O D V _ _ _=>zau<|I w6 F6 O ?_ λc hc=>(V c hc).elim (g0 c) λh=>.inr oo;rw [zgO,if_neg k1,if_neg k4,if_neg k5,if_neg k6,if_pos k7];exact D
 refine zai<|br (λk8=>?_) (λk8=>?_)
 . refine zma (lo:=w2.heap.size) (hi:=w2.heap.size) (by unfold I64;omega) λgD g2=>?_
   refine U (xrf w2) g2 oo oo λw6 F6 O D V _ _ _=>zau<|I w6 F6 O ?_ λc hc=>(V c hc).elim (g0 c) λh=>.inr oo;rw [zgO,if_neg k1,if_neg k4,if_neg k5,if_neg k6,if_neg k7,if_pos k8];exact D
 have j4:=zj3 p.globals p.locks (p.procs.map DProc.name) x.body (L1.length+1);refine zai<|br (λk3=>?_) (λk3=>?_)
 . refine zab zkz ?_
   refine zaa zdj (zdH M) (xrf _) λv96 j5=>?_;have gC:=(g1 (.inr (.inr k3))).2.2;refine (zj0 _ j5 (xrf _) oo).mono ?_;rintro v97 w4 ⟨C,hb⟩;have hb:=hb.toI;have gi:=C.size;refine znR (by unfold I64;omega) hb λv98 j6=>U C j6 oo oo λw5 F5 gE gF gV gc gG _=>zab zg4<|zfj ziT (zEq gc) gF.old (xrf _) λj7 hd=>?_;refine (hM gF hd hL (by simp;omega)).mono ?_;rintro j8 w6 ⟨O,F6,D,V⟩;have hO:=gE.size;have j9:=O.size;obtain ⟨z1,z2,z3,z4,z5⟩:=D.lt;refine zvd (lo:=w6.heap.size) (hi:=w6.heap.size) (by unfold I64;omega) (by unfold I64;omega) λja he=>?_;refine (zi6 D he z1 z2 (lr _) (by simp;omega)).mono ?_;rintro jb w7 ⟨-,gt,F7,gH,gW⟩;have jc:=gt.size;have g4:=zah w7
   have e7:L1++[(⟨2,0,x.term,0⟩:DIns)]++emL p.globals p.locks (p.procs.map DProc.name) x.body (L1++[(⟨2,0,x.term,0⟩:DIns)]).length++[⟨3,0,term0,(L1.length:Int)⟩] =
       L1++(⟨2,0,x.term,0⟩:DIns) :: (emL p.globals p.locks (p.procs.map DProc.name) x.body (L1.length+1)++[⟨3,0,term0,(L1.length:Int)⟩]):=by simp
   rw [e7] at gH;have X:∀ c∈F6,c∈F\/w.heap.size<=c:=λc hc=>(V c hc).elim (λh=>(gV c h).elim (g0 c) λh=>.inr oo) λh=>.inr oo;have g3:∀ c∈F7,c∈F\/w.heap.size<=c:=λc hc=>(gW c hc).elim (X c) λh=>.inr oo;have gj:=zeq (zeq gE O λc hc=>(gV c hc).elim (g0 c) λh=>.inr oo) gt X;refine zld (gH.ext g4) rfl (by simp;omega) λw9 F9 gp g5 gI=>zau<|I w9 F9 (zeq (gj.trans (g4.chg _)) gp g3) ?_ λc hc=>g3 c (gI c hc);rw [zgO,if_neg k1,if_neg k4,if_neg k5,if_neg k6,if_neg k7,if_neg k8,if_pos k3]
   have:((L1++(⟨2,0,x.term,0⟩:DIns) :: (emL p.globals p.locks (p.procs.map DProc.name) x.body (L1.length+1)++[⟨3,0,term0,(L1.length:Int)⟩])).length:Int)=((L1.length+1+(emL p.globals p.locks (p.procs.map DProc.name) x.body (L1.length+1)).length+1:Nat):Int):=by
     simp only [qag,qaj,qay];omega
   rw [this] at g5;exact g5
 refine zai<|br (λk2=>?_) (λk2=>?_)
 rotate_left
 . exfalso
   have h0:St0 c x->False:=λq=>by rcases q with q | q | q | q<;>(have:=q.1;omega)
   cases n with
   | zero=>exact h0 gr.zero
   | succ n=>
     rcases gr.succ with q | ⟨q,_⟩
     . exact h0 q
     omega
 refine zab zkz<|zaa zdj (zdH M) (xrf _) λjd hf=>?_;have gC:=(g1 (.inr (.inl k2))).2.2;refine (zj0 _ hf (xrf _) oo).mono ?_;rintro je w4 ⟨C,gq⟩;have gq:=gq.toI;have gi:=C.size;refine znR (by unfold I64;omega) gq λjf hg=>U C hg oo oo λw5 F5 gE gF gV gc gG gd=>?_;have gd:w1.heap.size∉F5:=gd.elim id λh=>oo
 have hO:=gE.size;refine zab zg4<|zfj ziT (zEq gc) gF.old (xrf _) λjg hh=>?_;refine (hM gF hh hL (by simp;omega)).mono ?_;rintro jh w6 ⟨O,F6,D,V⟩;have j9:=O.size
 have hP:=gc.keep (O.block _ gG λhm=>by
   rcases qaa.1 hm with e | hm
   . omega
   exact gd hm)
 obtain ⟨z1,z2,z3,z4,z5⟩:=D.lt;have gJ:∀ c∈F5,c∈F\/w.heap.size<=c:=λc hc=>(gV c hc).elim (g0 c) λh=>.inr oo;have X:∀ c∈F6,c∈F\/w.heap.size<=c:=λc hc=>(V c hc).elim (gJ c) λh=>.inr oo;have gK:=zeq gE O gJ
 have e6:L1++[(⟨2,0,x.term,0⟩:DIns)]++emL p.globals p.locks (p.procs.map DProc.name) x.body (L1++[(⟨2,0,x.term,0⟩:DIns)]).length =
     L1++(⟨2,0,x.term,0⟩:DIns) :: emL p.globals p.locks (p.procs.map DProc.name) x.body (L1.length+1):=by simp
 rw [e6] at D;obtain ⟨B,hB⟩:∃ B,B=emL p.globals p.locks (p.procs.map DProc.name) x.body (L1.length+1):=⟨_,rfl⟩;rw [<-hB] at D j4;refine zab zfA<|zfj ziT (zEr hP) D.old (xrf _) λji hj=>zae u29 hj<|zcK<|br (λke=>?_) (λke=>?_)
 . refine zma (lo:=w6.heap.size) (hi:=w6.heap.size) (by unfold I64;omega) λjj hn=>?_
   refine (zi6 D hn z1 z2 (lr _) (by simp;omega)).mono ?_;rintro jk w7 ⟨hr,gt,F7,gH,gW⟩;rw [hr];have jc:=gt.size;have g4:=zah w7;have hs8:=g4.size;have e7:L1++(⟨2,0,x.term,0⟩:DIns) :: B++[⟨3,0,term0,0⟩]=L1++(⟨2,0,x.term,0⟩:DIns) :: (B++[⟨3,0,term0,0⟩]):=by simp
   rw [e7] at gH;have g3:∀ c∈F7,c∈F\/w.heap.size<=c:=λc hc=>(gW c hc).elim (X c) λh=>.inr oo;have gj:=zeq gK gt X;have gM:w1.heap.size∉F6:=λhm=>(V _ hm).elim gd λh=>oo
   have ht:w1.heap.size∉F7:=λhm=>(gW _ hm).elim gM λh=>oo
   have jl:=hP.keep (gt.block _ oo λhm=>by
     rcases qaa.1 hm with e | hm
     . omega
     exact gM hm)
   refine zld (gH.ext g4) rfl (by simp;omega) λw9 F9 gp g5 gI=>?_;have hs9:=gp.size
   have jm:=(jl.ext g4).keep (gp.block _ oo λhm=>by
     rcases qaa.1 hm with e | hm
     . omega
     exact ht hm)
   refine zab zfA<|zfj ziT (zEr jm) g5.old (xrf _) λjn hv=>?_;obtain ⟨y0,hQ⟩:∃ y0:DIns,y0=⟨2,0,x.term,((L1++(⟨2,0,x.term,0⟩:DIns) :: (B++[⟨3,0,term0,0⟩])).length:Int)⟩:=⟨_,rfl⟩;have g5:EmF W g p (L1++y0 :: (B++[⟨3,0,term0,0⟩])) F9 w9:=by rw [hQ];exact g5
   refine (j0 g5 hv hZ (by simp;omega)).mono ?_;rintro jo jp ⟨hw,jq,gf,hy⟩;have gN:∀ c∈F9,c∈F\/w.heap.size<=c:=λc hc=>g3 c (gI c hc);have gg:∀ c∈jq,c∈F\/w.heap.size<=c:=λc hc=>(hy c hc).elim (gN c) λh=>.inr oo;have gO:=zeq (zeq (gj.trans (g4.chg _)) gp g3) hw gN;have gP:=zah jp;have hR:=zj3 p.globals p.locks (p.procs.map DProc.name) x.els (L1++y0 :: (B++[⟨3,0,term0,0⟩])).length;have jr:(L1++y0 :: (B++[(⟨3,0,term0,0⟩:DIns)])).length=L1.length+1+B.length+1:=by simp only [qag,qaj,qay];omega
   rw [jr] at gf hR;obtain ⟨E,hV⟩:∃ E,E=emL p.globals p.locks (p.procs.map DProc.name) x.els (L1.length+1+B.length+1):=⟨_,rfl⟩;rw [<-hV] at gf hR;have js:L1++y0 :: (B++[(⟨3,0,term0,0⟩:DIns)])++E=(L1++y0 :: B)++(⟨3,0,term0,0⟩:DIns) :: E:=by simp
   rw [js] at gf;refine zld (gf.ext gP) sS (by simp only [qag,qaj];omega) λjt ju hz gQ hC=>zau<|I jt ju (zeq (gO.trans (gP.chg _)) hz gg) ?_ λc hc=>gg c (hC c hc);rw [zgO,if_neg k1,if_neg k4,if_neg k5,if_neg k6,if_neg k7,if_neg k8,if_neg k3,if_pos k2,if_neg oo,<-hB,<-hV]
   have q1:y0=⟨2,0,x.term,((L1.length+1+B.length+1:Nat):Int)⟩:=by
     rw [hQ];congr 1;simp only [qag,qaj,qay];omega
   have q2:(((L1++y0 :: B)++(⟨3,0,term0,0⟩:DIns) :: E).length:Int)=((L1.length+1+B.length+1+E.length:Nat):Int):=by
     simp only [qag,qaj,qay];omega
   rw [q2,q1] at gQ;simpa using gQ
 have g4:=zah w6;refine zld (D.ext g4) rfl (by simp;omega) λw9 F9 gp g5 gI=>zau<|I w9 F9 (zeq (gK.trans (g4.chg _)) gp X) ?_ λc hc=>X c (gI c hc);rw [zgO,if_neg k1,if_neg k4,if_neg k5,if_neg k6,if_neg k7,if_neg k8,if_neg k3,if_pos k2,if_pos oo,<-hB]
 have:((L1++(⟨2,0,x.term,0⟩:DIns) :: B).length:Int)=((L1.length+1+B.length:Nat):Int):=by
   simp only [qag,qaj,qay];omega
 rw [this] at g5;exact g5
def zkI (c:Scp) (n:Nat):zsm c n []:=by
 intro W w g p L F v hE h hs g0;refine co (g:=kf [] [(1,766247770432944429179173513575154591809369561091801072,[4])] [(6,[0,1,2,3,4,5,6,7,9,10,8,11,12,13],2304),(8,[0,1,2,3,4,5,6,7,8,9],128),(10,[0,1,2,3,4,5,6,7,8,9],128),(12,[0,1,2,3,4,5,6,7,8,9,10],256),(14,[0,1,2,3,4,5,6,7,8,9,10],256),(21,[0,1,2,3,4,5,6,7,8,9,10,11,12],0),(27,[0,1,2,3,4,5,6,7,8,9,10,11,12],0),(29,[0,1,2,3,4,5,6,7,8,9,10,11,12],0),(30,[0,1,2,3,4,5,6,7,8,9,10,11,12],0)]) Tryz.func203 ?_;refine zao 0 (λk us w'=>us=[.int .i64 (k:Int)]/\w'=w) 0 (z0 _) ⟨rfl,rfl⟩ ?_;rintro k m u w1 hkm ⟨hu,rfl⟩;try replace hu:=zbt hu
 rw [hu];refine zae u29 h<|zag<|br (λg1=>by simp at g1;omega) (λhge=>?_);exact ⟨Chg.refl _ _,F,by rw [emL,qaC];exact hE,λc hc=>.inl hc⟩
theorem zmb (c:Scp):∀ (n:Nat) (l:List DStmt),zsm c n l
 | 0,l=>zi7 (n:=0) (l:=l) (λm l h=>absurd h oo) (zkI c)
 | n + 1, l => zi7 (n := n + 1) (l := l) (λm l h => by
     obtain rfl:m=n:=oo
     exact zmb c m l) (zkI c)
def zve {n:ByteArray} {a:Option Addr} {m c:Nat}:(Instr.build 32 #[(0,.string n),(1,.slice a m c)]).run tp w=.ok (.agg #[.string n,.slice a m c]) w:=by
 obtain ⟨v,h1,h2⟩:=zaX (P:=tp) (w:=w) (K:=λv=>v=.agg #[.string n,.slice a m c]) (t:=32) (parts:=#[(0,.string n),(1,.slice a m c)]) (cells:=#[.string n,.slice a m c]) kK rfl;subst h2;exact h1 w (xrf w)
def zzY {X:Nat->Prop} {a:Option Addr} {l:List ByteArray} (h:IsK lo hi w (.slice a n cap) l) (hn:n=l.length) (g1:i<l.length) (hX:∀ b,lo<=b->b<hi->¬X b)
   (k:l[i].size<=maxLen->K (.string l[i])):∃ p,(∀ w':World,(Instr.indexAt 24 (.slice a n cap) (.int .i64 (i:Int))).run tp w'=.ok p w')/\RDX tp X (Instr.loadAt 9 p) w K:=by
 subst hn;obtain ⟨F,cs,⟨a',g0,Fi,xs,rfl,h1,h2,hc,h4⟩,hv⟩:=h.is;simp only [mkv,Rep.agg,cond_false,qbk,Value.slice.injEq] at hv;obtain ⟨rfl,_,rfl⟩:=hv;rcases h4 with ⟨rfl,_⟩ | ⟨b,o,rfl,rfl,hr,hb⟩
 . simp at g1
 refine ⟨.pointer (some ⟨b,o+i*1,none⟩),λw'=>by rw [zch u24 ty9 oo oo];simp,?_⟩
 have g2:∀ w':World,Is w' (.slice (some ⟨b,o,none⟩) l.length cap) l->w'.cell? ⟨b,o+i*1,none⟩=some (.string l[i])/\l[i].size<=maxLen:=by
   intro w' hw;obtain ⟨F,cs,⟨a',g0,Fi,xs,rfl,h1,h2,hc,h4⟩,hv⟩:=hw;simp only [mkv,Rep.agg,cond_false,qbk,Value.slice.injEq] at hv;obtain ⟨rfl,_,rfl⟩:=hv;rcases h4 with ⟨rfl,_⟩ | ⟨b2,o2,g3,rfl,hr,hb⟩
   . simp at g1
   simp only [qak,Addr.mk.injEq,and_true] at g3;obtain ⟨rfl,rfl⟩:=g3;have e:l=l.take i++(l[i] :: l.drop (i+1)):=by simp
   rw [e] at hc;obtain ⟨F1,F2,x1,x2,rfl,rfl,c1,c2⟩:=Cells.split hc;obtain ⟨G,F3,cg,x3,rfl,rfl,⟨_,rfl,hs⟩,_⟩:=c2;have g4:x1.length=i:=by rw [Cells.len c1,qai,qby oo];exact qcs i
   refine ⟨?_,hs⟩;have:=hr i (.string l[i]) (by rw [List.getElem?_append_right oo,g4];simp);simpa using this
 refine ⟨.string l[i],λw' g5=>?_,k (g2 w h.is).2⟩;have h0:=(g2 w' (h.2 w' λc h5 h6=>g5.block c (qal h6 h.1) (hX c h5 h6))).1;rw [qcs] at h0;have hA:=zcc ty9 w';simp [Instr.loadAt,Instr.sureAddr,loadVar,hA,h0]
def zxO (bs:List UInt8) (s:Cur):(zbv bs 2 s).1.length<=4/\(zbv bs 1 (zbv bs 2 s).2).1.length<=4/\(zhg bs s).1.length<=50/\(zip bs (zhg bs s)).1.length<=53:=by
 refine ⟨zlU 4 0 _,zlU 4 0 _,?_,?_⟩
 . have:=zsd bs s;have:=zoY (zhg bs s).1;omega
 have:=zxu bs (zsd bs s);have:=zoY (zip bs (zhg bs s)).1;omega
def ztV {X:Nat->Prop} {m:Sem Value} {p:Value} (h:∀ w':World,m.run tp w'=.ok p w') (k:K p):RDX tp X m w K:=⟨p,λw' _=>h w',k⟩
def zxP {pr:List ByteArray} (h:1<pr.length):(pr.drop 1).getD 0 nO=pr[1]:=by
 rw [List.getD_eq_getElem?_getD,List.getElem?_drop,List.getElem?_eq_getElem h];rfl
def znc {bs:List UInt8} {pr l:List ByteArray} {s:Cur} (hk:k<l.length):zbP bs pr (l.drop k) k s =
   (⟨l[k],(zdW bs pr k s).1⟩ :: (zbP bs pr (l.drop (k+1)) (k+1) (zdW bs pr k s).2).1,(zbP bs pr (l.drop (k+1)) (k+1) (zdW bs pr k s).2).2):=by
 rw [qau hk,zbP]
def zvf {bs:List UInt8} {s:Cur} (hC:CurAt W g bs s w) :
   CALL tp 40 [.pointer (some ⟨g,0,none⟩)] w λr w'=>ChgI g (g+1) w w'/\CurAt W g bs (zeY bs s).2 w'/\OwnI w.heap.size w'.heap.size w' r (zeY bs s).1:=by
 have hgl:=hC.lt;refine co (g:=⟨extL,[(9,2080374848,[6]),(11,66571993152,[6]),(13,562881233944640,[6])],[(4,18446744073709518944,[5])],[(13,[0,1,2,3,4,5,6,7,8,9,10,11,12,13,14,15],5120)],[],[13],[]⟩) Tryz.func40 ?_;refine zb5 zFe λw1 hD hG=>?_;have hs1:=hD.size;have hg1:=hG.lt;refine zEn λv7 w2 gQ o7=>?_;have hs2:=gQ.size;refine zxE λv8 w3 gN o8=>?_;have hs3:=gN.size;have o7:=o7.ext gN;obtain ⟨a7,Z,rfl⟩:=zgc o7;obtain ⟨a8,g0,rfl⟩:=zgc o8;refine zaX (cells:=#[.slice a7 glb.length Z,.slice a8 lks.length g0,.slice none 0 0]) kK<|zb5 zFe λw4 gp hH=>?_;have hs4:=gp.size;have hg4:=hH.lt;have o7:=o7.ext gp;have o8:=o8.ext gp;refine zcg (x:=(⟨glb,lks,[]⟩:DProg)) (lo:=w1.heap.size) (hi:=w3.heap.size) zqb rfl hH rfl (zqz (l0:=w1.heap.size) (h0:=w2.heap.size) (l1:=w2.heap.size) (h1:=w3.heap.size) (l2:=w3.heap.size) (h2:=w3.heap.size) o7 o8 zcN oo oo oo oo oo oo) λw5 gq j1=>?_;have hs5:=gq.size;have o7:=o7.chg gq oo;have o8:=o8.chg gq oo;have gr:Ext w w5:=Ext.chgI (hD.t (gQ.t (gN.t gp))) gq oo;have gR:=(hG.ext (gQ.t (gN.t gp))).chgI gq oo;refine zEo λv10 w6 gc gs=>?_;have hs6:=gc.size;refine (zcW (hC.ext (gr.t gc)) oo).mono ?_;rintro _ w7 ⟨gd,j2,rfl⟩;have hs7:=gd.size;have o7:=(o7.ext gc).chg gd oo;have o8:=(o8.ext gc).chg gd oo;have gs:=gs.chg gd oo;have j3:=(j1.ext gc).chgI gd oo;have gS:=(gR.ext gc).chgI gd oo;have hbx:=zcM bs (n:=3) oo s;have hN:=zxF bs s;refine zc1 (by unfold I64;omega) ?_;obtain ⟨g1,C,rfl⟩:=zgc gs;have gU:=gs.isK oo;obtain ⟨np,j4⟩:∃ np:Nat,np=2+(zbN bs 3 s).toNat:=⟨_,rfl⟩;have gV:np<=prc4.length:=by show np<=4;omega
 have gt:zlW bs s=prc4.take np:=by rw [j4];rfl
 have g2:(zlW bs s).length=np:=by rw [gt,qai];omega
 have hK:=gU.take gV;rw [<-gt] at hK
 have j5:∀ w':World,(Instr.sliceAt 24 (.slice g1 prc4.length C) none (some (.int .i64 (2+zbN bs 3 s))) none).run tp w'=.ok (.slice g1 np C) w':=λw'=>by
   obtain ⟨a',gW,j6,j7,gx,q1,q2,_⟩:=zcT gs.is;simp only [Value.slice.injEq] at gx;obtain ⟨rfl,_,rfl⟩:=gx
   have hb:(Instr.sliceBounds true prc4.length C none (some (.int .i64 (2+zbN bs 3 s))) none).run tp w'=.ok (0,np,C) w':=by
     have h1:2+zbN bs 3 s<=(C:Int):=oo
     have h2:(0:Int)<=2+zbN bs 3 s:=oo
     have h3:(2+zbN bs 3 s).toNat=np:=oo
     simp [Instr.sliceBounds,Instr.sliceBound,asIntOf,h1,h2,h3]
   simp only [Instr.sliceAt,Instr.slice,Sem.run_bind,run_underlying u24,Result.andThen_ok,hb,zaS ty9];simp;exact λ_=>by cases g1<;>simp [Addr.add_mid,Addr.add]
 refine zbb (λw' _=>j5 w') ?_;obtain ⟨L,hL⟩:∃ L,L=zlW bs s:=⟨_,rfl⟩;rw [<-hL] at hK hN g2;have j8:0<(L.drop 1).length:=by rw [qa0];omega
 have gX:ChgI g (g+1) w w7:=((gr.t gc).toI).trans gd
 refine zao L.length (λk us w'=>us=[.int .i64 (k:Int)]/\∃ (ps:List DProc) (s1:Cur) (vr:Value) (hi:Nat),k<=L.length/\ps.length=k/\zbP bs (L.drop 1) L 0 (zap bs 3 s)=(ps++(zbP bs (L.drop 1) (L.drop k) k s1).1,(zbP bs (L.drop 1) (L.drop k) k s1).2) /\
     CurAt W g bs s1 w'/\ChgI g (g+1) w w'/\Blk w3.heap.size 27 w' [.slice a7 glb.length Z,.slice a8 lks.length g0,vr]/\OwnI w1.heap.size w2.heap.size w' (.slice a7 glb.length Z) glb/\OwnI w2.heap.size w3.heap.size w' (.slice a8 lks.length g0) lks /\
     IsK w5.heap.size w6.heap.size w' (.slice g1 np C) L/\RowI w6.heap.size hi 32 w' vr ps/\w6.heap.size<=hi/\hi<=w'.heap.size/\Blk w.heap.size 27 w' [.slice none 0 0,.slice none 0 0,.slice none 0 0]) 0 (z0 _)
     ⟨rfl,[],zap bs 3 s,.slice none 0 0,w6.heap.size,z0 _,rfl,sS,j2,gX,j3,o7,o8,hK,zb6 _ _ _ _,lr _,oo,gS⟩ ?_
 rintro k m u w8 hkm ⟨hu,ps,s1,vr,hi,hkl,j9,gy,hI,gY,hJ,o7,o8,gO,r8,ja,hhi,gz⟩;try replace hu:=zbt hu
 rw [hu];have hs8:=gY.size;refine zae u24 gO.is<|zag<|br (λhlt=>?_) (λhge=>?_)
 . have hk:k<L.length:=oo
   rw [znc hk] at gy;obtain ⟨q1,q2,q3,q4⟩:=zxO bs s1;refine ((zsg 2 oo).2 hI rfl).mono ?_;rintro v22 w9 ⟨gf,jb,gZ⟩;have jc:=gf.size;refine ((zsg 1 oo).2 jb rfl).mono ?_;rintro v24 w10 ⟨gg,h4,jd⟩;have je:=gg.size;refine zu9 (α:=DStmt) u29 ze6 zDB (gZ.chg gg oo) oo jd.own oo oo (by rw [zal];omega) oo λjf jg gh hM=>?_;have jh:=gh.size;have gC:=h4.chg gh oo oo;have gD:UpG g w8.heap.size w8 jg:=(gf.upG1.trans gg.upG1).trans (gh.upG oo);refine JOIN.mk (λus w'=>∃ v,us=[v]/\UpG g w8.heap.size w8 w'/\CurAt W g bs (zhg bs s1).2 w'/\OwnI w8.heap.size w'.heap.size w' v (zhg bs s1).1) ?_ ?_
   . refine (zl3 _ hM.is (xrf _) oo oo).mono ?_
     rintro _ gP ⟨M,rfl⟩;have ji:=M.size;refine zag<|br (λh0=>?_) (λh0=>?_)
     . refine znN (lo:=gP.heap.size) (hi:=gP.heap.size) (lr _) (by unfold I64;omega) λv29 jj=>?_
       refine zhI (α:=DStmt) (lo:=gP.heap.size) (hi:=gP.heap.size) u29 ze6 z56 qd jj oo λjk w13 gE jl=>⟨jk,rfl,(gD.trans M.upG).trans gE.upG,gC.ext (M.t gE),?_⟩;unfold zhg;rw [if_pos h0];exact jl.mono oo oo
     refine ⟨jf,rfl,gD.trans M.upG,gC.ext M,?_⟩;unfold zhg;rw [if_neg h0];exact (hM.ext M).own.mono oo oo
   rintro u9 w14 ⟨v14,hu,gi,h5,jm⟩;try replace hu:=zbt hu
   rw [hu];have jn:=gi.size;have jo:g<w8.heap.size:=oo
   refine JOIN.mk (λus w'=>∃ v,us=[v]/\UpG g w8.heap.size w8 w'/\CurAt W g bs (zip bs (zhg bs s1)).2 w'/\OwnI w8.heap.size w'.heap.size w' v (zip bs (zhg bs s1)).1) ?_ ?_
   . refine (zhK h5 oo).mono ?_
     rintro _ w15 ⟨g3,gF,rfl⟩;have h6:=g3.size;have hO:=jm.chg g3 oo;refine br (λh0=>?_) (λh0=>?_)
     . refine (zo3 gF hO oo oo jo oo).mono ?_
       rintro jp w16 ⟨h8,h9,jq⟩;refine ⟨jp,rfl,(gi.trans g3.upG1).trans h8,?_,?_⟩
       . unfold zip;rw [if_pos h0];exact h9
       unfold zip;rw [if_pos h0];exact jq.own
     refine ⟨v14,rfl,gi.trans g3.upG1,?_,?_⟩
     . unfold zip;rw [if_neg h0];exact gF
     unfold zip;rw [if_neg h0];exact hO.mono (lr _) h6
   rintro u11 w17 ⟨hP,hu,O,gG,hQ⟩;try replace hu:=zbt hu
   rw [hu];have jr:=O.size;have ha:=gO.upG O oo oo;have hd:1<L.length:=oo
   refine JOIN.mk (λus w'=>∃ v,us=[v]/\UpG g w8.heap.size w8 w'/\CurAt W g bs (zkZ bs k ((L.drop 1).getD 0 nO) (zip bs (zhg bs s1))).2 w'/\OwnI w8.heap.size w'.heap.size w' v (zkZ bs k ((L.drop 1).getD 0 nO) (zip bs (zhg bs s1))).1) ?_ ?_
   . refine zai ?_
     refine br (λjs=>?_) (λjs=>?_)
     . have I:k=0:=oo
       refine (zhK gG oo).mono ?_;rintro _ hR ⟨U,gH,rfl⟩;have he:=U.size;have hS:=hQ.chg U oo;have hf:=ha.chgF U.toC (by simp;omega);refine br (λh0=>?_) (λh0=>?_)
       . refine zaL (l:=L) (i:=1) u24 ty9 hf.is oo (by show 1<L.length;omega) λb43 o43 hg=>?_
         refine zaB ty9 hg (xrf _) λhh=>zdm (lo:=hR.heap.size) (hi:=hR.heap.size) (lr _) (by unfold I64;omega) hh λv45 jt=>zb7 (β:=DStmt) u29 ze6 z56 qd (znO jt) λv46 w19 g4 ju=>?_;have jv:=g4.size;refine zjV (α:=DStmt) (lo0:=w8.heap.size) u29 ze6 zDB ju oo (hS.ext g4) oo oo oo (by rw [zal];simp;omega) (by simp;omega) λjw w20 gI jx=>⟨jw,rfl,((O.trans U.upG1).trans g4.upG).trans (gI.upG oo),?_,?_⟩
         . unfold zkZ
           rw [if_pos I,if_pos h0];exact (gH.ext g4).chg gI oo oo
         unfold zkZ;rw [if_pos I,if_pos h0,zxP hd];exact jx.own
       refine ⟨hP,rfl,O.trans U.upG1,?_,?_⟩
       . unfold zkZ;rw [if_pos I,if_neg h0];exact gH
       unfold zkZ;rw [if_pos I,if_neg h0];exact hS.mono (lr _) he
     have I:¬k=0:=oo
     refine ⟨hP,rfl,O,?_,?_⟩
     . unfold zkZ;rw [if_neg I];exact gG
     unfold zkZ;rw [if_neg I];exact hQ
   rintro u13 hV ⟨jy,hu,gJ,hl,jz⟩;try replace hu:=zbt hu
   rw [hu];have jA:=gJ.size;have g5:=zah hV;have jB:=g5.size;generalize World.drew1 hV=w22 at *;have V:UpG g w8.heap.size w8 w22:=gJ.trans g5.upG;have gK:=hJ.upG V oo oo;have gj:=gO.upG V oo oo;have gZ:=r8.upG V oo oo;have jC:=jz.ext g5;have hn:=hl.ext g5;refine XR.mk (λc=>c=g\/w8.heap.size<=c) ?_;have jD:∀ b,w5.heap.size<=b->b<w6.heap.size->¬(b=g\/w8.heap.size<=b):=λb h1 h2=>oo
   refine zfp zfg<|zfD zr3 (u:=vr) (λj v hj=>?_) oo ?_
   . have:=gK.range 2 vr rfl
     match j,hj with
     | 0,hj=>simp at hj;subst hj;simpa using this
     | j+1,hj=>simp at hj
   obtain ⟨p53,hq,hr⟩:=zzY (X:=λc=>c=g\/w8.heap.size<=c) (K:=λv=>L[k].size<=maxLen/\v=.string L[k]) gj g2.symm hk jD λh=>⟨h,rfl⟩;refine ztV hq ?_;obtain ⟨v54,hs,ht,rfl⟩:=hr;refine RDX.mk _ hs ?_
   have jE:∀ w':World,(Instr.sliceAt 24 (.slice g1 np C) (some (.int .i64 1)) none none).run tp w'=.ok (.slice (if C=1 then g1 else g1.map (·.add (1*Rep.size ByteArray))) (np-1) (C-1)) w':=λw'=>by
     obtain ⟨a',gW,j6,j7,gx,z1,z2,_⟩:=zcT gj.is;simp only [Value.slice.injEq] at gx;obtain ⟨rfl,_,rfl⟩:=gx
     have hb:(Instr.sliceBounds true np C (some (.int .i64 1)) none none).run tp w'=.ok (1,np,C) w':=by
       have h1:(1:Int)<=(np:Int):=oo
       simp [Instr.sliceBounds,Instr.sliceBound,asIntOf,h1]
     simp [Instr.sliceAt,Instr.slice,run_underlying u24,hb,zaS ty9];rfl
   refine ztV jE ?_
   have jF:IsK w5.heap.size w6.heap.size w22 (.slice (if C=1 then g1 else g1.map (·.add (1*Rep.size ByteArray))) (np-1) (C-1)) (L.drop 1):=by
     have:=IsK.drop (l:=L) (k:=1) (by rw [g2];exact gj) oo
     rwa [g2] at this
   obtain ⟨F,hW,hF⟩:=jC;refine (zxz _ hn hW (λh=>by have:=hF g h;omega) (λc hc=>by have:=hF c hc;omega) jF oo (λc hc=>by have:=hF c hc;omega) j8 (by rw [qa0];omega)).mono ?_;rintro r59 hv ⟨jG,gl,hw,F',hx,hX⟩;rw [jG];have jH:=gl.size;refine ⟨gl.toX λc hc=>?_,?_⟩
   . rcases qaa.1 hc with rfl | hc
     . exact .inl rfl
     exact .inr (hF c hc).1
   have g9:UpG g w8.heap.size w22 hv:=gl.upG λc hc=>(hF c hc).1;have hY:OwnI w8.heap.size w22.heap.size hv jy (zdW bs (L.drop 1) k s1).1:=⟨F',hx,λc hc=>⟨(hF c (hX c hc)).1,hW.lt c (hX c hc)⟩⟩;obtain ⟨a21,c21,rfl⟩:=zgc hY;refine zzV (λw'=>zve) ?_;have jI:=zxD ht hY;have hy:=gK.upG g9 oo oo;have jJ:=gZ.upG g9 oo oo;refine zoI (α:=DProc) u25 zBF z32 zFB qd jJ oo jI oo oo (by rw [zal];omega) oo (λjK hZ Y gM=>?_) λs' w' jL h'=>⟨jL.toX,h'⟩;have jM:=Y.size;refine zfp zfg ?_;have hz:=hy.chgI Y oo;refine zbW (α:=List DProc) zr3 rfl rfl hz sS gM.own λw25 D hB=>?_;have jN:=D.size;refine zau ?_;have gb:UpG g w6.heap.size w8 hZ:=((V.trans g9).mono oo).trans (Y.upG oo);refine ⟨m-1,oo,k+1,oo,rfl,ps++[⟨L[k],(zdW bs (L.drop 1) k s1).1⟩],(zdW bs (L.drop 1) k s1).2,jK,hZ.heap.size,oo,by simp [j9],by rw [gy];simp,?_,?_,hB,?_,?_,?_,gM.chg D oo,oo,oo,?_⟩
   . exact (hw.chg Y oo oo).chg D oo oo
   . have h1:ChgI g (g+1) w hv:=gY.trans ((V.trans g9).toI (lr _))
     exact ChgI.out (ChgI.out h1 Y oo) D oo
   . exact (o7.upG gb oo oo).chg D oo
   . exact (o8.upG gb oo oo).chg D oo
   . exact (gO.upG gb (lr _) oo).chgF D.toC (by simp;omega)
   exact (gz.upG gb oo oo).chgI D oo
 have hk:k=L.length:=oo
 subst hk;rw [qbo,zbP] at gy;simp only [qaC] at gy
 have jO:zeY bs s=(⟨glb,lks,ps⟩,s1):=by
   unfold zeY;rw [<-hL,gy]
 rw [jO];refine ziq hJ zqb ?_
 have j0:OwnI w1.heap.size w8.heap.size w8 (.agg #[.slice a7 glb.length Z,.slice a8 lks.length g0,vr]) (⟨glb,lks,ps⟩:DProg):=
   zqz (l0:=w1.heap.size) (h0:=w2.heap.size) (l1:=w2.heap.size) (h1:=w3.heap.size) (l2:=w6.heap.size) (h2:=hi) o7 o8 r8.own oo oo oo oo oo oo
 refine zcg zqb rfl gz rfl j0 λw9 gf jP=>?_;have jc:=gf.size;refine zeI jP zqb<|⟨ChgI.out gY gf (lr _),hI.chg gf oo oo,(j0.chg gf oo).mono oo oo⟩
end Go.Proofs.YtcnglfeoglgebaaGreat
