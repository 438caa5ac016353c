/-
  Parts of the proof, put together by program.
-/
import Derived.Test.YtcaakhmhlfgogaaGreatDoorQFnReports1
set_option linter.defProp false
set_option linter.unusedVariables false
set_option maxRecDepth 100000
set_option linter.unusedSimpArgs false
set_option linter.unusedSectionVars false
open Go renaming Value→vL,World→wD,Program→pG
namespace Go.Sh
open Go.RowKit (Below)
open Rep (rep)
theorem Fh(off:Nat):∀(l:List vL)(k:Nat)(cs:Array vL),
   ((l.zipIdx k).foldl (λ(cs:Array vL)(p:vL×Nat)=>cs.setIfInBounds (off+p.2) p.1) cs).size=cs.size /\
   ∀i,((l.zipIdx k).foldl (λ(cs:Array vL)(p:vL×Nat)=>cs.setIfInBounds (off+p.2) p.1) cs)[i]?=if off+k<=i/\i<off+k+l.length/\i<cs.size then l[i-(off+k)]? else cs[i]?
 | [],k,cs=>by
   refine⟨rfl,λi=>?_⟩;rw[aH so];rfl
 | v :: l,k,cs=>by
   obtain⟨h1,h2⟩:=Fh off l (k+1) (cs.setIfInBounds (off+k) v);simp only[List.zipIdx_cons,HR];refine⟨by rw[h1];simp,λi=>?_⟩;rw[h2];simp only[Tt,dA];by_cases hi:i=off+k
   ·subst hi;rw[aH oo];by_cases hs:off+k<cs.size
    ·rw[aP oo];simp[hs]
    rw[aH oo,Array.getElem?_eq_none (by rw[Tt];omega),Array.getElem?_eq_none oo]
   by_cases hr:off+(k+1)<=i/\i<off+(k+1)+l.length/\i<cs.size
   ·rw[aP hr,aP oo];have:i-(off+k)=(i-(off+(k+1)))+1:=oo;rw[this,List.getElem?_cons_succ]
   rw[aH hr,aH oo,Array.getElem?_setIfInBounds_ne oo]
def N0(v:vL)(cells:Array vL)(s:Nat)(hv:v.cells.size=s)(hc:cells.size=s):Instr.fill (λi=>some (i*s,s)) cells [(0,v)]=some v.cells:=by
 unfold Instr.fill;simp only[Nat.zero_mul];rw[aH so];unfold Instr.fill;congr 1;obtain⟨_,h2⟩:=Fh 0 v.cells.toList 0 cells
 have e:v.cells.zipIdx.foldl (λ(cs:Array vL)(x:vL×Nat)=>match x with|(c,j)=>cs.setIfInBounds (0+j) c) cells
     = (v.cells.toList.zipIdx 0).foldl (λ(cs:Array vL)(p:vL×Nat)=>cs.setIfInBounds (0+p.2) p.1) cells:=by
   rw[<-Array.foldl_toList,Array.toList_zipIdx]
 rw[e];apply Array.ext_getElem?;intro i;rw[h2];by_cases hi:i<s
 ·rw[aP so];simp
 rw[aH so,Array.getElem?_eq_none oo,Array.getElem?_eq_none oo]
section
variable {w w' w'':wD}{lo hi a b:Nat}
end
def bQ{α:Type}[Rep α](lo hi:Nat)(e:TypeId)(w:wD)(v:vL)(l:List α):Prop:=(∃a,v=.slice a 0 0/\l=[])\/∃F,fL F e w v l/\F.Nodup/\∀b∈F,lo<=b/\b<hi
section
variable {P:pG}{w w0 w':wD}{α:Type}[Rep α]{lo hi a b e:Nat}{v:vL}{l:List α}
def Ik(a:Option Addr):aK (α:=List α) lo hi w (.slice a 0 0) []:=
 ⟨[],⟨⟨_,⟨a,0,[],[],rfl,lr _,z0 _,⟨rfl,rfl⟩,.inl ⟨rfl,rfl⟩⟩,rfl⟩,kM,Wr.nil w⟩,ss⟩
def HY.toI(h:HY lo e w v l):bQ lo w.heap.size e w v l:=by
 obtain⟨F,h1,h2,h3⟩:=h;exact .inr ⟨F,h1,h2,λb hb=>⟨h3 b hb,h1.lt b hb⟩⟩
def bQ.ext(h:bQ lo hi e w v l)(hx:aB w w'):bQ lo hi e w' v l:=by
 rcases h with h|⟨F,h1,h2,h3⟩
 ·exact .inl h
 exact .inr ⟨F,h1.ext hx,h2,h3⟩
def bQ.chg(h:bQ lo hi e w v l)(hc:aN a b w w')(hd:hi<=a\/b<=lo):bQ lo hi e w' v l:=by
 rcases h with h|⟨F,h1,h2,h3⟩
 ·exact .inl h
 exact .inr ⟨F,h1.keep λc g0=>hc.block c (h1.lt c g0) (by have:=h3 c g0;omega),h2,h3⟩
def bQ.own(h:bQ lo hi e w v l):aK lo hi w v l:=by
 rcases h with⟨a,rfl,rfl⟩|⟨F,h1,h2,h3⟩
 ·exact Ik a
 exact⟨F,⟨h1.own,h2,h1.wr⟩,h3⟩
def bQ.is(h:bQ lo hi e w v l):Is w v l:=h.own.is
def bQ.mono{g0 g1:Nat}(h:bQ lo hi e w v l)(h1:g0<=lo)(h2:hi<=g1):bQ g0 g1 e w v l:=by
 rcases h with h|⟨F,h1,h2,h3⟩
 ·exact .inl h
 exact .inr ⟨F,h1,h2,λb hb=>by have:=h3 b hb;omega⟩
def AY(lo hi e:Nat)(w:wD)(a:Option Addr):bQ (α:=α) lo hi e w (.slice a 0 0) []:=.inl ⟨a,rfl,rfl⟩
def uC(lo hi e:Nat)(w:wD):bQ (α:=α) lo hi e w (.slice none 0 0) []:=.inl ⟨none,rfl,rfl⟩
def ZX(e:Nat)(w:wD):fL (α:=α) [] e w (.slice none 0 0) []:=⟨[],[],⟨ss,.inl ⟨rfl,rfl⟩⟩,⟨rfl,rfl⟩,rfl,Wr.nil _⟩
def SZ{m1 m2:Sem vL}{K:vL->wD->Prop}(h:m1.run P w=m2.run P w)(k:OP P m2 w K):OP P m1 w K:=by
 obtain⟨v,w',hr,hk⟩:=k;exact⟨v,w',h.trans hr,hk⟩
def Fj{t ty:TypeId}{by_ n c:Nat}{x:Addr}{b o:Nat}{xs:List vL}(ht:P.underlying t=some (.slice e))(he:cT P e=some (Rep.size α,by_,Rep.agg α))(g1:(P.info? e).map (λi=>(i.zero.map (·.cells.size)))=some (some (Rep.size α)))
   (hl:xs.length=n*Rep.size α) (hr:w.rangeAt b o xs) (h0:0<n) (hm:n<=maxLen) (hb:n*by_<=140737488355328) :
   (Builtin.append_ #[t,t] ty #[.slice (some x) 0 0,.slice (some ⟨b,o,none⟩) n c]).run P w=(Builtin.append_ #[t,t] ty #[.slice none 0 0,.slice (some ⟨b,o,none⟩) n c]).run P w:=by
 obtain⟨i,_,hi,_,hs,g0,_⟩:=xO he;simp only[hi,OT,iU]at g1;obtain⟨z,hz,_⟩:=CB.1 g1;rw[eB]at hm;have h1:=run_append_nil (P:=P) w t ty e i z ht hi hz ⟨b,o,none⟩ n c xs (by rw[hs];exact hl) (λj u hu=>by rw[Addr.add_mid];exact hr j u hu) h0 oo (by rw[g0];omega);have h2:=run_append_grow (P:=P) w t ty e i z ht hi hz x 0 0 [] ss ss ⟨b,o,none⟩ n c xs (by rw[hs];exact hl) (λj u hu=>by rw[Addr.add_mid];exact hr j u hu) oo oo (growslice_fits oo (by rw[g0];simpa using hb));rw[h1,h2];simp
def ZF{t:TypeId}{by_:Nat}{u:vL}{x:α}{K:vL->wD->Prop}(ht:P.underlying t=some (.slice e))(he:cT P e=some (Rep.size α,by_,Rep.agg α))(hz:nN P e=true)(hsz:Rep.size α<=1000)
   {F:List Nat} (hx:aZ F w u x)
   (k:∀w',aB w w'->aZ (w.heap.size :: F) w' (.slice (some ⟨w.heap.size,0,none⟩) 1 1) [x]->K (.slice (some ⟨w.heap.size,0,none⟩) 1 1) w'):OP P (Instr.buildSlice t 1 #[(0,u)]) w K:=by
 obtain⟨⟨cs,hr,rfl⟩,hn,hw⟩:=hx;have g2:=NN hr;have g0:=Rep.len hr;have g3:(fF α cs).cells.size=Rep.size α:=by rw[<-sM,g2,g0]
 obtain⟨_,_,hi,_,_,_,_⟩:=xO he;unfold nN at hz;rw[hi]at hz;obtain⟨_,hz⟩:=RZ.1 hz;have:=Rep.pos (α:=α);refine⟨_,w.alloc (.cells (fF α cs).cells e),?_,k _ (oK w _) ?_⟩
 ·have g4:¬Rep.size α=0:=oo;have g5:¬2^24<Rep.size α:=oo;simp only[Instr.buildSlice,Sem.run_bind,run_underlying ht,Result.andThen_ok,qX he,GL];simp[g5,g4,zeroValue,typeInfo,hi,hz,N0 _ _ _ g3,newRow]
 have hx:=oK w (.cells (fF α cs).cells e);have hB:(w.alloc (.cells (fF α cs).cells e)).heap[w.heap.size]?=some (.cells (fF α cs).cells e (0,0)):=heap_alloc_new w _;have g1:=Rep.lt hr;refine⟨⟨_,⟨_,1,F,cs,rfl,lr _,by rw[eB];omega,aO.single (rH hr hx),.inr ⟨w.heap.size,0,rfl,rfl,?_,?_⟩⟩,rfl⟩,?_,?_⟩
 ·intro _ _ hy;simp only[World.cell?,hB];rw[<-g2]at hy;simpa using hy
 ·exact(Array.getElem?_eq_some_iff.1 hB).1
 ·exact tZ.2 ⟨λh=>by have:=g1 _ h;omega,hn⟩
 intro c hc;rcases bF.1 hc with rfl|hc
 ·exact⟨_,_,hB⟩
 exact hw.ext hx c hc
def Cr{t:TypeId}{by_:Nat}{u:vL}{x:α}{K:vL->wD->Prop}(ht:P.underlying t=some (.slice e))(he:cT P e=some (Rep.size α,by_,Rep.agg α))(hz:nN P e=true)(g1:Rep.size α<=1000)
   (hx:aK lo hi w u x) (g3:lo<=w.heap.size)
   (k:∀v w',aB w w'->aK lo w'.heap.size w' v [x]->K v w'):OP P (Instr.buildSlice t 1 #[(0,u)]) w K:=by
 obtain⟨_,hm,hF⟩:=hx;refine ZF ht he hz g1 hm λw' g2 g0=>k _ w' g2 ⟨_,g0,λb hb=>⟨?_,g0.lt b hb⟩⟩;rcases bF.1 hb with rfl|hb
 ·exact g3
 exact(hF b hb).1
def pR{t:TypeId}{by_:Nat}{K:vL->wD->Prop}(ht:P.underlying t=some (.slice e))(he:cT P e=some (Rep.size α,by_,Rep.agg α))
   (k:∀a w',aB w w'->bQ (α:=α) w'.heap.size w'.heap.size e w' (.slice (some a) 0 0) []->K (.slice (some a) 0 0) w'):OP P (Instr.buildSlice t 0 #[]) w K:=
 Ex (α:=α) ht he λa w' hx hr=>k _ w' hx (AY _ _ _ _ _)
def Jp{t ty:TypeId}{by_:Nat}{u:vL}{x:α}{lo2 hi2:Nat}{K C:vL->wD->Prop}(ht:P.underlying t=some (.slice e))(he:cT P e=some (Rep.size α,by_,Rep.agg α))(hz:nN P e=true)
   (gd:(P.info? e).map (λi=>(i.zero.map (·.cells.size)))=some (some (Rep.size α))) (gg:Rep.size α<=1000) (hv:bQ lo hi e w v l) (hlo:lo<=w.heap.size) (hx:aK lo2 hi2 w u x) (hl:hi<=lo2) (hl2:lo<=lo2) (hm:l.length+1<=maxLen) (hb:(l.length+1)*by_<=140737488355328)
   (k:∀v' w',aN lo hi w w'->bQ lo w'.heap.size e w' v' (l++[x])->K v' w')
   (hC:∀s w1,aB w w1->OP P (Builtin.append_ #[t,t] ty [v,s].toArray) w1 K->C s w1):OP P (Instr.buildSlice t 1 #[(0,u)]) w C:=by
 obtain⟨G,g5,hG⟩:=hx;refine ZF ht he hz gg g5 λw1 g1 gh=>?_;obtain⟨⟨_,⟨_,_,Fi,xs,rfl,_,_,hc,h4⟩,g0⟩,_,gi⟩:=gh;simp only[fF,Rep.agg,cond_false,EM,Value.slice.injEq,dA,eU]at g0;obtain⟨rfl,_,rfl⟩:=g0;rcases h4 with⟨h4,_⟩|⟨b,o,g3,g9,gb,_⟩
 ·simp at h4
 simp only[zI]at g9;obtain⟨_,rfl⟩:=g9
 have gc:∀(v:vL)(F:List Nat),fL F e w v l->F.Nodup->(∀b∈F,lo<=b/\b<hi)->OP P (Builtin.append_ #[t,t] ty [v,.slice (some ⟨w.heap.size,0,none⟩) 1 1].toArray) w1 K:=by
   intro v F hF g2 D;have gj:=hF.ext g1
   have hd:(G++F).Nodup:=by
     rw[oE];refine⟨g5.nodup,g2,λp hp _ hq e=>?_⟩;subst e;have:=hG p hp;have:=D p hq;omega
   refine UK (m:=[x]) ht he gd gj g2 rfl hc (.inr ⟨b,o,g3,gb⟩) (gi.sub sd) hd (by simpa using hm) (by simpa using hb) λv' w' F' gl _ gf gn gp=>?_
   have g4:∀c∈v.ownBlock.toList,lo<=c/\c<hi:=λc hc=>by
     obtain⟨xs,Fi,_,_,rfl,_⟩:=hF;exact D c (by simp only[dF];exact .inl hc)
   refine k v' w' ((aB.toI g1).trans (gl.toI g4)) (.inr ⟨F',gf,gn,λc hc=>⟨?_,gf.lt c hc⟩⟩);rcases gp c hc with h|h|h
   ·exact(D c h).1
   ·have:=hG c h;omega
   have:=g1.size;omega
 refine hC _ w1 g1 ?_;rcases hv with⟨a0,rfl,rfl⟩|⟨F,hF,g2,D⟩
 ·have kn:=gc (.slice none 0 0) [] (ZX e w) kM ss;cases a0 with
  |none=>exact kn
  | some x0=>
    simp only[iU,Addr.mk.injEq]at g3;obtain⟨rfl,rfl,_⟩:=g3;exact SZ (Fj (α:=α) (n:=1) ht he gd (by simpa using aO.len hc) gb oo (by rw[eB];omega) (by simpa using hb)) kn
 exact gc v F hF g2 D
def oS{t ty:TypeId}{by_:Nat}{u:vL}{x:α}{lo2 hi2:Nat}{K:vL->wD->Prop}(ht:P.underlying t=some (.slice e))(he:cT P e=some (Rep.size α,by_,Rep.agg α))(hz:nN P e=true)
   (hzc:(P.info? e).map (λi=>(i.zero.map (·.cells.size)))=some (some (Rep.size α))) (hsz:Rep.size α<=1000) (hv:bQ lo hi e w v l) (hlo:lo<=w.heap.size) (hx:aK lo2 hi2 w u x) (hl:hi<=lo2) (hl2:lo<=lo2) (hm:l.length+1<=maxLen) (hb:(l.length+1)*by_<=140737488355328)
   (k:∀v' w',aN lo hi w w'->bQ lo w'.heap.size e w' v' (l++[x])->K v' w'):OP P (Instr.buildSlice t 1 #[(0,u)]) w λs w1=>OP P (Builtin.append_ #[t,t] ty [v,s].toArray) w1 K:=
 Jp ht he hz hzc hsz hv hlo hx hl hl2 hm hb k λ_ _ _ h=>h
def vw{t ty:TypeId}{by_:Nat}{u:vL}{x:α}{lo2 hi2:Nat}{K:vL->wD->Prop}(ht:P.underlying t=some (.slice e))(he:cT P e=some (Rep.size α,by_,Rep.agg α))(hz:nN P e=true)
   (hzc:(P.info? e).map (λi=>(i.zero.map (·.cells.size)))=some (some (Rep.size α))) (hsz:Rep.size α<=1000) (hv:bQ lo hi e w v l) (hlo:lo<=w.heap.size) (hx:aK lo2 hi2 w u x) (hl:hi<=lo2) (hl2:lo<=lo2) (hm:l.length+1<=maxLen) (hb:(l.length+1)*by_<=140737488355328)
   (k:∀v' w',aN lo hi w w'->bQ lo w'.heap.size e w' v' (l++[x])->K v' w'):OP P (Instr.buildSlice t 1 #[(0,u)]) w λs w1=>aB w w1/\OP P (Builtin.append_ #[t,t] ty [v,s].toArray) w1 K:=
 Jp ht he hz hzc hsz hv hlo hx hl hl2 hm hb k λ_ _ hx h=>⟨hx,h⟩
def OX[dN α]{t ty:TypeId}{by_:Nat}{g9:vL}{m:List α}{K:vL->wD->Prop}(ht:P.underlying t=some (.slice e))(he:cT P e=some (Rep.size α,by_,Rep.agg α))
   (g4:(P.info? e).map (λi=>(i.zero.map (·.cells.size)))=some (some (Rep.size α))) (hv:bQ lo hi e w v l) (hlo:lo<=w.heap.size) (hs:Is w0 g9 m) (hx:aB w0 w) (hm:l.length+m.length<=maxLen) (hb:(l.length+m.length)*by_<=140737488355328)
   (k:∀v' w',aN lo hi w w'->bQ lo w'.heap.size e w' v' (l++m)->K v' w'):OP P (Builtin.append_ #[t,t] ty [v,g9].toArray) w K:=by
 obtain⟨a,cap,Fi,xs,rfl,_,_,hc,h4⟩:=xD (hs.ext hx);have gb:=aO.flat (xs:=xs) hc;subst gb
 have g3:∀(v:vL)(F:List Nat),fL F e w v l->F.Nodup->(∀b∈F,lo<=b/\b<hi)->OP P (Builtin.append_ #[t,t] ty [v,.slice a m.length cap].toArray) w K:=by
   intro v F hF g0 g1;refine UK (m:=m) ht he g4 hF g0 rfl hc (by rcases h4 with h|⟨b,o,ha,hr,_⟩;exact .inl h;exact .inr ⟨b,o,ha,hr⟩) (Wr.nil _) (by simpa using g0) hm hb λv' w' F' gc _ g5 gd gf=>?_
   have g2:∀c∈v.ownBlock.toList,lo<=c/\c<hi:=λc hc=>by
     obtain⟨xs,Fi,_,_,rfl,_⟩:=hF;exact g1 c (by simp only[dF];exact .inl hc)
   refine k v' w' (gc.toI g2) (.inr ⟨F',g5,gd,λc hc=>⟨?_,g5.lt c hc⟩⟩);rcases gf c hc with h|h|h
   ·exact(g1 c h).1
   ·simp at h
   omega
 rcases hv with⟨a0,rfl,rfl⟩|⟨F,hF,g0,g1⟩
 ·have kn:=g3 (.slice none 0 0) [] (ZX e w) kM ss;cases a0 with
  |none=>exact kn
  | some x0=>
    by_cases hm0:m=[]
    ·subst hm0;refine⟨.slice (some x0) 0 0,w,?_,k _ w (aN.refl w) (AY _ _ _ _ _)⟩
     have hf:(Builtin.firstCells (Rep.size α) 0 (.slice a 0 cap)).run P w=.ok #[] w:=by
       cases a with
       |none=>rfl
       |some a=>simp[Builtin.firstCells,loadCells,loadCellsFrom]
     simp[Builtin.append_,run_underlying ht,qX he,Builtin.lenOf,hf,storeCells]
    rcases h4 with h|⟨b,o,rfl,hr,_⟩
    ·exact absurd h hm0
    exact SZ (Fj (α:=α) ht he g4 (aO.len hc) hr (NL.2 hm0) (by simpa using hm) (by simpa using hb)) kn
 exact g3 v F hF g0 g1
def Ot{a:Option Addr}{cap:Nat}{l:List α}(h:Is w (.slice a l.length cap) l)(k:Nat)(hk:k<=l.length):Is w (.slice a k cap) (l.take k):=by
 obtain⟨_,_,⟨_,_,_,_,rfl,_,h2,hc,h4⟩,hv⟩:=h;simp only[fF,Rep.agg,cond_false,EM,Value.slice.injEq]at hv;obtain⟨rfl,_,rfl⟩:=hv;have e:l=l.take k++l.drop k:=by simp
 have C:(l.take k).length=k:=by simp;omega
 rw[e]at hc;obtain⟨F1,_,x1,_,rfl,rfl,c1,_⟩:=aO.split hc;by_cases hd:l.take k=[]
 ·refine⟨[],_,⟨a,cap,F1,x1,rfl,by rw[C];omega,h2,c1,.inl ⟨hd,rfl⟩⟩,?_⟩;rw[C];rfl
 rcases h4 with⟨rfl,_⟩|⟨b,o,rfl,rfl,hr,hb⟩
 ·simp at hd
 refine⟨_,_,⟨some ⟨b,o,none⟩,cap,F1,x1,rfl,by rw[C];omega,h2,c1,.inr ⟨b,o,rfl,rfl,(wU hr).1,hb⟩⟩,?_⟩;rw[C];rfl
def Xi{t:TypeId}{by_:Nat}{v:vL}{l:List α}{i:Int}{K:vL->Prop}(ht:P.underlying t=some (.slice e))(he:cT P e=some (Rep.size α,by_,Rep.agg α))(h:Is w0 v l)(h0:0<=i)(h1:i.toNat<=l.length)
   (k:∀v',Is w0 v' (l.take i.toNat)->K v'):RD P (Instr.sliceAt t v none (some (iV i)) none) w K:=by
 obtain⟨a,cap,_,_,rfl,_,_,_,_⟩:=xD h
 have hb:∀w',(Instr.sliceBounds true l.length cap none (some (iV i)) none).run P w'=.ok (0,i.toNat,cap) w':=λw'=>by
   have:i<=(cap:Int):=oo;simp[Instr.sliceBounds,Instr.sliceBound,asIntOf,h0,this]
 refine dY (v:=.slice a i.toNat cap) (λw' _=>?_) (k _ (Ot h i.toNat h1))
 have hz:(if cap=0 then a else a.map (λx=>x.add (0*Rep.size α)))=a:=by
   split
   ·rfl
   cases a<;>simp[Addr.add_mid,Addr.add]
 simp only[Instr.sliceAt,Instr.slice,Sem.run_bind,run_underlying ht,Result.andThen_ok,hb,qX he];simp;exactλ_=>by cases a<;>simp[Addr.add_mid,Addr.add]
def zpz{t:TypeId}{by_:Nat}{v:vL}{l:List α}{i j:Int}{K:vL->Prop}(ht:P.underlying t=some (.slice e))(he:cT P e=some (Rep.size α,by_,Rep.agg α))(h:Is w0 v l)(h0:0<=i)(h1:i<=j)(h2:j.toNat<=l.length)
   (k:∀v',Is w0 v' ((l.take j.toNat).drop i.toNat)->K v'):RD P (Instr.sliceAt t v (some (iV i)) (some (iV j)) none) w K:=by
 obtain⟨a,cap,_,_,rfl,_,_,_,_⟩:=xD h
 have hb:∀w',(Instr.sliceBounds true l.length cap (some (iV i)) (some (iV j)) none).run P w'=.ok (i.toNat,j.toNat,cap) w':=λw'=>by
   have h3:j<=(cap:Int):=oo;have h5:0<=j:=oo;simp[Instr.sliceBounds,Instr.sliceBound,asIntOf,h0,h1,h3,h5];intro _;omega
 have hl:(l.take j.toNat).length=j.toNat:=by rw[fY];omega
 have g0:Is w0 (.slice a (l.take j.toNat).length cap) (l.take j.toNat):=by rw[hl];exact Ot h j.toNat h2
 have hd:=Nv g0 i.toNat oo (Rep.size α) rfl;rw[hl]at hd;refine dY (λw' _=>?_) (k _ hd);simp only[Instr.sliceAt,Instr.slice,Sem.run_bind,run_underlying ht,Result.andThen_ok,hb,qX he];simp
def iS{α:Type}[Rep α](W w:wD)(b o:Nat)(x:α):Prop:=∃F cs,rep F W cs x/\w.rangeAt b o cs
def iS.keep{W w':wD}{b o:Nat}{x:α}(h:iS W w b o x)(hb:w'.heap[b]?=w.heap[b]?):iS W w' b o x:=by
 obtain⟨F,cs,hr,ha⟩:=h;exact⟨F,cs,hr,yT ha hb⟩
def iS.ext{W:wD}{b o:Nat}{x:α}(h:iS W w b o x)(hx:aB w w'):iS W w' b o x:=by
 obtain⟨F,cs,hr,ha⟩:=h;exact⟨F,cs,hr,yV ha hx⟩
def iS.at{W:wD}{b o:Nat}{x:α}(h:iS W w b o x)(hx:aB W w):At w b o x:=by
 obtain⟨F,cs,hr,ha⟩:=h;exact⟨F,cs,rH hr hx,ha⟩
def iS.fst{β:Type}[Rep β]{W:wD}{b o:Nat}{p:α×β}(h:iS W w b o p):iS W w b o p.1:=by
 obtain⟨_,_,⟨F1,_,c1,_,rfl,rfl,h1,_⟩,hr⟩:=h;exact⟨F1,c1,h1,(wU hr).1⟩
def iS.snd{β:Type}[Rep β]{W:wD}{b o:Nat}{p:α×β}(h:iS W w b o p):iS W w b (o+Rep.size α) p.2:=by
 obtain⟨_,_,⟨_,F2,_,c2,rfl,rfl,h1,h2⟩,hr⟩:=h;have:=(wU hr).2;rw[Rep.len h1]at this;exact⟨F2,c2,h2,this⟩
def rI{W:wD}{t by_ b o:Nat}{x:α}{K:vL->Prop}(ht:cT P t=some (Rep.size α,by_,Rep.agg α))(h:iS W w0 b o x)(hW:aB W w0)(hx:aB w0 w)(k:∀ v,Is W v x->K v) :
   RD P (Instr.loadAt t (pT b o)) w K:=by
 obtain⟨F,cs,hr,hc⟩:=h;exact dY (λ_ g0=>OK ht (rH hr (hW.trans xx)) (yV hc xx)) (k _ ⟨F,cs,hr,rfl⟩)
def uT{W w1:wD}{g:Nat}{x:α}{t:TypeId}(h:Is W v x)(hV:AM P t w1 g v)(ha:Rep.agg α=true):iS W w1 g 0 x:=by
 obtain⟨F,cs,hr,rfl⟩:=h;obtain⟨_,g0,_,hB,hv,_⟩:=hV
 have:g0=cs:=by
   simp only[fF,ha,cond_true,Value.agg.injEq]at hv;have:=cS Array.toList hv;simpa using this.symm
 subst this;exact⟨F,_,hr,hB.range⟩
theorem ek[aV α]{t:TypeId}{fs:Array Field}{K:vL->Prop}(hu:P.underlying t=some (.struct fs))(hz:kO P t=some (aV.zc α))(hf:(fs.toList.all λf=>(P.info? f.type).isSome)=true)(ha:Rep.agg α=true)
   (k:∀v,Is w v (aV.zv:α)->K v):RD P (Instr.build t #[]) w K:=by
 unfold kO at hz;cases hi:P.info? t with
 |none=>simp[hi]at hz
 | some i=>
   simp only[hi]at hz;obtain⟨z,g0,g1⟩:=CB.1 hz
   have hm:∀w',∃ps,(fs.mapM λf=>do pure (f.offset,<-sizeOf f.type):Sem (Array (Nat×Nat))).run P w'=.ok ps w':=by
     intro w'
     have:∀l:List Field,(l.all λf=>(P.info? f.type).isSome)=true->∃ps,(l.mapM λf=>do pure (f.offset,<-sizeOf f.type):Sem (List (Nat×Nat))).run P w'=.ok ps w':=by
       intro l
       induction l with
       |nil=>intro _;exact⟨[],ss⟩
       | cons f l ih=>
         intro h;simp only[XX,iA]at h;obtain⟨j,hj⟩:=RZ.1 h.1;obtain⟨ps,C⟩:=ih h.2;have g2:(sizeOf f.type).run P w'=.ok j.size w':=by simp[sizeOf,typeInfo,hj]
         exact⟨(f.offset,j.size) :: ps,by simp only[En,Sem.run_bind,g2,Result.andThen_ok,Sem.run_pure,C]⟩
     obtain⟨ps,C⟩:=this fs.toList hf;exact⟨ps.toArray,by rw[Qo];simp only[map_eq_pure_bind,Sem.run_bind,C,Result.andThen_ok,Sem.run_pure]⟩
   refine dY (v:=fF α (aV.zc α)) (λw' _=>?_) (k _ ⟨[],_,aV.zr w,rfl⟩);obtain⟨ps,C⟩:=hm w';have e:z.cells=(aV.zc α).toArray:=by rw[<-g1]
   have g3:(zeroValue t).run P w'=.ok z w':=by simp[zeroValue,typeInfo,hi,g0]
   simp only[Instr.build,Sem.run_bind,g3,Result.andThen_ok,run_underlying hu,C];simp[Instr.fill,fF,ha,e]
end
end Go.Sh
namespace Go.Sh
open Go.RowKit (Below)
open Rep (rep)
section
variable {P:pG}{w w0 w':wD}{α β γ:Type}[Rep α][Rep β]
def JN{t e:TypeId}{by_:Nat}{F:List Nat}{v:vL}{l:List α}{k:Nat}{K:vL->Prop}(ht:P.underlying t=some (.slice e))(he:cT P e=some (Rep.size α,by_,Rep.agg α))(hm:aZ F w v l)(hk:k<l.length)
   (kk:∀b o G,bT (MH v) F w b o G l[k] (λy=>l.set k y)->K (pT b o)):RD P (Instr.indexAt t v (iV k)) w K:=by
 obtain⟨b,a,_,G,hv,hL⟩:=Oe hm hk;refine dY (v:=pT b (a+k*Rep.size α)) (λ_ _=>?_) (kk _ _ _ hL);rw[hv,KS ht he oo oo];simp
def Ty{ft by_ b o:Nat}{H:List Nat->wD->γ->Prop}{F G:List Nat}{l:List β}{upd:List β->γ}{K:vL->Prop}(g1:cT P ft=some (1,by_,false))(hL:bT H F w b o G l upd)
   (k:∀u,aZ G w u l->(∀c∈G,c∈F)->(∀w' G' l',cH G w w'->aZ G' w' u l'->(∀c∈G',c∈G\/c∉F)->∃F',H F' w' (upd l')/\∀c∈F',c∈F\/c∈G')->K u) :
   RD P (Instr.loadAt ft (pT b o)) w K:=by
 obtain⟨u,hM,hr,hG,hb⟩:=hL.row;refine dY (λw' g0=>?_) (k u hM hG hb);have h0:w'.cell? ⟨b,o,none⟩=some u:=by simpa using(yV hr g0) 0 u rfl
 have hA:=xY g1 w';simp[Instr.loadAt,Instr.sureAddr,loadVar,hA,h0]
def cX{ft by_ g e o:Nat}{cs:List vL}{v:vL}{K:vL->Prop}(g1:cT P ft=some (1,by_,false))(hB:cA g e w cs)(ho:cs[o]?=some v)(k:K v) :
   RD P (Instr.loadAt ft (pT g o)) w K:=by
 refine dY (λw' g0=>?_) k;have h0:w'.cell? ⟨g,o,none⟩=some v:=by simpa using(yV hB.range g0) o v ho
 have hA:=xY g1 w';simp[Instr.loadAt,Instr.sureAddr,loadVar,hA,h0]
def VO{t:TypeId}{cs:Array vL}{K:vL->wD->Prop}(k:∀ w',aB w w'->cA w.heap.size t w' cs.toList->K (pT w.heap.size 0) w'):OP P (Instr.box t (.agg cs)) w K:=
 ⟨_,w.alloc (.cells cs t),by simp[Instr.box,newVar,newRow,Value.cells],k _ (oK w _) (by unfold cA;rw[heap_alloc_new w _])⟩
def KU{t by_ b o:Nat}{F G:List Nat}{v:vL}{y y':β}{upd:β->α}{u:vL}{K:wD->Prop}(ht:cT P t=some (Rep.size β,by_,Rep.agg β))(h:bT (MH v) F w b o G y upd)
   (hu:aZ [] w u y') (k:∀w' F',cH F w w'->aZ F' w' v (upd y')->(∀c∈F',c∈F)->K w'):fA P (Instr.storeAt t (pT b o) u) w K:=
 WX ht h hu ss λw' hc ⟨F',h1,h2⟩=>k w' F' hc h1 λc hc=>by
   rcases h2 c hc with h|h
   ·exact h
   simp at h
def xN{x:Int}(h:bR x):aZ [] w (iV x) x:=⟨⟨_,⟨rfl,rfl,h⟩,rfl⟩,kM,Wr.nil w⟩
def Jm{x:ByteArray}(h:x.size<=maxLen):aZ [] w (.string x) x:=⟨⟨_,⟨rfl,rfl,h⟩,rfl⟩,kM,Wr.nil w⟩
def Ie{x:Bool}:aZ [] w (.bool x) x:=⟨⟨_,⟨rfl,rfl⟩,rfl⟩,kM,Wr.nil w⟩
def cH.sub{F G:List Nat}{a b c:wD}(h:cH F a b)(k:cH G b c)(hs:∀ x∈G,x∈F):cH F a c:=h.trans (k.mono hs)
def lc{ts:Array TypeId}{ty:TypeId}{a b:Int}{K:vL->Prop}(k:K (iV (max a b))):RD P (Builtin.max_ ts ty [Value.int .i64 a,Value.int .i64 b].toArray) w K:=by
 refine dY (λ_ _=>?_) k;have:(if b>a then b else a)=max a b:=by split<;>omega
 simp only[Builtin.max_,RR,List.foldlM_cons,List.foldlM_nil,Builtin.max2,this];rfl
def ky{ts:Array TypeId}{ty:TypeId}{a b:Int}{K:vL->Prop}(k:K (iV (min a b))):RD P (Builtin.min_ ts ty [Value.int .i64 a,Value.int .i64 b].toArray) w K:=by
 refine dY (λ_ _=>?_) k;have:(if b<a then b else a)=min a b:=by split<;>omega
 simp only[Builtin.min_,RR,List.foldlM_cons,List.foldlM_nil,Builtin.min2,this];rfl
def zGL{t e ft i off by_ g2:Nat}{F:List Nat}{v u:vL}{l:List α}{k:Nat}{y':β}{sel:α->β}{g:α->β->α}{K:wD->Prop}(ht:P.underlying t=some (.slice e))(he:cT P e=some (Rep.size α,by_,Rep.agg α))(hf:fG P e i=some off)(g1:cT P ft=some (Rep.size β,g2,Rep.agg β))
   (L:∀{a:α}{G:List Nat}{b o:Nat}{upd:α->List α},bT (MH v) F w b o G a upd->∃G1,bT (MH v) F w b (o+off) G1 (sel a) (λy=>upd (g a y))) (hm:aZ F w v l) (hk:k<l.length) (hu:aZ [] w u y')
   (kk:∀w' F',cH F w w'->aZ F' w' v (l.set k (g l[k] y'))->(∀c∈F',c∈F)->K w') :
   RD P (Instr.indexAt t v (iV k)) w λp=>RD P (Instr.fieldAt e p i) w λq=>fA P (Instr.storeAt ft q u) w K:=by
 refine JN ht he hm hk λb o G hL=>aE hf ?_;obtain⟨G1,g0⟩:=L hL;exact KU (upd:=λy=>l.set k (g l[k] y)) g1 g0 hu kk
end
end Go.Sh
namespace Go.Sh
open Rep (rep)
instance:Rep UInt8 where
 size:=1
 agg:=false
 rep F _ cs x:=F=[]/\cs=[.int .u8 (x.toNat:Int)]
 pos:=by decide
 sz _:=rfl
 len:=by rintro _ _ _ _ ⟨_,rfl⟩;rfl
 one:=by rintro _ _ _ _ ⟨_,rfl⟩ v hv;simp at hv;subst hv;rfl
 keep:=by rintro _ _ _ _ _ h _;exact h
 lt:=by rintro _ _ _ _ ⟨rfl,_⟩ b hb;cases hb
instance:dN UInt8:=⟨λh=>h.1⟩
instance:aV UInt8:=⟨0,[.int .u8 0],λ_=>⟨rfl,rfl⟩⟩
section
variable {P:pG}{w w0:wD}{K:vL->Prop}{t:TypeId}{x y:Operand}
def zEW{b:UInt8}:aZ [] w (.int .u8 (b.toNat:Int)) b:=⟨⟨_,⟨rfl,rfl⟩,rfl⟩,kM,Wr.nil w⟩
def ya{lo hi:Nat}{b:UInt8}:aK lo hi w (.int .u8 (b.toNat:Int)) b:=⟨[],zEW,ss⟩
def zIb{v:vL}{b:UInt8}:Is w v b↔v=.int .u8 (b.toNat:Int):=by
 constructor
 ·rintro⟨_,_,⟨_,rfl⟩,rfl⟩;rfl
 rintro rfl;exact⟨[],_,⟨rfl,rfl⟩,rfl⟩
def Yq{t by_ b o:Nat}{x:UInt8}(ht:cT P t=some (1,by_,false))(h:At w0 b o x)(hx:aB w0 w)(k:K (.int .u8 (x.toNat:Int))) :
   RD P (Instr.loadAt t (pT b o)) w K:=
 aL (α:=UInt8) ht h hx λv hv=>by obtain rfl:=zIb.1 hv;exact k
def tx{g0 dst:TypeId}{n:Nat}(hs:(P.underlying g0).isSome=true)(hd:P.underlying dst=some (.int .u8))(hn:n<256)(k:K (.int .u8 ((UInt8.ofNat n).toNat:Int))):RD P (convert g0 dst (iV n)) w K:=by
 refine dY (λ_ _=>?_) k;obtain⟨_,g1⟩:=Option.isSome_iff_exists.mp hs;have h1:IntKind.u8.wrap (n:Int)=n:=by simp[IntKind.wrap,IntKind.signed,IntKind.bits];omega
 have:(UInt8.ofNat n).toNat=n:=by simp;omega
 simp[convert,run_underlying g1,run_underlying hd,Conv.intToInt,h1];omega
def Mu{C dst e:TypeId}{v:vL}{l:List UInt8}(hs:P.underlying C=some (.slice e))(he:P.underlying e=some (.int .u8))(hd:P.underlying dst=some .string)(h:Is w0 v l)(hx:aB w0 w)
   (k:K (.string ⟨l.toArray⟩)):RD P (convert C dst v) w K:=by
 obtain⟨a,cap,_,xs,rfl,_,_,hc,h4⟩:=xD h
 have g0:∀{l:List UInt8}{F:List Nat}{xs:List vL},aO F w0 xs l->xs=l.map λb=>Value.int .u8 (b.toNat:Int):=by
   intro l
   induction l with
   |nil=>rintro _ _ ⟨_,rfl⟩;rfl
   | cons b l ih=>
     rintro _ _ ⟨_,_,_,_,_,rfl,⟨_,rfl⟩,h⟩;rw[ih h];rfl
 have g1:=g0 hc;refine dY (λw' g2=>?_) k;rcases h4 with rfl|⟨b,o,rfl,hr,_⟩
 ·cases a with
  |none=>exact run_convert_bytes_nil w' C e hs he _ _ dst hd
  | some a=>
    rw[run_convert_bytes_string w' C dst e _ _ cap hs he hd];have:=run_bytesToString (P:=P) w' a 0 cap [] (by simp[loadCells,loadCellsFrom]);exact this
 have:=run_convert_bytes_arg w' C e hs he b o l.length cap (l.map λb=>(b.toNat:Int)) ss (λi hi=>by
   have g3:=yV (yV hr hx) g2;have:=g3 i (.int .u8 (l[i].toNat:Int)) (by rw[g1];simp[hi]);rw[this];simp[List.getD,hi]) dst hd
 rw[this]
 have e:strOfNums (l.map λb=>(b.toNat:Int))=⟨l.toArray⟩:=by
   unfold strOfNums;congr 2;rw[List.map_map]
   conv=>rhs;rw[<-List.map_id l]
   congr 1;funext b;simp
 rw[e]
def mK{a b:ByteArray}(h:a.size+b.size<=9223372036854775807)(k:K (.string (a++b))):RD P (bin .add t x y (.string a) (.string b)) w K:=
 dY (λw' _=>by
   have hh:¬(((a.size+b.size:Nat):Int)>IntKind.i64.max):=by
     have:IntKind.i64.max=9223372036854775807:=by decide
     omega
   show(do eqGuard .add t x y (.string a) (.string b);binOp .add t (.string a) (.string b):Sem vL).run P w'=_;simp only[eqGuard,binOp,Op.stringOp,hh,if_false];rfl) k
def zGM{a b:Int}(hb:b≠0)(h:bR (a.tdiv b))(k:K (iV (a.tdiv b))):RD P (bin .quo t x y (iV a) (iV b)) w K:=
 dY (λw' _=>by simp[bin,eqGuard,binOp,Op.intDiv,hb,IntWalk.i64_in _ h]) k
end
end Go.Sh
namespace Go.Sh
open Rep (rep)
variable {b o:Nat}{w:wD}
section
variable {w:wD}{b o:Nat}
def oO{α β:Type}[Rep α][Rep β]{F G:List Nat}{c1 c2:List vL}{x:α}{y:β}(h1:rep F w c1 x)(h2:rep G w c2 y):rep (F++G) w (c1++c2) (x,y):=⟨F,G,c1,c2,rfl,rfl,h1,h2⟩
def AJ{α:Type}[Rep α](ha:Rep.agg α=false){F:List Nat}{v:vL}{x:α}(h:nC F w v x):rep F w [v] x:=by
 obtain⟨_,hr,rfl⟩:=h;have hl:=Rep.len hr;rw[Rep.sz ha]at hl;obtain⟨_,rfl⟩:=IR.1 hl;simpa[fF,ha]using hr
end
structure aR where
 g:Int
 a:Int
 b:Int
def aR.ext_iff{x y:aR}:x=y↔(x.g=y.g/\x.a=y.a/\x.b=y.b):=⟨λh=>by rw[h];exact⟨rfl,rfl,rfl⟩,λh=>by obtain⟨h0,h1,h2⟩:=h;cases x;cases y;simp only at h0 h1 h2;simp only[h0,h1,h2]⟩
instance:DecidableEq aR:=λx y=>decidable_of_iff (x.g=y.g/\x.a=y.a/\x.b=y.b) aR.ext_iff.symm
instance:Rep aR:=Rep.via λx=>(x.g,x.a,x.b)
def HX{x:aR}(h:At w b o x):At w b (o+0) x.g:=qI (α:=Int) (β:=Int×Int) (p:=(x.g,x.a,x.b)) h
def OR{x:aR}(h:At w b o x):At w b (o+1) x.a:=qI (α:=Int) (β:=Int) (p:=(x.a,x.b)) (kE (α:=Int) (β:=Int×Int) (p:=(x.g,x.a,x.b)) h)
def VD{x:aR}(h:At w b o x):At w b (o+2) x.b:=kE (α:=Int) (β:=Int) (p:=(x.a,x.b)) (kE (α:=Int) (β:=Int×Int) (p:=(x.g,x.a,x.b)) h)
instance:aV aR:=⟨⟨(aV.zv:Int),(aV.zv:Int),(aV.zv:Int)⟩,aV.zc (Int×Int×Int),λw=>aV.zr (α:=Int×Int×Int) w⟩
instance:dN aR:=⟨λh=>dN.flat (α:=Int×Int×Int) h⟩
structure qD where
 vars:List Int
 owner:List Int
 stacks:List (List Int)
def qD.ext_iff{x y:qD}:x=y↔(x.vars=y.vars/\x.owner=y.owner/\x.stacks=y.stacks):=⟨λh=>by rw[h];exact⟨rfl,rfl,rfl⟩,λh=>by obtain⟨h0,h1,h2⟩:=h;cases x;cases y;simp only at h0 h1 h2;simp only[h0,h1,h2]⟩
instance:DecidableEq qD:=λx y=>decidable_of_iff (x.vars=y.vars/\x.owner=y.owner/\x.stacks=y.stacks) qD.ext_iff.symm
instance:Rep qD:=Rep.via λx=>(x.vars,x.owner,x.stacks)
instance:aV qD:=⟨⟨(aV.zv:List Int),(aV.zv:List Int),(aV.zv:List (List Int))⟩,aV.zc ((List Int)×(List Int)×(List (List Int))),λw=>aV.zr (α:=(List Int)×(List Int)×(List (List Int))) w⟩
section
variable {w:wD}{b o:Nat}
def OW{v:vL}{x:aR}:Is w v x↔v=.agg #[iV x.g,iV x.a,iV x.b]/\bR x.g/\bR x.a/\bR x.b:=by
 constructor
 ·rintro⟨_,_,⟨_,_,_,_,rfl,rfl,⟨rfl,rfl,h1⟩,⟨_,_,_,_,rfl,rfl,⟨rfl,rfl,h2⟩,⟨rfl,rfl,h3⟩⟩⟩,rfl⟩;exact⟨rfl,h1,h2,h3⟩
 rintro⟨rfl,h1,h2,h3⟩;exact⟨[],[iV x.g,iV x.a,iV x.b],⟨[],[],[iV x.g],[iV x.a,iV x.b],rfl,rfl,⟨rfl,rfl,h1⟩,[],[],[iV x.a],[iV x.b],rfl,rfl,⟨rfl,rfl,h2⟩,⟨rfl,rfl,h3⟩⟩,rfl⟩
def fi{x:aR}(h1:bR x.g)(h2:bR x.a)(h3:bR x.b):aZ [] w (.agg #[iV x.g,iV x.a,iV x.b]) x:=
 ⟨⟨[iV x.g,iV x.a,iV x.b],⟨[],[],[iV x.g],[iV x.a,iV x.b],rfl,rfl,⟨rfl,rfl,h1⟩,[],[],[iV x.a],[iV x.b],rfl,rfl,⟨rfl,rfl,h2⟩,⟨rfl,rfl,h3⟩⟩,rfl⟩,kM,Wr.nil w⟩
end
end Go.Sh
namespace Go.Sh
open Rep (rep)
section
variable {P:pG}{w w0:wD}{α:Type}[Rep α]
theorem Vv[aV α]{z:vL}(hz:aV.zc α=[z])(w:wD):∀n,aO [] w (List.replicate n z) (List.replicate n (aV.zv:α))
 |0=>⟨rfl,rfl⟩
 |n+1=>⟨[],[],[z],List.replicate n z,rfl,rfl,hz▸aV.zr w,Vv hz w n⟩
def xn(z:vL)(n:Nat):(madeCells #[z] n).toList=List.replicate n z:=by
 apply wE
 ·simp[madeCells]
 intro _ _ _;simp[madeCells,Nat.mod_one]
def SX[aV α]{t e:TypeId}{by_:Nat}{z:vL}{K:vL->wD->Prop}{n:Nat}(ht:P.underlying t=some (.slice e))(he:cT P e=some (Rep.size α,by_,Rep.agg α))(h1:Rep.size α=1)(g9:aV.zc α=[z])(hz:kO P e=some [z])
   (hb:by_*n<=281474976710656) (hm:n<=9223372036854775807)
   (k:∀w',aB w w'->bQ w.heap.size w'.heap.size e w' (.slice (some ⟨w.heap.size,0,none⟩) n n) (List.replicate n (aV.zv:α))->K (.slice (some ⟨w.heap.size,0,none⟩) n n) w') :
   OP P (Instr.makeSlice t (iV n) (iV n)) w K:=by
 obtain⟨i,_,hi,_,hs,g2,_⟩:=xO he;unfold kO at hz;rw[hi]at hz;obtain⟨zz,g3,g4⟩:=CB.1 hz
 have g5:(i.bytes:Int)*(n:Int)<=281474976710656:=by
   have h:((i.bytes*n:Nat):Int)<=281474976710656:=by rw[g2];omega
   rwa[Int.natCast_mul]at h
 have hr:=run_make (P:=P) w t e i zz ht hi g3 .i64 .i64 n n oo (Fv _) g5 oo;simp only[qM]at hr;have g0:zz.cells=#[z]:=by apply GA;simpa using g4
 have g1:n*i.size=n:=by rw[hs,h1,yE]
 rw[g0,g1]at hr;refine⟨_,_,hr,k _ (oK w _) (.inr ⟨[w.heap.size],⟨List.replicate n z,[],⟨?_,.inr ⟨w.heap.size,n,madeCells #[z] n,?_,z0 _,heap_alloc_new w _,ss,by rw[eB];omega,?_,?_⟩⟩,Vv g9 _ n,rfl,Wr.nil _⟩,ss,?_⟩)⟩
 ·simp[h1]
 ·simp
 ·rw[h1];simp[madeCells]
 ·rw[xn,pY,h1,yE,iO ss]
 intro _ hb;simp only[bF,dL,dI]at hb;subst hb;exact⟨iD _,(Array.getElem?_eq_some_iff.1 (heap_alloc_new w _)).1⟩
def fI{K:vL->Prop}{t:TypeId}{parts:Array (Nat×vL)}{cells:Array vL}(h:P.built t parts.toList=some cells)(k:K (.agg cells)):RD P (Instr.build t parts) w K:=
 dY (λw' _=>run_build w' t parts cells h) k
def SD{t by_ g e:Nat}{cs:List vL}{K:vL->Prop}(hB:cA g e w cs)(ht:cT P t=some (cs.length,by_,true))(k:K (.agg cs.toArray)):RD P (Instr.loadAt t (pT g 0)) w K:=
 pX ⟨e,cs,by_,hB,rfl,ht⟩ xx k
def AX{t by_ g e:Nat}{cs:List vL}{K:vL->Prop}(hB:cA g e w cs)(ht:cT P t=some (cs.length,by_,true))(k:K (.agg cs.toArray)):RD P (qP t (pT g 0)) w K:=by
 obtain⟨_,d,hi,hd,hs,_,hg⟩:=xO ht;refine dY (λw' g0=>?_) k;have:=run_loadAt_mid w' g 0 t cs d (hB.ext g0).range hd hg (by simp[hi,hs]);simpa[qP,asAddr,Instr.loadAt,Instr.sureAddr]using this
def tA{t by_ g e:Nat}{cs:List vL}{us:Array vL}{lo hi:Nat}{x:α}{K:wD->Prop}(ht:cT P t=some (Rep.size α,by_,true))(ha:Rep.agg α=true)(hB:cA g e w cs)(hl:cs.length=Rep.size α)(hu:aK lo hi w (.agg us) x)
   (k:∀w',aN g (g+1) w w'->cA g e w' us.toList->K w'):fA P (Instr.storeAt t (pT g 0) (.agg us)) w K:=by
 obtain⟨_,⟨⟨g1,hr,hv⟩,_⟩,_⟩:=hu
 have g2:us.toList=g1:=by
   simp only[fF,ha,cond_true,Value.agg.injEq]at hv;rw[hv]
 have:=Rep.len hr;rw[hv];refine Jf (by rw[ha];exact ht) hB hr rfl oo λw' hc g0=>k w' (hc.toI ss) ?_;rw[g2];rw[LA,sL,vO,Hq oo,oJ]at g0;exact g0
def qL{t by_ g e o:Nat}{cs:List vL}{u:vL}{lo hi:Nat}{x:α}{K:wD->Prop}(ht:cT P t=some (1,by_,false))(h1:Rep.size α=1)(ha:Rep.agg α=false)(hB:cA g e w cs)(ho:o<cs.length)(hu:aK lo hi w u x)
   (k:∀w',aN g (g+1) w w'->cA g e w' (cs.set o u)->K w'):fA P (Instr.storeAt t (pT g o) u) w K:=by
 obtain⟨_,⟨⟨_,hr,hv⟩,_⟩,_⟩:=hu;have g0:=Rep.len hr;rw[h1]at g0;obtain⟨c,rfl⟩:=IR.1 g0;have g1:u=c:=by simpa[fF,ha]using hv
 subst g1;refine Jf (by rw[h1,ha];exact ht) hB hr hv oo λw' hc g2=>k w' (hc.toI ss) ?_
 have:cs.set o u=cs.take o++[u]++cs.drop (o+1):=by
   rw[ZN,aP ho];simp
 rw[this];exact g2
def cA.xI{g e a b:Nat}{w':wD}{cs:List vL}(h:cA g e w cs)(hc:aN a b w w')(hd:g<a\/b<=g):cA g e w' cs:=h.keep (hc.block g h.lt hd)
end
end Go.Sh
namespace Go.Sh
open Rep (rep)
def dU{α:Type}[Rep α](F:List Nat)(e:TypeId)(w:wD)(v:vL)(l:List α):Prop:=(∃a,v=.slice a 0 0/\l=[]/\F=[])\/fL F e w v l
section
variable {P:pG}{w w0 w':wD}{α β γ:Type}[Rep α][Rep β]{e lo hi:Nat}{v:vL}{l:List α}{F:List Nat}
def dU.lt(h:dU F e w v l):∀b∈F,b<w.heap.size:=by
 rcases h with⟨_,_,_,rfl⟩|h
 ·simp
 exact h.lt
def dU.keep(h:dU F e w v l)(hk:∀ b∈F,w'.heap[b]?=w.heap[b]?):dU F e w' v l:=by
 rcases h with h|h
 ·exact .inl h
 exact .inr (h.keep hk)
def dU.own(h:dU F e w v l):nC F w v l:=by
 rcases h with⟨a,rfl,rfl,rfl⟩|h
 ·exact⟨_,⟨a,0,[],[],rfl,lr _,z0 _,⟨rfl,rfl⟩,.inl ⟨rfl,rfl⟩⟩,rfl⟩
 exact h.own
def dU.wr(h:dU F e w v l):Wr F w:=by
 rcases h with⟨_,_,_,rfl⟩|h
 ·exact Wr.nil w
 exact h.wr
def dU.one(h:dU F e w v l):v.oneCell'=true:=by
 obtain⟨_,⟨_,_,_,_,rfl,_⟩,rfl⟩:=h.own;rfl
def LV:bQ lo hi e w v l↔∃F,dU F e w v l/\F.Nodup/\∀b∈F,lo<=b/\b<hi:=by
 constructor
 ·rintro(⟨a,h1,h2⟩|⟨F,h1,h2,h3⟩)
  ·exact⟨[],.inl ⟨a,h1,h2,rfl⟩,kM,ss⟩
  exact⟨F,.inr h1,h2,h3⟩
 rintro⟨F,(⟨a,h1,h2,_⟩|h1),g0,h3⟩
 ·exact .inl ⟨a,h1,h2⟩
 exact .inr ⟨F,h1,g0,h3⟩
end
structure RV(α:Type)(e:TypeId) where
 v:vL
 l:List α
instance{α:Type}[Rep α]{e:TypeId}:Rep (RV α e) where
 size:=1
 agg:=false
 rep F w cs x:=cs=[x.v]/\dU F e w x.v x.l
 pos:=by decide
 sz _:=rfl
 len:=by rintro _ _ _ _ ⟨rfl,_⟩;rfl
 one:=by rintro _ _ _ _ ⟨rfl,h⟩ v hv;simp at hv;subst hv;exact h.one
 keep:=by rintro _ _ _ _ _ ⟨rfl,h⟩ hk;exact⟨rfl,h.keep hk⟩
 lt:=by rintro _ _ _ _ ⟨rfl,h⟩;exact h.lt
section
variable {P:pG}{w w0 w':wD}{α β γ:Type}[Rep α][Rep β]{e lo hi:Nat}{v:vL}{l:List α}{F:List Nat}
def Nf{x:RV α e}(h:Is w v x):v=x.v/\Is w x.v x.l:=by
 obtain⟨F,cs,⟨rfl,h1⟩,hv⟩:=h;obtain⟨cs,hr,g0⟩:=h1.own;exact⟨hv,F,cs,hr,g0⟩
def ym{k:Nat}(hm:dU F e w v l)(hn:F.Nodup)(hk:k<l.length) :
   ∃b a cap G,v=.slice (some ⟨b,a,none⟩) l.length cap/\bT (λF w l=>dU F e w v l/\F.Nodup) F w b (a+k*Rep.size α) G l[k] (λy=>l.set k y):=by
 rcases hm with⟨a,_,rfl,_⟩|hm
 ·simp at hk
 have gr:=hm.wr;obtain⟨_,_,ho,hc,rfl,g5⟩:=hm;rcases ho.2 with⟨_,_⟩|⟨g,cap,cur,rfl,gs,hg,h1,h2,h3,h4⟩
 ·omega
 simp only[Value.ownBlock,Option.toList_some,sZ,sL]at hn gr ⊢;have gi:=ho.1;have e0:l=l.take k++(l[k] :: l.drop (k+1)):=by simp
 have gj:=hc;rw[e0]at gj;obtain⟨F1,_,x1,_,gt,gx,c1,gy⟩:=aO.split gj;obtain⟨G,F2,cg,x2,rfl,rfl,gl,c2⟩:=gy;subst gt gx;have gn:x1.length=k*Rep.size α:=by rw[aO.len c1,fY];congr 1;omega
 have gz:=Rep.len gl;have gA:=hn;rw[tZ]at hn;obtain⟨g9,hn⟩:=hn;rw[oE]at hn;obtain⟨_,gp,gB⟩:=hn;rw[oE]at gp;obtain⟨gC,_,gD⟩:=gp
 have g2:w.rangeAt g 0 (x1++(cg++x2)):=by
   intro j _ hu;rw[<-h4,List.getElem?_take]at hu;split at hu
   ·simpa[World.cell?,hg]using hu
   cases hu
 obtain⟨_,r2⟩:=wU g2;obtain⟨rg,r3⟩:=wU r2;rw[gn]at rg r3;refine⟨g,0,cap,G,rfl,⟨cg,gl,rg,gC,g5.sub sd,λh=>g9 (by simp[h]),cur,e,hg⟩,by simp +contextual,λw' G' y' gb hO hs=>?_⟩;obtain⟨g4,gq,gE,gc,gd,_,_⟩:=hO;have gf:=Rep.len gq;obtain⟨M,Z,C⟩:=gb.cell cur e hg
 have g0:∀c∈F1,w'.heap[c]?=w.heap[c]?:=λc g3=>by
   refine gb.chg.block c (aO.lt c1 c g3) λhm=>?_;rcases bF.1 hm with rfl|hm
   ·exact g9 (by simp[g3])
   exact gB c g3 c (by simp[hm]) rfl
 have g1:∀c∈F2,w'.heap[c]?=w.heap[c]?:=λc g3=>by
   refine gb.chg.block c (aO.lt c2 c g3) λhm=>?_;rcases bF.1 hm with rfl|hm
   ·exact g9 (by simp[g3])
   exact gD c hm c g3 rfl
 have gF:k*Rep.size α+Rep.size α<=cur.size:=by
   rw[h3];have:=IK (Rep.size α) (show k+1<=cap by omega);rw[xM,GL]at this;exact this
 have O:∀j,j<g4.length->M[0+k*Rep.size α+j]?=g4[j]?:=by
   intro j hj;have:=gE j g4[j] (by simp[hj]);simpa[World.cell?,Z,hj]using this
 have gG:=Rep.pos (α:=α)
 have gg:M.size=cur.size:=by
   rcases XB M.size cur.size with h|h|h
   ·exfalso;rcases kR M.size (k*Rep.size α+Rep.size α)with h'|h'
    ·have:=O (Rep.size α-1) oo;rw[List.getElem?_eq_getElem oo]at this;have:=(Array.getElem?_eq_some_iff.1 this).1;omega
    have:=C M.size (.inr oo);rw[Array.getElem?_eq_none (lr _),Array.getElem?_eq_getElem h]at this;cases this
   ·exact h
   exfalso;have:=C cur.size (.inr oo);rw[Array.getElem?_eq_none (lr _),Array.getElem?_eq_getElem h]at this;cases this
 have D:(l.set k y').length=l.length:=by simp
 refine⟨g :: (F1++(G'++F2)),⟨.inr ⟨x1++(g4++x2),F1++(G'++F2),⟨?_,.inr ⟨g,cap,M,by rw[D],gs,Z,by rw[D];exact h1,h2,by rw[gg];exact h3,?_⟩⟩,?_,rfl,?_⟩,J0 gA gc hs⟩,?_⟩
 ·rw[D];simp only[bX]at gi ⊢;omega
 ·rw[D];apply List.ext_getElem?;intro j;have gh:(cur.toList.take (l.length*Rep.size α))[j]?=(x1++(cg++x2))[j]?:=by rw[h4]
  rcases kR j (l.length*Rep.size α)with hj|hj
  ·rw[List.getElem?_take,aP hj]at gh ⊢;rcases kR j (k*Rep.size α)with h'|h'
   ·rw[Array.getElem?_toList,C j (.inl oo),<-Array.getElem?_toList,gh,List.getElem?_append_left oo,List.getElem?_append_left oo]
   rcases kR j (k*Rep.size α+Rep.size α)with gH|gH
   ·rw[Array.getElem?_toList,List.getElem?_append_right oo,List.getElem?_append_left oo,gn,<-O (j-k*Rep.size α) oo];congr 1;omega
   rw[Array.getElem?_toList,C j (.inr oo),<-Array.getElem?_toList,gh,List.getElem?_append_right oo,List.getElem?_append_right oo,List.getElem?_append_right oo,List.getElem?_append_right oo,gz,gf]
  rw[List.getElem?_take,aH oo,List.getElem?_eq_none];simp only[bX]at gi ⊢;omega
 ·have:l.set k y'=l.take k++(y' :: l.drop (k+1)):=by rw[ZN];simp[hk]
  rw[this];exact aO.append (aO.keep c1 g0) ⟨G',F2,g4,x2,rfl,rfl,gq,aO.keep c2 g1⟩
 ·exact((g5.sub sd).keep g0).append (gd.append ((g5.sub sd).keep g1))
 intro c V;rcases bF.1 V with rfl|V
 ·exact .inl ss
 rcases dF.1 V with V|V
 ·exact .inl (by simp[V])
 rcases dF.1 V with V|V
 ·exact .inr V
 exact .inl (by simp[V])
def bT.elemV{H:List Nat->wD->γ->Prop}{S:List Nat}{b o:Nat}{G:List Nat}{x:RV β e}{upd:RV β e->γ}(h:bT H S w b o G x upd){k:Nat}(hk:k<x.l.length) :
   ∃b2 a cap G2,x.v=.slice (some ⟨b2,a,none⟩) x.l.length cap/\(∀c∈b2 :: G2,c∈G)/\bT H S w b2 (a+k*Rep.size β) G2 x.l[k] (λy=>upd ⟨x.v,x.l.set k y⟩):=by
 obtain⟨⟨_,⟨rfl,g3⟩,hr,hn,_,hb,g9⟩,g0,g1⟩:=h;obtain⟨b2,a,cap,G2,hu,hL⟩:=ym g3 hn hk;have hG:∀c∈G,c∈S:=λc hc=>g0 c (by simp[hc]);refine⟨b2,a,cap,G2,hu,hL.sub,hL.here,λc hc=>hG c (hL.sub c hc),λw' G' y' gb hO hs=>?_⟩
 obtain⟨F1,⟨gc,gg⟩,gd⟩:=hL.back w' G' y' gb hO λc hc=>by
   rcases hs c hc with h|h
   ·exact .inl h
   exact .inr λe=>h (hG c e)
 have g2:cH G w w':=gb.chg.mono hL.sub;have gh:b<w.heap.size:=by obtain⟨c,e,h⟩:=g9;exact(Array.getElem?_eq_some_iff.1 h).1
 have g4:w'.heap[b]?=w.heap[b]?:=g2.block b gh hb
 have gf:∀c∈F1,c∈G\/c∉S:=λc hc=>by
   rcases gd c hc with h|h
   ·exact .inl h
   rcases hs c h with h|h
   ·exact .inl (hL.sub c (by simp[h]))
   exact .inr h
 have g5:b∉F1:=λhm=>by
   rcases gf b hm with h|h
   ·exact hb h
   exact h (g0 b ss)
 obtain⟨F',gi,gj⟩:=g1 w' F1 ⟨x.v,x.l.set k y'⟩ ⟨g2.mono sd,λc e hc=>⟨c,by rw[g4];exact hc,λ_ _=>rfl⟩⟩
   ⟨[x.v],⟨rfl,gc⟩,yT hr g4,gg,gc.wr,g5,by obtain⟨c,e,h⟩:=g9;exact⟨c,e,by rw[g4];exact h⟩⟩ gf
 refine⟨F',gi,λc hc=>?_⟩;rcases gj c hc with h|h
 ·exact .inl h
 rcases gd c h with h|h
 ·exact .inl (hG c h)
 exact .inr h
instance:aV (RV α e):=⟨⟨.slice none 0 0,[]⟩,[.slice none 0 0],λ_=>⟨rfl,.inl ⟨none,rfl,rfl,rfl⟩⟩⟩
end
end Go.Sh
namespace Go.Sh
open Rep (rep)
structure dM where
 v:vL
instance:Rep dM where
 size:=1
 agg:=false
 rep F _ cs x:=F=[]/\cs=[x.v]/\x.v.oneCell'=true
 pos:=by decide
 sz _:=rfl
 len:=by rintro _ _ _ _ ⟨_,rfl,_⟩;rfl
 one:=by rintro _ _ _ _ ⟨_,rfl,h⟩ v hv;simp at hv;subst hv;exact h
 keep:=by rintro _ _ _ _ _ h _;exact h
 lt:=by rintro _ _ _ _ ⟨rfl,_⟩ b hb;cases hb
section
variable {P:pG}{w w0 w' w1:wD}{α β γ:Type}[Rep α][Rep β]{e lo hi:Nat}{v:vL}{F G S:List Nat}{b o g:Nat}
def mR.ext_left{n:Nat}(hx:aB w w1)(h:mR b o n G w1 w'):mR b o n G w w':=
 ⟨(hx.chg _).trans h.chg,λc e hc=>h.cell c e (by rw[hx.heap (Array.getElem?_eq_some_iff.1 hc).1];exact hc)⟩
def nL.ext{x:α}(h:nL G w b o x)(hx:aB w w1):nL G w1 b o x:=h.keep λc hc=>hx.heap (h.lts c hc)
def bT.ext{H:List Nat->wD->γ->Prop}{y:β}{upd:β->γ}(h:bT H S w b o G y upd)(hx:aB w w1):bT H S w1 b o G y upd:=
 ⟨h.here.ext hx,h.sub,λw' G' y' hch hO hs=>h.back w' G' y' (hch.ext_left hx) hO hs⟩
def xZ{ft by_:Nat}{u:vL}{K:vL->Prop}(g1:cT P ft=some (1,by_,false))(hr:w.rangeAt b o [u])(k:K u):RD P (Instr.loadAt ft (pT b o)) w K:=by
 refine dY (λw' g0=>?_) k;have h0:w'.cell? ⟨b,o,none⟩=some u:=by simpa using(yV hr g0) 0 u rfl
 have hA:=xY g1 w';simp[Instr.loadAt,Instr.sureAddr,loadVar,hA,h0]
def Va{t by_:Nat}{u old:vL}{K:wD->Prop}(ht:cT P t=some (1,by_,false))(hw:∃ c e,w.heap[b]?=some (.cells c e (0,0)))(hr:w.rangeAt b o [old])(ho:old.oneCell'=true)(hu:u.oneCell'=true)
   (k:∀w',mR b o 1 [] w w'->w'.rangeAt b o [u]->K w'):fA P (Instr.storeAt t (pT b o) u) w K:=by
 refine Ch (β:=dM) (G:=[]) (y:=⟨old⟩) (y':=⟨u⟩) (G':=[]) ht ⟨[old],⟨rfl,rfl,ho⟩,hr,kM,Wr.nil w,ss,hw⟩ ⟨[u],⟨rfl,rfl,hu⟩,rfl⟩ kM (Wr.nil w) ss λw' hc hO=>k w' hc ?_;obtain⟨_,⟨_,rfl,_⟩,g0,_⟩:=hO;exact g0
def fH.mono{g0 g1:Nat}{x:α}(h:fH lo hi w g x)(h1:g0<=lo)(h2:hi<=g1):fH g0 g1 w g x:=by
 obtain⟨F,h,hF⟩:=h;exact⟨F,h,λb hb=>by have:=hF b hb;omega⟩
def CT{t ty:TypeId}{by_:Nat}{u:vL}{x:β}{l:List β}{GX:List Nat}{K:wD->vL->wD->Prop}{C:vL->wD->Prop}(ht:P.underlying t=some (.slice e))(he:cT P e=some (Rep.size β,by_,Rep.agg β))(hz:nN P e=true)
   (gd:(P.info? e).map (λi=>(i.zero.map (·.cells.size)))=some (some (Rep.size β))) (gf:Rep.size β<=1000) (hv:dU G e w v l) (hn:G.Nodup) (hx:aZ GX w u x) (hd:∀c∈GX,c∉G) (hm:l.length+1<=maxLen) (hb:(l.length+1)*by_<=140737488355328)
   (k:∀w1 v' w' G',aB w w1->cH G w1 w'->dU G' e w' v' (l++[x])->G'.Nodup->(∀c∈G',c∈G\/c∈GX\/w.heap.size<=c)->K w1 v' w')
   (hC:∀s w1,aB w w1->OP P (Builtin.append_ #[t,t] ty [v,s].toArray) w1 (K w1)->C s w1):OP P (Instr.buildSlice t 1 #[(0,u)]) w C:=by
 refine ZF ht he hz gf hx λw1 g1 gg=>?_;obtain⟨⟨_,⟨_,_,Fi,xs,rfl,_,_,hc,h4⟩,g0⟩,_,gh⟩:=gg;simp only[fF,Rep.agg,cond_false,EM,Value.slice.injEq,dA,eU]at g0;obtain⟨rfl,_,rfl⟩:=g0;rcases h4 with⟨h4,_⟩|⟨b,o,g2,g5,g9,_⟩
 ·simp at h4
 simp only[zI]at g5;obtain⟨_,rfl⟩:=g5;refine hC _ w1 g1 ?_
 have gb:∀(v:vL)(F:List Nat),fL F e w v l->F.Nodup->(∀c∈F,c∈G)->OP P (Builtin.append_ #[t,t] ty [v,.slice (some ⟨w.heap.size,0,none⟩) 1 1].toArray) w1 (K w1):=by
   intro v F hF gc g3;have gi:=hF.ext g1
   have gj:(GX++F).Nodup:=by
     rw[oE];exact⟨hx.nodup,gc,λp hp _ hq e=>hd p hp (g3 _ (e▸hq))⟩
   refine UK (m:=[x]) ht he gd gi gc rfl hc (.inr ⟨b,o,g2,g9⟩) (gh.sub sd) gj (by simpa using hm) (by simpa using hb) λv' w' F' gl _ gn gp gq=>?_
   have g4:∀c∈v.ownBlock.toList,c∈G:=λc hc=>by
     obtain⟨xs,Fi,_,_,rfl,_⟩:=hF;exact g3 c (by simp only[dF];exact .inl hc)
   refine k w1 v' w' F' g1 (gl.mono g4) (.inr gn) gp λc hc=>?_;rcases gq c hc with h|h|h
   ·exact .inl (g3 c h)
   ·exact .inr (.inl h)
   exact .inr (.inr (eH g1.size h))
 rcases hv with⟨a0,rfl,rfl,rfl⟩|hF
 ·have kn:=gb (.slice none 0 0) [] (ZX e w) kM ss;cases a0 with
  |none=>exact kn
  | some x0=>
    simp only[iU,Addr.mk.injEq]at g2;obtain⟨rfl,rfl,_⟩:=g2;exact SZ (Fj (α:=β) (n:=1) ht he gd (by simpa using aO.len hc) g9 oo (by rw[eB];omega) (by simpa using hb)) kn
 exact gb v G hF hn (λ_ h=>h)
def CU{t:TypeId}{by_:Nat}{u:vL}{x:β}{K:vL->wD->Prop}(ht:P.underlying t=some (.slice e))(he:cT P e=some (Rep.size β,by_,Rep.agg β))(hz:nN P e=true)(hsz:Rep.size β<=1000)(hx:aZ [] w u x)
   (k:∀v w',aB w w'->bQ w.heap.size w'.heap.size e w' v [x]->K v w'):OP P (Instr.buildSlice t 1 #[(0,u)]) w K:=by
 obtain⟨⟨cs,hr,rfl⟩,_,_⟩:=hx;have g1:=NN hr;have g0:=Rep.len hr;have g2:(fF β cs).cells.size=Rep.size β:=by rw[<-sM,g1,g0]
 obtain⟨_,_,hi,_,_,_,_⟩:=xO he;unfold nN at hz;rw[hi]at hz;obtain⟨_,hz⟩:=RZ.1 hz;have:=Rep.pos (α:=β);refine⟨_,w.alloc (.cells (fF β cs).cells e),?_,k (.slice (some ⟨w.heap.size,0,none⟩) 1 1) _ (oK w _) (.inr ⟨[w.heap.size],⟨cs,[],⟨by simp[g0],.inr ⟨w.heap.size,1,(fF β cs).cells,rfl,z0 _,heap_alloc_new w _,lr _,by rw[eB];omega,by rw[g2,GL],?_⟩⟩,aO.single (rH hr (oK w _)),rfl,Wr.nil _⟩,ss,?_⟩)⟩
 ·have g3:¬Rep.size β=0:=oo;have g4:¬2^24<Rep.size β:=oo;simp only[Instr.buildSlice,Sem.run_bind,run_underlying ht,Result.andThen_ok,qX he,GL];simp[g4,g3,zeroValue,typeInfo,hi,hz,N0 _ _ _ g2,newRow]
 ·rw[g1,FG,GL,iO oo]
 intro _ hb;simp only[bF,dL,dI]at hb;subst hb;exact⟨iD _,(Array.getElem?_eq_some_iff.1 (heap_alloc_new w _)).1⟩
def aB.toX{X:Nat->Prop}(h:aB w w'):eR X w w':=⟨h.os,h.tape,h.output,h.size,λb hb _=>h.block b hb⟩
def cH.toX{X:Nat->Prop}(h:cH G w w')(hX:∀ c∈G,X c):eR X w w':=⟨h.os,h.tape,h.output,h.size,λb hb hn=>h.block b hb λhm=>hn (hX b hm)⟩
def MJ{X:Nat->Prop}{m:Sem vL}{K:vL->Prop}(hX:∀ b,X b->w0.heap.size<=b)(hx:aB w0 w)(h:RD P m w0 K):lH P X m w K:=by
 obtain⟨v,h1,h2⟩:=h;exact⟨v,λw' hw=>h1 w' ⟨hw.os.trans hx.os,hw.tape.trans hx.tape,hw.output.trans hx.output,eH hx.size hw.size,λb hb=>(hw.block b (kP hb hx.size) λg0=>by have:=hX b g0;omega).trans (hx.block b hb)⟩,h2⟩
def sU{X:Nat->Prop}{t i off:Nat}{K:vL->Prop}(hf:fG P t i=some off)(k:K (pT b (o+off))):lH P X (Instr.fieldAt t (pT b o) i) w K:=by
 obtain⟨v,h1,h2⟩:=aE (P:=P) (w:=w) (K:=λv=>∀w':wD,(Instr.fieldAt t (pT b o) i).run P w'=.ok v w'/\v=pT b (o+off)) hf (λw'=>by
   obtain⟨v,h1,h2⟩:=aE (P:=P) (w:=w') (b:=b) (o:=o) (K:=λv=>v=pT b (o+off)) hf rfl;subst h2;exact⟨h1 w' xx,rfl⟩)
 refine⟨v,λw' _=>(h2 w').1,?_⟩;rw[(h2 w).2];exact k
def zW{X:Nat->Prop}{ft by_:Nat}{u:vL}{K:vL->Prop}(g1:cT P ft=some (1,by_,false))(hr:w.rangeAt b o [u])(hX:¬X b)(k:K u):lH P X (Instr.loadAt ft (pT b o)) w K:=by
 refine⟨u,λw' g0=>?_,k⟩;have hb:=JG hr ss;have h0:w'.cell? ⟨b,o,none⟩=some u:=by simpa using(yT hr (g0.block b hb hX)) 0 u rfl
 have hA:=xY g1 w';simp[Instr.loadAt,Instr.sureAddr,loadVar,hA,h0]
end
end Go.Sh
namespace Go.Sh
open Rep (rep)
section
variable {P:pG}{w w0 w':wD}{α:Type}[Rep α]{lo hi e:Nat}{v:vL}{l:List α}
def dU.flat[dN α]{F:List Nat}(h:dU F e w v l):F=[]\/∃b,F=[b]:=by
 rcases h with⟨_,_,_,rfl⟩|⟨xs,_,_,hc,rfl,_⟩
 ·exact .inl rfl
 have:=aO.flat (xs:=xs) hc;subst this;rcases hv:v.ownBlock with _|b
 ·exact .inl ss
 exact .inr ⟨b,ss⟩
def Sj[aV α]:aK lo hi w (fF α (aV.zc α)) (aV.zv:α):=⟨[],⟨⟨aV.zc α,aV.zr w,rfl⟩,kM,Wr.nil w⟩,ss⟩
def cH.ofI{F:List Nat}(h:cH F w w')(hF:∀ b∈F,lo<=b/\b<hi):aN lo hi w w':=
 ⟨h.os,h.tape,h.output,h.size,λb hb hx=>h.block b hb λhm=>by have:=hF b hm;omega⟩
def aN.ext_left{w1:wD}(hx:aB w w1)(h:aN lo hi w1 w'):aN lo hi w w':=
 ⟨h.os.trans hx.os,h.tape.trans hx.tape,h.output.trans hx.output,eH hx.size h.size,λb hb ho=>by rw[h.block b (kP hb hx.size) ho,hx.block b hb]⟩
def JZ[dN α]{t ty:TypeId}{by_:Nat}{u:vL}{x:α}{lo2 hi2:Nat}{K:vL->wD->Prop}(ht:P.underlying t=some (.slice e))(he:cT P e=some (Rep.size α,by_,Rep.agg α))(hz:nN P e=true)
   (g3:(P.info? e).map (λi=>(i.zero.map (·.cells.size)))=some (some (Rep.size α))) (g4:Rep.size α<=1000) (hv:bQ lo hi e w v l) (hx:aK lo2 hi2 w u x) (hm:l.length+1<=maxLen) (hb:(l.length+1)*by_<=140737488355328)
   (k:∀v' w' lo' hi',aN lo hi w w'->bQ lo' hi' e w' v' (l++[x])->(lo'=lo/\hi'=hi\/lo'=w.heap.size/\hi'=w'.heap.size)->K v' w'):OP P (Instr.buildSlice t 1 #[(0,u)]) w λs w1=>OP P (Builtin.append_ #[t,t] ty [v,s].toArray) w1 K:=by
 obtain⟨_,h1,h2,h3⟩:=LV.1 hv;obtain⟨G,g1,_⟩:=hx;have g2:G=[]:=by obtain⟨_,hr,_⟩:=g1.own;exact dN.flat hr
 subst g2;refine CT (K:=λ_=>K) ht he hz g3 g4 h1 h2 g1 ss hm hb (λw1 v' w' _ g5 hc hR hN hs=>?_) λ_ _ _ h=>h;have g0:=aN.ext_left g5 (hc.ofI h3);have g9:=hR.lt;rcases hR.flat with rfl|⟨b,rfl⟩
 ·exact k v' w' lo hi g0 (LV.2 ⟨[],hR,hN,ss⟩) (.inl ⟨rfl,rfl⟩)
 rcases hs b ss with h|h|h
 ·exact k v' w' lo hi g0 (LV.2 ⟨[b],hR,hN,λc hc=>by simp at hc;subst hc;exact h3 _ h⟩) (.inl ⟨rfl,rfl⟩)
 ·cases h
 exact k v' w' w.heap.size w'.heap.size g0 (LV.2 ⟨[b],hR,hN,λc hc=>by simp at hc;subst hc;exact⟨h,g9 _ ss⟩⟩) (.inr ⟨rfl,rfl⟩)
end
end Go.Sh
namespace Go.Sh
def kV(l:List UInt8):List vL:=l.map λb=>Value.int .u8 (b.toNat:Int)
def VM(l:List UInt8):(kV l).length=l.length:=kL _
def aw{l L:List UInt8}(h:l <+: L){i:Nat}(hi:i<l.length):(kV l)[i]?=(kV L)[i]?:=by
 obtain⟨_,rfl⟩:=h;rw[kV,kV,wJ,List.getElem?_append_left (by rw[kL];exact hi)]
def Mx{c:Array vL}{l:List UInt8}:c.toList.take l.length=kV l↔l.length<=c.size/\∀i,i<l.length->c[i]?=(kV l)[i]?:=by
 constructor
 ·intro h;have h1:=cS List.length h;rw[fY,VM]at h1;have:c.toList.length=c.size:=sM;refine⟨oo,λi hi=>?_⟩;rw[<-h,List.getElem?_take,aP hi,Array.getElem?_toList]
 rintro⟨h,k⟩;refine List.ext_getElem? λi=>?_;rw[List.getElem?_take];split
 ·rw[Array.getElem?_toList];exact k i ‹_›
 rw[List.getElem?_eq_none];rw[VM];omega
structure kU(U n:Nat)(o:Option Nat)(L:List UInt8)(w w':wD):Prop where
 os:w'.os=w.os
 tape:w'.tape=w.tape
 output:w'.output=w.output
 size:w.heap.size<=w'.heap.size
 blk:∀b,b<w.heap.size->w'.heap[b]?=w.heap[b]?\/(o=some b/\∃c c':Array vL,w.heap[b]?=some (.cells c U (0,0))/\w'.heap[b]?=some (.cells c' U (0,0))/\c'.size=c.size/\∀i:Nat,c'[i]?=c[i]?\/(n<=i/\c'[i]?=(kV L)[i]?))
section
variable {U n:Nat}{o o':Option Nat}{L L':List UInt8}{w w' w2:wD}
def aB.app(h:aB w w'):kU U n o L w w':=⟨h.os,h.tape,h.output,h.size,λb hb=>.inl (h.heap hb)⟩
def kU.trans{m:Nat}(h:kU U n o L w w')(k:kU U m o' L' w' w2)(hm:n<=m)(hL:L <+: L')(ho:o'=o\/∀ b,o'=some b->w.heap.size<=b):kU U n o L' w w2:=by
 refine⟨k.os.trans h.os,k.tape.trans h.tape,k.output.trans h.output,eH h.size k.size,λb hb=>?_⟩;have g2:b<w'.heap.size:=kP hb h.size
 have pt:∀{c c':Array vL}{i:Nat},c'.size=c.size->(c'[i]?=c[i]?\/(n<=i/\c'[i]?=(kV L)[i]?))->(c'[i]?=c[i]?\/(n<=i/\c'[i]?=(kV L')[i]?)):=λ{c c' i} _ h=>by
   rcases h with h|⟨h1,h2⟩
   ·exact .inl h
   by_cases hi:i<L.length
   ·exact .inr ⟨h1,h2.trans (aw hL hi)⟩
   refine .inl ?_;have:c'[i]?=none:=by rw[h2,List.getElem?_eq_none];rw[VM];omega
   rw[this];rw[Array.getElem?_eq_none_iff]at this;exact(Array.getElem?_eq_none oo).symm
 rcases k.blk b g2 with k1|⟨k0,c1,c2,k1,k2,k3,k4⟩
 ·rcases h.blk b hb with h1|⟨h0,c,c',h1,h2,h3,h4⟩
  ·exact .inl (k1.trans h1)
  exact .inr ⟨h0,c,c',h1,by rw[k1];exact h2,h3,λi=>pt h3 (h4 i)⟩
 have g0:o=some b:=by
   rcases ho with ho|ho
   ·rw[<-ho];exact k0
   have:=ho b k0;omega
 have g1:∀i,c2[i]?=c1[i]?\/(n<=i/\c2[i]?=(kV L')[i]?):=λi=>(k4 i).imp id λ⟨x,y⟩=>⟨eH hm x,y⟩;rcases h.blk b hb with h1|⟨h0,c,c',h1,h2,h3,h4⟩
 ·exact .inr ⟨g0,c1,c2,by rw[<-h1];exact k1,k2,k3,g1⟩
 rw[h2]at k1;simp only[iU,Obj.cells.injEq,and_true]at k1;subst k1;refine .inr ⟨g0,c,c2,h1,k2,by rw[k3,h3],λi=>?_⟩;rcases g1 i with e|e
 ·rw[e];exact pt h3 (h4 i)
 exact .inr e
def kU.mono{m:Nat}(h:kU U n o L w w')(hm:m<=n)(hL:L <+: L'):kU U m o L' w w':=((aC w).app (L:=L)).trans h hm (GZ _) (.inl rfl) |>.trans (aC w').app (lr _) hL (.inl rfl)
def iL(U:Nat)(w:wD)(o:Option Nat)(v:vL)(l:List UInt8):Prop:=match o with
 |none=>(∃a,v=.slice a 0 0)/\l=[]
 |some b=>∃(cap:Nat)(c:Array vL),v=.slice (some ⟨b,0,none⟩) l.length cap/\w.heap[b]?=some (.cells c U (0,0))/\c.size=cap/\l.length<=cap/\cap<=maxLen/\c.toList.take l.length=(l.map λb=>Value.int .u8 (b.toNat:Int))
variable {v:vL}{l:List UInt8}
def iL.lt{b:Nat}(h:iL U w (some b) v l):b<w.heap.size:=by
 obtain⟨_,_,_,h1,_⟩:=h;exact(Array.getElem?_eq_some_iff.1 h1).1
theorem iL.ext(h:iL U w o v l)(hx:aB w w'):iL U w' o v l:=by
 cases o with
 |none=>exact h
 | some b=>
   have g0:=iL.lt h;obtain⟨cap,c,h0,h1,h2⟩:=h;exact⟨cap,c,h0,by rw[hx.heap g0];exact h1,h2⟩
theorem iL.app{m:Nat}(h:iL U w o v l)(k:kU U m o' L w w')(hm:o'=o->l.length<=m\/l <+: L):iL U w' o v l:=by
 cases o with
 |none=>exact h
 | some b=>
   have g0:=iL.lt h;obtain⟨cap,c,h0,h1,h2,h3,h4,h5⟩:=h;rcases k.blk b g0 with k1|⟨k0,_,c2,k1,k2,k3,k4⟩
   ·exact⟨cap,c,h0,by rw[k1];exact h1,h2,h3,h4,h5⟩
   rw[h1]at k1;simp only[iU,Obj.cells.injEq,and_true]at k1;subst k1;refine⟨cap,c2,h0,k2,by rw[k3];exact h2,h3,h4,Mx.2 ⟨oo,λi hi=>?_⟩⟩;rcases k4 i with e|⟨_,e2⟩
   ·rw[e];exact(Mx.1 h5).2 i hi
   rcases hm k0 with e3|e3
   ·omega
   rw[e2];exact(aw e3 hi).symm
def kU.small{g e:Nat}{cs:List vL}(k:kU U n o L w w')(hB:cA g e w cs)(h:o≠some g\/cs.length<=n):cA g e w' cs:=by
 rcases k.blk g hB.lt with k1|⟨k0,c,c',k1,k2,k3,k4⟩
 ·exact hB.keep k1
 rcases h with h|h
 ·exact absurd k0 h
 have e1:(some (Obj.cells c U (0,0)))=some (.cells cs.toArray e (0,0)):=k1.symm.trans hB;simp only[iU,Obj.cells.injEq,and_true]at e1;obtain⟨rfl,rfl⟩:=e1
 have:c'=cs.toArray:=Array.ext_getElem? λi=>by
   rcases k4 i with q|⟨_,_⟩
   ·exact q
   rw[Array.getElem?_eq_none (by rw[k3];simp;omega),Array.getElem?_eq_none so]
 exact hB.keep (by rw[k2,k1,this])
end
end Go.Sh
namespace Go.Sh
section
variable {P:pG}{w:wD}{e:Nat}{o:Option Nat}{v:vL}{l:List UInt8}
def Kd(s:ByteArray):Lib.strCells s=(aW s).map λb=>Value.int .u8 (b.toNat:Int):=rfl
def Ws{c:Array vL}{l m:List UInt8}{k i:Nat}(h:l.length+m.length<=c.size)(hk:k=l.length+m.length):((c.toList.take l.length++kV m++c.toList.drop k).toArray)[i]?=c[i]?\/(l.length<=i/\((c.toList.take l.length++kV m++c.toList.drop k).toArray)[i]?=(kV (l++m))[i]?):=by
 have:c.toList.length=c.size:=sM;have h1:(c.toList.take l.length).length=l.length:=by rw[fY];omega
 have h2:=VM m;rw[List.getElem?_toArray];by_cases hi:i<l.length
 ·refine .inl ?_;rw[fR,List.getElem?_append_left oo,List.getElem?_take,aP hi,Array.getElem?_toList]
 by_cases hj:i<l.length+m.length
 ·refine .inr ⟨oo,?_⟩;rw[List.getElem?_append_left (by rw[bX];omega),List.getElem?_append_right oo,h1,kV,kV,wJ,List.getElem?_append_right (by rw[kL];omega),kL]
 refine .inl ?_;rw[List.getElem?_append_right (by rw[bX];omega),bX,h1,h2,List.getElem?_drop,Array.getElem?_toList];congr 1;omega
theorem Jo{t u ty:TypeId}{s:ByteArray}{K:vL->wD->Prop}(ht:P.underlying t=some (.slice e))(hu:P.underlying u=some .string)(he:cT P e=some (1,1,false))
   (hz:(P.info? e).map (λi=>i.zero)=some (some (.int .u8 0))) (h:iL e w o v l) (hb:l.length+s.size<=10000000)
   (k:∀v' w' o',kU e l.length o (l++aW s) w w'->iL e w' o' v' (l++aW s)->(o'=o\/∃b,o'=some b/\w.heap.size<=b)->K v' w'):OP P (Builtin.append_ #[t,u] ty [v,.string s].toArray) w K:=by
 obtain⟨i,_,g1,_,hs,gb,_⟩:=xO he;simp only[g1,OT,iU]at hz;have C:(l++aW s).length=l.length+s.size:=by rw[bX,dO]
 have grow:∀(x:Addr)(cap:Nat)(D:List vL),D=(l.map λb=>Value.int .u8 (b.toNat:Int))->(∀j u,D[j]?=some u->w.cell? (x.add j)=some u)->cap<l.length+s.size->OP P (Builtin.append_ #[t,u] ty [.slice (some x) l.length cap,.string s].toArray) w K:=by
   intro x cap D ho g3 g4;have g5:=Lib.run_append_grow_string (P:=P) w t u ty e i (.int .u8 0) ht hu g1 hz x l.length cap D (by rw[ho,kL,hs,yE]) g3 s g4 oo (growslice_fits oo (by rw[gb];omega));have hx:aB w (w.drew.alloc (.cells (D.toArray++(Lib.strCells s).toArray++Builtin.zeroCells (Value.int .u8 0).cells (grownCap w (l.length+s.size) cap e-(l.length+s.size))) e)):=(cO w).trans (oK w.drew _);have gf:=grownCap_ge w (l.length+s.size) cap e;have gg:grownCap w (l.length+s.size) cap e<=maxLen:=grownCap_le_maxLen w (l.length+s.size) cap e (by rw[eB];omega)
   have g2:(D.toArray++(Lib.strCells s).toArray++Builtin.zeroCells (Value.int .u8 0).cells (grownCap w (l.length+s.size) cap e-(l.length+s.size))).size=grownCap w (l.length+s.size) cap e:=by
     have h1:(Builtin.zeroCells (Value.int .u8 0).cells (grownCap w (l.length+s.size) cap e-(l.length+s.size))).size=grownCap w (l.length+s.size) cap e-(l.length+s.size):=by
       simp[Builtin.zeroCells,Value.cells]
     rw[RN,RN,h1,GU,GU,Lib.strCells_length,ho,kL];omega
   refine⟨_,_,g5,k _ _ (some w.heap.size) hx.app ⟨_,_,by rw[C],heap_alloc_new w.drew _,g2,by rw[C];exact gf,gg,?_⟩ (.inr ⟨_,rfl,iD _⟩)⟩;rw[C,ho,Kd];simp only[List.append_toArray,Array.toList_append,RR];rw[SF (by rw[bX,kL,kL,dO]),wJ]
 cases o with
 | none=>
   obtain⟨⟨a,rfl⟩,rfl⟩:=h;by_cases hs0:s.size=0
   ·have gh:aW s=[]:=JR.1 (by rw[dO];exact hs0);refine⟨.slice a 0 0,w,?_,k _ w none (aC w).app ⟨⟨a,rfl⟩,by rw[gh];rfl⟩ (.inl rfl)⟩;have hf:(Builtin.firstCells 1 0 (.string s)).run P w=.ok #[] w:=by simp[Builtin.firstCells]
    have hl:(Builtin.lenOf (.string s)).run P w=.ok 0 w:=by simp[Builtin.lenOf,hs0]
    cases a<;>simp[Builtin.append_,run_underlying ht,run_underlying hu,qX he,hl,hf,storeCells]
   cases a with
   |some x=>exact grow x 0 [] rfl ss so
   | none=>
     have gi:(Builtin.append_ #[t,u] ty #[.slice none 0 0,.string s]).run P w=(Builtin.append_ #[t,u] ty #[.slice (some ⟨0,0,none⟩) 0 0,.string s]).run P w:=by
       have hl:∀w:wD,(Builtin.lenOf (.string s)).run P w=.ok s.size w:=λw=>by simp[Builtin.lenOf]
       have gj:∀w:wD,(Builtin.firstCells 1 0 (.slice (some ⟨0,0,none⟩) 0 0)).run P w=.ok #[] w:=λw=>by simp[Builtin.firstCells,loadCells,loadCellsFrom]
       have gl:∀w:wD,(Builtin.firstCells 1 0 (.slice none 0 0)).run P w=.ok #[] w:=λw=>by simp[Builtin.firstCells]
       have gn:∀w:wD,(typeInfo e).run P w=.ok i w:=λw=>by simp[typeInfo,g1]
       have g9:=growslice_fits (need:=s.size) (old:=0) (bytes:=1) oo (by simp at hb;omega);have g9:¬281474976710656<Builtin.nextslicecap s.size 0*1:=oo;simp only[yE]at g9;simp[Builtin.append_,run_underlying ht,run_underlying hu,qX he,hl,hs0,gn,gb,g9,gj,gl]
     exact SZ gi (grow ⟨0,0,none⟩ 0 [] rfl ss so)
 | some b=>
   obtain⟨cap,c,rfl,h1,h2,_,h4,h5⟩:=h;by_cases hroom:l.length+s.size<=cap
   ·have g5:=Lib.run_append_room_string (P:=P) w t u ty e i ht hu g1 hs b l.length cap c h1 s hroom oo;have g0:=setRow_heap w b c ((c.toList.take l.length++Lib.strCells s++c.toList.drop (l.length+s.size)).toArray) e _ h1;have gc:c.toList.length=cap:=by rw[sM,h2]
    have gd:(c.toList.take l.length).length=l.length:=by rw[fY,gc];omega
    have g2:((c.toList.take l.length++Lib.strCells s++c.toList.drop (l.length+s.size)).toArray).size=cap:=by
      rw[GU,bX,bX,gd,Lib.strCells_length,wL,gc];omega
    have M:=IM w b ((c.toList.take l.length++Lib.strCells s++c.toList.drop (l.length+s.size)).toArray);refine⟨_,_,g5,k _ _ (some b) ⟨M.os,M.tape,M.output,M.size,λb' gp=>?_⟩ ⟨cap,_,by rw[C],g0,g2,by rw[C];exact hroom,h4,?_⟩ (.inl rfl)⟩
    ·by_cases hbb:b'=b
     ·subst hbb;refine .inr ⟨rfl,c,_,h1,g0,by rw[g2,h2],λi=>?_⟩;rw[Kd];exact Ws (by rw[h2];rw[dO];exact hroom) (by rw[dO])
     exact .inl (M.block b' gp (by simpa using hbb))
    rw[C,RR,SF (by rw[bX,gd,Lib.strCells_length]),h5,Kd,wJ]
   refine grow ⟨b,0,none⟩ cap _ rfl (λj u hj=>?_) oo;rw[<-h5]at hj;rw[List.getElem?_take]at hj;split at hj
   ·rw[Addr.add_mid];simpa[World.cell?,h1]using hj
   cases hj
end
end Go.Sh
namespace Go.Sh
section
variable {P:pG}{w:wD}{e:Nat}{o:Option Nat}{v:vL}{l:List UInt8}
theorem LX{t by_ s n:Nat}{ag:Bool}{zs vs:List vL}{parts:Array (Nat×vL)}{K:vL->wD->Prop}(ht:P.underlying t=some (.slice e))(he:cT P e=some (s,by_,ag))(hz:kO P e=some zs)(g9:zs.length=s)(hs:0<s/\s<=100)(hn:0<n/\n<=1000)
   (hf:Instr.fill (λi=>some (i*s,s)) ((Array.range (n*s)).map λi=>(zs.toArray)[i%s]!) parts.toList=some vs.toArray)
   (k:∀w',aB w w'->cA w.heap.size e w' vs->K (.slice (some ⟨w.heap.size,0,none⟩) n n) w'):OP P (Instr.buildSlice t n parts) w K:=by
 unfold kO at hz;cases hi:P.info? e with
 |none=>simp[hi]at hz
 | some i=>
   simp only[hi]at hz;obtain⟨v,hv,g1⟩:=CB.1 hz;have g0:v.cells=zs.toArray:=GA (by simpa using g1);have hB:cA w.heap.size e (w.alloc (.cells vs.toArray e)) vs:=heap_alloc_new w _;refine⟨.slice (some ⟨w.heap.size,0,none⟩) n n,w.alloc (.cells vs.toArray e),?_,k _ (oK w _) hB⟩;have:n*s<=1000*100:=Nat.mul_le_mul hn.2 hs.2;have g2:¬n*s=0:=Nat.ne_of_gt (Be hn.1 hs.1);have g3:¬2^24<n*s:=oo;have g4:(zeroValue e).run P w=.ok v w:=by simp[zeroValue,typeInfo,hi,hv]
   have g5:zs.toArray.size=s:=by simp[g9]
   simp only[Instr.buildSlice,Sem.run_bind,run_underlying ht,Result.andThen_ok,qX he];simp only[g3,g2,if_false,Sem.run_bind,Sem.run_pure,Result.andThen_ok,g4,g0,g5];rw[hf];rfl
theorem KL{t ty b2:TypeId}{m:List UInt8}{K:vL->wD->Prop}(ht:P.underlying t=some (.slice e))(he:cT P e=some (1,1,false))
   (hz:(P.info? e).map (λi=>i.zero)=some (some (.int .u8 0))) (h:iL e w o v l) (hB:cA b2 e w (kV m)) (hm:0<m.length) (hb:l.length+m.length<=10000000)
   (k:∀v' w' o',kU e l.length o (l++m) w w'->iL e w' o' v' (l++m)->(o'=o\/∃b,o'=some b/\w.heap.size<=b)->K v' w'):OP P (Builtin.append_ #[t,t] ty [v,.slice (some ⟨b2,0,none⟩) m.length m.length].toArray) w K:=by
 obtain⟨i,_,O,_,hs,g4,_⟩:=xO he;simp only[O,OT,iU]at hz;have D:(l++m).length=l.length+m.length:=bX;have g1:∀j u,(kV m)[j]?=some u->w.cell? ((⟨b2,0,none⟩:Addr).add j)=some u:=λj u hu=>by rw[Addr.add_mid];exact hB.range j u hu
 have M:(kV m).length=m.length:=kL _
 have g5:∀x∈kV m,x.oneCell'=true:=λx hx=>by
   obtain⟨_,_,rfl⟩:=sT.1 hx;rfl
 have grow:∀(x:Addr)(cap:Nat)(C:List vL),C=kV l->(∀j u,C[j]?=some u->w.cell? (x.add j)=some u)->cap<l.length+m.length->OP P (Builtin.append_ #[t,t] ty [.slice (some x) l.length cap,.slice (some ⟨b2,0,none⟩) m.length m.length].toArray) w K:=by
   intro x cap C ho g9 gb;have g2:=run_append_grow (P:=P) w t ty e i (.int .u8 0) ht O hz x l.length cap C (by rw[ho,hs,yE];exact kL _) g9 ⟨b2,0,none⟩ m.length m.length (kV m) (by rw[hs,M,yE]) g1 gb oo (growslice_fits oo (by rw[g4];omega));have hx:aB w (w.drew.alloc (.cells (C.toArray++(kV m).toArray++Builtin.zeroCells (Value.int .u8 0).cells (grownCap w (l.length+m.length) cap e-(l.length+m.length))) e)):=(cO w).trans (oK w.drew _);have gg:=grownCap_ge w (l.length+m.length) cap e;have gh:grownCap w (l.length+m.length) cap e<=maxLen:=grownCap_le_maxLen w (l.length+m.length) cap e (by rw[eB];omega);have gc:C.length=l.length:=by rw[ho];exact kL _
   have g3:(C.toArray++(kV m).toArray++Builtin.zeroCells (Value.int .u8 0).cells (grownCap w (l.length+m.length) cap e-(l.length+m.length))).size=grownCap w (l.length+m.length) cap e:=by
     have h1:(Builtin.zeroCells (Value.int .u8 0).cells (grownCap w (l.length+m.length) cap e-(l.length+m.length))).size=grownCap w (l.length+m.length) cap e-(l.length+m.length):=by
       simp[Builtin.zeroCells,Value.cells]
     rw[RN,RN,h1,GU,GU,M,gc];omega
   refine⟨_,_,g2,k _ _ (some w.heap.size) hx.app ⟨_,_,by rw[D],heap_alloc_new w.drew _,g3,by rw[D];exact gg,gh,?_⟩ (.inr ⟨_,rfl,iD _⟩)⟩;rw[D];simp only[List.append_toArray,Array.toList_append,RR];rw[SF (by rw[bX,gc,M]),ho,wJ];rfl
 cases o with
 | none=>
   obtain⟨⟨a,rfl⟩,rfl⟩:=h;cases a with
   |some x=>exact grow x 0 [] rfl ss so
   | none=>
     have h1:=run_append_nil (P:=P) w t ty e i (.int .u8 0) ht O hz ⟨b2,0,none⟩ m.length m.length (kV m) (by rw[hs,M,yE]) g1 hm oo (by rw[g4];omega);have h2:=run_append_grow (P:=P) w t ty e i (.int .u8 0) ht O hz ⟨0,0,none⟩ 0 0 [] ss ss ⟨b2,0,none⟩ m.length m.length (kV m) (by rw[hs,M,yE]) g1 oo oo (growslice_fits oo (by rw[g4];omega))
     have gi:(Builtin.append_ #[t,t] ty #[.slice none 0 0,.slice (some ⟨b2,0,none⟩) m.length m.length]).run P w=(Builtin.append_ #[t,t] ty #[.slice (some ⟨0,0,none⟩) 0 0,.slice (some ⟨b2,0,none⟩) m.length m.length]).run P w:=by
       rw[h1,h2];simp
     exact SZ gi (grow ⟨0,0,none⟩ 0 [] rfl ss so)
 | some b=>
   obtain⟨cap,c,rfl,h1,h2,_,h4,h5⟩:=h;by_cases hroom:l.length+m.length<=cap
   ·have g2:=run_append_room (P:=P) w t ty e i ht O b l.length cap c h1 ⟨b2,0,none⟩ m.length m.length (kV m) (by rw[hs,M,yE]) g1 g5 hroom (by rw[hs,M,h2,yE];omega);rw[hs,yE,M]at g2;have g0:=setRow_heap w b c ((c.toList.take l.length++kV m++c.toList.drop (l.length+m.length)).toArray) e _ h1;have gd:c.toList.length=cap:=by rw[sM,h2]
    have gf:(c.toList.take l.length).length=l.length:=by rw[fY,gd];omega
    have g3:((c.toList.take l.length++kV m++c.toList.drop (l.length+m.length)).toArray).size=cap:=by
      rw[GU,bX,bX,gf,M,wL,gd];omega
    have V:=IM w b ((c.toList.take l.length++kV m++c.toList.drop (l.length+m.length)).toArray);refine⟨_,_,g2,k _ _ (some b) ⟨V.os,V.tape,V.output,V.size,λb' gj=>?_⟩ ⟨cap,_,by rw[D],g0,g3,by rw[D];exact hroom,h4,?_⟩ (.inl rfl)⟩
    ·by_cases hbb:b'=b
     ·subst hbb;exact .inr ⟨rfl,c,_,h1,g0,by rw[g3,h2],λi=>Ws (by rw[h2];exact hroom) rfl⟩
     exact .inl (V.block b' gj (by simpa using hbb))
    rw[D,RR,SF (by rw[bX,gf,M]),h5,wJ];rfl
   refine grow ⟨b,0,none⟩ cap _ rfl (λj u hj=>?_) oo;unfold kV at hj;rw[<-h5]at hj;rw[List.getElem?_take]at hj;split at hj
   ·rw[Addr.add_mid];simpa[World.cell?,h1]using hj
   cases hj
end
def SR(U n0:Nat)(o:Option Nat)(L:List UInt8)(wd w1 w2:wD):Prop:=∃n o',kU U n o' L w1 w2/\n0<=n/\(o'=o\/∃b,o'=some b/\wd.heap.size<=b/\n0+1<=n)
section
variable {U n0:Nat}{o o1:Option Nat}{L l:List UInt8}{wd w1 w2:wD}{v:vL}
def SR.ext(h:aB w1 w2):SR U n0 o L wd w1 w2:=⟨n0,o,h.app,lr _,.inl rfl⟩
def SR.size(h:SR U n0 o L wd w1 w2):w1.heap.size<=w2.heap.size:=by
 obtain⟨_,_,h,_⟩:=h;exact h.size
def SR.out(h:kU U n0 o L wd w1)(k:SR U n0 o L wd w1 w2):kU U n0 o L wd w2:=by
 obtain⟨_,_,k1,k2,k3⟩:=k;exact h.trans k1 k2 (GZ _) (k3.imp id λ⟨_,h1,h2,_⟩ _ g0=>by rw[h1]at g0;cases g0;exact h2)
def SR.row(k:SR U n0 o L wd w1 w2)(h:iL U w1 o1 v l)(hl:l <+: L):iL U w2 o1 v l:=by
 obtain⟨_,_,k1,_,_⟩:=k;exact h.app k1 λ_=>.inr hl
def SR.lit{b e:Nat}{cs:List vL}(k:SR U n0 o L wd w1 w2)(h:cA b e w1 cs)(hc:cs.length<=1)(hb:wd.heap.size<=b)(ho:∀ x,o=some x->x<wd.heap.size):cA b e w2 cs:=by
 obtain⟨_,_,k1,_,k3⟩:=k;refine k1.small h ?_;rcases k3 with rfl|⟨_,_,_,_⟩
 ·exact .inl λe=>by have:=ho b e;omega
 exact .inr oo
end
end Go.Sh
namespace Go.Sh
section
variable {P:pG}{g:Cfg}{s u:cW}{w:wD}{K:Exit->cW->wD->Prop}{E:cW->wD->Prop}{J:vL->wD->Prop}{ρ:Operand->vL}{a b:Code}{id i n t d m fl:Nat}{v:vL}{l:List Nat}{ol:List Oper}{ops:Array Oper}{c:Bool}{ext:Xt}{o:Oper}{x y z:Operand}
def KX{α:Sort _}{c:Bool}{p q:α}:cond c p q=if c=true then p else q:=by cases c<;>rfl
def Ba:(Nat.beq n m=true)=(n=m):=Nat.beq_eq
def Ir:(lN m t=true)=((m >>> t)%2=1):=by
 unfold lN;rw[Ba];show(1 &&& (m >>> t)=1)=_;rw[Nat.and_comm,Ln]
def du:(List.elem n []=true)=False:=by simp[List.elem]
def yl:(List.elem n (m :: l)=true)=(n=m\/List.elem n l=true):=by simp[List.elem_cons]
theorem xp:upd s d v t=if t=d then v else s t:=by
 unfold upd;by_cases h:t=d
 ·rw[aP h,show Nat.beq t d=true from Ba▸h];rfl
 rw[aH h];cases h2:Nat.beq t d with
 |true=>exact absurd (Ba▸h2) h
 |false=>rfl
theorem xl:mix m s u t=if (m >>> t)%2=1 then u t else s t:=by
 unfold mix;by_cases h:(m >>> t)%2=1
 ·rw[aP h,show lN m t=true from Ir▸h];rfl
 rw[aH h];cases h2:lN m t with
 |true=>exact absurd (Ir▸h2) h
 |false=>rfl
def Jn(P:pG)(g:Cfg)(a b:Code)(s:cW)(w:wD)(K:Exit->cW->wD->Prop):Option (Nat×List Nat)->Prop
 |some (m,L)=>dJ L (λJ=>vc P g a s w (DK K λs' w'=>J (L.map s') w')) (λu w'=>vc P g b (mix m s u) w' K)
 |none=>vc P g a s w (DK K λs' w'=>vc P g b s' w' K)
def Lp(P:pG)(g:Cfg)(c:Code)(s:cW)(w:wD)(K:Exit->cW->wD->Prop):Option (Nat×List Nat)->Prop
 |some (m,L)=>iB L (L.map s) w λu w' next=>vc P g c (mix m s u) w' (DK K λs' w''=>next (L.map s') w'')
 |none=>False
def R3(P:pG)(g:Cfg)(id:Nat)(ol:List Oper)(s:cW)(w:wD)(K:cW->wD->Prop):Option (List Nat×Nat)->Prop
 |some (l,fl)=>if g.xs.elem id=true then XR (λX=>rV P ⟨g.ext,some X⟩ ol fl K l s w)else rV P ⟨g.ext,none⟩ ol fl K l s w
 |none=>False
def R2(P:pG)(g:Cfg)(id:Nat)(ol:List Oper)(s:cW)(w:wD)(K:cW->wD->Prop):Option (Nat×Nat)->Prop
 |some (m,p)=>Cp P ⟨g.ext,none⟩ ol m p s w K
 |none=>R3 P g id ol s w K (find g.draws id)
def R1(P:pG)(g:Cfg)(id:Nat)(ol:List Oper)(s:cW)(w:wD)(K:cW->wD->Prop):Option Nat->Prop
 |some m=>Aq P ⟨g.ext,none⟩ ol m s w K
 |none=>R2 P g id ol s w K (find g.pars id)
def ry:vc P g .skip s w K=K .normal s w:=by rw[vc]
def zGQ:vc P g (.region id ops false) s w K=rV P ⟨g.ext,none⟩ ops.toList 0 (K .normal) (List.range ops.size) s w:=by rw[vc]
theorem vu:vc P g (.region id ops true) s w K=R1 P g id ops.toList s (World.drew1 w) (K .normal) (find g.gpars id):=by
 rw[vc];cases h1:find g.gpars id with
 |some m=>rfl
 | none=>
   show _=R2 P g id ops.toList s (World.drew1 w) (K .normal) (find g.pars id);cases h2:find g.pars id with
   |some m=>rfl
   | none=>
     show _=R3 P g id ops.toList s (World.drew1 w) (K .normal) (find g.draws id);cases h3:find g.draws id with
     |some m=>obtain⟨_,_⟩:=m;show(bif _ then _ else _)=_;rw[KX];rfl
     |none=>rfl
def zGR:vc P g (.seq a b) s w K=Jn P g a b s w K ((qA b).bind (find g.joins)):=by
 rw[vc];cases (qA b).bind (find g.joins)<;>rfl
def mr:vc P g (.block id a) s w K=vc P g a s w (PG id K):=by rw[vc]
def zE2:vc P g (.loop a) s w K=Lp P g a s w K ((qA a).bind (find g.loops)):=by
 rw[vc];cases (qA a).bind (find g.loops)<;>rfl
def zE3:vc P g (.exit id) s w K=K (.exit id) s w:=by rw[vc]
def uc:vc P g .ret s w K=K .ret s w:=by rw[vc]
def IQ(v:vL)(kt kf:Prop):Prop:=BR v kt kf
def NR(v:vL)(kt kf ks:Prop):Prop:=AV v kt kf ks
def pp{kt kf:Prop}:IQ v kt kf=BR v kt kf:=Eq.trans rfl rfl
def zE5{kt kf ks:Prop}:NR v kt kf ks=AV v kt kf ks:=Eq.trans rfl rfl
def bz{kt kf:Prop}:BR (.bool true) kt kf=kt:=Eq.trans rfl rfl
def Qg{kt kf:Prop}:BR (.bool false) kt kf=kf:=Eq.trans rfl rfl
def Vy{kt kf ks:Prop}:AV (.bool true) kt kf ks=kt:=Eq.trans rfl rfl
def z8{kt kf ks:Prop}:AV (.bool false) kt kf ks=kf:=Eq.trans rfl rfl
def Sl{kt kf:Prop}:BR undef kt kf=False:=Eq.trans rfl rfl
def Vb{kt kf ks:Prop}:AV undef kt kf ks=ks:=Eq.trans rfl rfl
@[congr] theorem zIH {kt kf:Prop} {q q':vL} (h:q=q'):IQ q kt kf=IQ q' kt kf:=by rw[h]
@[congr] theorem zIc {kt kf ks:Prop} {q q':vL} (h:q=q'):NR q kt kf ks=NR q' kt kf ks:=by rw[h]
theorem oc:vc P g (.cond x a b) s w K=IQ (ev s x) (vc P g a (lit s x true) w K) (vc P g b (lit s x false) w K):=by rw[vc];rfl
def FR:Option Nat->Code->Option Nat
 |some i,_=>some i
 |none,b=>qA b
def ba:qA (.region id ops c)=some id:=Eq.trans rfl rfl
def R5:qA (.seq a b)=FR (qA a) b:=by rw[qA];cases qA a<;>rfl
def Qr:qA (.block id a)=qA a:=Eq.trans rfl rfl
def Y2:qA (.loop a)=qA a:=Eq.trans rfl rfl
def b4:qA (.cond x a b)=none:=Eq.trans rfl rfl
def Ru:qA (.exit id)=none:=Eq.trans rfl rfl
def Xv:qA .ret=none:=Eq.trans rfl rfl
def Zb{α:Type}:find ([]:List (Nat×α)) n=none:=Eq.trans rfl rfl
def Sr{α:Type}{k:Nat}{q:α}{r:List (Nat×α)}:find ((k,q) :: r) n=if Nat.beq k n=true then some q else find r n:=by rw[find,KX]
def Zf{N:cW->wD->Prop}:DK K N .normal s w=N s w:=Eq.trans rfl rfl
def T5{N:cW->wD->Prop}:DK K N (.exit id) s w=K (.exit id) s w:=Eq.trans rfl rfl
def Tp{N:cW->wD->Prop}:DK K N .ret s w=K .ret s w:=Eq.trans rfl rfl
def U7:PG id K (.exit i) s w=if Nat.beq i id=true then K .normal s w else K (.exit i) s w:=by rw[PG,KX]
def Wm:PG id K .normal s w=K .normal s w:=Eq.trans rfl rfl
def J3:PG id K .ret s w=K .ret s w:=Eq.trans rfl rfl
def Wl{rs:List ResultVar}:UY P rs J .normal s w=zA P s w rs λvs=>J (one vs) w:=Eq.trans rfl rfl
def N4{rs:List ResultVar}:UY P rs J .ret s w=zA P s w rs λvs=>J (one vs) w:=Eq.trans rfl rfl
def cp{k:List vL->Prop}:zA P s w [] k=k []:=Eq.trans rfl rfl
def E5{r:List ResultVar}{k:List vL->Prop}:zA P s w (.tmp t :: r) k=zA P s w r λvs=>k (s t :: vs):=Eq.trans rfl rfl
def l6{r:List ResultVar}{k:List vL->Prop}:zA P s w (.cell i t :: r) k=RD P (qP t (s i)) w λv=>zA P s w r λvs=>k (v :: vs):=Eq.trans rfl rfl
def J2:one [v]=v:=Eq.trans rfl rfl
def Vj:one []=.tuple #[]:=Eq.trans rfl rfl
def Tk{q:vL}{r:List vL}:one (v :: q :: r)=.tuple (v :: q :: r).toArray:=Eq.trans rfl rfl
def Ym:ev s (.tmp t)=s t:=Eq.trans rfl rfl
def X9:ev s (.const v)=v:=Eq.trans rfl rfl
def Vt:ev s (.func n)=.func (.func n) #[] #[]:=Eq.trans rfl rfl
def Y7:put s (some d) v=upd s d v:=Eq.trans rfl rfl
def Xk:put s none v=s:=Eq.trans rfl rfl
def Zd{c:Bool}:lit s (.tmp t) c=upd s t (.bool c):=Eq.trans rfl rfl
def dc{α:Type}{q:α}{r:List α}:nth (q :: r) 0=some q:=Eq.trans rfl rfl
def q6{α:Type}{q:α}{r:List α}:nth (q :: r) (n+1)=nth r n:=Eq.trans rfl rfl
def z7{α:Type}:nth ([]:List α) n=none:=by cases n<;>rfl
def nD:Option vL->vL
 |some v=>v
 |none=>undef
def rl{r:List vL}:OV r t=nD (nth r t):=by unfold OV;cases nth r t<;>rfl
def Yb:nD (some v)=v:=Eq.trans rfl rfl
def Z4:nD none=undef:=Eq.trans rfl rfl
def V3:rV P ext ol fl E [] s w=E s w:=Eq.trans rfl rfl
def Vr{r:List Nat}:rV P ext ol fl E (i :: r) s w=uA P ext ol fl i s w (rV P ext ol fl E r):=Eq.trans rfl rfl
def S3(P:pG)(ext:Xt)(o:Oper)(flag:Bool)(s:cW)(w:wD)(E:cW->wD->Prop)(d:Nat)(want:Bool):Option (Option (Nat×Bool))->Prop
 | some (some _)=>NR (s d)
         (if want=true then qS P ext o flag (upd s d (.bool true)) w E else E (put (upd s d (.bool true)) o.dst undef) w)
         (if want=true then E (put (upd s d (.bool false)) o.dst undef) w else qS P ext o flag (upd s d (.bool false)) w E)
         (E (put (upd s d undef) o.dst undef) w)
 |_=>IQ (s d)
         (if want=true then qS P ext o flag (upd s d (.bool true)) w E else E (put (upd s d (.bool true)) o.dst undef) w)
         (if want=true then E (put (upd s d (.bool false)) o.dst undef) w else qS P ext o flag (upd s d (.bool false)) w E)
def S2(P:pG)(ext:Xt)(ol:List Oper)(j:Nat)(o:Oper)(flag:Bool)(s:cW)(w:wD)(E:cW->wD->Prop)(want:Bool):Option Nat->Prop
 |none=>False
 |some d=>S3 P ext o flag s w E d want (match (nth ol j).bind (·.guard)with|none=>none|some q=>some (some q))
def S1(P:pG)(ext:Xt)(ol:List Oper)(fl i:Nat)(s:cW)(w:wD)(E:cW->wD->Prop)(o:Oper):Option (Nat×Bool)->Prop
 |none=>qS P ext o (lN fl i) s w E
 |some (j,want)=>S2 P ext ol j o (lN fl i) s w E want ((nth ol j).bind (·.dst))
def S0(P:pG)(ext:Xt)(ol:List Oper)(fl i:Nat)(s:cW)(w:wD)(E:cW->wD->Prop):Option Oper->Prop
 |none=>False
 |some o=>S1 P ext ol fl i s w E o o.guard
theorem zE7:uA P ext ol fl i s w E=S0 P ext ol fl i s w E (nth ol i):=by
 unfold uA S0;cases h:nth ol i with
 |none=>rfl
 | some o=>
   simp only[S1];cases hg:o.guard with
   |none=>rfl
   | some q=>
     obtain⟨j,_⟩:=q;simp only[S2];cases hd:(nth ol j).bind (·.dst)with
     |none=>rfl
     | some d=>
       simp only;cases h2:(nth ol j).bind (·.guard)with
       |none=>simp only[S3,KX,IQ,NR]
       |some q=>simp only[S3,KX,IQ,NR]
def Ef(w w':wD):Option (Nat->Prop)->Prop
 |none=>aB w w'
 |some X=>eR X w w'
def ie{g0:Bool}:qS P ext o g0 s w E=dP P ext o (ev s) w (λv w'=>if g0=true then Ef w w' ext.X/\E (put s o.dst v) w' else E (put s o.dst v) w'):=by
 unfold qS;congr 1;funext v w';rw[KX];cases hx:ext.X<;>rfl
def Rq(P:pG)(m:Sem vL)(w:wD)(K:vL->Prop):Option (Nat->Prop)->Prop
 |none=>RD P m w K
 |some X=>lH P X m w K
variable {dst:Option Nat}{ty C4:TypeId}{pos:String}{af:Array Edge}{gu:Option (Nat×Bool)}{aa:Array Operand}{ts:Array TypeId}{ps:Array (Nat×Operand)}{f:FuncId}
def Rp:dP P ext ⟨dst,.move x,ty,pos,af,gu⟩ ρ w J=J (ρ x) w:=Eq.trans rfl rfl
def Vx:dP P ext ⟨dst,.assign x,ty,pos,af,gu⟩ ρ w J=J (ρ x) w:=Eq.trans rfl rfl
def Z0:dP P ext ⟨dst,.pick x y z,ty,pos,af,gu⟩ ρ w J=IQ (ρ x) (J (ρ y) w) (J (ρ z) w):=Eq.trans rfl rfl
def Uq:dP P ext ⟨dst,.nilCheck x,ty,pos,af,gu⟩ ρ w J=bZ (ρ x) (J (ρ x) w):=Eq.trans rfl rfl
def G5:dP P ext ⟨dst,.alloc t,ty,pos,af,gu⟩ ρ w J=OP P (Instr.alloc t true (.tuple #[])) w J:=Eq.trans rfl rfl
def Vu:dP P ext ⟨dst,.box t x,ty,pos,af,gu⟩ ρ w J=OP P (Instr.box t (ρ x)) w J:=Eq.trans rfl rfl
def Qe:dP P ext ⟨dst,.buildSlice t n ps,ty,pos,af,gu⟩ ρ w J=OP P (Instr.buildSlice t n (prs ρ ps.toList).toArray) w J:=Eq.trans rfl rfl
def Yc:dP P ext ⟨dst,.store t x y,ty,pos,af,gu⟩ ρ w J=fA P (Instr.storeAt t (ρ x) (ρ y)) w (J undef):=Eq.trans rfl rfl
def Ul:dP P ext ⟨dst,.makeSlice t x y,ty,pos,af,gu⟩ ρ w J=OP P (Instr.makeSlice t (ρ x) (ρ y)) w J:=Eq.trans rfl rfl
def Vd:dP P ext ⟨dst,.call { callee:=.value (.func f),args:=aa,argTypes:=ts },ty,pos,af,gu⟩ ρ w J=if ext.l.elem f=true then AR P (callFunc f (aa.toList.map ρ).toArray) w J else aJ P f (aa.toList.map ρ) w J:=by unfold dP;simp only[KX]
def Rj:dP P ext ⟨dst,.call { callee:=.value (.tmp t),args:=aa,argTypes:=ts },ty,pos,af,gu⟩ ρ w J=AR P (LK (ρ (.tmp t)) (aa.toList.map ρ)) w J:=Eq.trans rfl rfl
def Zm:dP P ext ⟨dst,.call { callee:=.builtin .append,args:=aa,argTypes:=ts },ty,pos,af,gu⟩ ρ w J=OP P (Builtin.append_ ts ty (aa.toList.map ρ).toArray) w J:=Eq.trans rfl rfl
def Qf:dP P ext ⟨dst,.call { callee:=.builtin .clear,args:=aa,argTypes:=ts },ty,pos,af,gu⟩ ρ w J=OP P (Builtin.clear_ ts ty (aa.toList.map ρ).toArray) w J:=Eq.trans rfl rfl
def V0:dP P ext ⟨dst,.call { callee:=.builtin .len,args:=aa,argTypes:=ts },ty,pos,af,gu⟩ ρ w J=Rq P (Builtin.len_ ts ty (aa.toList.map ρ).toArray) w (λv=>J v w) ext.X:=by unfold dP;simp only[pI];cases hx:ext.X<;>rfl
def Vk:dP P ext ⟨dst,.call { callee:=.builtin .min,args:=aa,argTypes:=ts },ty,pos,af,gu⟩ ρ w J=Rq P (Builtin.min_ ts ty (aa.toList.map ρ).toArray) w (λv=>J v w) ext.X:=by unfold dP;simp only[pI];cases hx:ext.X<;>rfl
def Yw:dP P ext ⟨dst,.call { callee:=.builtin .max,args:=aa,argTypes:=ts },ty,pos,af,gu⟩ ρ w J=Rq P (Builtin.max_ ts ty (aa.toList.map ρ).toArray) w (λv=>J v w) ext.X:=by unfold dP;simp only[pI];cases hx:ext.X<;>rfl
def I7:dP P ext ⟨dst,.build t ps,ty,pos,af,gu⟩ ρ w J=Rq P (Instr.build t (prs ρ ps.toList).toArray) w (λv=>J v w) ext.X:=by unfold dP;simp only[pI];cases hx:ext.X<;>rfl
def Tu:dP P ext ⟨dst,.load t x,ty,pos,af,gu⟩ ρ w J=Rq P (Instr.loadAt t (ρ x)) w (λv=>J v w) ext.X:=by unfold dP;simp only[pI];cases hx:ext.X<;>rfl
def cm{bo:BinOp}:dP P ext ⟨dst,.binOp bo t x y C4,ty,pos,af,gu⟩ ρ w J=Rq P (bin bo t (PB x) (PB y) (ρ x) (ρ y)) w (λv=>J v w) ext.X:=by unfold dP;simp only[pI];cases hx:ext.X<;>rfl
def au{uo:UnOp}:dP P ext ⟨dst,.unOp uo t x,ty,pos,af,gu⟩ ρ w J=Rq P (Op.unary uo (ρ x)) w (λv=>J v w) ext.X:=by unfold dP;simp only[pI];cases hx:ext.X<;>rfl
def X6:dP P ext ⟨dst,.convert n t x,ty,pos,af,gu⟩ ρ w J=Rq P (convert n t (ρ x)) w (λv=>J v w) ext.X:=by unfold dP;simp only[pI];cases hx:ext.X<;>rfl
def C1{fq:Fn}{g0:Array Operand}:dP P ext ⟨dst,.makeFunc fq aa g0,ty,pos,af,gu⟩ ρ w J=Rq P (Instr.makeFunc fq (aa.toList.map ρ).toArray (g0.toList.map ρ).toArray) w (λv=>J v w) ext.X:=by unfold dP;simp only[pI];cases hx:ext.X<;>rfl
def D4{lo hi mx:Option Operand}:dP P ext ⟨dst,.slice t x lo hi mx,ty,pos,af,gu⟩ ρ w J=Rq P (Instr.sliceAt t (ρ x) (lo.map ρ) (hi.map ρ) (mx.map ρ)) w (λv=>J v w) ext.X:=by unfold dP;simp only[pI];cases hx:ext.X<;>rfl
def N1:dP P ext ⟨dst,.fieldAddr t x i,ty,pos,af,gu⟩ ρ w J=Rq P (Instr.fieldAt t (ρ x) i) w (λv=>J v w) ext.X:=by unfold dP;simp only[pI];cases hx:ext.X<;>rfl
def bw:dP P ext ⟨dst,.field t x i,ty,pos,af,gu⟩ ρ w J=Rq P (Instr.field t (ρ x) i) w (λv=>J v w) ext.X:=by unfold dP;simp only[pI];cases hx:ext.X<;>rfl
def Sg:dP P ext ⟨dst,.indexAddr t x y,ty,pos,af,gu⟩ ρ w J=Rq P (Instr.indexAt t (ρ x) (ρ y)) w (λv=>J v w) ext.X:=by unfold dP;simp only[pI];cases hx:ext.X<;>rfl
def Q9:dP P ext ⟨dst,.index t x y,ty,pos,af,gu⟩ ρ w J=Rq P (Instr.index t (ρ x) (ρ y)) w (λv=>J v w) ext.X:=by unfold dP;simp only[pI];cases hx:ext.X<;>rfl
def Rx:dP P ext ⟨dst,.extract x i,ty,pos,af,gu⟩ ρ w J=Rq P (Instr.extract (ρ x) i) w (λv=>J v w) ext.X:=by unfold dP;simp only[pI];cases hx:ext.X<;>rfl
@[congr] theorem zHZ {q q':List Nat} (h:q=q'):rV P ext ol fl E q s w=rV P ext ol fl E q' s w:=by rw[h]
@[congr] theorem zId {k:List vL->Prop} {q q':List ResultVar} (h:q=q'):zA P s w q k=zA P s w q' k:=by rw[h]
@[congr] theorem zIZ {q q':Option (Nat×List Nat)} (h:q=q'):Jn P g a b s w K q=Jn P g a b s w K q':=by rw[h]
@[congr] theorem zI0 {q q':Option (Nat×List Nat)} (h:q=q'):Lp P g a s w K q=Lp P g a s w K q':=by rw[h]
@[congr] theorem zI1 {q q':Option Nat} (h:q=q'):R1 P g id ol s w E q=R1 P g id ol s w E q':=by rw[h]
@[congr] theorem zI2 {q q':Option (Nat×Nat)} (h:q=q'):R2 P g id ol s w E q=R2 P g id ol s w E q':=by rw[h]
@[congr] theorem zI3 {q q':Option (List Nat×Nat)} (h:q=q'):R3 P g id ol s w E q=R3 P g id ol s w E q':=by rw[h]
@[congr] theorem zI4 {q q':Option Oper} (h:q=q'):S0 P ext ol fl i s w E q=S0 P ext ol fl i s w E q':=by rw[h]
@[congr] theorem zI5 {q q':Option (Nat×Bool)} (h:q=q'):S1 P ext ol fl i s w E o q=S1 P ext ol fl i s w E o q':=by rw[h]
@[congr] theorem zI6 {j:Nat} {flag want:Bool} {q q':Option Nat} (h:q=q'):S2 P ext ol j o flag s w E want q=S2 P ext ol j o flag s w E want q':=by rw[h]
@[congr] theorem zI7 {flag want:Bool} {q q':Option (Option (Nat×Bool))} (h:q=q'):S3 P ext o flag s w E d want q=S3 P ext o flag s w E d want q':=by rw[h]
@[congr] theorem zI8 {m:Sem vL} {k:vL->Prop} {q q':Option (Nat->Prop)} (h:q=q'):Rq P m w k q=Rq P m w k q':=by rw[h]
@[congr] theorem zI9 {q q':Option Nat} (h:q=q'):FR q a=FR q' a:=by rw[h]
@[congr] theorem zII {α:Type} {l:List α} {q q':Nat} (h:q=q'):nth l q=nth l q':=by rw[h]
theorem Uh{L:List Nat}:Jn P g a b s w K (some (m,L))=dJ L (λJ=>vc P g a s w (DK K λs' w'=>J (L.map s') w')) (λu w'=>vc P g b (mix m s u) w' K):=Eq.trans rfl rfl
def J8:Jn P g a b s w K none=vc P g a s w (DK K λs' w'=>vc P g b s' w' K):=Eq.trans rfl rfl
def Ql{L:List Nat}:Lp P g a s w K (some (m,L))=iB L (L.map s) w λu w' next=>vc P g a (mix m s u) w' (DK K λs' w''=>next (L.map s') w''):=Eq.trans rfl rfl
def ac:R1 P g id ol s w E (some m)=Aq P ⟨g.ext,none⟩ ol m s w E:=Eq.trans rfl rfl
def Xp:R1 P g id ol s w E none=R2 P g id ol s w E (find g.pars id):=Eq.trans rfl rfl
def bl:R2 P g id ol s w E (some (m,n))=Cp P ⟨g.ext,none⟩ ol m n s w E:=Eq.trans rfl rfl
def Un:R2 P g id ol s w E none=R3 P g id ol s w E (find g.draws id):=Eq.trans rfl rfl
def Uz:R3 P g id ol s w E (some (l,fl))=if g.xs.elem id=true then XR (λX=>rV P ⟨g.ext,some X⟩ ol fl E l s w)else rV P ⟨g.ext,none⟩ ol fl E l s w:=Eq.trans rfl rfl
def Yf:S0 P ext ol fl i s w E (some o)=S1 P ext ol fl i s w E o o.guard:=Eq.trans rfl rfl
def Sd:S1 P ext ol fl i s w E o none=qS P ext o (lN fl i) s w E:=Eq.trans rfl rfl
def M6{j:Nat}{want:Bool}:S1 P ext ol fl i s w E o (some (j,want))=S2 P ext ol j o (lN fl i) s w E want ((nth ol j).bind (·.dst)):=Eq.trans rfl rfl
def Tz{j:Nat}{flag want:Bool}:S2 P ext ol j o flag s w E want (some d)=S3 P ext o flag s w E d want (match (nth ol j).bind (·.guard)with|none=>none|some q=>some (some q)):=Eq.trans rfl rfl
def ah{flag want:Bool}:S3 P ext o flag s w E d want none=IQ (s d)
         (if want=true then qS P ext o flag (upd s d (.bool true)) w E else E (put (upd s d (.bool true)) o.dst undef) w)
         (if want=true then E (put (upd s d (.bool false)) o.dst undef) w else qS P ext o flag (upd s d (.bool false)) w E):=Eq.trans rfl rfl
def Zn{flag want:Bool}{q:Nat×Bool}:S3 P ext o flag s w E d want (some (some q))=NR (s d)
         (if want=true then qS P ext o flag (upd s d (.bool true)) w E else E (put (upd s d (.bool true)) o.dst undef) w)
         (if want=true then E (put (upd s d (.bool false)) o.dst undef) w else qS P ext o flag (upd s d (.bool false)) w E)
         (E (put (upd s d undef) o.dst undef) w):=Eq.trans rfl rfl
def al{w':wD}:Ef w w' none=aB w w':=Eq.trans rfl rfl
def Z5{w':wD}{X:Nat->Prop}:Ef w w' (some X)=eR X w w':=Eq.trans rfl rfl
def Rc{q:Sem vL}{k:vL->Prop}:Rq P q w k none=RD P q w k:=Eq.trans rfl rfl
def Zz{q:Sem vL}{k:vL->Prop}{X:Nat->Prop}:Rq P q w k (some X)=lH P X q w k:=Eq.trans rfl rfl
def Rm:FR (some i) a=some i:=Eq.trans rfl rfl
def I0:FR none a=qA a:=Eq.trans rfl rfl
def rq{fn:Func}{c:Code}{rs:List ResultVar}{aa:List vL}{R:vL->wD->Prop}(h:fn.body=some c)(h2:fn.results=rs.toArray):Ag P g fn aa w R=vc P g c (OV aa) w (UY P rs R):=by unfold Ag;rw[h,h2]
end
end Go.Sh
namespace Go.Proofs.YtcaakhmhlfgogaaGreatDoor
open Go Go.Sh Go.Proofs
open Rep (rep)
variable {K:vL->Prop}{P:pG}{n:Nat}{t:TypeId}{w:wD}
def extL:List Nat:=[0,1,108,158,249,294,320,321,322,323,324,325,326,327,328,329,330,331,332,333,334,335,336,337,338,339,340,341]
theorem my:((List.range 343).all λf=>extL.elem f || xT Tryz.prog f)=true:=by kernel_rfl
def ent:∀f,f<343->extL.elem f=false->xT Tryz.prog f=true:=λf hf hx=>by
 have:=nG.1 my f (rC.2 hf);rw[hx,Mr]at this;exact this
def mixed:Tryz.prog.follows .mixedOrders=true:=by kernel_rfl
abbrev VW:=vL->wD->Prop
noncomputable abbrev tp:pG:=Tryz.prog
def cJ{u:Nat->vL}{a:Nat}{x:vL}(h:[a].map u=[x]):u a=x:=by simpa using h
def dQ{u:Nat->vL}{a b:Nat}{x y:vL}(h:[a,b].map u=[x,y]):u a=x/\u b=y:=by simpa using h
def Gr{u:Nat->vL}{a b c:Nat}{x y z:vL}(h:[a,b,c].map u=[x,y,z]):u a=x/\u b=y/\u c=z:=by simpa using h
def aU{x y:Operand}(k:K (iV ((n+1:Nat):Int)))(h:n<9223372036854775807:=by omega):RD P (bin .add t x y (iV n) (iV 1)) w K:=K4 h k
def kf(j l:List (Nat×Nat×List Nat))(d:List (Nat×List Nat×Nat)):Cfg:=⟨extL,j,l,d,[],[],[]⟩
theorem co{g:Cfg}{f:FuncId}{fn:Func}{args:List vL}{w:wD}{R:VW}{c:Code}{rs:List ResultVar}{F:(VW)->Prop}(hf:tp.funcs[f]?=some fn)(h:F R)(hb:fn.body=some c:=by rfl)(hr:fn.results=rs.toArray:=by rfl)
    (hl:args.length.ble fn.ntmps=true:=by kernel_rfl) (hok:Jq g 343 fn=true:=by kernel_rfl) (e:∀R:VW,vc tp g c (OV args) w (UY tp rs R)=F R:=by(intro R;simp (config := { maxSteps := 10000000 }) only[↓ry,↓zGQ,↓vu,↓zGR,↓oc,↓mr,↓zE2,↓zE3,↓uc,↓ba,↓R5,↓Qr,↓Y2,↓b4,↓Ru,↓Xv,↓Zb,↓Sr,↓Zf,↓T5,↓Tp,↓U7,↓Wm,↓J3,↓Wl,↓N4,↓cp,↓E5,↓l6,↓J2,↓Vj,↓Tk,↓Ym,↓X9,↓Vt,↓Y7,↓Xk,↓Zd,↓dc,↓q6,↓z7,↓rl,↓Yb,↓Z4,↓V3,↓Vr,↓zE7,↓ie,↓KX,↓xp,↓xl,↓Rp,↓Vx,↓Z0,↓Uq,↓G5,↓Vu,↓Qe,↓Yc,↓Ul,↓Vd,↓Rj,↓Zm,↓Qf,↓V0,↓Vk,↓Yw,↓I7,↓Tu,↓cm,↓au,↓X6,↓C1,↓D4,↓N1,↓bw,↓Sg,↓Q9,↓Rx,↓Uh,↓J8,↓Ql,↓ac,↓Xp,↓bl,↓Un,↓Uz,↓Yf,↓Sd,↓M6,↓Tz,↓ah,↓Zn,↓al,↓Z5,↓Rc,↓Zz,↓Rm,↓I0,↓bz,↓Qg,↓Vy,↓z8,↓Sl,↓Vb,ba,R5,Qr,Y2,b4,Ru,Xv,Zb,Sr,Zf,T5,Tp,U7,Wm,J3,Wl,N4,cp,E5,l6,J2,Vj,Tk,Ym,X9,Vt,Y7,Xk,Zd,dc,q6,z7,Yb,Z4,V3,Vr,Rp,Vx,Z0,Uq,G5,Vu,Qe,Yc,Ul,Vd,Rj,Zm,Qf,V0,Vk,Yw,I7,Tu,cm,au,X6,C1,D4,N1,bw,Sg,Q9,Rx,Uh,J8,Ql,ac,Xp,bl,Un,Uz,Yf,Sd,M6,Tz,ah,Zn,al,Z5,Rc,Zz,Rm,I0,bz,Qg,Vy,z8,Sl,Vb,pp,zE5,Ba,Ir,du,yl,Nat.reduceEqDiff,Nat.reduceShiftRight,Nat.reduceMod,Option.bind,Option.map,FI,QJ,List.range,List.range.loop,GU,dA,eU,Nat.reduceAdd,vO,kf,extL,Cp,Aq,GV,JI,CJ,NF,NI,XU,HO,NO,PF,MM,Se,IT,NJ,KK,PR,List.take,List.drop,Region.binds,qP,prs,PB,↓reduceIte,dI,false_or,or_true,true_or,DH,reduceCtorEq];exact rfl)) (hg:g.ext=extL:=by rfl):aJ tp f args w R:=
  kp (hg▸ent) mixed hf (QY hl) hok (by rw[rq hb hr,e R];exact h)
variable {K:vL->Prop}{P:pG}{a:Int}{t:TypeId}{w:wD}
def cnt(k:Int)(n:Nat):List Int:=(List.range n).map λi:Nat=>k+(i:Int)
def C4:cT tp 2=some (1,8,false):=by kernel_rfl
def u2:tp.underlying 2=some (TypeDesc.int IntKind.i64):=by kernel_rfl
def z2:nN tp 2=true:=by kernel_rfl
def aG:cT tp 3=some (1,8,false):=by kernel_rfl
def u3:tp.underlying 3=some (TypeDesc.int IntKind.i64):=by kernel_rfl
def z3:nN tp 3=true:=by kernel_rfl
def wQ:(tp.info? 3).map (λi=>(i.zero.map (·.cells.size)))=some (some 1):=by kernel_rfl
def cE:cT tp 4=some (1,1,false):=by kernel_rfl
def u4:tp.underlying 4=some TypeDesc.bool:=by kernel_rfl
def z4:nN tp 4=true:=by kernel_rfl
def zc4:(tp.info? 4).map (λi=>(i.zero.map (·.cells.size)))=some (some 1):=by kernel_rfl
def RS:cT tp 5=some (1,1,false):=by kernel_rfl
def u5:tp.underlying 5=some (TypeDesc.int IntKind.u8):=by kernel_rfl
def z5:nN tp 5=true:=by kernel_rfl
def u6:tp.underlying 6=some (TypeDesc.int IntKind.u8):=by kernel_rfl
def cG:cT tp 9=some (1,16,false):=by kernel_rfl
def u9:tp.underlying 9=some TypeDesc.string:=by kernel_rfl
def z9:nN tp 9=true:=by kernel_rfl
def JP:(tp.info? 9).map (λi=>(i.zero.map (·.cells.size)))=some (some 1):=by kernel_rfl
def Pd:tp.underlying 10=some TypeDesc.string:=by kernel_rfl
def u11:tp.underlying 11=some TypeDesc.string:=by kernel_rfl
def Ig:tp.underlying 12=some (TypeDesc.int IntKind.u64):=by kernel_rfl
def ZS:cT tp 24=some (1,24,false):=by kernel_rfl
def mA:tp.underlying 24=some (TypeDesc.slice 5):=by kernel_rfl
def z24:nN tp 24=true:=by kernel_rfl
def dC:cT tp 26=some (1,24,false):=by kernel_rfl
def cL:tp.underlying 26=some (TypeDesc.slice 9):=by kernel_rfl
def qY:cT tp 27=some (1,24,false):=by kernel_rfl
def pW:tp.underlying 27=some (TypeDesc.slice 62):=by kernel_rfl
def kT:cT tp 29=some (3,72,true):=by kernel_rfl
def IU:kO tp 29=some [.slice none 0 0,.slice none 0 0,.slice none 0 0]:=by kernel_rfl
def BY:fG tp 29 0=some 0:=by kernel_rfl
def EY:fG tp 29 1=some 1:=by kernel_rfl
def qW:fG tp 29 2=some 2:=by kernel_rfl
def dT:cT tp 31=some (1,24,false):=by kernel_rfl
def bG:tp.underlying 31=some (TypeDesc.slice 3):=by kernel_rfl
def Av:nN tp 31=true:=by kernel_rfl
def Cj:(tp.info? 31).map (λi=>(i.zero.map (·.cells.size)))=some (some 1):=by kernel_rfl
def eJ:cT tp 32=some (1,24,false):=by kernel_rfl
def eQ:tp.underlying 32=some (TypeDesc.slice 69):=by kernel_rfl
def cP:cT tp 34=some (5,120,true):=by kernel_rfl
def LD:kO tp 34=some [.slice none 0 0,.slice none 0 0,.slice none 0 0,.slice none 0 0,.slice none 0 0]:=by kernel_rfl
def vU:fG tp 34 0=some 0:=by kernel_rfl
def uP:fG tp 34 1=some 1:=by kernel_rfl
def lQ:fG tp 34 2=some 2:=by kernel_rfl
def kJ:fG tp 34 3=some 3:=by kernel_rfl
def eW:fG tp 34 4=some 4:=by kernel_rfl
def mC:tp.underlying 38=some (TypeDesc.slice 46):=by kernel_rfl
def vR:tp.underlying 40=some (TypeDesc.slice 31):=by kernel_rfl
def z45:nN tp 45=true:=by kernel_rfl
def lG:cT tp 46=some (3,24,true):=by kernel_rfl
def z46:nN tp 46=true:=by kernel_rfl
def VA:(tp.info? 46).map (λi=>(i.zero.map (·.cells.size)))=some (some 3):=by kernel_rfl
def Ks:kO tp 46=some [iV 0,iV 0,iV 0]:=by kernel_rfl
def CQ:fG tp 46 0=some 0:=by kernel_rfl
def IL:fG tp 46 1=some 1:=by kernel_rfl
def PA:fG tp 46 2=some 2:=by kernel_rfl
def tF9:cT tp 49=some (2,16,true):=by kernel_rfl
def Ck:fG tp 49 0=some 0:=by kernel_rfl
def Wp:fG tp 49 1=some 1:=by kernel_rfl
def Nc:fG tp 59 0=some 0:=by kernel_rfl
def PH:fG tp 59 1=some 3:=by kernel_rfl
def fW:cT tp 60=some (1,24,false):=by kernel_rfl
def fJ:tp.underlying 60=some (TypeDesc.slice 117):=by kernel_rfl
def pO:cT tp 62=some (2,40,true):=by kernel_rfl
def H0:nN tp 62=true:=by kernel_rfl
def Qj:(tp.info? 62).map (λi=>(i.zero.map (·.cells.size)))=some (some 2):=by kernel_rfl
def Fc:kO tp 62=some [.string ByteArray.empty,.slice none 0 0]:=by kernel_rfl
def NE:fG tp 62 0=some 0:=by kernel_rfl
def OZ:fG tp 62 1=some 1:=by kernel_rfl
def pE:cT tp 65=some (1,24,false):=by kernel_rfl
def mY:tp.underlying 65=some (TypeDesc.slice 67):=by kernel_rfl
def z66:nN tp 66=true:=by kernel_rfl
def dK:cT tp 67=some (4,56,true):=by kernel_rfl
def RH:nN tp 67=true:=by kernel_rfl
def V7:(tp.info? 67).map (λi=>(i.zero.map (·.cells.size)))=some (some 4):=by kernel_rfl
def zJa:tp.underlying 67=some (TypeDesc.struct (Array.mk [Field.mk "Kind" 3 0 false "" "" 0,Field.mk "Num" 3 1 false "" "" 8,Field.mk "Name" 9 2 false "" "" 16,Field.mk "Kids" 65 3 false "" "" 32])):=by kernel_rfl
def BZ:kO tp 67=some [iV 0,iV 0,.string ByteArray.empty,.slice none 0 0]:=by kernel_rfl
def BK:fG tp 67 0=some 0:=by kernel_rfl
def CC:fG tp 67 1=some 1:=by kernel_rfl
def yZ:fG tp 67 2=some 2:=by kernel_rfl
def pF:fG tp 67 3=some 3:=by kernel_rfl
def fE:cT tp 69=some (7,80,true):=by kernel_rfl
def Jy:nN tp 69=true:=by kernel_rfl
def Nt:(tp.info? 69).map (λi=>(i.zero.map (·.cells.size)))=some (some 7):=by kernel_rfl
def zL:kO tp 69=some [iV 0,iV 0,iV 0,iV 0,.string ByteArray.empty,.slice none 0 0,iV 0]:=by kernel_rfl
def lV:fG tp 69 0=some 0:=by kernel_rfl
def mE:fG tp 69 1=some 1:=by kernel_rfl
def DA:fG tp 69 2=some 2:=by kernel_rfl
def yU:fG tp 69 3=some 6:=by kernel_rfl
def z75:nN tp 75=true:=by kernel_rfl
def WC:cT tp 92=some (1,24,false):=by kernel_rfl
def QO:tp.underlying 92=some (TypeDesc.slice 165):=by kernel_rfl
def UF:fG tp 107 0=some 0:=by kernel_rfl
def zE8:fG tp 107 1=some 1:=by kernel_rfl
def NY:fG tp 107 2=some 2:=by kernel_rfl
def YK:fG tp 107 3=some 3:=by kernel_rfl
def fB:cT tp 117=some (8,128,true):=by kernel_rfl
def PK:nN tp 117=true:=by kernel_rfl
def NQ:(tp.info? 117).map (λi=>(i.zero.map (·.cells.size)))=some (some 8):=by kernel_rfl
def zX:kO tp 117=some [iV 0,.string ByteArray.empty,iV 0,iV 0,.string ByteArray.empty,.slice none 0 0,.slice none 0 0,.slice none 0 0]:=by kernel_rfl
def vZ:fG tp 117 0=some 0:=by kernel_rfl
def oB:fG tp 117 1=some 1:=by kernel_rfl
def sS:fG tp 117 2=some 2:=by kernel_rfl
def rZ:fG tp 117 3=some 6:=by kernel_rfl
def pU:fG tp 117 4=some 7:=by kernel_rfl
def Ui:fG tp 122 0=some 0:=by kernel_rfl
def ZU:fG tp 122 1=some 1:=by kernel_rfl
def Dx:fG tp 122 2=some 2:=by kernel_rfl
def lT:cT tp 125=some (1,24,false):=by kernel_rfl
def eY:tp.underlying 125=some (TypeDesc.slice 4):=by kernel_rfl
def Kw:nN tp 125=true:=by kernel_rfl
def Hz:(tp.info? 125).map (λi=>(i.zero.map (·.cells.size)))=some (some 1):=by kernel_rfl
def z127:nN tp 127=true:=by kernel_rfl
def mT:fG tp 127 0=some 0:=by kernel_rfl
def Br:fG tp 127 1=some 5:=by kernel_rfl
def Cd:fG tp 127 2=some 6:=by kernel_rfl
def Pj:fG tp 127 3=some 7:=by kernel_rfl
def VV:fG tp 127 4=some 8:=by kernel_rfl
def OQ:fG tp 127 5=some 9:=by kernel_rfl
def ON:fG tp 127 6=some 10:=by kernel_rfl
def wW:tp.underlying 129=some (TypeDesc.slice 134):=by kernel_rfl
def qQ:cT tp 134=some (4,32,true):=by kernel_rfl
def ZM:nN tp 134=true:=by kernel_rfl
def SV:(tp.info? 134).map (λi=>(i.zero.map (·.cells.size)))=some (some 4):=by kernel_rfl
def Ed:kO tp 134=some [iV 0,iV 0,.bool false,iV 0]:=by kernel_rfl
def GH:fG tp 134 0=some 0:=by kernel_rfl
def TV:fG tp 134 1=some 1:=by kernel_rfl
def Cw:fG tp 134 2=some 2:=by kernel_rfl
def PU:fG tp 134 3=some 3:=by kernel_rfl
def uI:tp.underlying 139=some (TypeDesc.slice 201):=by kernel_rfl
def KT:tp.underlying 141=some (TypeDesc.slice 199):=by kernel_rfl
def CG:tp.underlying 150=some (TypeDesc.slice 125):=by kernel_rfl
def z164:nN tp 164=true:=by kernel_rfl
def AA:cT tp 165=some (3,32,true):=by kernel_rfl
def kq:nN tp 165=true:=by kernel_rfl
def dr:(tp.info? 165).map (λi=>(i.zero.map (·.cells.size)))=some (some 3):=by kernel_rfl
def lj:fG tp 165 0=some 0:=by kernel_rfl
def TB:fG tp 165 1=some 1:=by kernel_rfl
def sr:fG tp 165 2=some 2:=by kernel_rfl
def sR:tp.underlying 187=some (TypeDesc.int IntKind.u64):=by kernel_rfl
def KV:cT tp 199=some (3,24,true):=by kernel_rfl
def cy:nN tp 199=true:=by kernel_rfl
def P8:(tp.info? 199).map (λi=>(i.zero.map (·.cells.size)))=some (some 3):=by kernel_rfl
def zIj:kO tp 199=some [iV 0,iV 0,iV 0]:=by kernel_rfl
def Dz:fG tp 199 0=some 0:=by kernel_rfl
def Ea:fG tp 199 1=some 1:=by kernel_rfl
def T2:fG tp 199 2=some 2:=by kernel_rfl
def rO:cT tp 201=some (2,16,true):=by kernel_rfl
def ai:nN tp 201=true:=by kernel_rfl
def E2:(tp.info? 201).map (λi=>(i.zero.map (·.cells.size)))=some (some 2):=by kernel_rfl
def Al:kO tp 201=some [iV 0,iV 0]:=by kernel_rfl
def XA:fG tp 201 0=some 0:=by kernel_rfl
def WE:fG tp 201 1=some 1:=by kernel_rfl
def QX:tp.underlying 205=some (TypeDesc.slice 207):=by kernel_rfl
def MO:cT tp 207=some (1,8,false):=by kernel_rfl
def OJ:fG tp 215 1=some 5:=by kernel_rfl
def IA:fG tp 215 2=some 6:=by kernel_rfl
def Bz:fG tp 215 3=some 7:=by kernel_rfl
def FH:tp.underlying 239=some (TypeDesc.slice 277):=by kernel_rfl
def HH:cT tp 277=some (2,16,true):=by kernel_rfl
def Ue:nN tp 277=true:=by kernel_rfl
def P1:(tp.info? 277).map (λi=>(i.zero.map (·.cells.size)))=some (some 2):=by kernel_rfl
def U8:fG tp 277 0=some 0:=by kernel_rfl
def UG:fG tp 277 1=some 1:=by kernel_rfl
def zy{x y:Operand}{a b:Bool}(ht:P.underlying t=some .bool)(k:K (.bool (decide (a≠b)))):RD P (bin .neq t x y (.bool a) (.bool b)) w K:=
 dY (λw' _=>by
   have:=run_neq_bool (P:=P) w' t a b ht;cases a<;>cases b<;>simp_all[bin,eqGuard]) k
def sm{α:Type}(f:α->Nat)(l:List α):Nat:=(l.map f).sum
theorem Vw{α:Type}(f:α->Nat){l:List α}{x:α}(h:x∈l):f x<=sm f l:=by
 unfold sm
 induction l with
 |nil=>cases h
 | cons y l ih=>
   rw[FI,Ao];rcases bF.1 h with rfl|h
   ·omega
   have:=ih h;omega
def eS{b:Int}{c:Int}    :
   aJ tp 110 [iV a,iV b,iV c] w λr w'=>aB w w'/\(r=.bool (decide (b<=a/\a<=c))):=by
 refine co (g:=kf [] [] []) Tryz.func110 ?_;refine pD<|br (λc1=>?_) λc1=>?_
 ·refine tR ?_;refine⟨xx,?_⟩;simp[c1]
 refine⟨xx,?_⟩;simp[c1]
end Go.Proofs.YtcaakhmhlfgogaaGreatDoor
namespace Go.Sh
open Rep (rep)
def KR(P:pG)(t:TypeId)(α:Type)[Rep α](n:Nat):Prop:=
 ∀(H:Type)(enc:TypeId×vL->H)(w:wD)(spare:Nat->Bool)(held:Bool)(cs:List vL)(y:DataW H×List MemPlace),DataW.trod enc P w 0 spare held n t cs=some y->∃F x,rep F w cs (x:α)
section
variable {P:pG}{t:TypeId}
theorem Yn{α β:Type}{f:α->Option β}:∀{l:List α}{r:List β},l.mapM f=some r->l.length=r.length/\∀(i:Nat) x,l[i]?=some x->∃y,f x=some y/\r[i]?=some y
 |[],r,h=>by simp at h;subst h;simp
 | a :: l,r,h=>by
   simp only[En,Option.pure_def,Option.bind_eq_bind,N6,iU]at h;obtain⟨b,hb,bs,hbs,rfl⟩:=h;obtain⟨h1,h2⟩:=Yn hbs;refine⟨by simp[h1],λi x hx=>?_⟩;cases i with
   |zero=>simp at hx;subst hx;exact⟨b,hb,ss⟩
   |succ i=>obtain⟨y,hy,hr⟩:=h2 i x (by simpa using hx);exact⟨y,hy,by simpa using hr⟩
def li{w:wD}{a:Addr}{n:Nat}{cs:List vL}(h:w.cells? 0 a n=some cs):cs.length=n/\∀j v,cs[j]?=some v->w.cell? (a.add j)=some v:=by
 unfold World.cells? at h;simp only[vS,if_true]at h;obtain⟨h1,h2⟩:=Yn h;simp only[KJ]at h1;refine⟨h1.symm,λj v hv=>?_⟩;have:j<cs.length:=(List.getElem?_eq_some_iff.1 hv).1;obtain⟨_,hy,hr⟩:=h2 j j (by rw[List.getElem?_range oo]);rw[hr]at hv;cases hv;exact hy
def ep{w:wD}{a:Addr}{v:vL}(h:w.cell? a=some v):a.spot=none:=by
 unfold World.cell? at h;split at h
 ·split at h
  ·cases h
  rename_i hs;simpa using hs
 cases h
theorem Qw{α:Type}[Rep α]{w:wD}{b o:Nat}:∀(n:Nat),(∀i,i<n->∃(cs:List vL)(F:List Nat)(x:α),w.rangeAt b (o+i*Rep.size α) cs/\rep F w cs x) ->
   ∃(F:List Nat)(xs:List vL)(l:List α),l.length=n/\aO F w xs l/\w.rangeAt b o xs
 |0,_=>⟨[],[],[],rfl,⟨rfl,rfl⟩,λj v hv=>by simp at hv⟩
 | n+1,h=>by
   obtain⟨F,xs,l,hl,hc,hr⟩:=Qw n λi hi=>h i oo;obtain⟨cs,G,x,hra,hx⟩:=h n oo;refine⟨F++G,xs++cs,l++[x],by simp[hl],aO.append hc (aO.single hx),?_⟩;intro j v hv;have hlen:=aO.len hc;rw[hl]at hlen;rcases kR j xs.length with hj|hj
   ·rw[List.getElem?_append_left hj]at hv;exact hr j v hv
   rw[List.getElem?_append_right hj]at hv;have:=hra (j-xs.length) v hv;rwa[show o+n*Rep.size α+(j-xs.length)=o+j by omega]at this
def qt{e:TypeId}{α:Type}[Rep α]{n:Nat}(ht:P.underlying t=some (.slice e))(hc:P.cellsOf e=Rep.size α)(he:KR P e α n):KR P t (List α) (n+1):=by
 intro H enc w g0 held cs _ h;rcases DataW.trod_slice ht h with⟨rfl,_⟩|⟨a,len,cap,_,_,m,_,rfl,_,_,h1,h2,_,h4,_⟩
 ·exact⟨[],[],none,0,[],[],rfl,lr _,z0 _,⟨rfl,rfl⟩,.inl ⟨rfl,rfl⟩⟩
 obtain rfl:m=n:=oo;by_cases h0:len=0
 ·subst h0;exact⟨[],[],some a,cap,[],[],rfl,z0 _,h2,⟨rfl,rfl⟩,.inl ⟨rfl,rfl⟩⟩
 have g1:∀i,i<len->∃(cs:List vL)(F:List Nat)(x:α),cs.length=Rep.size α/\(∀j v,cs[j]?=some v->w.cell? ((a.add (i*P.cellsOf e)).add j)=some v)/\rep F w cs x:=by
   intro i hi;have hy:=h4 i hi;rw[List.getElem?_eq_getElem oo]at hy;obtain⟨cs,g3,hy⟩:=N6.1 hy;obtain⟨F,x,hx⟩:=he H enc w g0 held cs _ hy;obtain⟨hl,C⟩:=li g3;exact⟨cs,F,x,by rw[hl,hc],C,hx⟩
 have g2:a.spot=none:=by
   obtain⟨cs,F,x,hl,C,_⟩:=g1 0 oo;have hp:=Rep.pos (α:=α);have:=C 0 (cs[0]'(by omega)) (by rw[List.getElem?_eq_getElem]);simpa[Addr.add]using ep this
 obtain⟨b,o,_⟩:=a;simp only at g2;subst g2
 obtain⟨F,xs,l,hl,hC,hR⟩:=Qw (α:=α) (w:=w) (b:=b) (o:=o) len λi hi=>by
   obtain⟨cs,F,x,_,C,hx⟩:=g1 i hi;refine⟨cs,F,x,λj v hv=>?_,hx⟩;have:=C j v hv;rw[hc]at this;rwa[Addr.add_mid,Addr.add_mid]at this
 have hb:b<w.heap.size:=JG hR (by rw[aO.len hC,hl];exact Be oo Rep.pos);subst hl;exact⟨b :: F,l,some ⟨b,o,none⟩,cap,F,xs,rfl,h1,h2,hC,.inr ⟨b,o,rfl,rfl,hR,hb⟩⟩
def ra{α:Type}[Rep α]:KR P t α 0:=by intro _ _ _ _ _ _ _ h;simp[DataW.trod]at h
theorem zmt{e:TypeId}{α:Type}[Rep α](ht:P.underlying t=some (.slice e))(hc:P.cellsOf e=Rep.size α)(he:∀ n,KR P e α n):∀n,KR P t (List α) n
 |0=>ra
 |n+1=>qt ht hc (he n)
def ztg{e:TypeId}{α:Type}[Rep α]{H:Type}{enc:TypeId×vL->H}{w W:wD}{r:Reach}{b0:Nat}{C:Nat->Bool}{held:Bool}{v:vL}{d:DataW H}{p:List MemPlace}(ht:P.underlying t=some (.slice e))(hr:∀ n,KR P t (List α) n)(hv:Value.okWide P W r b0 t v)
   (h:DataW.Trod enc P w 0 C held t v d p):∃x:List α,Is w v x:=by
 obtain⟨_,_,_,rfl⟩:=WideShapes.okWide_slice ht hv;obtain⟨n,hn⟩:=h;obtain⟨F,x,hx⟩:=hr n H enc w C held _ _ hn;exact⟨x,F,_,hx,rfl⟩
end
end Go.Sh
namespace Go.Sh
open Rep (rep)
inductive aD where
 |mk (kind num:Int) (name:ByteArray) (kids:List aD)
namespace aD
def kind:aD->Int|.mk k _ _ _=>k
def num:aD->Int|.mk _ n _ _=>n
def name:aD->ByteArray|.mk _ _ s _=>s
def kids:aD->List aD|.mk _ _ _ l=>l
def tup(t:aD):Int×Int×ByteArray×List aD:=(t.kind,t.num,t.name,t.kids)
end aD
def aD.eta(t:aD):aD.mk t.kind t.num t.name t.kids=t:=by cases t;rfl
def aD.ext_iff{x y:aD}:x=y↔(x.kind=y.kind/\x.num=y.num/\x.name=y.name/\x.kids=y.kids):=by
 constructor
 ·intro h;rw[h];exact⟨rfl,rfl,rfl,rfl⟩
 rintro⟨h1,h2,h3,h4⟩;rw[<-aD.eta x,<-aD.eta y,h1,h2,h3,h4]
theorem aD.kid_lt{t k:aD}(h:k∈t.kids):SizeOf.sizeOf k<SizeOf.sizeOf t:=by
 cases t with
 | mk a b c l=>
   have:k∈l:=h;have:=Ob this;simp only[aD.mk.sizeOf_spec];omega
theorem aD.ind{p:aD->Prop}(h:∀ t,(∀ k∈t.kids,p k)->p t)(t:aD):p t:=
  h t λk hk=>aD.ind h k
termination_by SizeOf.sizeOf t
decreasing_by exact aD.kid_lt hk
mutual
def aD.beq:aD->aD->Bool
  |.mk a b c l,.mk a' b' c' l'=>decide (a=a')&&decide (b=b')&&decide (c=c')&&aD.beqL l l'
def aD.beqL:List aD->List aD->Bool
  |[],[]=>true
  |x :: l,y :: m=>aD.beq x y&&aD.beqL l m
  |_,_=>false
end
mutual
theorem aD.beq_iff:∀(x y:aD),aD.beq x y=true↔x=y
  | .mk a b c l,.mk a' b' c' l'=>by
    simp only[aD.beq,iA,lZ,aD.mk.injEq,aD.beqL_iff l l',and_assoc]
theorem aD.beqL_iff:∀(x y:List aD),aD.beqL x y=true↔x=y
  |[],[]=>by simp[aD.beqL]
  |[],y :: m=>by simp[aD.beqL]
  |x :: l,[]=>by simp[aD.beqL]
  |x :: l,y :: m=>by simp only[aD.beqL,iA,aD.beq_iff x y,aD.beqL_iff l m,zI]
end
instance:DecidableEq aD:=λx y=>decidable_of_iff _ (aD.beq_iff x y)
mutual
def yR:aD->List Nat->wD->List vL->Prop
  | .mk k n s ks,F,w,cs=>∃a cap Fi xs,cs=[iV k,iV n,.string s,.slice a ks.length cap]/\bR k/\bR n/\s.size<=maxLen/\ks.length<=cap/\cap<=maxLen/\iC ks Fi w xs /\
    ((ks=[]/\F=[])\/∃b o,a=some ⟨b,o,none⟩/\F=b :: Fi/\w.rangeAt b o xs/\b<w.heap.size)
def iC:List aD->List Nat->wD->List vL->Prop
  |[],F,_,xs=>F=[]/\xs=[]
  |y :: ys,F,w,xs=>∃F1 F2 c1 c2,F=F1++F2/\xs=c1++c2/\yR y F1 w c1/\iC ys F2 w c2
end
def rr{t:aD}{F:List Nat}{w:wD}{cs:List vL}(h:yR t F w cs):cs.length=4:=by
 cases t;rw[yR]at h;obtain⟨_,_,_,_,rfl,_⟩:=h;rfl
def lw{t:aD}{F:List Nat}{w:wD}{cs:List vL}(h:yR t F w cs):∀v∈cs,v.oneCell'=true:=by
 cases t;rw[yR]at h;obtain⟨_,_,_,_,rfl,_⟩:=h;intro v hv;simp only[bF,dL,dI]at hv;rcases hv with rfl|rfl|rfl|rfl<;>rfl
mutual
theorem Z7:∀(t:aD){F:List Nat}{w w':wD}{cs:List vL},yR t F w cs->(∀b∈F,w'.heap[b]?=w.heap[b]?)->yR t F w' cs
  | .mk k n s ks,F,w,w',cs,h,hk=>by
    rw[yR]at h ⊢;obtain⟨a,cap,Fi,xs,hcs,i1,i2,i3,h1,h2,hc,h4⟩:=h;rcases h4 with⟨rfl,rfl⟩|⟨b,o,ha,hF,hr,hb⟩
    ·exact⟨a,cap,Fi,xs,hcs,i1,i2,i3,h1,h2,by rw[iC]at hc ⊢;exact hc,.inl ⟨rfl,rfl⟩⟩
    subst hF;have hbb:=hk b ss;refine⟨a,cap,Fi,xs,hcs,i1,i2,i3,h1,h2,Tb ks hc λc hc=>hk c (by simp[hc]),.inr ⟨b,o,ha,rfl,yT hr hbb,?_⟩⟩;rcases kR b (Array.size (World.heap w'))with h'|h'
    ·exact h'
    rw[Array.getElem?_eq_none h']at hbb;simp[Array.getElem?_eq_getElem hb]at hbb
theorem Tb:∀(l:List aD){F:List Nat}{w w':wD}{cs:List vL},iC l F w cs->(∀b∈F,w'.heap[b]?=w.heap[b]?)->iC l F w' cs
  |[],F,w,w',cs,h,_=>by rw[iC]at h ⊢;exact h
  | y :: ys,F,w,w',cs,h,hk=>by
    rw[iC]at h ⊢;obtain⟨F1,F2,c1,c2,rfl,rfl,h1,h2⟩:=h;exact⟨F1,F2,c1,c2,rfl,rfl,Z7 y h1 λb hb=>hk b (by simp[hb]),Tb ys h2 λb hb=>hk b (by simp[hb])⟩
end
mutual
theorem K6:∀(t:aD){F:List Nat}{w:wD}{cs:List vL},yR t F w cs->∀b∈F,b<w.heap.size
  | .mk k n s ks,F,w,cs,h,c,hm=>by
    rw[yR]at h;obtain⟨a,cap,Fi,xs,hcs,i1,i2,i3,h1,h2,hc,h4⟩:=h;rcases h4 with⟨rfl,rfl⟩|⟨b,o,ha,hF,hr,hb⟩
    ·cases hm
    subst hF;rcases bF.1 hm with rfl|hm
    ·exact hb
    exact Uc ks hc c hm
theorem Uc:∀(l:List aD){F:List Nat}{w:wD}{cs:List vL},iC l F w cs->∀b∈F,b<w.heap.size
  |[],F,w,cs,h,c,hm=>by rw[iC]at h;rw[h.1]at hm;cases hm
  | y :: ys,F,w,cs,h,c,hm=>by
    rw[iC]at h;obtain⟨F1,F2,c1,c2,rfl,rfl,h1,h2⟩:=h;rcases dF.1 hm with hm|hm
    ·exact K6 y h1 c hm
    exact Uc ys h2 c hm
end
instance:Rep aD where
 size:=4
 agg:=true
 rep F w cs x:=yR x F w cs
 pos:=by decide
 sz h:=by cases h
 len h:=rr h
 one h:=lw h
 keep h hk:=Z7 _ h hk
 lt h:=K6 _ h
theorem Bj{w:wD}:∀{l:List aD}{F:List Nat}{xs:List vL},iC l F w xs↔aO F w xs l
 |[],F,xs=>by rw[iC];exact Iff.rfl
 | y :: ys,F,xs=>by
   rw[iC];constructor
   ·rintro⟨F1,F2,c1,c2,h1,h2,h3,h4⟩;exact⟨F1,F2,c1,c2,h1,h2,h3,Bj.1 h4⟩
   rintro⟨F1,F2,c1,c2,h1,h2,h3,h4⟩;exact⟨F1,F2,c1,c2,h1,h2,h3,Bj.2 h4⟩
def LU{w:wD}{F:List Nat}{cs:List vL}{t:aD}:rep F w cs t↔rep F w cs t.tup:=by
 obtain⟨k,n,s,_⟩:=t;show yR _ F w cs↔_;rw[yR];constructor
 ·rintro⟨a,cap,Fi,xs,rfl,i1,i2,i3,h1,h2,hc,h4⟩;refine⟨[],F,[iV k],_,rfl,rfl,⟨rfl,rfl,i1⟩,[],F,[iV n],_,rfl,rfl,⟨rfl,rfl,i2⟩,[],F,[.string s],_,rfl,rfl,⟨rfl,rfl,i3⟩,a,cap,Fi,xs,rfl,h1,h2,Bj.1 hc,h4⟩
 rintro⟨_,_,_,_,rfl,rfl,⟨rfl,rfl,i1⟩,_,_,_,_,rfl,rfl,⟨rfl,rfl,i2⟩,_,_,_,_,rfl,rfl,⟨rfl,rfl,i3⟩,a,cap,Fi,xs,rfl,h1,h2,hc,h4⟩;exact⟨a,cap,Fi,xs,rfl,i1,i2,i3,h1,h2,Bj.2 hc,h4⟩
def ZJ{w:wD}{b o:Nat}{t:aD}:At w b o t↔At w b o t.tup:=
 ⟨λ⟨F,cs,h,k⟩=>⟨F,cs,LU.1 h,k⟩,λ⟨F,cs,h,k⟩=>⟨F,cs,LU.2 h,k⟩⟩
def bh{w:wD}{G:List Nat}{b o:Nat}{t:aD}:nL G w b o t↔nL G w b o t.tup:=
 ⟨λ⟨cs,h,k⟩=>⟨cs,LU.1 h,k⟩,λ⟨cs,h,k⟩=>⟨cs,LU.2 h,k⟩⟩
section
variable {w:wD}{b o:Nat}
def EQ{x:aD}(h:At w b o x):At w b (o+0) x.kind:=qI (α:=Int) (β:=Int×ByteArray×List aD) (p:=x.tup) (ZJ.1 h)
def DO{x:aD}(h:At w b o x):At w b (o+1) x.num:=qI (α:=Int) (β:=ByteArray×List aD) (p:=(x.num,x.name,x.kids)) (kE (α:=Int) (β:=Int×ByteArray×List aD) (p:=x.tup) (ZJ.1 h))
def AU{x:aD}(h:At w b o x):At w b (o+2) x.name:=qI (α:=ByteArray) (β:=List aD) (p:=(x.name,x.kids)) (kE (α:=Int) (β:=ByteArray×List aD) (p:=(x.num,x.name,x.kids)) (kE (α:=Int) (β:=Int×ByteArray×List aD) (p:=x.tup) (ZJ.1 h)))
def sK{x:aD}(h:At w b o x):At w b (o+3) x.kids:=kE (α:=ByteArray) (β:=List aD) (p:=(x.name,x.kids)) (kE (α:=Int) (β:=ByteArray×List aD) (p:=(x.num,x.name,x.kids)) (kE (α:=Int) (β:=Int×ByteArray×List aD) (p:=x.tup) (ZJ.1 h)))
def km{x:aD}{F0:List Nat}{c0:List vL}(h0:rep F0 w c0 x.kind){F1:List Nat}{c1:List vL}(h1:rep F1 w c1 x.num){F2:List Nat}{c2:List vL}(h2:rep F2 w c2 x.name){F3:List Nat}{c3:List vL}(h3:rep F3 w c3 x.kids) :
   rep (F0++(F1++(F2++F3))) w (c0++(c1++(c2++c3))) x:=LU.2 (oO h0 (oO h1 (oO h2 h3)))
end
def bT.term{w:wD}{γ:Type}{H:List Nat->wD->γ->Prop}{F:List Nat}{b o:Nat}{G:List Nat}{t:aD}{upd:aD->γ}(h:bT H F w b o G t upd) :
   bT H F w b o G t.tup (λp=>upd (.mk p.1 p.2.1 p.2.2.1 p.2.2.2)):=
 ⟨bh.1 h.here,h.sub,λw' G' y' hc hO hs=>h.back w' G' _ hc (bh.2 hO) hs⟩
instance:aV aD:=⟨.mk 0 0 ByteArray.empty [],aV.zc (Int×Int×ByteArray×List aD),λw=>LU.2 (aV.zr (α:=Int×Int×ByteArray×List aD) w)⟩
section
variable {γ:Type}{H:List Nat->wD->γ->Prop}{F:List Nat}{w:wD}{b o:Nat}{G:List Nat}{x:aD}{upd:aD->γ}
end
structure bH where
 op:Int
 arg:Int
 term:aD
 to:Int
def bH.ext_iff{x y:bH}:x=y↔(x.op=y.op/\x.arg=y.arg/\x.term=y.term/\x.to=y.to):=⟨λh=>by rw[h];exact⟨rfl,rfl,rfl,rfl⟩,λh=>by obtain⟨h0,h1,h2,h3⟩:=h;cases x;cases y;simp only at h0 h1 h2 h3;simp only[h0,h1,h2,h3]⟩
instance:DecidableEq bH:=λx y=>decidable_of_iff (x.op=y.op/\x.arg=y.arg/\x.term=y.term/\x.to=y.to) bH.ext_iff.symm
instance:Rep bH:=Rep.via λx=>(x.op,x.arg,x.term,x.to)
def lW{w:wD}{b o:Nat}{x:bH}(h:At w b o x):At w b (o+0) x.op:=qI (α:=Int) (β:=Int×aD×Int) (p:=(x.op,x.arg,x.term,x.to)) h
def mF{w:wD}{b o:Nat}{x:bH}(h:At w b o x):At w b (o+1) x.arg:=qI (α:=Int) (β:=aD×Int) (p:=(x.arg,x.term,x.to)) (kE (α:=Int) (β:=Int×aD×Int) (p:=(x.op,x.arg,x.term,x.to)) h)
def DB{w:wD}{b o:Nat}{x:bH}(h:At w b o x):At w b (o+2) x.term:=qI (α:=aD) (β:=Int) (p:=(x.term,x.to)) (kE (α:=Int) (β:=aD×Int) (p:=(x.arg,x.term,x.to)) (kE (α:=Int) (β:=Int×aD×Int) (p:=(x.op,x.arg,x.term,x.to)) h))
def CD{w:wD}{b o:Nat}{x:bH}(h:At w b o x):At w b (o+6) x.to:=kE (α:=aD) (β:=Int) (p:=(x.term,x.to)) (kE (α:=Int) (β:=aD×Int) (p:=(x.arg,x.term,x.to)) (kE (α:=Int) (β:=Int×aD×Int) (p:=(x.op,x.arg,x.term,x.to)) h))
instance:aV bH:=⟨⟨(aV.zv:Int),(aV.zv:Int),(aV.zv:aD),(aV.zv:Int)⟩,aV.zc (Int×Int×aD×Int),λw=>aV.zr (α:=Int×Int×aD×Int) w⟩
def Yd{γ:Type}{H:List Nat->wD->γ->Prop}{F:List Nat}{w:wD}{b o:Nat}{G:List Nat}{x:bH}{upd:bH->γ}(h:bT H F w b o G x upd) :
   ∃G1,bT H F w b (o+6) G1 x.to (λy=>upd ⟨x.op,x.arg,x.term,y⟩):=by
 have h':bT H F w b o G (x.op,x.arg,x.term,x.to) (λp:Int×Int×aD×Int=>upd ⟨p.1,p.2.1,p.2.2.1,p.2.2.2⟩):=⟨h.here,h.sub,λw' G' _ hc hO hs=>h.back w' G' _ hc hO hs⟩;obtain⟨_,h'⟩:=h'.snd;obtain⟨G1,h'⟩:=h'.snd;obtain⟨_,h'⟩:=h'.snd;exact⟨_,h'⟩
structure aF where
 B:List ByteArray
 L:List ByteArray
 P:List ByteArray
 E:List Int
 I:List bH
def aF.ext_iff{x y:aF}:x=y↔(x.B=y.B/\x.L=y.L/\x.P=y.P/\x.E=y.E/\x.I=y.I):=⟨λh=>by rw[h];exact⟨rfl,rfl,rfl,rfl,rfl⟩,λh=>by obtain⟨h0,h1,h2,h3,h4⟩:=h;cases x;cases y;simp only at h0 h1 h2 h3 h4;simp only[h0,h1,h2,h3,h4]⟩
instance:DecidableEq aF:=λx y=>decidable_of_iff (x.B=y.B/\x.L=y.L/\x.P=y.P/\x.E=y.E/\x.I=y.I) aF.ext_iff.symm
instance:Rep aF:=Rep.via λx=>(x.B,x.L,x.P,x.E,x.I)
def wF{w:wD}{b o:Nat}{x:aF}(h:At w b o x):At w b (o+0) x.B:=qI (α:=List ByteArray) (β:=(List ByteArray)×(List ByteArray)×(List Int)×(List bH)) (p:=(x.B,x.L,x.P,x.E,x.I)) h
def vX{w:wD}{b o:Nat}{x:aF}(h:At w b o x):At w b (o+1) x.L:=qI (α:=List ByteArray) (β:=(List ByteArray)×(List Int)×(List bH)) (p:=(x.L,x.P,x.E,x.I)) (kE (α:=List ByteArray) (β:=(List ByteArray)×(List ByteArray)×(List Int)×(List bH)) (p:=(x.B,x.L,x.P,x.E,x.I)) h)
def nF{w:wD}{b o:Nat}{x:aF}(h:At w b o x):At w b (o+2) x.P:=qI (α:=List ByteArray) (β:=(List Int)×(List bH)) (p:=(x.P,x.E,x.I)) (kE (α:=List ByteArray) (β:=(List ByteArray)×(List Int)×(List bH)) (p:=(x.L,x.P,x.E,x.I)) (kE (α:=List ByteArray) (β:=(List ByteArray)×(List ByteArray)×(List Int)×(List bH)) (p:=(x.B,x.L,x.P,x.E,x.I)) h))
def lJ{w:wD}{b o:Nat}{x:aF}(h:At w b o x):At w b (o+3) x.E:=qI (α:=List Int) (β:=(List bH)) (p:=(x.E,x.I)) (kE (α:=List ByteArray) (β:=(List Int)×(List bH)) (p:=(x.P,x.E,x.I)) (kE (α:=List ByteArray) (β:=(List ByteArray)×(List Int)×(List bH)) (p:=(x.L,x.P,x.E,x.I)) (kE (α:=List ByteArray) (β:=(List ByteArray)×(List ByteArray)×(List Int)×(List bH)) (p:=(x.B,x.L,x.P,x.E,x.I)) h)))
def fV{w:wD}{b o:Nat}{x:aF}(h:At w b o x):At w b (o+4) x.I:=kE (α:=List Int) (β:=(List bH)) (p:=(x.E,x.I)) (kE (α:=List ByteArray) (β:=(List Int)×(List bH)) (p:=(x.P,x.E,x.I)) (kE (α:=List ByteArray) (β:=(List ByteArray)×(List Int)×(List bH)) (p:=(x.L,x.P,x.E,x.I)) (kE (α:=List ByteArray) (β:=(List ByteArray)×(List ByteArray)×(List Int)×(List bH)) (p:=(x.B,x.L,x.P,x.E,x.I)) h)))
instance:aV aF:=⟨⟨(aV.zv:List ByteArray),(aV.zv:List ByteArray),(aV.zv:List ByteArray),(aV.zv:List Int),(aV.zv:List bH)⟩,aV.zc ((List ByteArray)×(List ByteArray)×(List ByteArray)×(List Int)×(List bH)),λw=>aV.zr (α:=(List ByteArray)×(List ByteArray)×(List ByteArray)×(List Int)×(List bH)) w⟩
def L8{w:wD}{F:List Nat}{cs:List vL}{x:aF}(h:rep F w cs x):∃F0 c0 F1 c1 F2 c2 F3 c3 F4 c4,F=(F0++(F1++(F2++(F3++F4))))/\cs=(c0++(c1++(c2++(c3++c4))))/\rep F0 w c0 x.B/\rep F1 w c1 x.L/\rep F2 w c2 x.P/\rep F3 w c3 x.E/\rep F4 w c4 x.I:=by
 obtain⟨F0,_,c0,_,rfl,rfl,h0,h⟩:=h;obtain⟨F1,_,c1,_,rfl,rfl,h1,h⟩:=h;obtain⟨F2,_,c2,_,rfl,rfl,h2,h⟩:=h;obtain⟨F3,_,c3,_,rfl,rfl,h3,h⟩:=h;exact⟨_,_,_,_,_,_,_,_,_,_,rfl,rfl,h0,h1,h2,h3,h⟩
structure bP where
 at_:Int
 global:Int
 write:Bool
 held:Int
def bP.ext_iff{x y:bP}:x=y↔(x.at_=y.at_/\x.global=y.global/\x.write=y.write/\x.held=y.held):=⟨λh=>by rw[h];exact⟨rfl,rfl,rfl,rfl⟩,λh=>by obtain⟨h0,h1,h2,h3⟩:=h;cases x;cases y;simp only at h0 h1 h2 h3;simp only[h0,h1,h2,h3]⟩
instance:DecidableEq bP:=λx y=>decidable_of_iff (x.at_=y.at_/\x.global=y.global/\x.write=y.write/\x.held=y.held) bP.ext_iff.symm
instance:Rep bP:=Rep.via λx=>(x.at_,x.global,x.write,x.held)
def GS{w:wD}{b o:Nat}{x:bP}(h:At w b o x):At w b (o+0) x.at_:=qI (α:=Int) (β:=Int×Bool×Int) (p:=(x.at_,x.global,x.write,x.held)) h
def SG{w:wD}{b o:Nat}{x:bP}(h:At w b o x):At w b (o+1) x.global:=qI (α:=Int) (β:=Bool×Int) (p:=(x.global,x.write,x.held)) (kE (α:=Int) (β:=Int×Bool×Int) (p:=(x.at_,x.global,x.write,x.held)) h)
def ZI{w:wD}{b o:Nat}{x:bP}(h:At w b o x):At w b (o+2) x.write:=qI (α:=Bool) (β:=Int) (p:=(x.write,x.held)) (kE (α:=Int) (β:=Bool×Int) (p:=(x.global,x.write,x.held)) (kE (α:=Int) (β:=Int×Bool×Int) (p:=(x.at_,x.global,x.write,x.held)) h))
def QA{w:wD}{b o:Nat}{x:bP}(h:At w b o x):At w b (o+3) x.held:=kE (α:=Bool) (β:=Int) (p:=(x.write,x.held)) (kE (α:=Int) (β:=Bool×Int) (p:=(x.global,x.write,x.held)) (kE (α:=Int) (β:=Int×Bool×Int) (p:=(x.at_,x.global,x.write,x.held)) h))
instance:aV bP:=⟨⟨(aV.zv:Int),(aV.zv:Int),(aV.zv:Bool),(aV.zv:Int)⟩,aV.zc (Int×Int×Bool×Int),λw=>aV.zr (α:=Int×Int×Bool×Int) w⟩
def zyy{w:wD}{x:bP}(h_at_:bR x.at_)(h_global:bR x.global) (h_held:bR x.held):aZ [] w (.agg #[iV x.at_,iV x.global,.bool x.write,iV x.held]) x:=⟨⟨[iV x.at_,iV x.global,.bool x.write,iV x.held],⟨[],[],[iV x.at_],[iV x.global,.bool x.write,iV x.held],rfl,rfl,⟨rfl,rfl,h_at_⟩,⟨[],[],[iV x.global],[.bool x.write,iV x.held],rfl,rfl,⟨rfl,rfl,h_global⟩,⟨[],[],[.bool x.write],[iV x.held],rfl,rfl,⟨rfl,rfl⟩,⟨rfl,rfl,h_held⟩⟩⟩⟩,rfl⟩,kM,Wr.nil w⟩
instance:dN bP:=⟨λh=>dN.flat (α:=Int×Int×Bool×Int) h⟩
end Go.Sh
namespace Go.Proofs.YtcaakhmhlfgogaaGreatDoor
open Go Go.Sh Go.Proofs
open Rep (rep)
variable {k n:Nat}{s:ByteArray}{w:wD}
def qU(b:UInt8):Bool:=decide ((97:Int)<=(b.toNat:Int)/\(b.toNat:Int)<=122)
def nK(b:UInt8):Bool:=decide ((48:Int)<=(b.toNat:Int)/\(b.toNat:Int)<=57)
def tB(s:ByteArray):Bool:=decide (s.size<=12)&&(aW s).head?.any qU&&(aW s).all (λb=>qU b || nK b)
def kw:List ByteArray:=[.mk #[97,110,100],.mk #[99,97,108,108],.mk #[101,108,115,101],.mk #[103,108,111,98,97,108,115],.mk #[105,102],.mk #[108,111,99,107],.mk #[108,111,99,107,115],
 .mk #[110,111,116],.mk #[112,114,111,99],.mk #[115,107,105,112],.mk #[115,112,97,119,110],.mk #[117,110,108,111,99,107],.mk #[119,104,105,108,101]]
def cK(s:ByteArray):Bool:=tB s&&!decide (s∈kw)
def kN    :
   aJ tp 202 [.int .u8 (n:Int)] w λr w'=>aB w w'/\(r=.bool (decide ((97:Int)<=(n:Int)/\(n:Int)<=122))):=by
 refine co (g:=kf [] [] []) Tryz.func202 ?_;refine pD<|br (λc1=>?_) λc1=>?_
 ·refine tR ?_;refine⟨xx,?_⟩;simp[c1]
 refine⟨xx,?_⟩;simp[c1]
def nJ    :
   aJ tp 203 [.int .u8 (n:Int)] w λr w'=>aB w w'/\(r=.bool (decide ((48:Int)<=(n:Int)/\(n:Int)<=57))):=by
 refine co (g:=kf [] [] []) Tryz.func203 ?_;refine pD<|br (λc1=>?_) λc1=>?_
 ·refine tR ?_;refine⟨xx,?_⟩;simp[c1]
 refine⟨xx,?_⟩;simp[c1]
def aq    :
   aJ tp 190 [.int .u8 (n:Int)] w λr w'=>aB w w'/\(r=.bool (decide ((97:Int)<=(n:Int)/\(n:Int)<=122))):=by
 refine co (g:=kf [] [] []) Tryz.func190 ?_;refine pD<|br (λc1=>?_) λc1=>?_
 ·refine tR ?_;refine⟨xx,?_⟩;simp[c1]
 refine⟨xx,?_⟩;simp[c1]
def sj    :
   aJ tp 192 [.int .u8 (n:Int)] w λr w'=>aB w w'/\(r=.bool (decide ((48:Int)<=(n:Int)/\(n:Int)<=57))):=by
 refine co (g:=kf [] [] []) Tryz.func192 ?_;refine pD<|br (λc1=>?_) λc1=>?_
 ·refine tR ?_;refine⟨xx,?_⟩;simp[c1]
 refine⟨xx,?_⟩;simp[c1]
def X7(h:0<s.size):(aW s).head?=some ((aW s)[0]'(by rw[dO];exact h)):=by
 rw[List.head?_eq_getElem?,List.getElem?_eq_getElem (by rw[dO];exact h)]
def D1(h:s.size=0):tB s=false:=by
 have:aW s=[]:=qC (by rw[dO];exact h);simp[tB,this]
def Mn(h:12<s.size):tB s=false:=by
 simp[tB,Nat.not_le.2 h]
def Tr(h:0<s.size)(c:¬((97:Int)<=(((aW s)[0]'(by rw[dO];exact h)).toNat:Int)/\(((aW s)[0]'(by rw[dO];exact h)).toNat:Int)<=122)):tB s=false:=by
 have:qU ((aW s)[0]'(by rw[dO];exact h))=false:=by simp only[qU,c,eT]
 simp[tB,X7 h,this]
def L9(h:k<s.size)(c1:¬((97:Int)<=(((aW s)[k]'(by rw[dO];exact h)).toNat:Int)/\(((aW s)[k]'(by rw[dO];exact h)).toNat:Int)<=122))
   (c2:¬((48:Int)<=(((aW s)[k]'(by rw[dO];exact h)).toNat:Int)/\(((aW s)[k]'(by rw[dO];exact h)).toNat:Int)<=57)):tB s=false:=by
 have h1:qU ((aW s)[k]'(by rw[dO];exact h))=false:=by simp only[qU,c1,eT]
 have h2:nK ((aW s)[k]'(by rw[dO];exact h))=false:=by simp only[nK,c2,eT]
 have:(aW s).all (λb=>qU b || nK b)=false:=by
   rw[Ly];exact⟨_,cY (by rw[dO];exact h),by simp[h1,h2]⟩
 simp[tB,this]
def Ec(h:k<s.size)(hi:∀ b∈(aW s).take k,(qU b || nK b)=true)(c:qU ((aW s)[k]'(by rw[dO];exact h))=true\/nK ((aW s)[k]'(by rw[dO];exact h))=true) :
   ∀b∈(aW s).take (k+1),(qU b || nK b)=true:=by
 rw[tk (by rw[dO];exact h)];intro b hb;rcases dF.1 hb with hb|hb
 ·exact hi b hb
 simp only[bF,dL,dI]at hb;subst hb;simpa using c
def T8(h0:0<s.size)(h1:s.size<=12)(c:(97:Int)<=(((aW s)[0]'(by rw[dO];exact h0)).toNat:Int)/\(((aW s)[0]'(by rw[dO];exact h0)).toNat:Int)<=122)(hk:s.size<=k)
   (hi:∀b∈(aW s).take k,(qU b || nK b)=true):tB s=true:=by
 rw[iO (by rw[dO];exact hk)]at hi;have e1:qU ((aW s)[0]'(by rw[dO];exact h0))=true:=by simp only[qU,c,and_self,uN]
 have e2:(aW s).all (λb=>qU b || nK b)=true:=nG.2 hi;simp[tB,X7 h0,e1,e2,h1]
def ef    :
   aJ tp 183 [.string s] w λr w'=>aB w w'/\(r=.bool (tB s)):=by
 refine co (g:=kf [] [(4,68719214604,[3])] []) Tryz.func183 ?_;refine xA u9<|bI<|br (λc1=>?_) λc1=>?_
 ·refine⟨xx,?_⟩;rw[D1 oo]
 refine xA u9<|oN<|br (λc2=>?_) λc2=>?_
 ·refine⟨xx,?_⟩;rw[Mn oo]
 refine uG (i:=0) u9 oo<|(aq ).mM λg0 y1=>mL<|br (λc3=>?_) λc3=>?_
 ·refine⟨y1,?_⟩;rw[Tr oo c3]
 refine bV (s.size) (λk us w'=>us=[iV k]/\aB g0 w'/\(∀b∈(aW s).take k,(qU b || nK b)=true)) (0) oo ⟨ss,xx,ss⟩ ?_;rintro k m4 _ _ _ ⟨hu,y2,C⟩;try replace hu:=cJ hu
 try rw[hu]
 try clear hu
 refine xA u9<|bM<|br (λc4=>?_) λc4=>?_
 ·refine uG u9 oo<|(aq ).mM λ_ y3=>mL<|br (λc5=>?_) λc5=>?_
  ·refine uG u9 oo<|(sj ).mM λ_ y4=>mL<|br (λc6=>?_) λc6=>?_
   ·refine⟨xx,?_⟩;rw[L9 oo c5 c6]
   refine aU<|⟨m4-1,oo,k+1,oo,ss,xx,?_⟩;exact Ec oo C (.inr (by simp only[nK,eK.1 c6,and_self,uN]))
  refine aU<|⟨m4-1,oo,k+1,oo,ss,xx,?_⟩;exact Ec oo C (.inl (by simp only[qU,eK.1 c5,and_self,uN]))
 refine⟨xx,?_⟩;rw[T8 oo oo (eK.1 c3) oo C]
def LN    :
   aJ tp 101 [.string s] w λr w'=>aB w w'/\(r=.bool (cK s)):=by
 refine co (g:=kf [] [] []) Tryz.func101 ?_;refine eX<|br (λc1=>?_) λc1=>?_
 ·refine⟨xx,?_⟩;have hm:s∈kw:=by simp[kw, *]
  simp[cK,hm]
 refine eX<|br (λc2=>?_) λc2=>?_
 ·refine⟨xx,?_⟩;have hm:s∈kw:=by simp[kw, *]
  simp[cK,hm]
 refine eX<|br (λc3=>?_) λc3=>?_
 ·refine⟨xx,?_⟩;have hm:s∈kw:=by simp[kw, *]
  simp[cK,hm]
 refine eX<|br (λc4=>?_) λc4=>?_
 ·refine⟨xx,?_⟩;have hm:s∈kw:=by simp[kw, *]
  simp[cK,hm]
 refine eX<|br (λc5=>?_) λc5=>?_
 ·refine⟨xx,?_⟩;have hm:s∈kw:=by simp[kw, *]
  simp[cK,hm]
 refine eX<|br (λc6=>?_) λc6=>?_
 ·refine⟨xx,?_⟩;have hm:s∈kw:=by simp[kw, *]
  simp[cK,hm]
 refine eX<|br (λc7=>?_) λc7=>?_
 ·refine⟨xx,?_⟩;have hm:s∈kw:=by simp[kw, *]
  simp[cK,hm]
 refine eX<|br (λc8=>?_) λc8=>?_
 ·refine⟨xx,?_⟩;have hm:s∈kw:=by simp[kw, *]
  simp[cK,hm]
 refine eX<|br (λc9=>?_) λc9=>?_
 ·refine⟨xx,?_⟩;have hm:s∈kw:=by simp[kw, *]
  simp[cK,hm]
 refine eX<|br (λg0=>?_) λg0=>?_
 ·refine⟨xx,?_⟩;have hm:s∈kw:=by simp[kw, *]
  simp[cK,hm]
 refine eX<|br (λg1=>?_) λg1=>?_
 ·refine⟨xx,?_⟩;have hm:s∈kw:=by simp[kw, *]
  simp[cK,hm]
 refine eX<|br (λg2=>?_) λg2=>?_
 ·refine⟨xx,?_⟩;have hm:s∈kw:=by simp[kw, *]
  simp[cK,hm]
 refine eX<|br (λg3=>?_) λg3=>?_
 ·refine⟨xx,?_⟩;have hm:s∈kw:=by simp[kw, *]
  simp[cK,hm]
 refine(ef ).mM λ_ y1=>?_;refine⟨y1,?_⟩;have hm:s∉kw:=by simp[kw, *]
 simp[cK,hm]
def cI    :
   aJ tp 131 [.string s] w λr w'=>aB w w'/\(r=.bool (cK s)):=by
 refine co (g:=kf [] [(4,68719214604,[3])] []) Tryz.func131 ?_;refine xA u9<|bM<|br (λc1=>?_) λc1=>?_
 ·refine⟨xx,?_⟩;simp[cK,D1 (s:=s) oo]
 refine xA u9<|oN<|br (λc2=>?_) λc2=>?_
 ·refine⟨xx,?_⟩;simp[cK,Mn (s:=s) oo]
 refine uG (i:=0) u9 oo<|(kN ).mM λg0 y1=>mL<|br (λc3=>?_) λc3=>?_
 ·refine⟨y1,?_⟩;simp[cK,Tr (s:=s) oo c3]
 refine bV (s.size) (λk us w'=>us=[iV k]/\aB g0 w'/\(∀b∈(aW s).take k,(qU b || nK b)=true)) (0) oo ⟨ss,xx,ss⟩ ?_;rintro k m4 _ _ _ ⟨hu,y2,C⟩;try replace hu:=cJ hu
 try rw[hu]
 try clear hu
 refine xA u9<|bM<|br (λc4=>?_) λc4=>?_
 ·refine uG u9 oo<|(kN ).mM λ_ y3=>mL<|br (λc5=>?_) λc5=>?_
  ·refine uG u9 oo<|(nJ ).mM λ_ y4=>mL<|br (λc6=>?_) λc6=>?_
   ·refine⟨xx,?_⟩;simp[cK,L9 (s:=s) oo c5 c6]
   refine aU<|⟨m4-1,oo,k+1,oo,ss,xx,?_⟩;exact Ec oo C (.inr (by simp only[nK,eK.1 c6,and_self,uN]))
  refine aU<|⟨m4-1,oo,k+1,oo,ss,xx,?_⟩;exact Ec oo C (.inl (by simp only[qU,eK.1 c5,and_self,uN]))
 refine eX<|br (λc7=>?_) λc7=>?_
 ·refine⟨xx,?_⟩;have hm:s∈kw:=by simp only[kw,bF, *,true_or,or_true]
  simp[cK,hm]
 refine eX<|br (λc8=>?_) λc8=>?_
 ·refine⟨xx,?_⟩;have hm:s∈kw:=by simp only[kw,bF, *,true_or,or_true]
  simp[cK,hm]
 refine eX<|br (λc9=>?_) λc9=>?_
 ·refine⟨xx,?_⟩;have hm:s∈kw:=by simp only[kw,bF, *,true_or,or_true]
  simp[cK,hm]
 refine eX<|br (λg1=>?_) λg1=>?_
 ·refine⟨xx,?_⟩;have hm:s∈kw:=by simp only[kw,bF, *,true_or,or_true]
  simp[cK,hm]
 refine eX<|br (λg2=>?_) λg2=>?_
 ·refine⟨xx,?_⟩;have hm:s∈kw:=by simp only[kw,bF, *,true_or,or_true]
  simp[cK,hm]
 refine eX<|br (λg3=>?_) λg3=>?_
 ·refine⟨xx,?_⟩;have hm:s∈kw:=by simp only[kw,bF, *,true_or,or_true]
  simp[cK,hm]
 refine eX<|br (λg4=>?_) λg4=>?_
 ·refine⟨xx,?_⟩;have hm:s∈kw:=by simp only[kw,bF, *,true_or,or_true]
  simp[cK,hm]
 refine eX<|br (λg5=>?_) λg5=>?_
 ·refine⟨xx,?_⟩;have hm:s∈kw:=by simp only[kw,bF, *,true_or,or_true]
  simp[cK,hm]
 refine eX<|br (λg9=>?_) λg9=>?_
 ·refine⟨xx,?_⟩;have hm:s∈kw:=by simp only[kw,bF, *,true_or,or_true]
  simp[cK,hm]
 refine eX<|br (λgb=>?_) λgb=>?_
 ·refine⟨xx,?_⟩;have hm:s∈kw:=by simp only[kw,bF, *,true_or,or_true]
  simp[cK,hm]
 refine eX<|br (λgc=>?_) λgc=>?_
 ·refine⟨xx,?_⟩;have hm:s∈kw:=by simp only[kw,bF, *,true_or,or_true]
  simp[cK,hm]
 refine eX<|br (λgd=>?_) λgd=>?_
 ·refine⟨xx,?_⟩;have hm:s∈kw:=by simp only[kw,bF, *,true_or,or_true]
  simp[cK,hm]
 refine eX<|br (λgf=>?_) λgf=>?_
 ·refine⟨xx,?_⟩;have hm:s∈kw:=by simp only[kw,bF, *,true_or,or_true]
  simp[cK,hm]
 refine⟨xx,?_⟩;have hm:s∉kw:=by simp only[kw,bF,dL,dI, *,not_false_eq_true]
 simp[cK,hm,T8 oo oo (eK.1 c3) oo C]
end Go.Proofs.YtcaakhmhlfgogaaGreatDoor
namespace Go.Sh
open Rep (rep)
inductive aA where
 |mk (kind:Int) (name:ByteArray) (term:aD) (body els:List aA)
namespace aA
def kind:aA->Int|.mk k _ _ _ _=>k
def name:aA->ByteArray|.mk _ s _ _ _=>s
def term:aA->aD|.mk _ _ t _ _=>t
def body:aA->List aA|.mk _ _ _ b _=>b
def els:aA->List aA|.mk _ _ _ _ e=>e
def tup(t:aA):Int×ByteArray×aD×List aA×List aA:=(t.kind,t.name,t.term,t.body,t.els)
end aA
def aA.eta(t:aA):aA.mk t.kind t.name t.term t.body t.els=t:=by cases t;rfl
theorem aA.body_lt{t k:aA}(h:k∈t.body):SizeOf.sizeOf k<SizeOf.sizeOf t:=by
 cases t with
 | mk a b c l m=>
   have:k∈l:=h;have:=Ob this;simp only[aA.mk.sizeOf_spec];omega
theorem aA.els_lt{t k:aA}(h:k∈t.els):SizeOf.sizeOf k<SizeOf.sizeOf t:=by
 cases t with
 | mk a b c l m=>
   have:k∈m:=h;have:=Ob this;simp only[aA.mk.sizeOf_spec];omega
theorem aA.ind{p:aA->Prop}(h:∀ t,(∀ k∈t.body,p k)->(∀ k∈t.els,p k)->p t)(t:aA):p t:=
  h t (λk hk=>aA.ind h k) (λk hk=>aA.ind h k)
termination_by SizeOf.sizeOf t
decreasing_by
  ·exact aA.body_lt hk
  exact aA.els_lt hk
def slc(n:Nat)(nl:Prop)(w:wD)(F:List Nat)(c:vL)(C:List Nat->List vL->Prop):Prop:=
 ∃a cap Fi xs,c=.slice a n cap/\n<=cap/\cap<=maxLen/\C Fi xs/\((nl/\F=[])\/∃b o,a=some ⟨b,o,none⟩/\F=b :: Fi/\w.rangeAt b o xs/\b<w.heap.size)
def Y5{n:Nat}{nl:Prop}{w:wD}{F:List Nat}{c:vL}{C:List Nat->List vL->Prop}(h:slc n nl w F c C):c.oneCell'=true:=by
 obtain⟨_,_,_,_,rfl,_⟩:=h;rfl
def pe{w w':wD}{b:Nat}(hb:b<w.heap.size)(h:w'.heap[b]?=w.heap[b]?):b<w'.heap.size:=by
 rcases kR b (Array.size (World.heap w'))with h'|h'
 ·exact h'
 rw[Array.getElem?_eq_none h']at h;simp[Array.getElem?_eq_getElem hb]at h
def Uv{n:Nat}{nl:Prop}{w w':wD}{F:List Nat}{c:vL}{C C':List Nat->List vL->Prop}(h:slc n nl w F c C)(hk:∀ b∈F,w'.heap[b]?=w.heap[b]?)
   (hC:∀Fi xs,C Fi xs->(∀b∈Fi,w'.heap[b]?=w.heap[b]?)->C' Fi xs) (hN:nl->∀Fi xs,C Fi xs->Fi=[]):slc n nl w' F c C':=by
 obtain⟨a,cap,Fi,xs,hc,h1,h2,h3,h4⟩:=h;rcases h4 with⟨hn,rfl⟩|⟨b,o,ha,hF,hr,hb⟩
 ·exact⟨a,cap,Fi,xs,hc,h1,h2,hC _ _ h3 (λb hb=>by rw[hN hn _ _ h3]at hb;cases hb),.inl ⟨hn,rfl⟩⟩
 subst hF;have g0:=hk b ss;exact⟨a,cap,Fi,xs,hc,h1,h2,hC _ _ h3 λc hc=>hk c (by simp[hc]),.inr ⟨b,o,ha,rfl,yT hr g0,pe hb g0⟩⟩
def Ve{n:Nat}{nl:Prop}{w:wD}{F:List Nat}{c:vL}{C:List Nat->List vL->Prop}(h:slc n nl w F c C)(hC:∀ Fi xs,C Fi xs->∀ b∈Fi,b<w.heap.size):∀b∈F,b<w.heap.size:=by
 obtain⟨_,_,Fi,xs,_,_,_,h3,h4⟩:=h;intro c hm;rcases h4 with⟨_,rfl⟩|⟨b,_,_,hF,_,hb⟩
 ·cases hm
 subst hF;rcases bF.1 hm with rfl|hm
 ·exact hb
 exact hC _ _ h3 c hm
mutual
def yM:aA->List Nat->wD->List vL->Prop
  | .mk k s t bs es,F,w,cs=>∃Ft ct Fb cb Fe ce,F=Ft++(Fb++Fe)/\cs=iV k :: .string s :: (ct++[cb,ce])/\bR k/\s.size<=maxLen/\rep Ft w ct t /\
    slc bs.length (bs=[]) w Fb cb (λFi xs=>yA bs Fi w xs)/\slc es.length (es=[]) w Fe ce (λFi xs=>yA es Fi w xs)
def yA:List aA->List Nat->wD->List vL->Prop
  |[],F,_,xs=>F=[]/\xs=[]
  |y :: ys,F,w,xs=>∃F1 F2 c1 c2,F=F1++F2/\xs=c1++c2/\yM y F1 w c1/\yA ys F2 w c2
end
def Xm{l:List aA}(h:l=[]){w:wD}(Fi:List Nat)(xs:List vL)(hc:yA l Fi w xs):Fi=[]:=by
 subst h;rw[yA]at hc;exact hc.1
def zb{t:aA}{F:List Nat}{w:wD}{cs:List vL}(h:yM t F w cs):cs.length=8:=by
 cases t;rw[yM]at h;obtain⟨_,_,_,_,_,_,_,rfl,_,_,ht,_⟩:=h;have:=Rep.len ht;simp only[dA,bX,eU,this];rfl
def ed{t:aA}{F:List Nat}{w:wD}{cs:List vL}(h:yM t F w cs):∀v∈cs,v.oneCell'=true:=by
 cases t;rw[yM]at h;obtain⟨_,_,_,_,_,_,_,rfl,_,_,ht,hb,he⟩:=h;intro v hv;simp only[bF,dF,dL,dI]at hv;rcases hv with rfl|rfl|hv|rfl|rfl
 ·rfl
 ·rfl
 ·exact Rep.one ht v hv
 ·exact Y5 hb
 exact Y5 he
mutual
theorem V6:∀(t:aA){F:List Nat}{w w':wD}{cs:List vL},yM t F w cs->(∀b∈F,w'.heap[b]?=w.heap[b]?)->yM t F w' cs
  | .mk k s t bs es,F,w,w',cs,h,hk=>by
    rw[yM]at h ⊢;obtain⟨Ft,ct,Fb,cb,Fe,ce,hF,hcs,i1,i2,ht,hb,he⟩:=h;subst hF
    exact⟨Ft,ct,Fb,cb,Fe,ce,rfl,hcs,i1,i2,Rep.keep ht λb hb=>hk b (by simp[hb]),
      Uv hb (λb hb=>hk b (by simp[hb])) (λFi xs hc hx=>Kj bs hc hx) λh=>Xm h,
      Uv he (λb hb=>hk b (by simp[hb])) (λFi xs hc hx=>Kj es hc hx) λh=>Xm h⟩
theorem Kj:∀(l:List aA){F:List Nat}{w w':wD}{cs:List vL},yA l F w cs->(∀b∈F,w'.heap[b]?=w.heap[b]?)->yA l F w' cs
  |[],F,w,w',cs,h,_=>by rw[yA]at h ⊢;exact h
  | y :: ys,F,w,w',cs,h,hk=>by
    rw[yA]at h ⊢;obtain⟨F1,F2,c1,c2,rfl,rfl,h1,h2⟩:=h;exact⟨F1,F2,c1,c2,rfl,rfl,V6 y h1 λb hb=>hk b (by simp[hb]),Kj ys h2 λb hb=>hk b (by simp[hb])⟩
end
mutual
theorem q7:∀(t:aA){F:List Nat}{w:wD}{cs:List vL},yM t F w cs->∀b∈F,b<w.heap.size
  | .mk k s t bs es,F,w,cs,h,c,hm=>by
    rw[yM]at h;obtain⟨Ft,ct,Fb,cb,Fe,ce,hF,hcs,i1,i2,ht,hb,he⟩:=h;subst hF;rcases dF.1 hm with hm|hm
    ·exact Rep.lt ht c hm
    rcases dF.1 hm with hm|hm
    ·exact Ve hb (λFi xs hc=>Jd bs hc) c hm
    exact Ve he (λFi xs hc=>Jd es hc) c hm
theorem Jd:∀(l:List aA){F:List Nat}{w:wD}{cs:List vL},yA l F w cs->∀b∈F,b<w.heap.size
  |[],F,w,cs,h,c,hm=>by rw[yA]at h;rw[h.1]at hm;cases hm
  | y :: ys,F,w,cs,h,c,hm=>by
    rw[yA]at h;obtain⟨F1,F2,c1,c2,rfl,rfl,h1,h2⟩:=h;rcases dF.1 hm with hm|hm
    ·exact q7 y h1 c hm
    exact Jd ys h2 c hm
end
instance:Rep aA where
 size:=8
 agg:=true
 rep F w cs x:=yM x F w cs
 pos:=by decide
 sz h:=by cases h
 len h:=zb h
 one h:=ed h
 keep h hk:=V6 _ h hk
 lt h:=q7 _ h
theorem Aw{w:wD}:∀{l:List aA}{F:List Nat}{xs:List vL},yA l F w xs↔aO F w xs l
 |[],F,xs=>by rw[yA];exact Iff.rfl
 | y :: ys,F,xs=>by
   rw[yA];constructor
   ·rintro⟨F1,F2,c1,c2,h1,h2,h3,h4⟩;exact⟨F1,F2,c1,c2,h1,h2,h3,Aw.1 h4⟩
   rintro⟨F1,F2,c1,c2,h1,h2,h3,h4⟩;exact⟨F1,F2,c1,c2,h1,h2,h3,Aw.2 h4⟩
def TS{w:wD}{F:List Nat}{c:vL}{l:List aA}:slc l.length (l=[]) w F c (λFi xs=>yA l Fi w xs)↔rep F w [c] l:=by
 constructor
 ·rintro⟨a,cap,Fi,xs,rfl,h1,h2,h3,h4⟩;exact⟨a,cap,Fi,xs,rfl,h1,h2,Aw.1 h3,h4⟩
 rintro⟨a,cap,Fi,xs,hc,h1,h2,h3,h4⟩;exact⟨a,cap,Fi,xs,by simpa using hc,h1,h2,Aw.2 h3,h4⟩
def WA{w:wD}{F:List Nat}{cs:List vL}{l:List aA}(h:rep F w cs l):∃c,cs=[c]:=by
 obtain⟨_,_,_,_,rfl,_⟩:=h;exact⟨_,rfl⟩
def GW{w:wD}{F:List Nat}{cs:List vL}{t:aA}:rep F w cs t↔rep F w cs t.tup:=by
 obtain⟨k,s,t,_,_⟩:=t;show yM _ F w cs↔_;rw[yM];constructor
 ·rintro⟨Ft,ct,Fb,cb,Fe,ce,rfl,rfl,i1,i2,ht,hb,he⟩;exact⟨[],_,[iV k],_,rfl,rfl,⟨rfl,rfl,i1⟩,[],_,[.string s],_,rfl,rfl,⟨rfl,rfl,i2⟩,Ft,Fb++Fe,ct,[cb,ce],rfl,rfl,ht,Fb,Fe,[cb],[ce],rfl,rfl,TS.1 hb,TS.1 he⟩
 rintro⟨_,_,_,_,rfl,rfl,⟨rfl,rfl,i1⟩,_,_,_,_,rfl,rfl,⟨rfl,rfl,i2⟩,Ft,_,ct,_,rfl,rfl,ht,Fb,Fe,_,_,rfl,rfl,hb,he⟩;obtain⟨cb,rfl⟩:=WA hb;obtain⟨ce,rfl⟩:=WA he;exact⟨Ft,ct,Fb,cb,Fe,ce,rfl,rfl,i1,i2,ht,TS.2 hb,TS.2 he⟩
def U5{w:wD}{b o:Nat}{t:aA}:At w b o t↔At w b o t.tup:=
 ⟨λ⟨F,cs,h,k⟩=>⟨F,cs,GW.1 h,k⟩,λ⟨F,cs,h,k⟩=>⟨F,cs,GW.2 h,k⟩⟩
def J6{w:wD}{G:List Nat}{b o:Nat}{t:aA}:nL G w b o t↔nL G w b o t.tup:=
 ⟨λ⟨cs,h,k⟩=>⟨cs,GW.1 h,k⟩,λ⟨cs,h,k⟩=>⟨cs,GW.2 h,k⟩⟩
section
variable {w:wD}{b o:Nat}{x:aA}
def yI(h:At w b o x):At w b (o+0) x.kind:=qI (α:=Int) (β:=ByteArray×aD×List aA×List aA) (p:=x.tup) (U5.1 h)
def U1(h:At w b o x):At w b (o+1) (x.name,x.term,x.body,x.els):=kE (α:=Int) (β:=ByteArray×aD×List aA×List aA) (p:=x.tup) (U5.1 h)
def qF(h:At w b o x):At w b (o+1) x.name:=qI (α:=ByteArray) (β:=aD×List aA×List aA) (p:=(x.name,x.term,x.body,x.els)) (U1 h)
def Sv(h:At w b o x):At w b (o+2) (x.term,x.body,x.els):=kE (α:=ByteArray) (β:=aD×List aA×List aA) (p:=(x.name,x.term,x.body,x.els)) (U1 h)
def wV(h:At w b o x):At w b (o+2) x.term:=qI (α:=aD) (β:=List aA×List aA) (p:=(x.term,x.body,x.els)) (Sv h)
def L0(h:At w b o x):At w b (o+6) (x.body,x.els):=kE (α:=aD) (β:=List aA×List aA) (p:=(x.term,x.body,x.els)) (Sv h)
def AO(h:At w b o x):At w b (o+6) x.body:=qI (α:=List aA) (β:=List aA) (p:=(x.body,x.els)) (L0 h)
def yC(h:At w b o x):At w b (o+7) x.els:=kE (α:=List aA) (β:=List aA) (p:=(x.body,x.els)) (L0 h)
def iu{F0:List Nat}{c0:List vL}(h0:rep F0 w c0 x.kind){F1:List Nat}{c1:List vL}(h1:rep F1 w c1 x.name){F2:List Nat}{c2:List vL}(h2:rep F2 w c2 x.term){F3:List Nat}{c3:List vL}(h3:rep F3 w c3 x.body){F4:List Nat}{c4:List vL}(h4:rep F4 w c4 x.els) :
   rep (F0++(F1++(F2++(F3++F4)))) w (c0++(c1++(c2++(c3++c4)))) x:=GW.2 (oO h0 (oO h1 (oO h2 (oO h3 h4))))
end
def bT.stmt{w:wD}{γ:Type}{H:List Nat->wD->γ->Prop}{F:List Nat}{b o:Nat}{G:List Nat}{t:aA}{upd:aA->γ}(h:bT H F w b o G t upd) :
   bT H F w b o G t.tup (λp=>upd (.mk p.1 p.2.1 p.2.2.1 p.2.2.2.1 p.2.2.2.2)):=
 ⟨J6.1 h.here,h.sub,λw' G' y' hc hO hs=>h.back w' G' _ hc (J6.2 hO) hs⟩
instance:aV aA:=⟨.mk 0 ByteArray.empty aV.zv [] [],aV.zc (Int×ByteArray×aD×List aA×List aA),λw=>GW.2 (aV.zr (α:=Int×ByteArray×aD×List aA×List aA) w)⟩
section
variable {γ:Type}{H:List Nat->wD->γ->Prop}{F:List Nat}{w:wD}{b o:Nat}{G:List Nat}{x:aA}{upd:aA->γ}
def Vh(h:bT H F w b o G x upd):∃G1,bT H F w b (o+1) G1 x.name (λy=>upd (.mk x.kind y x.term x.body x.els)):=by
 obtain⟨G1,h1⟩:=h.stmt.snd;obtain⟨G2,h2⟩:=h1.fst;exact⟨G2,h2⟩
def ni(h:bT H F w b o G x upd):∃G1,bT H F w b (o+2) G1 x.term (λy=>upd (.mk x.kind x.name y x.body x.els)):=by
 obtain⟨G1,h1⟩:=h.stmt.snd;obtain⟨_,h2⟩:=h1.snd;obtain⟨G3,h3⟩:=h2.fst;exact⟨G3,h3⟩
def Qk(h:bT H F w b o G x upd):∃G1,bT H F w b (o+6) G1 x.body (λy=>upd (.mk x.kind x.name x.term y x.els)):=by
 obtain⟨G1,h1⟩:=h.stmt.snd;obtain⟨_,h2⟩:=h1.snd;obtain⟨_,h3⟩:=h2.snd;obtain⟨G4,h4⟩:=h3.fst;exact⟨G4,h4⟩
def Nw(h:bT H F w b o G x upd):∃G1,bT H F w b (o+7) G1 x.els (λy=>upd (.mk x.kind x.name x.term x.body y)):=by
 obtain⟨G1,h1⟩:=h.stmt.snd;obtain⟨_,h2⟩:=h1.snd;obtain⟨_,h3⟩:=h2.snd;obtain⟨G4,h4⟩:=h3.snd;exact⟨G4,h4⟩
end
structure aQ where
 name:ByteArray
 body:List aA
def aQ.ext_iff{x y:aQ}:x=y↔(x.name=y.name/\x.body=y.body):=⟨λh=>by rw[h];exact⟨rfl,rfl⟩,λh=>by obtain⟨h0,h1⟩:=h;cases x;cases y;simp only at h0 h1;simp only[h0,h1]⟩
instance:Rep aQ:=Rep.via λx=>(x.name,x.body)
def OB{w:wD}{b o:Nat}{x:aQ}(h:At w b o x):At w b (o+0) x.name:=qI (α:=ByteArray) (β:=(List aA)) (p:=(x.name,x.body)) h
def UH{w:wD}{b o:Nat}{x:aQ}(h:At w b o x):At w b (o+1) x.body:=kE (α:=ByteArray) (β:=(List aA)) (p:=(x.name,x.body)) h
instance:aV aQ:=⟨⟨(aV.zv:ByteArray),(aV.zv:List aA)⟩,aV.zc (ByteArray×(List aA)),λw=>aV.zr (α:=ByteArray×(List aA)) w⟩
structure aY where
 B:List ByteArray
 L:List ByteArray
 P:List aQ
def aY.ext_iff{x y:aY}:x=y↔(x.B=y.B/\x.L=y.L/\x.P=y.P):=⟨λh=>by rw[h];exact⟨rfl,rfl,rfl⟩,λh=>by obtain⟨h0,h1,h2⟩:=h;cases x;cases y;simp only at h0 h1 h2;simp only[h0,h1,h2]⟩
instance:Rep aY:=Rep.via λx=>(x.B,x.L,x.P)
def GF{w:wD}{b o:Nat}{x:aY}(h:At w b o x):At w b (o+0) x.B:=qI (α:=List ByteArray) (β:=(List ByteArray)×(List aQ)) (p:=(x.B,x.L,x.P)) h
def IN{w:wD}{b o:Nat}{x:aY}(h:At w b o x):At w b (o+1) x.L:=qI (α:=List ByteArray) (β:=(List aQ)) (p:=(x.L,x.P)) (kE (α:=List ByteArray) (β:=(List ByteArray)×(List aQ)) (p:=(x.B,x.L,x.P)) h)
def uV{w:wD}{b o:Nat}{x:aY}(h:At w b o x):At w b (o+2) x.P:=kE (α:=List ByteArray) (β:=(List aQ)) (p:=(x.L,x.P)) (kE (α:=List ByteArray) (β:=(List ByteArray)×(List aQ)) (p:=(x.B,x.L,x.P)) h)
instance:aV aY:=⟨⟨(aV.zv:List ByteArray),(aV.zv:List ByteArray),(aV.zv:List aQ)⟩,aV.zc ((List ByteArray)×(List ByteArray)×(List aQ)),λw=>aV.zr (α:=(List ByteArray)×(List ByteArray)×(List aQ)) w⟩
section
variable {w:wD}{lo hi:Nat}
def FT{k n:Int}{s:ByteArray}{v:vL}{l:List aD}(hk:bR k)(hn:bR n)(hs:s.size<=maxLen)(h:aK lo hi w v l):aK lo hi w (.agg #[iV k,iV n,.string s,v]) (aD.mk k n s l):=by
 obtain⟨F,⟨⟨_,hr,rfl⟩,g0,hw⟩,hF⟩:=h;obtain⟨a,cap,Fi,xs,rfl,h1,h2,hc,h4⟩:=hr;exact⟨F,⟨⟨_,km (x:=.mk k n s l) (F0:=[]) (F1:=[]) (F2:=[]) ⟨rfl,rfl,hk⟩ ⟨rfl,rfl,hn⟩ ⟨rfl,rfl,hs⟩ ⟨a,cap,Fi,xs,rfl,h1,h2,hc,h4⟩,rfl⟩,g0,hw⟩,hF⟩
def RQ{v:vL}{t:aD}(h:Is w v t):∃a cap,v=.agg #[iV t.kind,iV t.num,.string t.name,.slice a t.kids.length cap]:=by
 obtain⟨F,cs,hr,rfl⟩:=h;obtain⟨k,n,s,ks⟩:=t;rw[show rep F w cs (aD.mk k n s ks)=yR (.mk k n s ks) F w cs from rfl,yR]at hr;obtain⟨a,cap,_,_,rfl,_⟩:=hr;exact⟨a,cap,rfl⟩
def zj{k:Int}{s:ByteArray}{t:aD}{vb ve:vL}{bs es:List aA}{tc:Array vL}{l0 h0 l1 h1 l2 h2:Nat}(hk:bR k)(hs:s.size<=maxLen)(ht:aK l0 h0 w (.agg tc) t)(hb:aK l1 h1 w vb bs)(he:aK l2 h2 w ve es)
   (d01:h0<=l1\/h1<=l0) (d02:h0<=l2\/h2<=l0) (d12:h1<=l2\/h2<=l1) (b0:lo<=l0/\h0<=hi) (b1:lo<=l1/\h1<=hi) (b2:lo<=l2/\h2<=hi) :
   aK lo hi w (.agg ([Value.int .i64 k,Value.string s]++tc.toList++[vb,ve]).toArray) (aA.mk k s t bs es):=by
 obtain⟨F0,⟨⟨c0,r0,e0⟩,n0,w0⟩,B0⟩:=ht;obtain⟨F1,⟨⟨_,r1,e1⟩,n1,w1⟩,B1⟩:=hb;obtain⟨F2,⟨⟨_,r2,e2⟩,n2,w2⟩,B2⟩:=he
 have g0:tc.toList=c0:=by
   simp only[fF,Rep.agg,cond_true,Value.agg.injEq]at e0;rw[e0]
 obtain⟨_,rfl⟩:=WA r1;obtain⟨_,rfl⟩:=WA r2;simp only[fF,Rep.agg,cond_false,EM]at e1 e2;subst e1 e2;refine⟨F0++(F1++F2),⟨⟨_,iu (x:=.mk k s t bs es) (F0:=[]) (F1:=[]) ⟨rfl,rfl,hk⟩ ⟨rfl,rfl,hs⟩ r0 r1 r2,?_⟩,?_,w0.append (w1.append w2)⟩,λx hx=>?_⟩
 ·rw[g0];simp[fF,Rep.agg,aA.kind,aA.name]
 ·rw[oE,oE];refine⟨n0,⟨n1,n2,λp hp q hq e=>?_⟩,λp hp q hq e=>?_⟩
  ·subst e;have:=B1 p hp;have:=B2 p hq;omega
  subst e;have:=B0 p hp;rcases dF.1 hq with hq|hq
  ·have:=B1 p hq;omega
  have:=B2 p hq;omega
 rcases dF.1 hx with hx|hx
 ·have:=B0 x hx;omega
 rcases dF.1 hx with hx|hx
 ·have:=B1 x hx;omega
 have:=B2 x hx;omega
end
end Go.Sh
namespace Go.Proofs.YtcaakhmhlfgogaaGreatDoor
open Go Go.Sh Go.Proofs
open Rep (rep)
variable {b i j o:Nat}{w:wD}
structure aT where
 kind:Int
 text:ByteArray
 at_:Int
def aT.ext_iff{x y:aT}:x=y↔(x.kind=y.kind/\x.text=y.text/\x.at_=y.at_):=⟨λh=>by rw[h];exact⟨rfl,rfl,rfl⟩,λh=>by obtain⟨h0,h1,h2⟩:=h;cases x;cases y;simp only at h0 h1 h2;simp only[h0,h1,h2]⟩
instance:DecidableEq aT:=λx y=>decidable_of_iff (x.kind=y.kind/\x.text=y.text/\x.at_=y.at_) aT.ext_iff.symm
instance:Rep aT:=Rep.via λx=>(x.kind,x.text,x.at_)
def xz{x:aT}(h:At w b o x):At w b (o+1) x.text:=qI (α:=ByteArray) (β:=Int) (p:=(x.text,x.at_)) (kE (α:=Int) (β:=ByteArray×Int) (p:=(x.kind,x.text,x.at_)) h)
def sy{x:aT}(h:At w b o x):At w b (o+2) x.at_:=kE (α:=ByteArray) (β:=Int) (p:=(x.text,x.at_)) (kE (α:=Int) (β:=ByteArray×Int) (p:=(x.kind,x.text,x.at_)) h)
instance:aV aT:=⟨⟨(aV.zv:Int),(aV.zv:ByteArray),(aV.zv:Int)⟩,aV.zc (Int×ByteArray×Int),λw=>aV.zr (α:=Int×ByteArray×Int) w⟩
def ej{x:aT}(h_kind:bR x.kind)(h_text:x.text.size<=maxLen)(h_at_:bR x.at_):aZ [] w (.agg #[iV x.kind,.string x.text,iV x.at_]) x:=⟨⟨[iV x.kind,.string x.text,iV x.at_],⟨[],[],[iV x.kind],[.string x.text,iV x.at_],rfl,rfl,⟨rfl,rfl,h_kind⟩,⟨[],[],[.string x.text],[iV x.at_],rfl,rfl,⟨rfl,rfl,h_text⟩,⟨rfl,rfl,h_at_⟩⟩⟩,rfl⟩,kM,Wr.nil w⟩
instance:dN aT:=⟨λh=>dN.flat (α:=Int×ByteArray×Int) h⟩
structure bY where
 code:Int
 at_:Int
def bY.ext_iff{x y:bY}:x=y↔(x.code=y.code/\x.at_=y.at_):=⟨λh=>by rw[h];exact⟨rfl,rfl⟩,λh=>by obtain⟨h0,h1⟩:=h;cases x;cases y;simp only at h0 h1;simp only[h0,h1]⟩
instance:DecidableEq bY:=λx y=>decidable_of_iff (x.code=y.code/\x.at_=y.at_) bY.ext_iff.symm
instance:Rep bY:=Rep.via λx=>(x.code,x.at_)
instance:aV bY:=⟨⟨(aV.zv:Int),(aV.zv:Int)⟩,aV.zc (Int×Int),λw=>aV.zr (α:=Int×Int) w⟩
def zyF{x:bY}(h_code:bR x.code)(h_at_:bR x.at_):aZ [] w (.agg #[iV x.code,iV x.at_]) x:=⟨⟨[iV x.code,iV x.at_],⟨[],[],[iV x.code],[iV x.at_],rfl,rfl,⟨rfl,rfl,h_code⟩,⟨rfl,rfl,h_at_⟩⟩,rfl⟩,kM,Wr.nil w⟩
instance:dN bY:=⟨λh=>dN.flat (α:=Int×Int) h⟩
def cV(L:List aT)(i:Nat):ByteArray:=match L[i]? with|some x=>x.text|none=>ByteArray.mk #[]
def GG(L:List aT)(i:Nat):Int:=match L[i]? with|some x=>x.kind|none=>0
def mQ(L:List aT)(e:Int)(c:Int)(i:Nat):bY:=⟨c,match L[i]? with|some x=>x.at_|none=>e⟩
def UT{L:List aT}(h:i<L.length):L[i].text=cV L i:=by unfold cV;rw[List.getElem?_eq_getElem h]
def Co{L:List aT}(h:i<L.length):L[i].kind=GG L i:=by unfold GG;rw[List.getElem?_eq_getElem h]
def W5{L:List aT}{e c:Int}(h:i<L.length):mQ L e c i=⟨c,L[i].at_⟩:=by unfold mQ;rw[List.getElem?_eq_getElem h]
def V9{L:List aT}{e c:Int}(h:L.length<=i):mQ L e c i=⟨c,e⟩:=by unfold mQ;rw[List.getElem?_eq_none h]
def RX{L:List aT}(h:L.length<=i):cV L i=ByteArray.mk #[]:=by unfold cV;rw[List.getElem?_eq_none h]
def Lr{L:List aT}(h:L.length<=i):GG L i=0:=by unfold GG;rw[List.getElem?_eq_none h]
def eE(L:List aT)(i:Nat)(t:ByteArray):Prop:=cV L i=t
instance(L:List aT)(i:Nat)(t:ByteArray):Decidable (eE L i t):=inferInstanceAs (Decidable (cV L i=t))
def MF{L:List aT}{t:ByteArray}(h:eE L i t)(ht:t≠ByteArray.mk #[]):i<L.length:=by
 rcases kR i L.length with h1|h1
 ·exact h1
 exact absurd (h.symm.trans (RX h1)) ht
def sE(l:List UInt8):Int:=l.foldl (λn b=>n*10+((b.toNat:Int)-48)) 0
abbrev Rd(α:Type):=Except bY (α×Nat)
def Rd.go{α β:Type}:Rd α->(α->Nat->Rd β)->Rd β
 |.error f,_=>.error f
 |.ok (x,i),k=>k x i
def DF:ByteArray:=.mk #[40]
def zF:ByteArray:=.mk #[41]
def wY:ByteArray:=.mk #[110,111,116]
def NB:ByteArray:=.mk #[61]
def kX:ByteArray:=.mk #[59]
def GP:ByteArray:=.mk #[44]
def AD:ByteArray:=.mk #[123]
def rU:ByteArray:=.mk #[125]
def tM:ByteArray:=.mk #[101,108,115,101]
def zG:ByteArray:=.mk #[112,114,111,99]
def DZ:ByteArray:=.mk #[103,108,111,98,97,108,115]
def lE:ByteArray:=.mk #[108,111,99,107,115]
def fM:List ByteArray:=[.mk #[],.mk #[],.mk #[],.mk #[43],.mk #[45],.mk #[42],.mk #[60],.mk #[61,61],.mk #[110,111,116],.mk #[97,110,100]]
def oV:List ByteArray:=[.mk #[],.mk #[],.mk #[105,102],.mk #[119,104,105,108,101],.mk #[99,97,108,108],.mk #[115,112,97,119,110],.mk #[108,111,99,107],.mk #[117,110,108,111,99,107],.mk #[115,107,105,112]]
def vP(t:ByteArray):Nat:=if t=.mk #[43]then 3 else if t=.mk #[45]then 4 else if t=.mk #[42]then 5 else if t=.mk #[60]then 6 else if t=.mk #[61,61]then 7 else if t=.mk #[97,110,100]then 9 else 0
def fQ(t:ByteArray):Nat:=if t=.mk #[105,102]then 2 else if t=.mk #[119,104,105,108,101]then 3 else if t=.mk #[99,97,108,108]then 4 else if t=.mk #[115,112,97,119,110]then 5 else if t=.mk #[108,111,99,107]then 6
 else if t=.mk #[117,110,108,111,99,107]then 7 else if t=.mk #[115,107,105,112]then 8 else if cK t=true then 1 else 0
def Jg{L:List aT}(h:cK (cV L i)=true):i<L.length:=by
 rcases kR i L.length with h1|h1
 ·exact h1
 rw[RX h1]at h;cases h
def i6{L:List aT}(h:fQ (cV L i)≠0):i<L.length:=by
 rcases kR i L.length with h1|h1
 ·exact h1
 rw[RX h1]at h;exact absurd dD h
def lS:ByteArray:=.mk #[]
def JB:aD:=.mk 0 0 lS []
section
variable (L:List aT)(e:Int)
def rP(t:ByteArray)(i:Nat):Rd Unit:=if eE L i t then .ok ((),i+1)else .error (mQ L e 3 i)
def uZ(i:Nat):Rd ByteArray:=if cK (cV L i)=true then .ok (cV L i,i+1)else .error (mQ L e 3 i)
def tT(rec:Nat->Rd aD)(i:Nat):Rd aD:=
 if eE L i wY then(rec (i+1)).go λt j=>(rP L e zF j).go λ_ j=>.ok (.mk 8 0 lS [t],j)
 else(rec i).go λa j=>if vP (cV L j)=0 then .error (mQ L e 3 j)else(rec (j+1)).go λb j2=>(rP L e zF j2).go λ_ j3=>.ok (.mk (vP (cV L j):Int) 0 lS [a,b],j3)
def yB(inner:Nat->Rd aD)(i:Nat):Rd aD:=
 if cK (cV L i)=true then .ok (.mk 2 0 (cV L i) [],i+1)
 else if GG L i=2 then .ok (.mk 1 (sE (aW (cV L i))) lS [],i+1)
 else if eE L i DF then inner i else .error (mQ L e 3 i)
def sG:Nat->Nat->Rd aD
 |0,i=>yB L e (λi=>.error (mQ L e 4 i)) i
 |r+1,i=>yB L e (λi=>tT L e (sG r) (i+1)) i
abbrev nV:=Nat->Nat->Rd (List aA×Nat)
def pV(blk:nV)(k q i:Nat):Rd (aA×Nat):=
 if k=1 then(rP L e NB (i+1)).go λ_ j=>(sG L e 6 j).go λt j=>(rP L e kX j).go λ_ j=>.ok ((.mk 1 (cV L i) t [] [],q),j)
 else if k=8 then(rP L e kX (i+1)).go λ_ j=>.ok ((.mk 8 lS JB [] [],q),j)
 else if k=2\/k=3 then(sG L e 6 (i+1)).go λt j=>(blk q j).go λb j=>
   if k=3\/¬eE L j tM then .ok ((.mk (k:Int) lS t b.1 [],b.2),j)
   else if eE L (j+1) AD/\eE L (j+2) rU then .error (mQ L e 3 (j+2))
   else(blk b.2 (j+1)).go λc j=>.ok ((.mk (k:Int) lS t b.1 c.1,c.2),j)
 else(uZ L e (i+1)).go λs j=>(rP L e kX j).go λ_ j=>.ok ((.mk (k:Int) s JB [] [],q),j)
def tS(stmts:nV):nV:=λq i=>(rP L e AD i).go λ_ j=>(stmts q j).go λb j=>(rP L e rU j).go λ_ j=>.ok (b,j)
def yS(deep:Bool)(blk:nV):Nat->nV
 |0,_,i=>.error (mQ L e 5 i)
 | n+1,q,i=>
   if fQ (cV L i)=0 then .ok (([],q),i)
   else if (fQ (cV L i)=2\/fQ (cV L i)=3)/\deep=true then .error (mQ L e 4 i)
   else if q=0 then .error (mQ L e 5 i)
   else(pV L e blk (fQ (cV L i)) (q-1) i).go λs j=>(yS deep blk n s.2 j).go λl j=>.ok ((s.1 :: l.1,l.2),j)
def qV:Nat->nV
 |0=>λq i=>yS L e true (λ_ i=>.error (mQ L e 4 i)) (q+1) q i
 |r+1=>λq i=>yS L e false (tS L e (qV r)) (q+1) q i
def wK:Nat->Nat->Rd (List ByteArray)
 |0,i=>if cK (cV L i)=true then .error (mQ L e 5 i)else .error (mQ L e 3 i)
 |d+1,i=>(uZ L e i).go λs j=>if eE L j GP then(wK d (j+1)).go λl j=>.ok (s :: l,j)else(rP L e kX j).go λ_ j=>.ok ([s],j)
def BV(word:ByteArray)(i:Nat):Rd (List ByteArray):=(rP L e word i).go λ_ j=>if eE L j kX then .ok ([],j+1)else wK L e 6 j
def rX:Nat->Nat->Rd (List aQ)
 |0,i=>if L.length<=i then .ok ([],i)else if eE L i zG then .error (mQ L e 5 i)else .error (mQ L e 3 i)
 |d+1,i=>if L.length<=i then .ok ([],i)else(rP L e zG i).go λ_ j=>(uZ L e j).go λs j=>(tS L e (qV L e 6) 60 j).go λb j=>(rX d j).go λl j=>.ok (⟨s,b.1⟩ :: l,j)
def xR:Rd aY:=(BV L e DZ 0).go λg j=>(BV L e lE j).go λl j=>(rX L e 8 j).go λp j=>.ok (⟨g,l,p⟩,j)
end
theorem lC{α β:Type}{r:Rd α}{k:α->Nat->Rd β}{y:β}(h:r.go k=.ok (y,j)):∃x i,r=.ok (x,i)/\k x i=.ok (y,j):=by
 match r,h with
 |.ok (x,i),h=>exact⟨x,i,rfl,h⟩
section
variable {L:List aT}{e:Int}
def JX(b:nV):Prop:=∀q i l q' j,b q i=.ok ((l,q'),j)->q'<=q
def ay{b:nV}(h:JX b):JX (tS L e b):=λq i l q' j hb=>by
 unfold tS at hb;obtain⟨_,i1,_,hb⟩:=lC hb;obtain⟨⟨l2,q2⟩,i2,h2,hb⟩:=lC hb;obtain⟨_,i3,_,hb⟩:=lC hb;simp only[Except.ok.injEq,mV]at hb;have:=h _ _ _ _ _ h2;omega
def Ds{b:nV}(h:JX b){k q i:Nat}{s:aA}{q' j:Nat}(hb:pV L e b k q i=.ok ((s,q'),j)):q'<=q:=by
 unfold pV at hb;split at hb
 ·obtain⟨_,i1,_,hb⟩:=lC hb;obtain⟨_,i2,_,hb⟩:=lC hb;obtain⟨_,_,_,hb⟩:=lC hb;simp only[Except.ok.injEq,mV]at hb;omega
 split at hb
 ·obtain⟨_,i1,_,hb⟩:=lC hb;simp only[Except.ok.injEq,mV]at hb;omega
 split at hb
 ·obtain⟨_,i1,_,hb⟩:=lC hb;obtain⟨⟨_,_⟩,i2,h2,hb⟩:=lC hb;have:=h _ _ _ _ _ h2;split at hb
  ·simp only[Except.ok.injEq,mV]at hb;omega
  split at hb
  ·cases hb
  obtain⟨⟨_,_⟩,_,h4,hb⟩:=lC hb;have h5:=h _ _ _ _ _ h4;simp only[Except.ok.injEq,mV]at hb h5;omega
 obtain⟨_,i1,_,hb⟩:=lC hb;obtain⟨_,i2,_,hb⟩:=lC hb;simp only[Except.ok.injEq,mV]at hb;omega
theorem Li{deep:Bool}{b:nV}(h:JX b):∀n,JX (yS L e deep b n)
 |0=>λq i l q' j hb=>by cases hb
 | n+1=>λq i l q' j hb=>by
   unfold yS at hb;split at hb
   ·simp only[Except.ok.injEq,mV]at hb;omega
   split at hb
   ·cases hb
   split at hb
   ·cases hb
   obtain⟨⟨s,q2⟩,i2,h2,hb⟩:=lC hb;obtain⟨⟨l3,q3⟩,i3,h3,hb⟩:=lC hb;have h4:=Ds h h2;have h5:=Li h n _ _ _ _ _ h3;simp only[Except.ok.injEq,mV]at hb h5;omega
theorem V5:∀r,JX (qV L e r)
 |0=>λq=>Li (λ_ _ _ _ _ h=>by cases h) _ q
 |r+1=>λq=>Li (ay (V5 r)) _ q
theorem Zy{deep:Bool}{b:nV}(h:JX b):∀(n m q i:Nat),q<n->q<m->yS L e deep b n q i=yS L e deep b m q i
 |0,m,q,i,h1,_=>oo
 |n+1,0,q,i,_,h2=>oo
 | n+1,m+1,q,i,h1,h2=>by
   rw[yS,yS];split
   ·rfl
   split
   ·rfl
   split
   ·rfl
   rename_i hq
   match hs:pV L e b (fQ (cV L i)) (q-1) i with
   |.error f=>rfl
   | .ok ((s,q2),j)=>
     have:=Ds h hs;simp only[Rd.go];rw[Zy h n m q2 j oo oo]
theorem zwj{deep:Bool}{b:nV}(h:JX b)(q i:Nat):yS L e deep b (q+1) q i =
   if fQ (cV L i)=0 then .ok (([],q),i)
   else if (fQ (cV L i)=2\/fQ (cV L i)=3)/\deep=true then .error (mQ L e 4 i)
   else if q=0 then .error (mQ L e 5 i)
   else(pV L e b (fQ (cV L i)) (q-1) i).go λs j=>(yS L e deep b (s.2+1) s.2 j).go λl j=>.ok ((s.1 :: l.1,l.2),j):=by
 rw[yS];split
 ·rfl
 split
 ·rfl
 split
 ·rfl
 rename_i hq
 match hs:pV L e b (fQ (cV L i)) (q-1) i with
 |.error f=>rfl
 | .ok ((s,q2),j)=>
   have:=Ds h hs;simp only[Rd.go];rw[Zy h q (q2+1) q2 j oo oo]
def pre{α:Type}(dn:List α)(r:Rd (List α×Nat)):Rd (List α×Nat):=r.go λl j=>.ok ((dn++l.1,l.2),j)
theorem nh{α:Type}(r:Rd (List α×Nat)):pre [] r=r:=by
 match r with
 |.error f=>rfl
 |.ok ((l,q),j)=>rfl
theorem ik{α β:Type}{dn:List α}{s:α}(r:Rd (List α×Nat)):pre dn (r.go λl j=>.ok ((s :: l.1,l.2),j))=pre (dn++[s]) r:=by
 match r with
 |.error f=>rfl
 |.ok ((l,q),j)=>simp[pre,Rd.go]
end
open Go.Shelf
def Tryz.laysM171_ren:Go.Shelf.Ren:=⟨fun|171=>59|243=>127|246=>201|283=>256|284=>257|285=>258|286=>259|129=>229|317=>298|318=>299|319=>300|320=>301|337=>313|338=>314|n=>n,fun|3=>3|9=>9|2=>2|4=>4|171=>270|0=>0|53=>207|37=>24|5=>5|173=>272|212=>302|51=>258|20=>20|213=>303|46=>187|232=>315|233=>316|n=>n,fun|17=>1|18=>2|19=>3|n=>n⟩
def Tryz.laysM171:Go.Proofs.LaysM.n171 tp Tryz.laysM171_ren where
 mixed:=by kernel_rfl
 f129:=Tryz.func229.trans (cS some kK)
 f171:=Tryz.func59.trans (cS some kK)
 f243:=Tryz.func127.trans (cS some kK)
 f246:=Tryz.func201.trans (cS some kK)
 f283:=Tryz.func256.trans (cS some kK)
 f284:=Tryz.func257.trans (cS some kK)
 f285:=Tryz.func258.trans (cS some kK)
 f286:=Tryz.func259.trans (cS some kK)
 f317:=Tryz.func298.trans (cS some kK)
 f318:=Tryz.func299.trans (cS some kK)
 f319:=Tryz.func300.trans (cS some kK)
 f320:=Tryz.func301.trans (cS some kK)
 f337:=Tryz.func313.trans (cS some kK)
 f338:=Tryz.func314.trans (cS some kK)
 t0:=Tryz.underlying0
 a0:=Tryz.isAgg0
 z0:=Tryz.sizeOf0
 v0:=Tryz.zeroValue0
 t2:=Tryz.underlying2
 a2:=Tryz.isAgg2
 z2:=Tryz.sizeOf2
 v2:=Tryz.zeroValue2
 t3:=Tryz.underlying3
 a3:=Tryz.isAgg3
 z3:=Tryz.sizeOf3
 v3:=Tryz.zeroValue3
 t4:=Tryz.underlying4
 a4:=Tryz.isAgg4
 z4:=Tryz.sizeOf4
 v4:=Tryz.zeroValue4
 t5:=Tryz.underlying5
 a5:=Tryz.isAgg5
 z5:=Tryz.sizeOf5
 v5:=Tryz.zeroValue5
 t9:=Tryz.underlying9
 a9:=Tryz.isAgg9
 z9:=Tryz.sizeOf9
 v9:=Tryz.zeroValue9
 t20:=Tryz.underlying20
 a20:=Tryz.isAgg20
 z20:=Tryz.sizeOf20
 v20:=Tryz.zeroValue20
 t37:=Tryz.underlying24
 a37:=Tryz.isAgg24
 z37:=Tryz.sizeOf24
 v37:=Tryz.zeroValue24
 t46:=Tryz.underlying187
 a46:=Tryz.isAgg187
 z46:=Tryz.sizeOf187
 v46:=Tryz.zeroValue187
 t51:=Tryz.underlying258
 a51:=Tryz.isAgg258
 z51:=Tryz.sizeOf258
 v51:=Tryz.zeroValue258
 t53:=Tryz.underlying207
 a53:=Tryz.isAgg207
 z53:=Tryz.sizeOf207
 v53:=Tryz.zeroValue207
 t171:=Tryz.underlying270
 a171:=Tryz.isAgg270
 z171:=Tryz.sizeOf270
 v171:=Tryz.zeroValue270
 t173:=Tryz.underlying272
 a173:=Tryz.isAgg272
 z173:=Tryz.sizeOf272
 v173:=Tryz.zeroValue272
 t212:=Tryz.underlying302
 a212:=Tryz.isAgg302
 z212:=Tryz.sizeOf302
 v212:=Tryz.zeroValue302
 t213:=Tryz.underlying303
 a213:=Tryz.isAgg303
 z213:=Tryz.sizeOf303
 t232:=Tryz.underlying315
 a232:=Tryz.isAgg315
 z232:=Tryz.sizeOf315
 v232:=Tryz.zeroValue315
 t233:=Tryz.underlying316
 a233:=Tryz.isAgg316
 z233:=Tryz.sizeOf316
 v233:=Tryz.zeroValue316
 g17:=by kernel_rfl
 g18:=by kernel_rfl
 g19:=by kernel_rfl
 i0:=by kernel_rfl
 i2:=by kernel_rfl
 i3:=by kernel_rfl
 i4:=by kernel_rfl
 i5:=by kernel_rfl
 i9:=by kernel_rfl
 i20:=by kernel_rfl
 i37:=by kernel_rfl
 i46:=by kernel_rfl
 i51:=by kernel_rfl
 i53:=by kernel_rfl
 i171:=by kernel_rfl
 i173:=by kernel_rfl
 i212:=by kernel_rfl
 i232:=by kernel_rfl
 i233:=by kernel_rfl
 m17:=by kernel_rfl
 m18:=by kernel_rfl
 m19:=by kernel_rfl
variable {K:vL->Prop}{P:pG}{W0 w:wD}{a:Int}{d i j m:Nat}{s:ByteArray}
def oF(w:wD):Prop:=Lib.TabIs tp w "internal/strconv.uint64pow10" .u64 Lib.pow10Tab
def oF.ext{w w':wD}(h:oF w)(hx:aB w w'):oF w':=by
 unfold oF Lib.TabIs World.var? at *
 obtain⟨g,hg⟩:∃g,tp.globalNamed "internal/strconv.uint64pow10" = some g:=by
   cases e:tp.globalNamed "internal/strconv.uint64pow10" with
   |none=>simp[e]at h
   |some g=>exact⟨g,rfl⟩
 simp only[hg,Dj]at h ⊢;rcases kR g w.heap.size with hl|hl
 · rw[hx.block g hl];exact h
 rw[Array.getElem?_eq_none hl]at h;simp at h
def mO(n:Int):ByteArray:=⟨(Lib.itoa n).toArray⟩
def wi(w:wD)(k:Nat)(os:Array Obj):aB w (Go.Sort.grow (w.drewN k) os):=
 ⟨rfl,rfl,rfl,by simp[Go.Sort.grow,World.drewN],λi hi=>by
   rw[Go.Sort.heap_grow_old _ _ (by simpa[World.drewN]using hi)];rfl⟩
def zFg{n:Int}(hT:oF w)(hn:bR n) :
   aJ tp 59 [iV n] w λr w'=>aB w w'/\r=.string (mO n):=by
 refine⟨(Any.strconv_Itoa Tryz.laysM171 n hn.1 hn.2 w hT).mono ?_⟩;rintro _ w' ⟨he,k,os,rfl⟩;exact⟨_,he,wi w k os,rfl⟩
def MD{n:Int}(hT:oF W0)(e0:aB W0 w)(hn:bR n) :
   aJ tp 22 [iV n] w λr w'=>aB w w'/\r=.string (mO n):=by
 refine co (g:=kf [] [] []) Tryz.func22 ?_;refine(zFg (hT.ext e0) hn).mM λ_ g0=>?_;exact⟨g0,rfl⟩
def TL{u:Nat}(h:u<10):Lib.decDigits u=[UInt8.ofNat (48+u)]:=Lib.decDigits_one h
def Gj{u:Nat}(h:¬u<10):Lib.decDigits u=Lib.decDigits (u / 10)++[UInt8.ofNat (48+u%10)]:=by
 rw[Lib.decDigits,dif_neg h]
def zyJ(hd:d<10) :
   aJ tp 52 [iV d] w λr w'=>aB w w'/\r=.int .u8 ((UInt8.ofNat (48+d)).toNat:Int):=by
 refine co (g:=kf [] [] []) Tryz.func52 ?_;refine bM<|br (λ_=>?_) (λ_=>oo);refine rQ io ?_;rw[show(48:Int)+(d:Int)=((48+d:Nat):Int) by omega];refine tx kK u5 oo<|⟨xx,rfl⟩
def zHf(h:bR (-a))(k:K (iV (-a))):RD P (Op.unary .neg (iV a)) w K:=
 dY (λ_ _=>by
   have h':bR (0-a):=by rw[Int.zero_sub];exact h
   simp[Op.unary,Op.intArith,IntWalk.i64_in _ h',IntWalk.i64_in _ h]) k
theorem Kh:∀k u:Nat,u<10^(k+1)->(Lib.decDigits u).length<=k+1
 |0,u,hu=>by rw[TL oo];simp
 | k+1,u,hu=>by
   by_cases h:u<10
   ·rw[TL h];simp
   rw[Gj h,bX];have:=Kh k (u / 10) (by rw[Nat.div_lt_iff_lt_mul oo];rw[QI]at hu;exact hu);simp only[FG];omega
def My{u:Nat}(hu:u<=9223372036854775808):(Lib.decDigits u).length<=20:=Kh 19 u oo
def CW(n:Int)(hn:bR n):(mO n).size<=21:=by
 unfold bR at hn;show(Lib.itoa n).toArray.size<=21;rw[GU];unfold Lib.itoa;split
 ·have:=My (u:=n.natAbs) oo;simp only[dA];omega
 have:=My (u:=n.toNat) oo;omega
def sa(hm:m≠0)(s:ByteArray):(m / 10≠0->Lib.decDigits m++aW s=Lib.decDigits (m / 10)++aW (⟨[UInt8.ofNat (48+m%10)].toArray⟩++s))/\(m / 10=0->Lib.decDigits m++aW s=aW (⟨[UInt8.ofNat (48+m%10)].toArray⟩++s)):=by
 have e:aW ((⟨[UInt8.ofNat (48+m%10)].toArray⟩:ByteArray)++s)=UInt8.ofNat (48+m%10) :: aW s:=by
   simp[aW,Bx]
 constructor
 ·intro h;rw[Gj oo,e];simp
 intro h;rw[TL oo,e,EF oo];simp
def Ls{n:Int}(hn:bR n) :
   aJ tp 19 [iV n] w λr w'=>aB w w'/\r=.string (mO n):=by
 refine co (g:=kf [(9,245792,[5])] [(5,67107889,[0,4])] []) Tryz.func19 ?_;have gg:=hn;unfold bR at gg;refine bI<|br (λh0=>?_) λh0=>?_
 ·refine⟨xx,?_⟩;subst h0;unfold mO Lib.itoa;rw[aH oo,show(0:Int).toNat=0 from rfl,TL oo];rfl
 refine bM ?_;have gh:(Lib.decDigits n.natAbs).length<=20:=My oo;refine iB.mk (λm us w'=>∃(x:Int)(s:ByteArray),us=[iV x,.string s]/\aB w w'/\x.natAbs=m/\bR x/\(m≠0->Lib.decDigits n.natAbs=Lib.decDigits m++aW s)/\(m=0->Lib.decDigits n.natAbs=aW s)) n.natAbs ⟨n,⟨#[]⟩,rfl,xx,rfl,hn,λ_=>by simp[aW],λh=>oo⟩ ?_;rintro m _ w1 ⟨x,s,hq,g2,g3,hI,hA,hB⟩;obtain⟨gi,gj⟩:=dQ hq;rw[gi,gj];refine fP<|br (λ_=>?_) λ_=>?_
 ·have g1:m≠0:=oo;have hd:=hA g1
  have g4:s.size<=20:=by
    have:=cS List.length hd;rw[bX,dO]at this;omega
  have g0:(x.tmod 10=((m%10:Nat):Int)/\¬x<0)\/(x.tmod 10=-((m%10:Nat):Int)/\x<0):=by
    rcases Int.natAbs_eq x with e|e
    ·left;refine⟨?_,oo⟩;rw[e,g3];rfl
    right;refine⟨?_,oo⟩;rw[e,g3,Int.neg_tmod];rfl
  have g5:(x.tdiv 10).natAbs=m / 10:=by
    rw[Int.natAbs_tdiv,g3];rfl
  have gd:bR (x.tdiv 10):=by
    unfold bR at hI ⊢;have:m / 10<=m:=Io _ _;omega
  refine Ic oo<|dJ.mk (λus w'=>w'=w1/\us=[iV ((m%10:Nat):Int)]) ?_ ?_
  ·refine bM ?_;refine br (λhl=>?_) λhl=>?_
   ·refine zHf io ?_;rcases g0 with⟨h,_⟩|⟨h,_⟩
    ·omega
    rw[h,Int.neg_neg];exact⟨rfl,rfl⟩
   rcases g0 with⟨h,_⟩|⟨h,_⟩
   ·rw[h];exact⟨rfl,rfl⟩
   have:((m%10:Nat):Int)=0:=oo;rw[h,this];exact⟨rfl,rfl⟩
  rintro _ _ ⟨rfl,g9⟩;try replace g9:=cJ g9
  rw[g9];refine(zyJ (Nat.mod_lt _ oo)).mM λw3 gl=>Cr (α:=UInt8) mA RS z5 dD (ya (lo:=w3.heap.size) (hi:=w3.heap.size)) (lr _) λ_ _ gn gp=>Mu mA u5 u9 gp.is xx<|mK (by show 1+s.size<=9223372036854775807;omega)<|zGM oo gd ?_;have gf:=sa g1 s;refine⟨m / 10,Nat.div_lt_self oo oo,_,_,rfl,(g2.t gl).trans gn,g5,gd,λh=>hd.trans (gf.1 h),λh=>hd.trans (gf.2 h)⟩
 have g1:m=0:=oo;have hd:=hB g1
 have g4:s.size<=20:=by
   have:=cS List.length hd;rw[dO]at this;omega
 refine br (λgb=>?_) λgc=>?_
 ·refine mK (by show 1+s.size<=9223372036854775807;omega) ?_;refine⟨g2,?_⟩;congr 1;refine MZ ?_;unfold mO Lib.itoa;rw[aP gb,hd];simp[aW,Bx]
 refine⟨g2,?_⟩;congr 1;refine MZ ?_;unfold mO Lib.itoa;rw[aH gc,show n.toNat=n.natAbs by omega,hd];simp[aW]
def pM(s:ByteArray)(i:Nat):Bool:=match (aW s)[i]? with|some b=>qU b|none=>false
def sA(s:ByteArray)(i:Nat):Bool:=match (aW s)[i]? with|some b=>nK b|none=>false
def tW(s:ByteArray)(i:Nat):Int:=match (aW s)[i]? with|some b=>(b.toNat:Int)|none=>-1
def Lu(h:i<s.size):pM s i=decide ((97:Int)<=(((aW s)[i]'(by rw[dO];exact h)).toNat:Int)/\(((aW s)[i]'(by rw[dO];exact h)).toNat:Int)<=122):=by
 unfold pM;rw[List.getElem?_eq_getElem (by rw[dO];exact h)];rfl
def D9(h:i<s.size):sA s i=decide ((48:Int)<=(((aW s)[i]'(by rw[dO];exact h)).toNat:Int)/\(((aW s)[i]'(by rw[dO];exact h)).toNat:Int)<=57):=by
 unfold sA;rw[List.getElem?_eq_getElem (by rw[dO];exact h)];rfl
def SJ(h:i<s.size):(((aW s)[i]'(by rw[dO];exact h)).toNat:Int)=tW s i:=by
 unfold tW;rw[List.getElem?_eq_getElem (by rw[dO];exact h)]
def ig(h:pM s i=true):i<s.size:=by
 rcases kR i s.size with h1|h1
 ·exact h1
 unfold pM at h;rw[List.getElem?_eq_none (by rw[dO];exact h1)]at h;cases h
def Tq(h:sA s i=true):i<s.size:=by
 rcases kR i s.size with h1|h1
 ·exact h1
 unfold sA at h;rw[List.getElem?_eq_none (by rw[dO];exact h1)]at h;cases h
structure xJ(s:ByteArray)(i e:Nat):Prop where
 le:i<=e
 lt:e<=s.size
 all:∀k,i<=k->k<e->(pM s k || sA s k)=true
 stop:e<s.size->(pM s e || sA s e)=false
def MK(s:ByteArray):Nat->Nat->Nat
 |0,i=>i
 |n+1,i=>if (pM s i || sA s i)=true then MK s n (i+1)else i
def rD(s:ByteArray)(i:Nat):Nat:=MK s (s.size-i) i
theorem Te{s:ByteArray}:∀(n i:Nat),i+n=s.size->xJ s i (MK s n i)
 |0,i,h=>⟨iD _,by rw[MK];omega,λk h1 h2=>by rw[MK]at h2;omega,λh2=>by rw[MK]at h2;omega⟩
 | n+1,i,h=>by
   rw[MK];split
   ·rename_i hc;have ih:=Te (s:=s) n (i+1) oo;refine⟨by have:=ih.le;omega,ih.lt,λk h1 h2=>?_,ih.stop⟩;rcases Nat.eq_or_lt_of_le h1 with e|h3
    ·rw[<-e];exact hc
    exact ih.all k h3 h2
   rename_i hc;exact⟨iD _,oo,λk h1 h2=>oo,λ_=>by simpa using hc⟩
def Bm(h:i<=s.size):xJ s i (rD s i):=Te _ _ oo
def RC(h:(pM s i || sA s i)=true):i<rD s i:=by
 have hi:i<s.size:=by
   rcases vB _ _▸h with h|h
   ·exact ig h
   exact Tq h
 have:=Bm (s:=s) (i:=i) oo;have h1:=this.le;rcases Nat.eq_or_lt_of_le h1 with e|h2
 ·have:=this.stop oo;rw[<-e,h]at this;cases this
 exact h2
def qT(s:ByteArray):Option Int:=if (aW s).all nK=true/\s.size<=10/\sE (aW s)<=1000000000/\mO (sE (aW s))=s then some (sE (aW s))else none
def mS:List ByteArray:=[.mk #[123],.mk #[125],.mk #[40],.mk #[41],.mk #[59],.mk #[44],.mk #[61],.mk #[61,61],.mk #[60],.mk #[43],.mk #[45],.mk #[42]]
def iM(s:ByteArray)(i:Nat):Bool×aT:=
 if pM s i=true then(decide (rD s i-i<=12),⟨1,s.extract i (rD s i),i⟩)
 else if sA s i=true then((qT (s.extract i (rD s i))).isSome,⟨2,s.extract i (rD s i),i⟩)
 else if i+2<=s.size/\s.extract i (i+2)=ByteArray.mk #[61,61]then(true,⟨3,s.extract i (i+2),i⟩)
 else(decide (s.extract i (i+1)∈mS),⟨3,s.extract i (i+1),i⟩)
def CN(s:ByteArray)(i:Nat):Prop:=tW s i=32\/tW s i=9\/tW s i=10\/tW s i=13
instance(s:ByteArray)(i:Nat):Decidable (CN s i):=inferInstanceAs (Decidable (tW s i=32\/tW s i=9\/tW s i=10\/tW s i=13))
def pH(s:ByteArray):Nat->Nat->List aT->List aT×bY
 |0,i,acc=>(acc,⟨0,0⟩)
 | n+1,i,acc=>
   if i<s.size then
     (if CN s i then pH s n (i+1) acc
     else if (iM s i).1=true then pH s n (i+(iM s i).2.text.size) (acc++[(iM s i).2])
     else([],⟨2,(i:Int)⟩))
   else(acc,⟨0,0⟩)
def lD(s:ByteArray):List aT×bY:=if 6000<s.size then([],⟨1,0⟩)else pH s (s.size+1) 0 []
def It(h:i<s.size):1<=(iM s i).2.text.size/\i+(iM s i).2.text.size<=s.size:=by
 have hr:=Bm (s:=s) (i:=i) oo;have:=hr.lt;unfold iM;split
 ·rename_i hl;have:=RC (s:=s) (i:=i) (by rw[hl];rfl);simp only[SN];omega
 split
 ·rename_i hl;have:=RC (s:=s) (i:=i) (by rw[hl];simp);simp only[SN];omega
 split
 ·simp only[SN];omega
 simp only[SN];omega
structure qE(x:aT):Prop where
 name:cK x.text=true->x.kind=1
 num:x.kind=2->qT x.text=some (sE (aW x.text))/\cK x.text=false
 at0:0<=x.at_
 at1:x.at_<=6000
 size:x.text.size<=6000
def SQ(s:ByteArray)(i j:Nat):aW (s.extract i j)=((aW s).take j).drop i:=by
 unfold aW;simp[ByteArray.data_extract,Array.toList_extract,List.extract,SI]
def s6{t:ByteArray}(h:t∈mS):cK t=false:=by
 simp only[mS,bF,dL,dI]at h;rcases h with rfl|rfl|rfl|rfl|rfl|rfl|rfl|rfl|rfl|rfl|rfl|rfl<;>decide
def Wz(h:sA s i=true)(hl:pM s i=false)(g0:i<j):cK (s.extract i j)=false:=by
 have hi:=Tq h;unfold pM at hl;rw[List.getElem?_eq_getElem (by rw[dO];exact hi)]at hl
 have e:(aW (s.extract i j)).head?.any qU=false:=by
   rw[SQ,List.head?_drop,List.getElem?_take,aP g0,List.getElem?_eq_getElem (by rw[dO];exact hi)];exact hl
 unfold cK tB;rw[e];simp
def zn(h:i<s.size)(hs:s.size<=6000)(C:(iM s i).1=true):qE (iM s i).2:=by
 have hz:=It h;have h3:(iM s i).2.text.size<=6000:=oo
 have g0:(iM s i).2.at_=(i:Int):=by
   unfold iM;split
   ·rfl
   split
   ·rfl
   split<;>rfl
 refine⟨?_,?_,by rw[g0];omega,by rw[g0];omega,h3⟩
 ·unfold iM at C ⊢;split
  ·intro _;rfl
  rename_i hl;have hl:pM s i=false:=by simpa using hl
  split
  ·rename_i hf;intro hn;have:=RC (s:=s) (i:=i) (by rw[hf];simp);rw[Wz hf hl this]at hn;cases hn
  rename_i hf;split
  ·rename_i hq;intro hn;exfalso;rw[s6 (t:=s.extract i (i+2)) (by rw[hq.2];simp[mS])]at hn;cases hn
  rename_i hq;rw[aH (by simp[hl]),aH hf,aH hq]at C;intro hn;exfalso;rw[s6 (of_decide_eq_true C)]at hn;cases hn
 unfold iM at C ⊢;split
 ·intro hk;simp only at hk;omega
 rename_i hl;have hl:pM s i=false:=by simpa using hl
 split
 ·rename_i hf;intro _;rw[aH (by simp[hl]),aP hf]at C;have:=RC (s:=s) (i:=i) (by rw[hf];simp);refine⟨?_,Wz hf hl this⟩;simp only at C ⊢;unfold qT at C ⊢;split at C
  ·rename_i hq;rw[aP hq]
  cases C
 split
 ·intro hk;simp only at hk;omega
 intro hk;simp only at hk;omega
theorem Nb{s:ByteArray}(hs:s.size<=6000):∀(n i:Nat)(acc:List aT),(∀x∈acc,qE x)->acc.length<=i->i<=s.size->(∀x∈(pH s n i acc).1,qE x)/\(pH s n i acc).1.length<=6000/\0<=(pH s n i acc).2.at_/\(pH s n i acc).2.at_<=6000/\0<=(pH s n i acc).2.code/\(pH s n i acc).2.code<=5
 |0,i,acc,h1,h2,h3=>by rw[pH];exact⟨h1,by simp only;omega,ss,ss,ss,ss⟩
 | n+1,i,acc,h1,h2,h3=>by
   rw[pH];split
   ·rename_i hi;split
    ·exact Nb hs n (i+1) acc h1 oo oo
    split
    ·rename_i hok;have hz:=It hi;refine Nb hs n _ _ (λx hx=>?_) (by rw[bX,FG];omega) hz.2;rcases dF.1 hx with hx|hx
     ·exact h1 x hx
     rw[oY.1 hx];exact zn hi hs hok
    refine⟨(λx hx=>by cases hx),ss,?_,?_,ss,ss⟩<;>simp only<;>omega
   exact⟨h1,by simp only;omega,ss,ss,ss,ss⟩
def ab(s:ByteArray):(∀x∈(lD s).1,qE x)/\(lD s).1.length<=6000/\0<=(lD s).2.at_/\(lD s).2.at_<=6000/\0<=(lD s).2.code/\(lD s).2.code<=5/\((lD s).2.code=0->s.size<=6000):=by
 unfold lD;split
 ·exact⟨(λx hx=>by cases hx),ss,dD,dD,dD,dD,λh=>absurd h dD⟩
 rename_i h;have:=Nb (s:=s) oo (s.size+1) 0 [] ss ss oo;exact⟨this.1,this.2.1,this.2.2.1,this.2.2.2.1,this.2.2.2.2.1,this.2.2.2.2.2,λ_=>oo⟩
def pf:(lD s).2.code=0->(lD s).2=⟨0,0⟩:=by
 unfold lD;split
 ·intro h;cases h
 intro h
 have g0:∀(n i:Nat)(acc:List aT),(pH s n i acc).2.code=0->(pH s n i acc).2=⟨0,0⟩:=by
   intro n
   induction n with
   |zero=>intro i acc _;rw[pH]
   | succ n ih=>
     intro i acc;rw[pH];split
     ·split
      ·exact ih _ _
      split
      ·exact ih _ _
      intro h;cases h
     intro _;rfl
 exact g0 _ _ _ h
end Go.Proofs.YtcaakhmhlfgogaaGreatDoor
namespace Go.Sh
open Rep (rep)
def xQ(x:Int):Int:=IntKind.i64.wrap x
def CE(a b:Int):Int:=xQ ((BitVec.ofInt 64 a &&& BitVec.ofInt 64 b).toNat:Nat)
def Oi(a b:Int):Int:=xQ ((BitVec.ofInt 64 a ^^^ BitVec.ofInt 64 b).toNat:Nat)
def YB(a:Int)(n:Nat):Int:=a.fdiv (2^(min n 64))
def yd(x:Int):bR (xQ x):=by
 have e:xQ x=if x%18446744073709551616>=9223372036854775808 then x%18446744073709551616-18446744073709551616 else x%18446744073709551616:=by
   simp[xQ,IntKind.wrap,IntKind.signed,IntKind.bits]
 unfold bR;rw[e];split<;>omega
def Wh{x:Int}(h:bR x):xQ x=x:=IntWalk.i64_in _ h
def Cq(a:Int){n:Nat}(hn:n<9223372036854775808):0<=CE a n/\CE a n<=n:=by
 have:(BitVec.ofInt 64 a &&& BitVec.ofInt 64 (n:Int)).toNat<=n:=by
   rw[BitVec.toNat_and];refine eH Nat.and_le_right ?_;rw[BitVec.ofInt_natCast,BitVec.toNat_ofNat,EF oo];exact iD _
 unfold CE;rw[Wh io];omega
section
variable {P:pG}{w:wD}{K:vL->Prop}{t:TypeId}{x y:Operand}{a b:Int}
def Xd(k:K (iV (xQ (a+b)))):RD P (bin .add t x y (iV a) (iV b)) w K:=
 dY (λw' _=>by simp[bin,eqGuard,binOp,Op.intArith,xQ]) k
def zp(k:K (iV (xQ (a*b)))):RD P (bin .mul t x y (iV a) (iV b)) w K:=
 dY (λw' _=>by simp[bin,eqGuard,binOp,Op.intArith,xQ]) k
def Nm(k:K (iV (CE a b))):RD P (bin .and t x y (iV a) (iV b)) w K:=by
 refine dY (λw' _=>?_) k;show(do eqGuard .and t x y (iV a) (iV b);binOp .and t (iV a) (iV b):Sem vL).run P w'=_;simp only[eqGuard,binOp,Op.intBits];rfl
def iv(k:K (iV (Oi a b))):RD P (bin .xor t x y (iV a) (iV b)) w K:=by
 refine dY (λw' _=>?_) k;show(do eqGuard .xor t x y (iV a) (iV b);binOp .xor t (iV a) (iV b):Sem vL).run P w'=_;simp only[eqGuard,binOp,Op.intBits];rfl
def k9{n:Nat}{ku:IntKind}(k:K (iV (YB a n))):RD P (bin .shr t x y (iV a) (.int ku (n:Int))) w K:=by
 refine dY (λw' _=>?_) k;have e0:¬((n:Int)<0):=oo;show(do eqGuard .shr t x y (iV a) (.int ku (n:Int));binOp .shr t (iV a) (.int ku (n:Int)):Sem vL).run P w'=_;simp only[eqGuard,binOp,Op.shift,e0,if_false,qM];rfl
def Ox{g0 dst:TypeId}{n:Nat}(hs:(P.underlying g0).isSome=true)(hd:P.underlying dst=some (.int .i64))(hn:n<256)(k:K (iV n)):RD P (convert g0 dst (.int .u8 (n:Int))) w K:=by
 refine dY (λ_ _=>?_) k;obtain⟨_,g1⟩:=Option.isSome_iff_exists.mp hs;have:IntKind.i64.wrap (n:Int)=n:=IntWalk.i64_in _ oo;simp[convert,run_underlying g1,run_underlying hd,Conv.intToInt,this]
end
def Y8{a n:Int}(h0:0<=a)(hn:0<n):0<=a.tmod n/\a.tmod n<n:=by
 rw[Int.tmod_eq_emod_of_nonneg h0];exact⟨Int.emod_nonneg _ oo,Int.emod_lt_of_pos _ hn⟩
end Go.Sh
