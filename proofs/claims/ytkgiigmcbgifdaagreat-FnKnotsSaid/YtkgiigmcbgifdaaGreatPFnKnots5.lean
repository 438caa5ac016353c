/-
  Parts of the proof, put together by program.
-/
import Derived.Test.YtkgiigmcbgifdaaGreatPFnKnots4
set_option maxRecDepth 20000
set_option linter.defProp false
set_option linter.unusedVariables false
set_option linter.unusedSimpArgs false
set_option linter.unusedSectionVars false
open Go renaming Value→vL,World→wD,Program→pG
namespace Go.Sh
open Rep (rep)
section
variable {P:pG} {w:wD} {α:Type} [Rep α] [Flat α] {b o n cap k:Nat} {l:List α}
def zd2 {F:List Nat} {v:vL} (hm:Mine F w v l) (hl:l≠[]):∃ b o cap xs,v=.slice (some ⟨b,o,none⟩) l.length cap/\F=[b]/\l.length<=cap/\cap<=maxLen/\Cells [] w xs l/\w.rangeAt b o xs/\(∃ c e,w.heap[b]?=some (.cells c e (0,0))):=by
 obtain ⟨⟨_,⟨_,cap,_,xs,rfl,h1,h2,hc,h4⟩,rfl⟩,_,hw⟩:=hm;rcases h4 with ⟨h4,_⟩ | ⟨b,o,rfl,rfl,hr,_⟩
 . exact absurd h4 hl
 have g0:=Cells.flat (xs:=xs) hc;subst g0;exact ⟨b,o,cap,xs,rfl,rfl,h1,h2,hc,hr,hw b sS⟩
def zgX {xs:List vL} (h1:l.length<=cap) (h2:cap<=maxLen) (hc:Cells [] w xs l) (hr:w.rangeAt b o xs) (hw:∃ c e,w.heap[b]?=some (.cells c e (0,0))):Mine [b] w (.slice (some ⟨b,o,none⟩) l.length cap) l:=
 ⟨⟨_,⟨some ⟨b,o,none⟩,cap,[],xs,rfl,h1,h2,hc,.inr ⟨b,o,rfl,rfl,hr,by obtain ⟨c,e,h⟩:=hw;exact (Array.getElem?_eq_some_iff.1 h).1⟩⟩,rfl⟩,sS,λi hi=>by simp at hi;subst hi;exact hw⟩
def zzd {t e:TypeId} {by_:Nat} {K:vL->Prop} (ht:P.underlying t=some (.slice e)) (he:tyI P e=some (Rep.size α,by_,Rep.agg α)) (hk:k<=n) (hn:n<=cap) (kk:K (.slice (some ⟨b,o,none⟩) k cap)) :
   RD P (Instr.sliceAt t (.slice (some ⟨b,o,none⟩) n cap) none (some (.int .i64 (k:Int))) none) w K:=by
 refine zba (λw' _=>?_) kk
 have g0:(Instr.sliceBounds true n cap none (some (.int .i64 (k:Int))) none).run P w'=.ok (0,k,cap) w':=by
   have h5:(k:Int)<=(cap:Int):=oo;simp [Instr.sliceBounds,Instr.sliceBound,asIntOf,h5];intro _;omega
 simp only [Instr.sliceAt,Instr.slice,Sem.run_bind,run_underlying ht,Result.andThen_ok,g0,zaJ he];simp [Addr.add_mid]
def zuY {t e:TypeId} {by_:Nat} {K:vL->Prop} (ht:P.underlying t=some (.slice e)) (he:tyI P e=some (Rep.size α,by_,Rep.agg α)) (hk:k<=n) (hn:n<=cap) (kk:K (.slice (if cap=k then some ⟨b,o,none⟩ else some ⟨b,o+k*Rep.size α,none⟩) (n-k) (cap-k))) :
   RD P (Instr.sliceAt t (.slice (some ⟨b,o,none⟩) n cap) (some (.int .i64 (k:Int))) none none) w K:=by
 refine zba (λw' _=>?_) kk
 have hb:(Instr.sliceBounds true n cap (some (.int .i64 (k:Int))) none none).run P w'=.ok (k,n,cap) w':=by
   have:(k:Int)<=(n:Int):=oo;simp [Instr.sliceBounds,Instr.sliceBound,asIntOf,this];try (intro _;omega)
 simp [Instr.sliceAt,Instr.slice,run_underlying ht,hb,zaJ he,Addr.add_mid]
def zuZ {t e:TypeId} {by_ j:Nat} {K:vL->Prop} (ht:P.underlying t=some (.slice e)) (he:tyI P e=some (Rep.size α,by_,Rep.agg α)) (hk:k<=j) (hn:j<=cap) {a:Option Addr} (kk:∀ a',(k≠0->a'=a)->K (.slice a' k j)) :
   RD P (Instr.sliceAt t (.slice a n cap) none (some (.int .i64 (k:Int))) (some (.int .i64 (j:Int)))) w K:=by
 have hb:∀ w',(Instr.sliceBounds true n cap none (some (.int .i64 (k:Int))) (some (.int .i64 (j:Int)))).run P w'=.ok (0,k,j) w':=λw'=>by
   have h1:(j:Int)<=(cap:Int):=oo;have h2:(k:Int)<=(j:Int):=oo;simp [Instr.sliceBounds,Instr.sliceBound,asIntOf,h1,h2];try (intro _;omega)
 have:∃ a',(∀ w',(Instr.sliceAt t (.slice a n cap) none (some (.int .i64 (k:Int))) (some (.int .i64 (j:Int)))).run P w'=.ok (.slice a' k j) w')/\(k≠0->a'=a):=by
   cases a with
   | none=>exact ⟨none,λw'=>by simp [Instr.sliceAt,Instr.slice,run_underlying ht,hb,zaJ he],λ_=>rfl⟩
   | some a=>exact ⟨some a,λw'=>by simp [Instr.sliceAt,Instr.slice,run_underlying ht,hb,zaJ he,Addr.add],λ_=>rfl⟩
 obtain ⟨a',h1,h2⟩:=this;exact zba (λw' _=>h1 w') (kk a' h2)
theorem zze [RepZ α] {t e ty:TypeId} {K:vL->wD->Prop} (ht:P.underlying t=some (.slice e)) (hz:zcu P e=some (RepZ.zc α)) (hm:Mine [b] w (.slice (some ⟨b,o,none⟩) n cap) l) (hl:l.length=n) (hk:k<=n) (hk0:0<k) (hn:n<=cap)
   (kk:∀ w',Chg [b] w w'->Mine [b] w' (.slice (some ⟨b,o,none⟩) k cap) (l.take k)->K (.tuple #[]) w') :
   OP P (Builtin.clear_ #[t] ty [Value.slice (if cap=k then some ⟨b,o,none⟩ else some ⟨b,o+k*Rep.size α,none⟩) (n-k) (cap-k)].toArray) w K:=by
 have gf:l≠[]:=λe=>by rw [e] at hl;simp at hl;omega
 obtain ⟨_,_,_,xs,hv,_,_,h2,hc,hr,hw⟩:=zd2 hm gf;simp only [Value.slice.injEq,qao,Addr.mk.injEq] at hv;obtain ⟨⟨rfl,rfl,_⟩,_,rfl⟩:=hv;have g2:(l.take k).length=k:=by simp;omega
 have e0:l=l.take k++l.drop k:=by simp
 have gb:=hc;rw [e0] at gb;obtain ⟨_,_,x1,x2,gg,rfl,c1,_⟩:=Cells.split gb;obtain ⟨rfl,rfl⟩:=qbQ.1 gg.symm;have gh:x1.length=k*Rep.size α:=by rw [Cells.len c1,g2]
 have gc:=(zaK hr).1;by_cases hnk:n=k
 . subst hnk;refine ⟨.tuple #[],w,?_,kk w (Chg.refl _ _) ?_⟩
   . rw [qcE];by_cases g1:cap=n
     . rw [qah g1];simp [Builtin.clear_,run_underlying ht]
     rw [qab g1];simp [Builtin.clear_,run_underlying ht]
   have:=zgX (l:=l.take n) (cap:=cap) oo h2 c1 gc hw;rwa [g2] at this
 have g1:¬cap=k:=oo;rw [qab g1];obtain ⟨c,e',he⟩:=hw;unfold zcu at hz;cases hi:P.info? e with
 | none=>simp [hi] at hz
 | some i=>
   simp only [hi] at hz;obtain ⟨z,gi,gd⟩:=qaQ.1 hz
   have gj:z.cells.size=Rep.size α:=by
     rw [<-qaH,gd];exact Rep.len (RepZ.zr (α:=α) w)
   have g0:=Rep.pos (α:=α);obtain ⟨m,gl⟩:∃ m,n-k=m+1:=⟨n-k-1,oo⟩;have gp:(Builtin.zeroCells z.cells (n-k)).toList.length=(n-k)*Rep.size α:=by simp [Builtin.zeroCells,gj]
   have g3:o+(k*Rep.size α)+0+(Builtin.zeroCells z.cells (n-k)).toList.length<=c.size:=by
     rw [gp];have hx:(x1++x2).length=n*Rep.size α:=by rw [Cells.len hc,hl]
     have r:=hr (n*Rep.size α-1) ((x1++x2)[n*Rep.size α-1]'(by rw [hx];have:=Nat.mul_pos (show 0<n by omega) g0;omega)) (List.getElem?_eq_getElem _);simp only [World.cell?,he] at r;have:=(Array.getElem?_eq_some_iff.1 (by simpa using r)).1;have h3:(n-k)*Rep.size α+k*Rep.size α=n*Rep.size α:=by rw [<-qbp];congr 1;omega
     have h4:=Nat.mul_pos (show 0<n by omega) g0;omega
   have g4:∀ v∈(Builtin.zeroCells z.cells (n-k)).toList,v.oneCell'=true:=λv hv=>by
     simp only [Builtin.zeroCells,Array.toList_map,Array.toList_range,qa3,qaG] at hv;obtain ⟨i,_,rfl⟩:=hv;have g5:i%z.cells.size<z.cells.size:=Nat.mod_lt _ oo;have e3:z.cells[i%z.cells.size]! = z.cells[i%z.cells.size]'g5:=by simp [g5]
     rw [e3];refine Rep.one (RepZ.zr (α:=α) w) _ ?_;rw [<-gd];exact Array.getElem_mem_toList g5
   have g9:=run_storeCells_at (P:=P) b (o+k*Rep.size α) e' (Builtin.zeroCells z.cells (n-k)).toList 0 c w he g3 g4;simp only [qco] at g9;refine ⟨.tuple #[],_,?_,kk _ (zeB w b (c.toList.take (o+k*Rep.size α)++(Builtin.zeroCells z.cells (n-k)).toList++c.toList.drop (o+k*Rep.size α+(Builtin.zeroCells z.cells (n-k)).toList.length)).toArray) ?_⟩
   . rw [gl] at g9 ⊢;simp [Builtin.clear_,run_underlying ht,zeroValue,typeInfo,hi,gi,g9]
   have hB:=setRow_heap w b c (c.toList.take (o+k*Rep.size α)++(Builtin.zeroCells z.cells (n-k)).toList++c.toList.drop (o+k*Rep.size α+(Builtin.zeroCells z.cells (n-k)).toList.length)).toArray e' _ he;have:=zgX (w:=w.setRow b (c.toList.take (o+k*Rep.size α)++(Builtin.zeroCells z.cells (n-k)).toList++c.toList.drop (o+k*Rep.size α+(Builtin.zeroCells z.cells (n-k)).toList.length)).toArray) (b:=b) (o:=o) (l:=l.take k) (cap:=cap) (xs:=x1) oo h2 (c1.keep sS) (λj v hv=>?_) ⟨_,_,hB⟩
   . rwa [g2] at this
   have hj:=(List.getElem?_eq_some_iff.1 hv).1;rw [gh] at hj;have h5:=gc j v hv;simp only [World.cell?,he] at h5;have h6:c[o+j]?=some v:=by simpa using h5
   simp only [World.cell?,hB];simp only [qcs,qa4,if_false,List.getElem?_toArray];rw [qaw,List.getElem?_append_left (by simp;have:=(Array.getElem?_eq_some_iff.1 h6).1;omega),List.getElem?_take,qah oo];simpa using h6
end
end Go.Sh
namespace Go.Proofs.YtkgiigmcbgifdaaGreat
open Go Go.Sh Go.Proofs
open Rep (rep)
set_option maxRecDepth 20000 in
theorem zgY {w w0 w1:wD} {K:vL->Prop} {x y:Operand} {v1 v2:vL} {a b:DRace} (h1:Is w0 v1 a) (h2:Is w1 v2 b) (k:K (.bool (decide (a=b)))):RD tp (bin .eql 41 x y v1 v2) w K:=by
  obtain ⟨rfl,_⟩:=zpf.1 h1;obtain ⟨rfl,_⟩:=zpf.1 h2;refine zba (λw' _=>?_) k;have hg:tp.eqGuardType tp.depth 41=false:=by kernel_rfl
  have e0:∀ xs ys w,(eqGuard .eql 41 x y (.agg xs) (.agg ys)).run tp w=.ok () w:=λxs ys w=>run_eqGuard_agg (P:=tp) w .eql 41 x y xs ys hg;have e1:∀ xs ys w,(Op.equalIn 10000 41 (.agg xs) (.agg ys)).run tp w=(Op.eqFields 9999 xs ys (tp.fieldsOf 41).toList).run tp w:=λxs ys w=>run_equalIn_struct w 9999 41 xs ys kK kK;have e2:(tp.fieldsOf 41).toList.map (λf=>(f.name,f.type,f.offset))=[("Global", 3,0),("A", 3,1),("B", 3,2)]:=by kernel_rfl
  have e3:∀ (c d:Int) (w:wD),(Op.equalIn 9999 3 (.int .i64 c) (.int .i64 d)).run tp w=.ok (c == d) w:=λc d w=>run_equalIn_int w 9998 3 .i64 .i64 c d u3;have hd:(a=b)↔(a.g=b.g/\a.a=b.a/\a.b=b.b):=⟨λe=>by rw [e];exact ⟨rfl,rfl,rfl⟩,λ⟨x,y,z⟩=>by cases a;cases b;simp only at x y z;rw [x,y,z]⟩;generalize hF:(tp.fieldsOf 41).toList=fs at e1 e2
  match fs,e2 with
  | [f0,f1,f2],e2=>
    simp only [qbI,qca,qbk,qcd,and_true] at e2;obtain ⟨⟨n0,t0,o0⟩,⟨n1,t1,o1⟩,⟨n2,t2,o2⟩⟩:=e2;have p0:∀ (a b c:vL) (w:wD),(part 3 #[a,b,c] 0).run tp w=.ok a w:=λa b c w=>by simp [part,zca ty3]
    have p1:∀ (a b c:vL) (w:wD),(part 3 #[a,b,c] 1).run tp w=.ok b w:=λa b c w=>by simp [part,zca ty3]
    have p2:∀ (a b c:vL) (w:wD),(part 3 #[a,b,c] 2).run tp w=.ok c w:=λa b c w=>by simp [part,zca ty3]
    simp only [bin,Sem.run_bind,e0,Result.andThen_ok,run_eql_struct,e1,Op.eqFields,n0,n1,n2,t0,t1,t2,o0,o1,o2];simp only [ne_eq,String.reduceEq,not_false_eq_true,if_true,Sem.run_bind,p0,p1,p2,Result.andThen_ok,e3,Sem.run_ite,Sem.run_pure,hd];by_cases x0:a.g=b.g<;>by_cases x1:a.a=b.a<;>by_cases x2:a.b=b.b<;>simp [x0,x1,x2]
set_option maxRecDepth 20000 in
theorem zmG {w w0 w1:wD} {K:vL->Prop} {x y:Operand} {v1 v2:vL} {a b:DRace} (h1:Is w0 v1 a) (h2:Is w1 v2 b) (k:K (.bool (decide (a≠b)))):RD tp (bin .neq 41 x y v1 v2) w K:=by
  obtain ⟨rfl,_⟩:=zpf.1 h1;obtain ⟨rfl,_⟩:=zpf.1 h2;refine zba (λw' _=>?_) k;have hg:tp.eqGuardType tp.depth 41=false:=by kernel_rfl
  have e0:∀ xs ys w,(eqGuard .neq 41 x y (.agg xs) (.agg ys)).run tp w=.ok () w:=λxs ys w=>run_eqGuard_agg (P:=tp) w .neq 41 x y xs ys hg;have e1:∀ xs ys w,(Op.equalIn 10000 41 (.agg xs) (.agg ys)).run tp w=(Op.eqFields 9999 xs ys (tp.fieldsOf 41).toList).run tp w:=λxs ys w=>run_equalIn_struct w 9999 41 xs ys kK kK;have e2:(tp.fieldsOf 41).toList.map (λf=>(f.name,f.type,f.offset))=[("Global", 3,0),("A", 3,1),("B", 3,2)]:=by kernel_rfl
  have e3:∀ (c d:Int) (w:wD),(Op.equalIn 9999 3 (.int .i64 c) (.int .i64 d)).run tp w=.ok (c == d) w:=λc d w=>run_equalIn_int w 9998 3 .i64 .i64 c d u3;have hd:(a=b)↔(a.g=b.g/\a.a=b.a/\a.b=b.b):=⟨λe=>by rw [e];exact ⟨rfl,rfl,rfl⟩,λ⟨x,y,z⟩=>by cases a;cases b;simp only at x y z;rw [x,y,z]⟩;generalize hF:(tp.fieldsOf 41).toList=fs at e1 e2
  match fs,e2 with
  | [f0,f1,f2],e2=>
    simp only [qbI,qca,qbk,qcd,and_true] at e2;obtain ⟨⟨n0,t0,o0⟩,⟨n1,t1,o1⟩,⟨n2,t2,o2⟩⟩:=e2;have p0:∀ (a b c:vL) (w:wD),(part 3 #[a,b,c] 0).run tp w=.ok a w:=λa b c w=>by simp [part,zca ty3]
    have p1:∀ (a b c:vL) (w:wD),(part 3 #[a,b,c] 1).run tp w=.ok b w:=λa b c w=>by simp [part,zca ty3]
    have p2:∀ (a b c:vL) (w:wD),(part 3 #[a,b,c] 2).run tp w=.ok c w:=λa b c w=>by simp [part,zca ty3]
    simp only [bin,Sem.run_bind,e0,Result.andThen_ok,run_neq_struct,e1,Op.eqFields,n0,n1,n2,t0,t1,t2,o0,o1,o2];simp only [ne_eq,String.reduceEq,not_false_eq_true,if_true,Sem.run_bind,p0,p1,p2,Result.andThen_ok,e3,Sem.run_ite,Sem.run_pure,hd];by_cases x0:a.g=b.g<;>by_cases x1:a.a=b.a<;>by_cases x2:a.b=b.b<;>simp [x0,x1,x2,hd]
end Go.Proofs.YtkgiigmcbgifdaaGreat
namespace Go.Sh
open Rep (rep)
variable {F G:List Nat} {b o:Nat} {cs:List vL} {w:wD}
abbrev RInts:=RV Int 3
abbrev RIntss:=RV RInts 25
structure DStV where
 vars:List Int
 owner:List Int
 stacks:RIntss
def DStV.ext_iff {x y:DStV}:x=y↔(x.vars=y.vars/\x.owner=y.owner/\x.stacks=y.stacks):=⟨λh=>by rw [h];exact ⟨rfl,rfl,rfl⟩,λh=>by obtain ⟨h0,h1,h2⟩:=h;cases x;cases y;simp only at h0 h1 h2;simp only [h0,h1,h2]⟩
instance:Rep DStV:=Rep.via λx=>(x.vars,x.owner,x.stacks)
def zfM {x:DStV} (h:At w b o x):At w b (o+2) x.stacks:=za7 (α:=List Int) (β:=RIntss) (p:=(x.owner,x.stacks)) (za7 (α:=List Int) (β:=(List Int)×RIntss) (p:=(x.vars,x.owner,x.stacks)) h)
instance:RepZ DStV:=⟨⟨(RepZ.zv:List Int),(RepZ.zv:List Int),(RepZ.zv:RIntss)⟩,RepZ.zc ((List Int)×(List Int)×RIntss),λw=>RepZ.zr (α:=(List Int)×(List Int)×RIntss) w⟩
def ztp {γ:Type} {H:List Nat->wD->γ->Prop} {x:DStV} {upd:DStV->γ} (h:Lens H F w b o G x upd) :
   ∃ G1,Lens H F w b (o+0) G1 x.vars (λy=>upd ⟨y,x.owner,x.stacks⟩):=by
 have h':Lens H F w b o G (x.vars,x.owner,x.stacks) (λp:(List Int)×(List Int)×RIntss=>upd ⟨p.1,p.2.1,p.2.2⟩):=⟨h.here,h.sub,λw' G' _ hc hO hs=>h.back w' G' _ hc hO hs⟩;obtain ⟨_,h'⟩:=h'.fst;exact ⟨_,h'⟩
def ztq {γ:Type} {H:List Nat->wD->γ->Prop} {x:DStV} {upd:DStV->γ} (h:Lens H F w b o G x upd) :
   ∃ G1,Lens H F w b (o+1) G1 x.owner (λy=>upd ⟨x.vars,y,x.stacks⟩):=by
 have h':Lens H F w b o G (x.vars,x.owner,x.stacks) (λp:(List Int)×(List Int)×RIntss=>upd ⟨p.1,p.2.1,p.2.2⟩):=⟨h.here,h.sub,λw' G' _ hc hO hs=>h.back w' G' _ hc hO hs⟩;obtain ⟨_,h'⟩:=h'.snd;obtain ⟨G1,h'⟩:=h'.fst;exact ⟨_,h'⟩
def zdv {γ:Type} {H:List Nat->wD->γ->Prop} {x:DStV} {upd:DStV->γ} (h:Lens H F w b o G x upd) :
   ∃ G1,Lens H F w b (o+2) G1 x.stacks (λy=>upd ⟨x.vars,x.owner,y⟩):=by
 have h':Lens H F w b o G (x.vars,x.owner,x.stacks) (λp:(List Int)×(List Int)×RIntss=>upd ⟨p.1,p.2.1,p.2.2⟩):=⟨h.here,h.sub,λw' G' _ hc hO hs=>h.back w' G' _ hc hO hs⟩;obtain ⟨_,h'⟩:=h'.snd;obtain ⟨G1,h'⟩:=h'.snd;exact ⟨_,h'⟩
def zBv {x:DStV} (h:rep F w cs x):∃ F0 c0 F1 c1 F2 c2,F=(F0++(F1++F2))/\cs=(c0++(c1++c2))/\rep F0 w c0 x.vars/\rep F1 w c1 x.owner/\rep F2 w c2 x.stacks:=by
 obtain ⟨F0,_,c0,_,rfl,rfl,h0,h⟩:=h;obtain ⟨F1,_,c1,_,rfl,rfl,h1,h⟩:=h;exact ⟨_,_,_,_,_,_,rfl,rfl,h0,h1,h⟩
def DStV.er (z:DStV):DState:=⟨z.vars,z.owner,z.stacks.l.map RV.l⟩
section
variable {w:wD}
def zBw {F G H:List Nat} {a b:vL} {s:DStV} (h1:Mine F w a s.vars) (h2:Mine G w b s.owner) (h3:Mine H w s.stacks.v s.stacks) (hn:(F++(G++H)).Nodup):Mine (F++(G++H)) w (.agg #[a,b,s.stacks.v]) s:=
 ⟨⟨[a,b,s.stacks.v],zaR (zbC rfl h1.own) (zaR (zbC rfl h2.own) (zbC rfl h3.own)),rfl⟩,hn,h1.wr.append (h2.wr.append h3.wr)⟩
def zu0 {a b:vL} {s:DStV} {lo hi l0 h0 l1 h1 l2 h2:Nat} (m0:OwnI l0 h0 w a s.vars) (m1:OwnI l1 h1 w b s.owner) (m2:OwnI l2 h2 w s.stacks.v s.stacks) (d01:h0<=l1\/h1<=l0) (d02:h0<=l2\/h2<=l0) (d12:h1<=l2\/h2<=l1)
   (b0:lo<=l0/\h0<=hi) (b1:lo<=l1/\h1<=hi) (b2:lo<=l2/\h2<=hi):OwnI lo hi w (.agg #[a,b,s.stacks.v]) s:=by
 obtain ⟨F0,M0,B0⟩:=m0;obtain ⟨F1,M1,B1⟩:=m1;obtain ⟨F2,M2,B2⟩:=m2;refine ⟨F0++(F1++F2),zBw M0 M1 M2 ?_,λx hx=>?_⟩
 . rw [qas,qas];refine ⟨M0.nodup,⟨M1.nodup,M2.nodup,λp hp q hq e=>?_⟩,λp hp q hq e=>?_⟩
   . subst e;have:=B1 p hp;have:=B2 p hq;omega
   subst e;have:=B0 p hp;rcases qae.1 hq with hq | hq
   . have:=B1 p hq;omega
   have:=B2 p hq;omega
 rcases qae.1 hx with hx | hx
 . have:=B0 x hx;omega
 rcases qae.1 hx with hx | hx
 . have:=B1 x hx;omega
 have:=B2 x hx;omega
end
end Go.Sh
namespace Go.Proofs.YtkgiigmcbgifdaaGreat
open Go Go.Sh Go.Proofs
open Rep (rep)
variable {K:vL->Prop} {P:pG} {W w w0:wD} {ag:Bool} {hi lo:Nat} {s:DState} {u v:vL}
def zu1:zcu tp 43=some [.slice none 0 0,.slice none 0 0,.slice none 0 0]:=by kernel_rfl
def zda {α:Type} [Rep α] {l:List α} (h:OwnI lo hi w v l):∃ a n c,v=.slice a n c:=by
 obtain ⟨a,cap,_,_,hv,_⟩:=zcE h.is;exact ⟨a,_,cap,hv⟩
def zfy {α:Type} [Rep α] [Flat α] {t ty e:TypeId} {by_:Nat} {a:Option Addr} {src:vL} {m:List α} {K:VW} (ht:P.underlying t=some (.slice e)) (he:tyI P e=some (Rep.size α,by_,Rep.agg α))
   (hzc:(P.info? e).map (λi=>(i.zero.map (·.cells.size)))=some (some (Rep.size α))) (hs:Is w0 src m) (hx:Ext w0 w) (hm:m.length<=maxLen) (hb:m.length*by_<=140737488355328)
   (k:∀ v' w',Ext w w'->RowI w.heap.size w'.heap.size e w' v' m->K v' w'):OP P (Builtin.append_ #[t,t] ty [.slice a 0 0,src].toArray) w K:=
 zd0 (lo:=w.heap.size) (hi:=w.heap.size) (l:=([]:List α)) ht he hzc (zcd _ _ _ _ _) (lr _) hs hx (by simpa using hm) (by simpa using hb) λv' w' hc hr=>k v' w' ((xrf w).chgI hc (lr _)) (by simpa using hr)
def zzf {l:List Int} (h:Is w0 v l) (hx:Ext w0 w) (hn:l.length<=1073741824) :
   CALL tp 227 [v] w λr w'=>Ext w w'/\RowI w.heap.size w'.heap.size 3 w' r l:=by
 refine co (g:=kf [] [] []) Tryz.func227 ?_;obtain ⟨_,_,_,_,rfl,_,_,_,h4⟩:=zcE h;refine zhl zv4<|zbX (λg0=>?_) (λ_=>?_)
 . have:l=[]:=by
     rcases h4 with h4 | ⟨_,_,ha,_⟩
     . exact h4
     subst ha;simp at g0
   subst this;exact ⟨xrf w,zb7 _ _ _ _⟩
 refine zaD (α:=Int) zv4 zBb λ_ _ g1 _=>zfy (α:=Int) zv4 zBb zGj h (hx.t g1) (by rw [zaj];omega) oo λ_ _ g2 g3=>⟨g1.t g2,g3.mono g1.size (lr _)⟩
def zHz (s:DState):Prop:=s.vars.length<=1073741824/\s.owner.length<=1073741824/\s.stacks.length<=1073741824/\∀ x∈s.stacks,x.length<=1073741824
def cpQ (s:DState) (g1:Nat) (w0:wD):ParQ:=λi u T w=>match i with
 | 0=>u 6=.pointer (some ⟨g1,0+0,none⟩)
 | 1=>Is w0 (u 7) s.vars
 | 2=>OwnI (T 2).1 (T 2).2 w (u 8) s.vars
 | 3=>u 9=.pointer (some ⟨g1,0+1,none⟩)
 | 4=>Is w0 (u 10) s.owner
 | 5=>OwnI (T 5).1 (T 5).2 w (u 11) s.owner
 | 6=>u 12=.agg #[u 8,u 11,.slice none 0 0]
 | 7=>∃ g,u 3=.pointer (some ⟨g,0,none⟩)/\(T 7).1<=g/\g<(T 7).2/\Blk g 43 w [.slice none 0 0,.slice none 0 0,.slice none 0 0]
 | _=>True
def zrA (h:Is W v s) (e:Ext W w) (gy:zHz s) :
   CALL tp 170 [v] w λr w'=>Ext w w'/\∃ z:DStV,OwnI w.heap.size w'.heap.size w' r z/\z.er=s:=by
 obtain ⟨gs,gt,_,gx⟩:=gy;refine co (g:=⟨extL,[],[(3,268369952,[16])],[(5,[0,1,2,3,4,5,6,7],24)],[(1,8136,8)],[],[]⟩) Tryz.func170 ?_;refine zbp h e λw1 gi hA=>zaL zu1 λw2 Z gj=>?_;have hg2:=gj.lt;have hs1:=gi.size;have V:=zag w2;have hs3:=V.size;refine PAR.mk (cpQ s w.heap.size (World.drew1 w2)) ?_ ?_ ?_
 . intro i u u' T T' _ wb _ g9 hd hq
   match i,hd,hq with
   | 0,hd,hq=>exact (hd (0,6) qd).1.trans hq
   | 1,hd,hq=>have:=(hd (1,7) qd).1;show Is _ (u' 7) _;simp only [this];exact hq
   | 2,hd,hq=>
     obtain ⟨e1,e2⟩:=hd (2,8) qd;simp only at e1 e2;show OwnI (T' 2).1 (T' 2).2 wb (u' 8) s.vars;rw [e1,e2];exact OwnI.ext hq g9
   | 3,hd,hq=>exact (hd (3,9) qd).1.trans hq
   | 4,hd,hq=>have:=(hd (4,10) qd).1;show Is _ (u' 10) _;simp only [this];exact hq
   | 5,hd,hq=>
     obtain ⟨e1,e2⟩:=hd (5,11) qd;simp only at e1 e2;show OwnI (T' 5).1 (T' 5).2 wb (u' 11) s.owner;rw [e1,e2];exact OwnI.ext hq g9
   | 6,hd,hq=>
     have e1:=(hd (6,12) qd).1;have e2:=(hd (2,8) qd).1;have e3:=(hd (5,11) qd).1;simp only at e1 e2 e3;show u' 12=.agg #[u' 8,u' 11,.slice none 0 0];rw [e1,e2,e3];exact hq
   | 7,hd,⟨g,q1,q2,q3,q4⟩=>
     obtain ⟨e1,e2⟩:=hd (7,3) qd;simp only at e1 e2;exact ⟨g,e1.trans q1,by rw [e2];exact q2,by rw [e2];exact q3,q4.ext g9⟩
   | n+8,_,_=>trivial
 . refine ⟨λu T w' hx _ _=>?_,λu T w' hx _ hp=>?_,λu T w' hx _ hp=>?_,λu T w' hx _ _=>?_,λu T w' hx _ hp=>?_,λu T w' hx _ hp=>?_,λu T w' hx _ hp=>?_,λu T w' hx _ _=>?_,trivial⟩
   . exact zaa zhc ⟨xrf _,rfl⟩
   . have q0:u 6=_:=hp.1;rw [q0];exact zab zaS (zcK hA) (Z.t (V.t hx)) λv6 h6=>⟨xrf _,(h6.ext (Z.t V))⟩
   . have q1:Is _ (u 7) s.vars:=hp.1;exact (zus q1 hx gs).mono λr w4 ⟨O,ho⟩=>⟨O,ho.toI⟩
   . exact zaa zdN ⟨xrf _,rfl⟩
   . have q0:u 9=_:=hp.1;rw [q0];exact zab zaS (zcy hA) (Z.t (V.t hx)) λv6 h6=>⟨xrf _,(h6.ext (Z.t V))⟩
   . have q1:Is _ (u 10) s.owner:=hp.1;exact (zus q1 hx gt).mono λr w4 ⟨O,ho⟩=>⟨O,ho.toI⟩
   . have o1:OwnI _ _ _ (u 8) s.vars:=hp.1;have o2:OwnI _ _ _ (u 11) s.owner:=hp.2.1;obtain ⟨a,n,cap,q1⟩:=zda o1;obtain ⟨a',n',gb,gl⟩:=zda o2;rw [q1,gl];refine zaF (cells:=#[.slice a n cap,.slice a' n' gb,.slice none 0 0]) kK ⟨xrf _,?_⟩;show _=Value.agg #[u 8,u 11,.slice none 0 0];rw [q1,gl];rfl
   exact zaL zu1 λw4 O hB=>⟨O,w'.heap.size,rfl,lr _,hB.lt,hB⟩
 rintro u T w4 O Y ⟨-,-,o8,-,-,U,gc,⟨g,q3,_,_,gz⟩,-⟩;have gc:u 12=.agg #[u 8,u 11,.slice none 0 0]:=gc;have o8:OwnI (T 2).1 (T 2).2 w4 (u 8) s.vars:=o8;have U:OwnI (T 5).1 (T 5).2 w4 (u 11) s.owner:=U;have t2:=Y.1 2 qd;have t5:=Y.1 5 qd;have t7:=Y.1 7 qd;have d25:=Y.2 2 qd 5 qd qd;have d27:=Y.2 2 qd 7 qd qd;have d57:=Y.2 5 qd 7 qd qd;generalize u 8=v8 at *;generalize u 11=v11 at *;have hs4:=O.size;rw [gc,q3]
 refine zaz (x:=(⟨s.vars,s.owner,[]⟩:DState)) (lo:=0) (hi:=w4.heap.size) zch rfl gz rfl
   (zeL (l2:=0) (h2:=0) o8 U (zc8 none) oo oo oo oo oo oo) λw5 g0 gC=>?_
 have hs5:=g0.size;have g1:Ext w1 w5:=Ext.chgI (Z.t (V.t O)) g0 oo;replace o8:=o8.chg g0 oo;replace U:=U.chg g0 oo;have gd:=((gj.ext V).ext O).chgI g0 oo;refine zaa zbc<|zab zeV (zaB hA) g1 λ_ gp=>zae u31 gp ?_
 refine zap s.stacks.length (λk us w'=>us=[.int .i64 (k:Int)]/\w5.heap.size<=w'.heap.size/\Ext w1 w'/\OwnI (T 2).1 (T 2).2 w' v8 s.vars/\OwnI (T 5).1 (T 5).2 w' v11 s.owner /\
   (∃ v1 hi,∃ l:List RInts,hi<=w'.heap.size/\w5.heap.size<=hi/\l.map RV.l=s.stacks.take k/\Blk g 43 w' [v8,v11,v1]/\RowI w5.heap.size hi 25 w' v1 l)/\Blk w1.heap.size 43 w' [.slice none 0 0,.slice none 0 0,.slice none 0 0]) 0 (z0 _)
   ⟨rfl,lr _,g1,o8,U,⟨.slice none 0 0,w5.heap.size,[],lr _,qaz _,sS,gC,zb7 _ _ _ _⟩,gd⟩ ?_
 rintro k m _ w7 _ ⟨hu,_,g4,o8,U,⟨v1,hi,l,_,_,hl,gf,r7⟩,g2⟩;try replace hu:=zbv hu
 rw [hu];have hll:l.length=k:=by have:=qax List.length hl;simp at this;omega
 refine zaf<|br (λ_=>?_) (λ_=>?_)
 . have hk:k<s.stacks.length:=oo;refine zad u31 zaS gp hk λ_ _ gD=>zab zaS gD g4 λ_ gE=>?_;have g3:=zag w7;have hs8:=g3.size;refine zaa zbc<|zan zeV (gf.ext g3) rfl ?_;refine (zzf gE (g4.t g3) (gx _ (qac hk))).mono ?_;rintro _ _ ⟨g5,r9⟩;have hs9:=g5.size;refine ⟨g5,?_⟩;refine zlo (α:=RInts) u31 zaS z25 zyq qd ((r7.ext g3).ext g5) oo (zff r9) oo oo (by rw [zaj];omega) oo λgF gG C gq=>?_;have gH:=C.size;have I:=g3.t g5;refine zaa zbc<|za3 (α:=List RInts) zeV rfl rfl ((gf.ext I).chgI C oo) sS gq.own λ_ D gg=>?_;have gI:=D.size;refine zau<|⟨m-1,oo,k+1,oo,rfl,oo,Ext.chgI (Ext.chgI (g4.t I) C oo) D oo,((o8.ext I).chg C oo).chg D oo,((U.ext I).chg C oo).chg D oo,⟨gF,gG.heap.size,_,oo,oo,?_,gg,gq.chg D oo⟩,((g2.ext I).chgI C oo).chgI D oo⟩;rw [qbx,hl,tk hk];rfl
 have hk:k=s.stacks.length:=oo;refine zck gf zch ?_
 have gr:OwnI w2.heap.size w7.heap.size w7 (.agg #[v8,v11,v1]) (⟨s.vars,s.owner,⟨v1,l⟩⟩:DStV):=
   zu0 (s:=⟨s.vars,s.owner,⟨v1,l⟩⟩) o8 U (zff r7) oo oo oo oo oo oo
 refine zaz zch rfl g2 rfl gr λ_ X gh=>?_;have gJ:=X.size;refine zcl gh zch<|⟨Ext.chgI (gi.t g4) X oo,_,(gr.chg X oo).mono oo oo,?_⟩;show (⟨s.vars,s.owner,l.map RV.l⟩:DState)=s;rw [hl,hk,qaB]
def cqQ (s:DState) (g1:Nat) (w0:wD):ParQ:=λi u T w=>match i with
 | 0=>∃ a,u 5=.slice (some a) 0 0
 | 1=>u 6=.pointer (some ⟨g1,0+0,none⟩)
 | 2=>Is w0 (u 7) s.vars
 | 3=>OwnI (T 3).1 (T 3).2 w (u 8) s.vars
 | 4=>∃ a,u 9=.slice (some a) 0 0
 | 5=>u 10=.pointer (some ⟨g1,0+1,none⟩)
 | 6=>Is w0 (u 11) s.owner
 | 7=>OwnI (T 7).1 (T 7).2 w (u 12) s.owner
 | 8=>u 13=.agg #[u 8,u 12,.slice none 0 0]
 | 9=>∃ g,u 3=.pointer (some ⟨g,0,none⟩)/\(T 9).1<=g/\g<(T 9).2/\Blk g 43 w [.slice none 0 0,.slice none 0 0,.slice none 0 0]
 | _=>True
def zwn (h:Is W v s) (e:Ext W w) (gy:zHz s) :
   CALL tp 102 [v] w λr w'=>Ext w w'/\∃ z:DStV,OwnI w.heap.size w'.heap.size w' r z/\z.er=s:=by
 obtain ⟨_,_,_,gx⟩:=gy;refine co (g:=⟨extL,[],[(3,8589918224,[4])],[(5,[0,1,3,4,5,6,7,2,8,9,10,11,12],772)],[(1,16360,10)],[],[]⟩) Tryz.func102 ?_;refine zbp h e λw1 gp hA=>zaL zu1 λw2 g3 gq=>?_;have hg2:=gq.lt;have hs1:=gp.size;have X:=zag w2;have hs3:=X.size;refine PAR.mk (cqQ s w.heap.size (World.drew1 w2)) ?_ ?_ ?_
 . intro i u u' T T' _ wb _ g9 hd hq
   match i,hd,hq with
   | 0,hd,⟨a,hq⟩=>exact ⟨a,(hd (0,5) qd).1.trans hq⟩
   | 1,hd,hq=>exact (hd (1,6) qd).1.trans hq
   | 2,hd,hq=>have:=(hd (2,7) qd).1;show Is _ (u' 7) _;simp only [this];exact hq
   | 3,hd,hq=>
     obtain ⟨e1,e2⟩:=hd (3,8) qd;simp only at e1 e2;show OwnI (T' 3).1 (T' 3).2 wb (u' 8) s.vars;rw [e1,e2];exact OwnI.ext hq g9
   | 4,hd,⟨a,hq⟩=>exact ⟨a,(hd (4,9) qd).1.trans hq⟩
   | 5,hd,hq=>exact (hd (5,10) qd).1.trans hq
   | 6,hd,hq=>have:=(hd (6,11) qd).1;show Is _ (u' 11) _;simp only [this];exact hq
   | 7,hd,hq=>
     obtain ⟨e1,e2⟩:=hd (7,12) qd;simp only at e1 e2;show OwnI (T' 7).1 (T' 7).2 wb (u' 12) s.owner;rw [e1,e2];exact OwnI.ext hq g9
   | 8,hd,hq=>
     have e1:=(hd (8,13) qd).1;have e2:=(hd (3,8) qd).1;have e3:=(hd (7,12) qd).1;simp only at e1 e2 e3;show u' 13=.agg #[u' 8,u' 12,.slice none 0 0];rw [e1,e2,e3];exact hq
   | 9,hd,⟨g,q1,q2,q3,q4⟩=>
     obtain ⟨e1,e2⟩:=hd (9,3) qd;simp only at e1 e2;exact ⟨g,e1.trans q1,by rw [e2];exact q2,by rw [e2];exact q3,q4.ext g9⟩
   | n+10,_,_=>trivial
 . refine ⟨λu T w' hx _ _=>?_,λu T w' hx _ _=>?_,λu T w' hx _ hp=>?_,λu T w' hx _ hp=>?_,λu T w' hx _ _=>?_,λu T w' hx _ _=>?_,λu T w' hx _ hp=>?_,λu T w' hx _ hp=>?_,λu T w' hx _ hp=>?_,λu T w' hx _ _=>?_,trivial⟩
   . exact zaD (α:=Int) u25 ty3 λa w4 C _=>⟨C,a,rfl⟩
   . exact zaa zhc ⟨xrf _,rfl⟩
   . have q0:u 6=_:=hp.1;rw [q0];exact zab zaS (zcK hA) (g3.t (X.t hx)) λv6 h6=>⟨xrf _,(h6.ext (g3.t X))⟩
   . obtain ⟨a,q0⟩:∃ a,u 5=.slice (some a) 0 0:=hp.1;have q1:Is _ (u 7) s.vars:=hp.2.1;rw [q0];exact zfy (α:=Int) u25 ty3 zc3 q1 hx (by rw [zaj];omega) oo λv4 w4 C r4=>⟨C,r4.own⟩
   . exact zaD (α:=Int) u25 ty3 λa w4 C _=>⟨C,a,rfl⟩
   . exact zaa zdN ⟨xrf _,rfl⟩
   . have q0:u 10=_:=hp.1;rw [q0];exact zab zaS (zcy hA) (g3.t (X.t hx)) λv6 h6=>⟨xrf _,(h6.ext (g3.t X))⟩
   . obtain ⟨a,q0⟩:∃ a,u 9=.slice (some a) 0 0:=hp.1;have q1:Is _ (u 11) s.owner:=hp.2.1;rw [q0];exact zfy (α:=Int) u25 ty3 zc3 q1 hx (by rw [zaj];omega) oo λv4 w4 C r4=>⟨C,r4.own⟩
   . have o1:OwnI _ _ _ (u 8) s.vars:=hp.1;have o2:OwnI _ _ _ (u 12) s.owner:=hp.2.1;obtain ⟨a,n,cap,q1⟩:=zda o1;obtain ⟨a',n',gb,gr⟩:=zda o2;rw [q1,gr];refine zaF (cells:=#[.slice a n cap,.slice a' n' gb,.slice none 0 0]) kK ⟨xrf _,?_⟩;show _=Value.agg #[u 8,u 12,.slice none 0 0];rw [q1,gr];rfl
   exact zaL zu1 λw4 C hB=>⟨C,w'.heap.size,rfl,lr _,hB.lt,hB⟩
 rintro u T w4 C g1 ⟨-,-,-,o8,-,-,-,U,gc,⟨g,q3,_,_,gz⟩,-⟩;have gc:u 13=.agg #[u 8,u 12,.slice none 0 0]:=gc;have o8:OwnI (T 3).1 (T 3).2 w4 (u 8) s.vars:=o8;have U:OwnI (T 7).1 (T 7).2 w4 (u 12) s.owner:=U;have t2:=g1.1 3 qd;have t5:=g1.1 7 qd;have t7:=g1.1 9 qd;have d25:=g1.2 3 qd 7 qd qd;have d27:=g1.2 3 qd 9 qd qd;have d57:=g1.2 7 qd 9 qd qd;generalize u 8=v8 at *;generalize u 12=v11 at *;have hs4:=C.size;rw [gc,q3]
 refine zaz (x:=(⟨s.vars,s.owner,[]⟩:DState)) (lo:=0) (hi:=w4.heap.size) zch rfl gz rfl
   (zeL (l2:=0) (h2:=0) o8 U (zc8 none) oo oo oo oo oo oo) λw5 g4 gC=>?_
 have hs5:=g4.size;have gd:Ext w1 w5:=Ext.chgI (g3.t (X.t C)) g4 oo;replace o8:=o8.chg g4 oo;replace U:=U.chg g4 oo;have gf:=((gq.ext X).ext C).chgI g4 oo
 refine zap s.stacks.length (λk us w'=>us=[.int .i64 (k:Int)]/\w5.heap.size<=w'.heap.size/\Ext w1 w'/\OwnI (T 3).1 (T 3).2 w' v8 s.vars/\OwnI (T 7).1 (T 7).2 w' v11 s.owner /\
   (∃ v1 hi,∃ l:List RInts,hi<=w'.heap.size/\w5.heap.size<=hi/\l.map RV.l=s.stacks.take k/\Blk g 43 w' [v8,v11,v1]/\RowI w5.heap.size hi 25 w' v1 l)/\Blk w1.heap.size 43 w' [.slice none 0 0,.slice none 0 0,.slice none 0 0]) 0 (z0 _)
   ⟨rfl,lr _,gd,o8,U,⟨.slice none 0 0,w5.heap.size,[],lr _,qaz _,sS,gC,zb7 _ _ _ _⟩,gf⟩ ?_
 rintro k m _ w7 _ ⟨hu,_,g2,o8,U,⟨v1,hi,l,_,_,hl,gg,r7⟩,g5⟩;try replace hu:=zbv hu
 rw [hu];have hll:l.length=k:=by have:=qax List.length hl;simp at this;omega
 refine zaa zbc<|zab zeV (zaB hA) g2 λ_ gD=>zae u31 gD<|zaf<|br (λ_=>?_) (λ_=>?_)
 . have hk:k<s.stacks.length:=oo;have Y:=zag w7;have hs8:=Y.size;refine zaa zbc<|zan zeV (gg.ext Y) rfl<|zaa zbc<|zab zeV (zaB hA) (g2.t Y) λ_ gE=>zad u31 zaS gE hk λ_ _ gF=>zab zaS gF (g2.t Y) λ_ gG=>?_;have hlk:=gx _ (qac hk);refine zaD (α:=Int) u25 ty3 λ_ _ V _=>⟨V,?_⟩;have gh:=V.size;refine zfy (α:=Int) u25 ty3 zc3 gG (g2.t (Y.t V)) (by rw [zaj];omega) oo λ_ _ Z gH=>?_;have gI:=Z.size;refine ⟨Z,?_⟩;have gi:=V.trans Z;have hs9:=gi.size;have r9:=gH.mono gh (lr _);refine zlo (α:=RInts) u31 zaS z25 zyq qd ((r7.ext Y).ext gi) oo (zff r9) oo oo (by rw [zaj];omega) oo λgJ gK D gs=>?_;have gM:=D.size;have O:=Y.t gi;refine zaa zbc<|za3 (α:=List RInts) zeV rfl rfl ((gg.ext O).chgI D oo) sS gs.own λ_ I gj=>?_;have gN:=I.size;refine zau<|⟨m-1,oo,k+1,oo,rfl,oo,Ext.chgI (Ext.chgI (g2.t O) D oo) I oo,((o8.ext O).chg D oo).chg I oo,((U.ext O).chg D oo).chg I oo,⟨gJ,gK.heap.size,_,oo,oo,?_,gj,gs.chg I oo⟩,((g5.ext O).chgI D oo).chgI I oo⟩;rw [qbx,hl,tk hk];rfl
 have hk:k=s.stacks.length:=oo;refine zck gg zch ?_
 have gt:OwnI w2.heap.size w7.heap.size w7 (.agg #[v8,v11,v1]) (⟨s.vars,s.owner,⟨v1,l⟩⟩:DStV):=
   zu0 (s:=⟨s.vars,s.owner,⟨v1,l⟩⟩) o8 U (zff r7) oo oo oo oo oo oo
 refine zaz zch rfl g5 rfl gt λ_ g0 gl=>?_;have gO:=g0.size;refine zcl gl zch<|⟨Ext.chgI (gp.t g2) g0 oo,_,(gt.chg g0 oo).mono oo oo,?_⟩;show (⟨s.vars,s.owner,l.map RV.l⟩:DState)=s;rw [hl,hk,qaB]
def zpQ {t e:TypeId} {b a n cap sz by_ k:Nat} (ht:P.underlying t=some (.slice e)) (he:tyI P e=some (sz,by_,ag)) (hu:u=.slice (some ⟨b,a,none⟩) n cap) (hk:k<n) (kk:K (.pointer (some ⟨b,a+k*sz,none⟩))) :
   RD P (Instr.indexAt t u (.int .i64 (k:Int))) w K:=by
 subst hu;exact zba (λ_ _=>by rw [zcb ht he oo oo];simp) kk
instance:Flat DRace:=⟨λh=>by obtain ⟨F1,F2,c1,c2,rfl,rfl,⟨rfl,_⟩,⟨F3,F4,c3,c4,rfl,rfl,⟨rfl,_⟩,⟨rfl,_⟩⟩⟩:=h;rfl⟩
section
variable {α:Type} [DecidableEq α]
def ddg (x:α):List α->List α
 | []=>[]
 | y :: l=>if y=x then ddg x l else y :: ddg y l
def ddp:List α->List α
 | []=>[]
 | x :: l=>x :: ddg x l
theorem zpR (y:α):∀ (l:List α) (x:α),ddg x (l++[y])=if y=l.getLastD x then ddg x l else ddg x l++[y]
 | [],x=>rfl
 | a :: l,x=>by
   rw [qbz,ddg,ddg,List.getLastD_cons];by_cases h:a=x
   . rw [qah h,qah h,zpR y l x,h]
   rw [qab h,qab h,zpR y l a];split<;>rfl
theorem zpS {l:List α} {k:Nat} (h0:0<k) (hk:k<l.length):ddp (l.take (k+1))=if l[k]=l[k-1] then ddp (l.take k) else ddp (l.take k)++[l[k]]:=by
 rw [tk hk];cases l with
 | nil=>simp at hk
 | cons x l=>
   obtain ⟨j,rfl⟩:∃ j,k=j+1:=⟨k-1,oo⟩;have:j<l.length:=by simpa using hk
   have e:(l.take j).getLastD x=(x :: l)[j+1-1]:=by
     rw [List.getLastD_eq_getLast?,List.getLast?_eq_getElem?,qaj,qbv oo];cases j with
     | zero=>simp
     | succ j=>simp [List.getElem?_take];rw [List.getElem?_eq_getElem oo];rfl
   rw [qcm,qbz,ddp,ddp,zpR,e];split<;>rfl
end
def zoq {l:List DRace} (h:OwnI lo hi w v l) (hn:l.length<=1073741824) :
   CALL tp 62 [v] w λr w'=>ChgI lo hi w w'/\OwnI lo hi w' r (ddp l):=by
 obtain ⟨F,hM,hF⟩:=h;refine co (g:=kf [] [(4,1152921504606846012,[3]),(9,18014397972611112,[3,5])] [(6,[0,1,2,3,4,5,6,7,8,9],0),(11,[0,1,2,3,4,5,6,7,8,9],0)]) Tryz.func62 ?_;refine zae u30 hM.is<|zaf<|br (λgl=>?_) (λgp=>?_)
 . refine ⟨ChgI.refl w,F,?_,hF⟩
   have:ddp l=l:=by
     match l,gl with
     | [],_=>rfl
     | [x],_=>rfl
     | _ :: _ :: _,h=>simp only [qak] at h;omega
   rw [this];exact hM
 have gq:l≠[]:=λe=>by rw [e] at gp;simp at gp
 obtain ⟨b,o,cap,_,rfl,rfl,h1,_,_,_,_⟩:=zd2 hM gq;have g3:=hM.is;refine zap l.length (λk us w'=>us=[.int .i64 (k:Int)]/\Ext w w'/\1<=k/\k<=l.length/\ddp (l.take k)=l.take k) 1 oo ⟨rfl,xrf w,lr _,oo,?_⟩ ?_
 . cases l with
   | nil=>exact absurd rfl gq
   | cons x l=>rfl
 rintro k0 mk _ w1 _ ⟨hu,g4,_,_,hd0⟩;try replace hu:=zbv hu
 rw [hu];refine zae u30 g3<|zaf<|br (λgl=>?_) (λ_=>?_)
 case refine_2=>
   have:k0=l.length:=oo;subst this;rw [qaB] at hd0;rw [hd0];exact ⟨g4.toI,[b],hM.ext g4,hF⟩
 have hk:k0<l.length:=oo;have gH:=zag w1;have C:=g4.t gH;generalize World.drew1 w1=w2 at *;refine zad u30 zdG g3 hk λ_ _ gI=>zab zdG gI C λ_ gJ=>zbe io ?_;rw [show ((k0:Int)-1)=((k0-1:Nat):Int) by omega];refine zad (i:=k0-1) u30 zdG g3 oo λ_ _ gK=>zab zdG gK C λ_ gM=>zgY gJ gM<|br (λgN=>?_) (λg5=>?_)
 case refine_2=>refine zau<|⟨mk-1,oo,k0+1,oo,rfl,C,oo,oo,?_⟩;rw [zpS oo hk,qab g5,hd0,<-tk hk]
 refine zuY (α:=DRace) u30 zdG oo h1 ?_;rw [qab oo];have e3:Rep.size DRace=3:=rfl;rw [e3]
 refine zap (l.length-k0) (λk2 us w'=>∃ (k:Nat) (cur:List DRace),us=[.int .i64 (k:Int),.int .i64 (k2:Int)]/\Chg [b] w w'/\Mine [b] w' (.slice (some ⟨b,o,none⟩) l.length cap) cur/\cur.length=l.length/\1<=k2/\k2<=l.length-k0/\k0<=k/\k+1<=k0+k2 /\
     cur.take k=ddp (l.take (k0+k2))/\∀ j,k<=j->cur[j]?=l[j]?) 1 oo
   ⟨k0,l,rfl,C.chg _,hM.ext C,rfl,lr _,oo,lr _,oo,by rw [zpS oo hk,qah gN,hd0],λ_ _=>rfl⟩ ?_
 rintro k2 gr _ w3 _ ⟨k,cur,gO,gs,gt,O,_,_,gP,_,g1,D⟩;obtain ⟨g9,gb⟩:=zcZ gO;rw [g9,gb];refine zba (v:=.int .i64 ((l.length-k0:Nat):Int)) (λw' _=>by simp [Builtin.len_,run_underlying u30];rfl)<|zaf<|br (λ_=>?_) (λ_=>?_)
 . have hp:k0+k2<l.length:=oo;have gx:=zag w3;have gc:=gt.ext gx;have gy:=gs.trans (gx.chg _);generalize World.drew1 w3=w4 at *;have gd:cur≠[]:=λe=>by rw [e] at O;simp at O;omega
   obtain ⟨_,_,_,_,gz,_,_,_,gf,gg,_⟩:=zd2 gc gd;simp only [Value.slice.injEq,qao,Addr.mk.injEq] at gz;obtain ⟨⟨rfl,rfl,_⟩,_,rfl⟩:=gz;have gC:∀ i (hi:i<cur.length),At w4 b (o+i*3) cur[i]:=λi hi=>gf.at gg hi
   have g0:∀ i (hi:i<l.length) (gD:k<=i),cur[i]'(by omega)=l[i]:=λi hi gD=>by
     have:=D i gD;rw [List.getElem?_eq_getElem oo,List.getElem?_eq_getElem hi] at this;exact qa0 this
   have gh:=gC (k0+k2) oo;have gE:=gC (k0+k2-1) oo;rw [g0 _ hp oo] at gh;rw [g0 _ oo oo] at gE;refine zpQ (k:=k2) u30 zdG rfl oo ?_;rw [show o+k0*3+k2*3=o+(k0+k2)*3 by omega];refine zab zdG gh (xrf _) λ_ gQ=>zbe io ?_;rw [show ((k2:Int)-1)=((k2-1:Nat):Int) by omega];refine zpQ (k:=k2-1) u30 zdG rfl oo ?_;rw [show o+k0*3+(k2-1)*3=o+(k0+k2-1)*3 by omega];refine zab zdG gE (xrf _) λ_ gR=>zmG gQ gR ?_;have gF:=zpS (l:=l) (k:=k0+k2) oo hp;refine br (λgi=>?_) (λI=>?_)
   . refine zpQ (k:=k2) u30 zdG rfl oo ?_;rw [show o+k0*3+k2*3=o+(k0+k2)*3 by omega];refine zab zdG gh (xrf _) λ_ gS=>?_;obtain ⟨_,gU,gG,gV⟩:=gS;have gW:=Flat.flat gG;subst gW;refine zue (α:=DRace) u30 zdG gc (k:=k) oo ⟨gU,gG,gV⟩ λw5 gj g2=>zau<|zau<|⟨gr-1,oo,k2+1,oo,k+1,_,rfl,gy.trans gj,g2,by simp [O],oo,oo,oo,oo,?_,λj _=>?_⟩
     . rw [show k0+(k2+1)=k0+k2+1 by omega,gF,qab gi,<-g1];rw [tk so,qcF,List.take_set_of_le (lr _)]
     rw [List.getElem?_set_ne oo];exact D j oo
   have I:=qai.1 I;refine zau<|⟨gr-1,oo,k2+1,oo,k,cur,rfl,gy,gc,O,oo,oo,gP,oo,?_,D⟩;rw [show k0+(k2+1)=k0+k2+1 by omega,gF,qah I,g1]
 have gX:k0+k2=l.length:=oo;rw [gX,qaB] at g1;refine zuY (α:=DRace) u30 zdG oo h1<|zze (α:=DRace) u30 zHc gt O oo oo h1 λw5 gj g2=>zzd (α:=DRace) u30 zdG oo h1 ?_;rw [g1] at g2;exact ⟨(gs.trans gj).toI hF,[b],g2,hF⟩
def zrB {l:List DRace} (h:Is W v l) (e:Ext W w) (hn:l.length<=1073741824) :
   CALL tp 58 [v] w λr w'=>Ext w w'/\Own w.heap.size w' r l:=by
 refine co (g:=kf [] [] []) Tryz.func58 ?_;obtain ⟨_,_,_,_,rfl,_,_,_,h4⟩:=zcE h;refine zhl u30<|zbX (λg0=>?_) (λ_=>?_)
 . have:l=[]:=by
     rcases h4 with h4 | ⟨_,_,rfl,_⟩
     . exact h4
     simp at g0
   subst this;exact ⟨xrf w,ziz rfl⟩
 refine zaD (α:=DRace) u30 zdG λ_ _ g1 r5=>?_;have hs1:=g1.size;refine zd0 (α:=DRace) u30 zdG zAP r5 (lr _) h (e.trans g1) (by rw [zaj];simp;omega) so λ_ _ g2 r7=>?_;rw [qbE] at r7;exact ⟨Ext.chgI g1 g2 oo,r7.own.own.mono oo⟩
def zu2 {l:List DRace} (h:OwnI lo hi w v l) :
   CALL tp 61 [v] w λr w'=>Ext w w'/\OwnI lo hi w' r l:=by
 obtain ⟨_,hM,hF⟩:=h;refine co (g:=kf [] [] []) Tryz.func61 ?_;refine zae u30 hM.is<|zae u30 hM.is ?_;by_cases hne:l=[]
 . subst hne;obtain ⟨_,cap,_,xs,rfl,h1,h2,_,_⟩:=zcE hM.is;refine zuZ (α:=DRace) (k:=0) (j:=0) u30 zdG (lr _) h1 λa' _=>⟨xrf w,zc8 a'⟩
 obtain ⟨b,_,cap,xs,rfl,rfl,h1,h2,hc,hr,hw⟩:=zd2 hM hne;refine zuZ (α:=DRace) (k:=l.length) (j:=l.length) u30 zdG (lr _) h1 λa' ha=>?_;rw [ha (λe=>hne (qan e))];exact ⟨xrf w,[b],zgX (lr _) oo hc hr hw,hF⟩
end Go.Proofs.YtkgiigmcbgifdaaGreat
namespace Go.Sh
open Rep (rep)
variable {F G:List Nat} {b o:Nat} {w:wD}
instance:RepZ Raw:=⟨⟨.slice none 0 0⟩,[.slice none 0 0],λ_=>⟨rfl,rfl,rfl⟩⟩
abbrev RIns:=RV DIns 151
structure DEm where
 a:Raw
 b:Raw
 c:Raw
 ins:RIns
def DEm.ext_iff {x y:DEm}:x=y↔(x.a=y.a/\x.b=y.b/\x.c=y.c/\x.ins=y.ins):=⟨λh=>by rw [h];exact ⟨rfl,rfl,rfl,rfl⟩,λh=>by obtain ⟨h0,h1,h2,h3⟩:=h;cases x;cases y;simp only at h0 h1 h2 h3;simp only [h0,h1,h2,h3]⟩
instance:Rep DEm:=Rep.via λx=>(x.a,x.b,x.c,x.ins)
def zpT {x:DEm} (h:At w b o x):At w b (o+3) x.ins:=za7 (α:=Raw) (β:=RIns) (p:=(x.c,x.ins)) (za7 (α:=Raw) (β:=Raw×RIns) (p:=(x.b,x.c,x.ins)) (za7 (α:=Raw) (β:=Raw×Raw×RIns) (p:=(x.a,x.b,x.c,x.ins)) h))
instance:RepZ DEm:=⟨⟨(RepZ.zv:Raw),(RepZ.zv:Raw),(RepZ.zv:Raw),(RepZ.zv:RIns)⟩,RepZ.zc (Raw×Raw×Raw×RIns),λw=>RepZ.zr (α:=Raw×Raw×Raw×RIns) w⟩
def zwo {γ:Type} {H:List Nat->wD->γ->Prop} {x:DEm} {upd:DEm->γ} (h:Lens H F w b o G x upd) :
   ∃ G1,Lens H F w b (o+0) G1 x.a (λy=>upd ⟨y,x.b,x.c,x.ins⟩):=by
 have h':Lens H F w b o G (x.a,x.b,x.c,x.ins) (λp:Raw×Raw×Raw×RIns=>upd ⟨p.1,p.2.1,p.2.2.1,p.2.2.2⟩):=⟨h.here,h.sub,λw' G' _ hc hO hs=>h.back w' G' _ hc hO hs⟩;obtain ⟨_,h'⟩:=h'.fst;exact ⟨_,h'⟩
def zwp {γ:Type} {H:List Nat->wD->γ->Prop} {x:DEm} {upd:DEm->γ} (h:Lens H F w b o G x upd) :
   ∃ G1,Lens H F w b (o+1) G1 x.b (λy=>upd ⟨x.a,y,x.c,x.ins⟩):=by
 have h':Lens H F w b o G (x.a,x.b,x.c,x.ins) (λp:Raw×Raw×Raw×RIns=>upd ⟨p.1,p.2.1,p.2.2.1,p.2.2.2⟩):=⟨h.here,h.sub,λw' G' _ hc hO hs=>h.back w' G' _ hc hO hs⟩;obtain ⟨_,h'⟩:=h'.snd;obtain ⟨G1,h'⟩:=h'.fst;exact ⟨_,h'⟩
def zkC {γ:Type} {H:List Nat->wD->γ->Prop} {x:DEm} {upd:DEm->γ} (h:Lens H F w b o G x upd) :
   ∃ G1,Lens H F w b (o+3) G1 x.ins (λy=>upd ⟨x.a,x.b,x.c,y⟩):=by
 have h':Lens H F w b o G (x.a,x.b,x.c,x.ins) (λp:Raw×Raw×Raw×RIns=>upd ⟨p.1,p.2.1,p.2.2.1,p.2.2.2⟩):=⟨h.here,h.sub,λw' G' _ hc hO hs=>h.back w' G' _ hc hO hs⟩;obtain ⟨_,h'⟩:=h'.snd;obtain ⟨G1,h'⟩:=h'.snd;obtain ⟨_,h'⟩:=h'.snd;exact ⟨_,h'⟩
section
variable {P:pG} {w w':wD} {lo hi:Nat}
def zjE {op r to:Int} {t0 t1 t2 t3:vL} {t:DTerm} (h0:I64 op) (h1:I64 r) (h2:I64 to) (ht:OwnI lo hi w (.agg #[t0,t1,t2,t3]) t):OwnI lo hi w (.agg #[.int .i64 op,.int .i64 r,t0,t1,t2,t3,.int .i64 to]) (⟨op,r,t,to⟩:DIns):=by
 obtain ⟨F,⟨⟨cs,hr,hv⟩,g0,hw⟩,hF⟩:=ht
 have g1:cs=[t0,t1,t2,t3]:=by
   simp only [mkv,Rep.agg,cond_true,Value.agg.injEq] at hv;have:=qax Array.toList hv;simpa using this.symm
 subst g1;refine ⟨F,⟨⟨[.int .i64 op,.int .i64 r,t0,t1,t2,t3,.int .i64 to],?_,rfl⟩,g0,hw⟩,hF⟩;have:=zaR (F:=[]) (c1:=[.int .i64 op]) (show rep [] w [.int .i64 op] op from ⟨rfl,rfl,h0⟩) (zaR (F:=[]) (c1:=[.int .i64 r]) (show rep [] w [.int .i64 r] r from ⟨rfl,rfl,h1⟩) (zaR hr (show rep [] w [.int .i64 to] to from ⟨rfl,rfl,h2⟩)));simp only [qbE,qaF] at this;exact this
def zES {X:Nat->Prop} {t g:Nat} {v:vL} {K:vL->Prop} (h:Var P t w g v) (hX:¬X g) (k:K v):RDX P X (Instr.loadAt t (.pointer (some ⟨g,0,none⟩))) w K:=by
 refine ⟨v,λw' hx=>?_,k⟩;obtain ⟨u,h1,h2⟩:=zbr (P:=P) (K:=λu=>u=v) (h.keep (hx.block g h.lt hX)) (xrf w') rfl;subst h2;exact h1 w' (xrf w')
def ztr {α β:Type} [Rep α] [Rep β] {e b o g:Nat} {F G:List Nat} {t by_:Nat} {x:RV β e} {upd:RV β e->α} {w2:wD} {v':vL} {l':List β} {G':List Nat} {K:wD->Prop} (ht:tyI P t=some (1,by_,false)) (hL:Lens (VH g) (g :: F) w b o G x upd) (gf:∀ c∈g :: F,c<w.heap.size) (hc:Chg G w w2)
   (hR:RowG G' e w2 v' l') (hN:G'.Nodup) (hs:∀ c∈G',c∈G\/c∉g :: F)
   (k:∀ w3,Chg (b :: G) w w3->(∃ F',OAt F' w3 g 0 (upd ⟨v',l'⟩)/\∀ c∈F',c∈g :: F\/c∈G')->K w3):OPU P (Instr.storeAt t (.pointer (some ⟨b,o,none⟩)) v') w2 K:=by
 obtain ⟨_,⟨rfl,g4⟩,hr,_,_,hb,gc⟩:=hL.here;have gd:b<w.heap.size:=gf b (hL.sub b sS);have g5:w2.heap[b]?=w.heap[b]?:=hc.block b gd hb;have g0:∃ c e,w2.heap[b]?=some (.cells c e (0,0)):=by obtain ⟨c,e,h⟩:=gc;exact ⟨c,e,by rw [g5];exact h⟩
 have g1:b∉G':=λhm=>by
   rcases hs b hm with h | h
   . exact hb h
   exact h (hL.sub b sS)
 refine zlu ht g0 (zbo hr g5) g4.one hR.one λw3 g3 gg=>?_
 have g2:ChgAt b o 1 G w w3:=by
   refine ⟨(hc.mono sc).trans (g3.chg.mono sc),λc e gh=>?_⟩;obtain ⟨c',h1,h2⟩:=g3.cell c e (by rw [g5];exact gh);exact ⟨c',h1,h2⟩
 have r:∀ c∈G',w3.heap[c]?=w2.heap[c]?:=λc gb=>g3.chg.block c (hR.lt c gb) (by simp;exact λe=>g1 (e▸gb));obtain ⟨c',e',gi⟩:=g0;obtain ⟨gj,g9,_⟩:=g3.cell c' e' gi;obtain ⟨F',h1,h2⟩:=hL.back w3 G' ⟨v',l'⟩ g2 ⟨[v'],⟨rfl,hR.keep r⟩,gg,hN,(hR.keep r).wr,g1,gj,e',g9⟩ hs;exact k w3 g2.chg ⟨F',h1,h2⟩
end
end Go.Sh
namespace Go.Proofs.YtkgiigmcbgifdaaGreat
open Go Go.Sh Go.Proofs
open Rep (rep)
variable {F F1 G:List Nat} {K:vL->Prop} {P:pG} {W W0 W1 W2 w w1 w2:wD} {a x:Int} {ag:Bool} {b by_ g hi i j k lo n o:Nat} {c:DCode} {s s1 s2:DState} {u u' v v0 v1 v2:vL}
section
variable {w:wD} {lo hi:Nat} {K:vL->Prop}
def zts {a b:Int} {u:vL} {t:DTerm} (ha:I64 a) (hb:I64 b) (hu:OwnI lo hi w u t) (k:∀ v,OwnI lo hi w v (⟨a,b,t,0⟩:DIns)->K v):RD tp (Instr.build 151 #[(0,.int .i64 a),(1,.int .i64 b),(2,u)]) w K:=by
 obtain ⟨p,q,rfl⟩:=zhX hu.is;exact zaF (cells:=#[.int .i64 a,.int .i64 b,.int .i64 t.kind,.int .i64 t.num,.string t.name,.slice p t.kids.length q,.int .i64 0]) kK (k _ (zjE ha hb zjv hu))
def zor {a:Int} {u:vL} {t:DTerm} (ha:I64 a) (hu:OwnI lo hi w u t) (k:∀ v,OwnI lo hi w v (⟨a,0,t,0⟩:DIns)->K v):RD tp (Instr.build 151 #[(0,.int .i64 a),(2,u)]) w K:=by
 obtain ⟨p,q,rfl⟩:=zhX hu.is;exact zaF (cells:=#[.int .i64 a,.int .i64 0,.int .i64 t.kind,.int .i64 t.num,.string t.name,.slice p t.kids.length q,.int .i64 0]) kK (k _ (zjE ha zjv zjv hu))
def zh6 {a b:Int} (ha:I64 a) (hb:I64 b) (k:∀ v,OwnI lo hi w v (⟨a,b,term0,0⟩:DIns)->K v):RD tp (Instr.build 151 #[(0,.int .i64 a),(1,.int .i64 b)]) w K:=
 zaF (cells:=#[.int .i64 a,.int .i64 b,.int .i64 0,.int .i64 0,.string nO,.slice none 0 0,.int .i64 0]) kK (k _ (zjE ha hb zjv zfw))
def zwq {a b:Int} (ha:I64 a) (hb:I64 b) (k:∀ v,OwnI lo hi w v (⟨a,0,term0,b⟩:DIns)->K v):RD tp (Instr.build 151 #[(0,.int .i64 a),(3,.int .i64 b)]) w K:=
 zaF (cells:=#[.int .i64 a,.int .i64 0,.int .i64 0,.int .i64 0,.string nO,.slice none 0 0,.int .i64 b]) kK (k _ (zjE ha zjv hb zfw))
def zmH {a:Int} (ha:I64 a) (k:∀ v,OwnI lo hi w v (⟨a,0,term0,0⟩:DIns)->K v):RD tp (Instr.build 151 #[(0,.int .i64 a)]) w K:=
 zaF (cells:=#[.int .i64 a,.int .i64 0,.int .i64 0,.int .i64 0,.string nO,.slice none 0 0,.int .i64 0]) kK (k _ (zjE ha zjv zjv zfw))
end
def EmF (W:wD) (g:Nat) (p:DProg) (L:List DIns) (F:List Nat) (w:wD):Prop:=
 ∃ c0 c1 c2 rv,Is W (.agg #[c0,c1,c2]) p/\OAt F w g 0 (⟨⟨c0⟩,⟨c1⟩,⟨c2⟩,⟨rv,L⟩⟩:DEm)/\Ext W w/\W.heap.size<=g/\∀ c∈F,W.heap.size<=c
section
variable {W w w':wD} {g:Nat} {p:DProg} {L:List DIns} {F:List Nat}
def EmF.ext (h:EmF W g p L F w) (hx:Ext w w'):EmF W g p L F w':=by
 obtain ⟨c0,c1,c2,rv,h1,h2,h3,h4⟩:=h;exact ⟨c0,c1,c2,rv,h1,h2.ext hx,h3.trans hx,h4⟩
def EmF.old (h:EmF W g p L F w):Ext W w:=by obtain ⟨_,_,_,_,_,_,h3,_⟩:=h;exact h3
def EmF.lt (h:EmF W g p L F w):g<w.heap.size/\(∀ c∈F,c<w.heap.size)/\W.heap.size<=g/\g∉F/\∀ c∈F,W.heap.size<=c:=by
 obtain ⟨_,_,_,_,_,h2,_,h4,h5⟩:=h;have:=h2.lts;obtain ⟨_,_,_,_,_,h6,_⟩:=h2;exact ⟨this g sS,λc hc=>this c (by simp [hc]),h4,h6,h5⟩
def EmF.keep (h:EmF W g p L F w) (hk:∀ c∈g :: F,w'.heap[c]?=w.heap[c]?) (hx:Ext W w'):EmF W g p L F w':=by
 obtain ⟨c0,c1,c2,rv,h1,h2,_,h4⟩:=h;exact ⟨c0,c1,c2,rv,h1,h2.keep hk,hx,h4⟩
def zjF {c0 c1 c2:vL} (h:Is W (.agg #[c0,c1,c2]) p):Is W c0 p.globals/\Is W c1 p.locks/\Is W c2 p.procs:=by
 obtain ⟨_,cs,hr,hv⟩:=h
 have g0:cs=[c0,c1,c2]:=by
   simp only [mkv,Rep.agg,cond_true,Value.agg.injEq] at hv;have:=qax Array.toList hv;simpa using this.symm
 subst g0;obtain ⟨F1,_,x1,_,rfl,hx,h1,F3,F4,x3,x4,rfl,g1,h2,h3⟩:=hr;have e1:∃ a,x1=[a]:=by obtain ⟨a,cap,Fi,xs,rfl,_⟩:=h1;exact ⟨_,rfl⟩
 have e2:∃ a,x3=[a]:=by obtain ⟨a,cap,Fi,xs,rfl,_⟩:=h2;exact ⟨_,rfl⟩
 have e3:∃ a,x4=[a]:=by obtain ⟨a,cap,Fi,xs,rfl,_⟩:=h3;exact ⟨_,rfl⟩
 obtain ⟨_,rfl⟩:=e1;obtain ⟨_,rfl⟩:=e2;obtain ⟨_,rfl⟩:=e3;subst g1;simp only [qbz,qbE,qbk,and_true] at hx;obtain ⟨rfl,rfl,rfl⟩:=hx;exact ⟨⟨F1,_,h1,rfl⟩,⟨F3,_,h2,rfl⟩,⟨F4,_,h3,rfl⟩⟩
def zGA {K:vL->Prop} (h:EmF W g p L F w) (k:∀ v,Is W v p.globals->K v) :
   RD tp (Instr.fieldAt 144 (.pointer (some ⟨g,0,none⟩)) 0) w λx26=>RD tp (Instr.fieldAt 70 x26 0) w λx27=>RD tp (Instr.loadAt 24 x27) w λx28=>K x28:=by
 obtain ⟨_,_,_,_,h1,h2,_,_,_⟩:=h;obtain ⟨_,hL⟩:=zwo (Lens.var h2);obtain ⟨_,⟨_,rfl,_⟩,hr,_⟩:=hL.here;refine zaa zs7<|zaa zn6<|zcN zdt hr (k _ (zjF h1).1)
def zDz {K:vL->Prop} (h:EmF W g p L F w) (k:∀ v,Is W v p.locks->K v) :
   RD tp (Instr.fieldAt 144 (.pointer (some ⟨g,0,none⟩)) 0) w λx26=>RD tp (Instr.fieldAt 70 x26 1) w λx27=>RD tp (Instr.loadAt 24 x27) w λx28=>K x28:=by
 obtain ⟨_,_,_,_,h1,h2,_,_,_⟩:=h;obtain ⟨_,hL⟩:=zwp (Lens.var h2);obtain ⟨_,⟨_,rfl,_⟩,hr,_⟩:=hL.here;refine zaa zs7<|zaa zn7<|zcN zdt hr (k _ (zjF h1).2.1)
def zDA {K:vL->Prop} (h:EmF W g p L F w) (k:∀ v,Is W v p->K v) :
   RD tp (Instr.fieldAt 144 (.pointer (some ⟨g,0,none⟩)) 0) w λx42=>RD tp (Instr.loadAt 70 x42) w λx43=>K x43:=by
 obtain ⟨c0,c1,c2,_,h1,h2,h3,_,_⟩:=h;refine zaa zs7 ?_;obtain ⟨F1,g5,g1,g2⟩:=h1
 have g9:g5=[c0,c1,c2]:=by
   simp only [mkv,Rep.agg,cond_true,Value.agg.injEq] at g2;have:=qax Array.toList g2;simpa using this.symm
 subst g9;obtain ⟨_,gb,g3,_⟩:=h2;obtain ⟨_,_,_,_,_,rfl,⟨_,rfl,_⟩,_,_,_,_,_,rfl,⟨_,rfl,_⟩,_,_,_,x6,_,rfl,⟨_,rfl,_⟩,_⟩:=gb
 have g4:w.rangeAt g 0 [c0,c1,c2]:=by
   have:([c0]++([c1]++([c2]++x6)))=[c0,c1,c2]++x6:=rfl;rw [this] at g3;exact (zaK g3).1
 have hat:At w g (0+0) p:=⟨F1,_,zcp g1 h3,g4⟩;have g0:AtB W w g (0+0) p:=⟨F1,_,g1,g4⟩;exact zfG zlY g0 h3 (xrf w) λv hv=>k v hv
def zjG {lo hi:Nat} {u:vL} {x:DIns} (h:EmF W g p L F w) (hx:OwnI lo hi w u x) (hgl:g<lo) (gp:∀ c∈F,c<lo) (hlo:lo<=w.heap.size) (hL:L.length<=1000000) :
   CALL tp 99 [.pointer (some ⟨g,0,none⟩),u] w λr w'=>r=.int .i64 (L.length:Int)/\Chg (g :: F) w w'/\∃ F',EmF W g p (L++[x]) F' w'/\∀ c∈F',c∈F\/lo<=c:=by
 obtain ⟨_,e2,_,e4,e5⟩:=h.lt;obtain ⟨_,gj,g3⟩:=hx;refine co (g:=⟨extL,[],[],[(1,[0,1,2,3,4,5,6,7,8,9,10],192)],[],[1],[]⟩) Tryz.func99 ?_;refine zax zbm rfl gj.is (xrf w) λw1 gl _ gt=>?_;have:=gl.size;have g5:=zag w1;have:=g5.size;have gx:=gt.ext g5;have C:=gl.t g5;generalize World.drew1 w1=w2 at *;have gy:=gj.ext C;obtain ⟨c0,c1,c2,_,h1,h2,_,h4,_⟩:=h.ext C;obtain ⟨G1,g9⟩:=zkC (Lens.var h2);obtain ⟨_,⟨rfl,gb⟩,gz,gC,_,gD,_⟩:=g9.here
 have D:∀ c∈G1,c∈F:=λc hc=>by
   rcases qaa.1 (g9.sub c (by simp [hc])) with e | h
   . exact absurd (e▸hc) gD
   exact h
 have g0:=h2.lts;refine XR.mk (λc=>c∈F)<|NIL.mk rfl<|zeN ziF<|zfr zdD gz (λh=>e4 h)<|zES gx (λh=>by have:=e2 _ h;omega)<|zdU (β:=DIns) (G:=G1) u26 zbm zIa zHh qd gb gC gy (λc hc gE=>by have:=g3 c hc;have:=gp c (D c gE);omega) (by rw [zaj];show L.length+1<=_;omega) (by show (L.length+1)*_<=_;omega) (λw3 gc w4 _ g4 gq gF gG gd=>?_) λ_ w3 g4 h=>⟨g4.toX,h⟩;have:=g4.size;refine ⟨gq.toX (λc hc=>D c hc),?_⟩;refine NIL.mk rfl<|zeN ziF ?_;have gf:Chg G1 w2 w4:=(g4.chg G1).trans gq;refine ztr zdD g9 g0 gf gF gG (λc hc=>?_) λw5 gH ⟨F',gg,gr⟩=>?_
 . rcases gd c hc with h | h | h
   . exact .inl h
   . refine .inr λhm=>?_;have:=g3 c h;rcases qaa.1 hm with e | hm
     . omega
     have:=gp c hm;omega
   exact .inr λhm=>by have:=g0 c hm;omega
 have g1:g∉F':=by obtain ⟨_,_,_,_,_,hn,_⟩:=gg;exact hn
 have g2:Chg (g :: F) w w5:=(C.chg _).trans (gH.mono λc hc=>by
   rcases qaa.1 hc with rfl | hc
   . simp
   simp [D c hc])
 refine NIL.mk rfl<|zaa ziF<|zab (α:=RIns) zdD (zpT gg.at) (xrf w5) λv18 gI=>?_;obtain ⟨gh,gi⟩:=znE gI;have gh:v18=gc:=gh;have gi:Is w5 gc (L++[x]):=gi;rw [gh];refine zae u26 gi ?_;have gs:((L++[x]).length:Int)=(L.length:Int)+1:=by simp
 refine zbe (by show I64 (((L++[x]).length:Int)-1);rw [gs];unfold I64;omega)<|⟨?_,g2,F',⟨c0,c1,c2,gc,h1,gg,h.old.chgL g2 (λc hc=>?_),h4,λc hc=>?_⟩,λc hc=>?_⟩
 . show Value.int .i64 (((L++[x]).length:Int)-1)=_;rw [gs];congr 1;omega
 . rcases qaa.1 hc with rfl | hc
   . exact h4
   exact e5 c hc
 . rcases gr c hc with h | h
   . rcases qaa.1 h with rfl | h
     . exact absurd hc g1
     exact e5 c h
   rcases gd c h with h | h | h
   . exact e5 c (D c h)
   . have:=g3 c h;omega
   omega
 rcases gr c hc with h | h
 . rcases qaa.1 h with rfl | h
   . exact absurd hc g1
   exact .inl h
 rcases gd c h with h | h | h
 . exact .inl (D c h)
 . exact .inr (g3 c h).1
 exact .inr oo
def zlz {A R:List DIns} {y:DIns} {k:Nat} {K:wD->Prop} (h:EmF W g p (A++y :: R) F w) (hk:A.length=k) (hL:(A++y :: R).length<=1000000)
   (kk:∀ w' F',Chg (g :: F) w w'->EmF W g p (A++(⟨y.op,y.arg,y.term,((A++y :: R).length:Int)⟩:DIns) :: R) F' w'->(∀ c∈F',c∈F)->K w') :
   NIL (.pointer (some ⟨g,0,none⟩))<|RD tp (Instr.fieldAt 144 (.pointer (some ⟨g,0,none⟩)) 1) w λx110=>RD tp (Instr.loadAt 26 x110) w λx111=>
     NIL (.pointer (some ⟨g,0,none⟩))<|RD tp (Instr.fieldAt 144 (.pointer (some ⟨g,0,none⟩)) 1) w λx115=>RD tp (Instr.loadAt 26 x115) w λx116=>
     RD tp (Builtin.len_ #[26] 3 [x116].toArray) w λx117=>RD tp (Instr.indexAt 26 x111 (.int .i64 (k:Int))) w λx118=>RD tp (Instr.fieldAt 151 x118 3) w λx119=>
     OPU tp (Instr.storeAt 3 x119 x117) w λw=>K w:=by
 obtain ⟨_,_,e3,_,e5⟩:=h.lt;obtain ⟨c0,c1,c2,rv,h1,h2,h3,h4,_⟩:=h;have:=h2.lts;have C:k<(A++y :: R).length:=by simp;omega
 obtain ⟨_,g2⟩:=zkC (Lens.var h2);obtain ⟨_,⟨rfl,g0⟩,g3,_⟩:=g2.here;obtain ⟨_,_,_,_,g4,_,g5⟩:=g2.elemV (k:=k) C;refine NIL.mk rfl<|zaa ziF<|zcN zdD g3<|NIL.mk rfl<|zaa ziF<|zcN zdD g3<|zae u26 (show Is w rv (A++y :: R) from g0.own.is)<|zpQ u26 zbm g4 C ?_;obtain ⟨_,g9⟩:=zs2 g5;refine zaa zdg<|zjh ty3 g9 (zbt io) sS λw' hc ⟨F',hO,gb⟩=>?_;have g1:g∉F':=by obtain ⟨_,_,_,_,_,hn,_⟩:=hO;exact hn
 have hF:∀ c∈F',c∈F:=λc r=>by
   rcases gb c r with h | h
   . rcases qaa.1 h with rfl | h
     . exact absurd r g1
     exact h
   simp at h
 refine kk w' F' hc ⟨c0,c1,c2,rv,h1,?_,h3.chgL hc λc r=>?_,h4,λc r=>e5 c (hF c r)⟩ hF
 . have hO:OAt F' w' g 0 (⟨⟨c0⟩,⟨c1⟩,⟨c2⟩,⟨rv,(A++y :: R).set k ⟨((A++y :: R)[k]'C).op,((A++y :: R)[k]'C).arg,((A++y :: R)[k]'C).term,((A++y :: R).length:Int)⟩⟩⟩:DEm):=hO;rw [zpM hk,zku hk C] at hO;exact hO
 rcases qaa.1 r with rfl | r
 . exact e3
 exact e5 c r
end
def zgZ (G L P:List ByteArray) (x:DStmt) (a:Nat):emS G L P x a =
   if x.kind=1 then [⟨1,plc x.name G,x.term,0⟩]
   else if x.kind=4 then [⟨4,plc x.name P,term0,0⟩]
   else if x.kind=5 then [⟨5,plc x.name P,term0,0⟩]
   else if x.kind=6 then [⟨6,plc x.name L,term0,0⟩]
   else if x.kind=7 then [⟨7,plc x.name L,term0,0⟩]
   else if x.kind=8 then [⟨8,0,term0,0⟩]
   else if x.kind=3 then ⟨2,0,x.term,((a+1+(emL G L P x.body (a+1)).length+1:Nat):Int)⟩ :: (emL G L P x.body (a+1)++[⟨3,0,term0,(a:Int)⟩])
   else if x.kind=2 then
     (if x.els.length=0 then ⟨2,0,x.term,((a+1+(emL G L P x.body (a+1)).length:Nat):Int)⟩ :: emL G L P x.body (a+1)
     else ⟨2,0,x.term,((a+1+(emL G L P x.body (a+1)).length+1:Nat):Int)⟩ :: (emL G L P x.body (a+1) ++
       (⟨3,0,term0,((a+1+(emL G L P x.body (a+1)).length+1+(emL G L P x.els (a+1+(emL G L P x.body (a+1)).length+1)).length:Nat):Int)⟩ :: emL G L P x.els (a+1+(emL G L P x.body (a+1)).length+1))))
   else []:=by cases x;rw [emS];rfl
section
variable (G L P:List ByteArray)
mutual
theorem zzg:∀ (x:DStmt) (a:Nat),(emS G L P x a).length<=2*szS x
  | .mk k n t b e,a=>by
    have h1:=zkD b (a+1);have h2:=zkD e (a+1+(emL G L P b (a+1)).length+1);rw [emS,szS];repeat' split
    all_goals simp only [qak,qaC,qag];omega
theorem zkD:∀ (l:List DStmt) (a:Nat),(emL G L P l a).length<=2*szL l
  | [],a=>by rw [emL];simp
  | x :: l,a=>by
    have h1:=zzg x a;have h2:=zkD l (a+(emS G L P x a).length);rw [emL,szL,qag];omega
end
end
def zET (x:DStmt):szS x=1+szL x.body+szL x.els:=by cases x;rw [szS];rfl
def ze0 (h:Chg (g :: F) w w1) (k:Chg (g :: F1) w1 w2) (hF:∀ c∈F1,c∈F\/w.heap.size<=c):Chg (g :: F) w w2:=
 ⟨k.os.trans h.os,k.tape.trans h.tape,k.output.trans h.output,qat h.size k.size,λb hb hn=>(k.block b (qap hb h.size) λhm=>by
   simp only [qaa,not_or] at hn;rcases qaa.1 hm with e | hm
   . exact hn.1 e
   rcases hF b hm with h | h
   . exact hn.2 h
   omega).trans (h.block b hb hn)⟩
def zGB {x:DStmt} (h:AtB W w b 0 x):AtB W w b (0+6) x.body:=by
 obtain ⟨F,cs,hr,hc⟩:=h;have h:AtB W w b 0 x.tup:=⟨F,cs,zfW.1 hr,hc⟩;exact h.snd.snd.snd.fst
def zGC {x:DStmt} (h:AtB W w b 0 x):AtB W w b (0+7) x.els:=by
 obtain ⟨F,cs,hr,hc⟩:=h;have h:AtB W w b 0 x.tup:=⟨F,cs,zfW.1 hr,hc⟩;exact h.snd.snd.snd.snd
def zu3 {p:DProg} (h:Is W v p):p.procs.length<=9223372036854775807:=by
 obtain ⟨_,_,hr,_⟩:=h;obtain ⟨_,_,_,_,rfl,_,_,_,_,_,_,rfl,_,_,h3⟩:=hr;obtain ⟨_,cap,_,_,_,q1,q2,_⟩:=h3;have q1:p.procs.length<=cap:=q1;rw [zaj] at q2;omega
def ztt (c:Scp) (n:Nat) (l:List DStmt):Prop:=∀ {W w:wD} {g:Nat} {p:DProg} {L:List DIns} {F:List Nat} {v:vL},EmF W g p L F w->Is W v l->(∀ x∈l,StR c n x)->L.length+2*szL l<=1000000 ->
 CALL tp 98 [.pointer (some ⟨g,0,none⟩),v] w λr w'=>Chg (g :: F) w w'/\∃ F',EmF W g p (L++emL p.globals p.locks (p.procs.map DProc.name) l L.length) F' w'/\∀ c∈F',c∈F\/w.heap.size<=c
def zHQ (W w:wD) (g:Nat) (p:DProg) (L:List DIns) (F:List Nat) (l:List DStmt) (k:Nat) (us:List vL) (w':wD):Prop:=
 us=[.int .i64 (k:Int)]/\∃ L1 F1,k<=l.length/\L++emL p.globals p.locks (p.procs.map DProc.name) l L.length=L1++emL p.globals p.locks (p.procs.map DProc.name) (l.drop k) L1.length/\L1.length+2*szL (l.drop k)<=1000000 /\
   Chg (g :: F) w w'/\EmF W g p L1 F1 w'/\∀ c∈F1,c∈F\/w.heap.size<=c
def zjH {c:Scp} {l:List DStmt} (ih:∀ m l,m+1=n->ztt c m l) (gb:∀ m,ztt c m []):ztt c n l:=by
 intro W w g p L F _ hE h hs gY;have hln:=zak h;obtain ⟨-,_,_,_,_⟩:=hE.lt;have e1:=hE.lt.1;refine co (g:=kf [] [(1,766247770432944429179173513575154591809369561091801072,[4])] [(6,[0,1,2,3,4,5,6,7,9,10,8,11,12,13],2304),(8,[0,1,2,3,4,5,6,7,8,9],128),(10,[0,1,2,3,4,5,6,7,8,9],128),(12,[0,1,2,3,4,5,6,7,8,9,10],256),(14,[0,1,2,3,4,5,6,7,8,9,10],256),(21,[0,1,2,3,4,5,6,7,8,9,10,11,12],0),(27,[0,1,2,3,4,5,6,7,8,9,10,11,12],0),(29,[0,1,2,3,4,5,6,7,8,9,10,11,12],0),(30,[0,1,2,3,4,5,6,7,8,9,10,11,12],0)]) Tryz.func98 ?_;refine zap l.length (zHQ W w g p L F l) 0 (z0 _) ⟨rfl,L,F,z0 _,sS,by simpa using gY,Chg.refl _ _,hE,λc hc=>.inl hc⟩ ?_;rintro k m u w1 _ ⟨hu,L1,F1,_,gS,gy,gZ,gU,g1⟩;try replace hu:=zbv hu
 rw [hu];have hW:=gZ.size;refine zae zf9 h<|zaf<|br (λ_=>?_) (λ_=>?_)
 rotate_left
 . have hk:k=l.length:=oo;subst hk;rw [qbB,emL,qaF] at gS;rw [gS];exact ⟨gZ,F1,gU,g1⟩
 have hk:k<l.length:=oo;obtain ⟨x,hx⟩:∃ x,x=l[k]:=⟨_,rfl⟩;have gs:StR c n x:=by rw [hx];exact hs _ (qac hk)
 have hD:l.drop k=x :: l.drop (k+1):=by rw [hx];exact qaA hk
 rw [hD,emL] at gS;rw [hD,szL] at gy;have hel:=zzg p.globals p.locks (p.procs.map DProc.name) x L1.length;have hX:=zET x
 have I:∀ w' F2,Chg (g :: F) w w'->EmF W g p (L1++emS p.globals p.locks (p.procs.map DProc.name) x L1.length) F2 w'->(∀ c∈F2,c∈F\/w.heap.size<=c) ->
     ∃ m',m'<m/\∃ k',k'+m'=l.length/\zHQ W w g p L F l k' [.int .i64 ((k+1:Nat):Int)] w':=λw' F2 hc hE hF=>
   ⟨m-1,oo,k+1,oo,rfl,_,F2,oo,by rw [gS,qag,qaw],by rw [qag];omega,hc,hE,hF⟩
 obtain ⟨_,f2,_,_,_⟩:=gU.lt;have hG:=gU.old;refine zad zf9 zb6 h hk λ_ _ gz=>?_;rw [<-hx] at gz;refine zab zb6 gz hG λ_ hH=>zcP zv6 rfl zb6 rfl hH hG λw2 h6 _ hI=>?_;have hs2:=h6.size;have hg5:=hI.lt;have gi:=gU.ext h6;have hJ:=zga hH hI rfl;have hY:Chg (g :: F) w w2:=gZ.trans (h6.chg _)
 have g2:(x.kind=1\/x.kind=2\/x.kind=3)->TmR c.gl x.term:=λ_=>by
   have h0:St0 c x->TmR c.gl x.term:=λq=>by
     rcases q with q | q | q | q
     . exact q.2.2.1
     . have:=q.1;omega
     . have:=q.1;omega
     have:=q.1;omega
   cases n with
   | zero=>exact h0 gs.zero
   | succ n=>
     rcases gs.succ with q | ⟨_,_,h3,_⟩
     . exact h0 q
     exact h3
 have h8:∃ q,(∀ y∈x.body,StR c q y)/\(∀ y∈x.els,StR c q y)/\ztt c q x.body/\ztt c q x.els:=by
   have h0:St0 c x->x.body=[]/\x.els=[]:=λh=>by rcases h with q | q | q | q<;>exact ⟨q.2.2.2.1,q.2.2.2.2⟩
   cases n with
   | zero=>
     obtain ⟨h1,h2⟩:=h0 gs.zero;rw [h1,h2];exact ⟨0,sS,sS,gb 0,gb 0⟩
   | succ n=>
     rcases gs.succ with q | ⟨_,_,_,h4,h5⟩
     . obtain ⟨h1,h2⟩:=h0 q;rw [h1,h2];exact ⟨0,sS,sS,gb 0,gb 0⟩
     exact ⟨n,h4,h5,ih n _ rfl,ih n _ rfl⟩
 obtain ⟨q,hL,hZ,hM,j0⟩:=h8;have O:=hJ.at gi.old;refine zaa zfd<|zac ty3 (zdb O) (xrf _) λ_=>?_
 have V:∀ {w3:wD} {lo hi:Nat} {u:vL} {y:DIns} {K:VW},Ext w2 w3->OwnI lo hi w3 u y->w1.heap.size<=lo->lo<=w3.heap.size ->
     (∀ w4 F4,Chg (g :: F) w w4->EmF W g p (L1++[y]) F4 w4->(∀ c∈F4,c∈F1\/w1.heap.size<=c)->AtB W w4 w1.heap.size 0 x->w1.heap.size<w4.heap.size->w1.heap.size∉F4\/lo<=w1.heap.size->K (.int .i64 (L1.length:Int)) w4)->CALL tp 99 [.pointer (some ⟨g,0,none⟩),u] w3 K:=by
   intro w3 lo hi u y K r ho h1 h2 hK;have gC:=r.size;refine (zjG (gi.ext r) ho oo (λc hc=>by have:=f2 c hc;omega) h2 oo).mono ?_;rintro _ w4 ⟨rfl,h9,F4,j1,hN⟩;have gj:=h9.size;refine hK w4 F4 (ze0 (hY.trans (r.chg _)) h9 g1) j1 (λc hc=>(hN c hc).imp id λh=>oo) ((hJ.ext r).keep (h9.block _ oo λhm=>?_)) oo ?_
   . rcases qaa.1 hm with e | hm
     . omega
     have:=f2 _ hm;omega
   rcases qay w1.heap.size lo with hl | hl
   . refine .inl λhm=>?_;rcases hN _ hm with h | h
     . have:=f2 _ h;omega
     omega
   exact .inr hl
 refine zai<|br (λk1=>?_) (λk1=>?_)
 . have r:=zag w2;have Z:=gi.ext r;refine NIL.mk rfl<|zGA Z λgV g0=>zaa zdh<|zar ty9 (zbV O) r λhS=>zaa zhn<|zab zbl (zdZ O) r λ_ j2=>?_;refine (zcL g0 Z.old).mono ?_;rintro _ w4 ⟨C,rfl⟩;refine ⟨C,?_⟩;have gD:=(g2 (.inl k1)).2.2;refine (zkB _ j2 (r.t C) oo).mono ?_;rintro _ w5 ⟨ha,hb⟩;have hb:=hb.toI;have gC:=r.size;have gj:=C.size;have hO:=ha.size;refine ⟨ha,?_⟩;have gt:=zl8 (s:=x.name) (l:=p.globals);have gc:=zak g0;refine zts io io hb λgE g3=>V (r.t (C.t ha)) g3 oo oo λw6 F6 U D X _ _ _=>zau<|I w6 F6 U ?_ λc hc=>(X c hc).elim (g1 c) λh=>.inr oo;rw [zgZ,qah k1];exact D
 refine zai<|br (λk4=>?_) (λk4=>?_)
 . have r:=zag w2;have Z:=gi.ext r;have gC:=r.size;refine NIL.mk rfl<|zDA Z λgV g0=>zaa zdh<|zar ty9 (zbV O) r λhS=>?_;refine (zmF g0 Z.old).mono ?_;rintro _ w4 ⟨C,rfl⟩;have gj:=C.size;refine ⟨C,?_⟩;have gt:=zl8 (s:=x.name) (l:=p.procs.map DProc.name);have gc:p.procs.length<=9223372036854775807:=zu3 g0;rw [qaD] at gt;refine zh6 (lo:=w4.heap.size) (hi:=w4.heap.size) io io λgE g3=>V (r.t C) g3 oo oo λw6 F6 U D X _ _ _=>zau<|I w6 F6 U ?_ λc hc=>(X c hc).elim (g1 c) λh=>.inr oo;rw [zgZ,qab k1,qah k4];exact D
 refine zai<|br (λk5=>?_) (λk5=>?_)
 . have r:=zag w2;have Z:=gi.ext r;have gC:=r.size;refine NIL.mk rfl<|zDA Z λgV g0=>zaa zdh<|zar ty9 (zbV O) r λhS=>?_;refine (zmF g0 Z.old).mono ?_;rintro _ w4 ⟨C,rfl⟩;have gj:=C.size;refine ⟨C,?_⟩;have gt:=zl8 (s:=x.name) (l:=p.procs.map DProc.name);have gc:p.procs.length<=9223372036854775807:=zu3 g0;rw [qaD] at gt;refine zh6 (lo:=w4.heap.size) (hi:=w4.heap.size) io io λgE g3=>V (r.t C) g3 oo oo λw6 F6 U D X _ _ _=>zau<|I w6 F6 U ?_ λc hc=>(X c hc).elim (g1 c) λh=>.inr oo;rw [zgZ,qab k1,qab k4,qah k5];exact D
 refine zai<|br (λk6=>?_) (λk6=>?_)
 . have r:=zag w2;have Z:=gi.ext r;have gC:=r.size;refine NIL.mk rfl<|zDz Z λgV g0=>zaa zdh<|zar ty9 (zbV O) r λhS=>?_;refine (zcL g0 Z.old).mono ?_;rintro _ w4 ⟨C,rfl⟩;have gj:=C.size;refine ⟨C,?_⟩;have gt:=zl8 (s:=x.name) (l:=p.locks);have gc:=zak g0;refine zh6 (lo:=w4.heap.size) (hi:=w4.heap.size) io io λgE g3=>V (r.t C) g3 oo oo λw6 F6 U D X _ _ _=>zau<|I w6 F6 U ?_ λc hc=>(X c hc).elim (g1 c) λh=>.inr oo;rw [zgZ,qab k1,qab k4,qab k5,qah k6];exact D
 refine zai<|br (λk7=>?_) (λk7=>?_)
 . have r:=zag w2;have Z:=gi.ext r;have gC:=r.size;refine NIL.mk rfl<|zDz Z λgV g0=>zaa zdh<|zar ty9 (zbV O) r λhS=>?_;refine (zcL g0 Z.old).mono ?_;rintro _ w4 ⟨C,rfl⟩;have gj:=C.size;refine ⟨C,?_⟩;have gt:=zl8 (s:=x.name) (l:=p.locks);have gc:=zak g0;refine zh6 (lo:=w4.heap.size) (hi:=w4.heap.size) io io λgE g3=>V (r.t C) g3 oo oo λw6 F6 U D X _ _ _=>zau<|I w6 F6 U ?_ λc hc=>(X c hc).elim (g1 c) λh=>.inr oo;rw [zgZ,qab k1,qab k4,qab k5,qab k6,qah k7];exact D
 refine zai<|br (λk8=>?_) (λk8=>?_)
 . refine zmH (lo:=w2.heap.size) (hi:=w2.heap.size) io λgE g3=>?_;refine V (xrf w2) g3 oo oo λw6 F6 U D X _ _ _=>zau<|I w6 F6 U ?_ λc hc=>(X c hc).elim (g1 c) λh=>.inr oo;rw [zgZ,qab k1,qab k4,qab k5,qab k6,qab k7,qah k8];exact D
 have j3:=zkD p.globals p.locks (p.procs.map DProc.name) x.body (L1.length+1);refine zai<|br (λk3=>?_) (λk3=>?_)
 . refine zaa zhn ?_;refine zab zbl (zdZ O) (xrf _) λ_ j4=>?_;have gD:=(g2 (.inr (.inr k3))).2.2;refine (zkB _ j4 (xrf _) oo).mono ?_;rintro _ w4 ⟨C,hd⟩;have hd:=hd.toI;have gj:=C.size;refine zor io hd λ_ j5=>V C j5 oo oo λw5 F5 gF gG gW gd gH _=>zaa zfe<|zfG zd6 (zGB gd) gG.old (xrf _) λ_ he=>?_;refine (hM gG he hL so).mono ?_;rintro _ w6 ⟨U,F6,D,X⟩;have hO:=gF.size;have j6:=U.size;obtain ⟨z1,z2,z3,z4,z5⟩:=D.lt;refine zwq (lo:=w6.heap.size) (hi:=w6.heap.size) io io λ_ hf=>?_;refine (zjG D hf z1 z2 (lr _) so).mono ?_;rintro _ w7 ⟨-,gx,F7,gI,gX⟩;have j7:=gx.size;have g5:=zag w7
   have e7:L1++[(⟨2,0,x.term,0⟩:DIns)]++emL p.globals p.locks (p.procs.map DProc.name) x.body (L1++[(⟨2,0,x.term,0⟩:DIns)]).length++[⟨3,0,term0,(L1.length:Int)⟩] =
       L1++(⟨2,0,x.term,0⟩:DIns) :: (emL p.globals p.locks (p.procs.map DProc.name) x.body (L1.length+1)++[⟨3,0,term0,(L1.length:Int)⟩]):=by simp
   rw [e7] at gI;have Y:∀ c∈F6,c∈F\/w.heap.size<=c:=λc hc=>(X c hc).elim (λh=>(gW c h).elim (g1 c) λh=>.inr oo) λh=>.inr oo;have g4:∀ c∈F7,c∈F\/w.heap.size<=c:=λc hc=>(gX c hc).elim (Y c) λh=>.inr oo;have gp:=ze0 (ze0 gF U λc hc=>(gW c hc).elim (g1 c) λh=>.inr oo) gx Y;refine zlz (gI.ext g5) rfl so λw9 F9 gq g9 gJ=>zau<|I w9 F9 (ze0 (gp.trans (g5.chg _)) gq g4) ?_ λc hc=>g4 c (gJ c hc);rw [zgZ,qab k1,qab k4,qab k5,qab k6,qab k7,qab k8,qah k3]
   have:((L1++(⟨2,0,x.term,0⟩:DIns) :: (emL p.globals p.locks (p.procs.map DProc.name) x.body (L1.length+1)++[⟨3,0,term0,(L1.length:Int)⟩])).length:Int)=((L1.length+1+(emL p.globals p.locks (p.procs.map DProc.name) x.body (L1.length+1)).length+1:Nat):Int):=by
     simp only [qag,qak,qaC];omega
   rw [this] at g9;exact g9
 refine zai<|br (λk2=>?_) (λk2=>?_)
 rotate_left
 . exfalso;have h0:St0 c x->False:=λq=>by rcases q with q | q | q | q<;>(have:=q.1;omega)
   cases n with
   | zero=>exact h0 gs.zero
   | succ n=>
     rcases gs.succ with q | ⟨q,_⟩
     . exact h0 q
     omega
 refine zaa zhn<|zab zbl (zdZ O) (xrf _) λ_ hg=>?_;have gD:=(g2 (.inr (.inl k2))).2.2;refine (zkB _ hg (xrf _) oo).mono ?_;rintro _ w4 ⟨C,gr⟩;have gr:=gr.toI;have gj:=C.size;refine zor io gr λ_ hh=>V C hh oo oo λw5 F5 gF gG gW gd gH gf=>?_;have gf:w1.heap.size∉F5:=gf.elim id λh=>oo;have hO:=gF.size;refine zaa zfe<|zfG zd6 (zGB gd) gG.old (xrf _) λ_ hj=>?_;refine (hM gG hj hL so).mono ?_;rintro _ w6 ⟨U,F6,D,X⟩;have j6:=U.size
 have hP:=gd.keep (U.block _ gH λhm=>by
   rcases qaa.1 hm with e | hm
   . omega
   exact gf hm)
 obtain ⟨z1,z2,z3,z4,z5⟩:=D.lt;have gK:∀ c∈F5,c∈F\/w.heap.size<=c:=λc hc=>(gW c hc).elim (g1 c) λh=>.inr oo;have Y:∀ c∈F6,c∈F\/w.heap.size<=c:=λc hc=>(X c hc).elim (gK c) λh=>.inr oo;have gM:=ze0 gF U gK
 have e6:L1++[(⟨2,0,x.term,0⟩:DIns)]++emL p.globals p.locks (p.procs.map DProc.name) x.body (L1++[(⟨2,0,x.term,0⟩:DIns)]).length =
     L1++(⟨2,0,x.term,0⟩:DIns) :: emL p.globals p.locks (p.procs.map DProc.name) x.body (L1.length+1):=by simp
 rw [e6] at D;obtain ⟨B,hB⟩:∃ B,B=emL p.globals p.locks (p.procs.map DProc.name) x.body (L1.length+1):=⟨_,rfl⟩;rw [<-hB] at D j3;refine zaa zeg<|zfG zd6 (zGC hP) D.old (xrf _) λ_ hn=>zae zf9 hn<|zcO<|br (λke=>?_) (λke=>?_)
 . refine zmH (lo:=w6.heap.size) (hi:=w6.heap.size) io λ_ hq=>?_;refine (zjG D hq z1 z2 (lr _) so).mono ?_;rintro _ w7 ⟨hr,gx,F7,gI,gX⟩;rw [hr];have j7:=gx.size;have g5:=zag w7;have hs8:=g5.size;have e7:L1++(⟨2,0,x.term,0⟩:DIns) :: B++[⟨3,0,term0,0⟩]=L1++(⟨2,0,x.term,0⟩:DIns) :: (B++[⟨3,0,term0,0⟩]):=by simp
   rw [e7] at gI;have g4:∀ c∈F7,c∈F\/w.heap.size<=c:=λc hc=>(gX c hc).elim (Y c) λh=>.inr oo;have gp:=ze0 gM gx Y;have gN:w1.heap.size∉F6:=λhm=>(X _ hm).elim gf λh=>oo;have ht:w1.heap.size∉F7:=λhm=>(gX _ hm).elim gN λh=>oo
   have j8:=hP.keep (gx.block _ oo λhm=>by
     rcases qaa.1 hm with e | hm
     . omega
     exact gN hm)
   refine zlz (gI.ext g5) rfl so λw9 F9 gq g9 gJ=>?_;have hs9:=gq.size
   have j9:=(j8.ext g5).keep (gq.block _ oo λhm=>by
     rcases qaa.1 hm with e | hm
     . omega
     exact ht hm)
   refine zaa zeg<|zfG zd6 (zGC j9) g9.old (xrf _) λ_ hv=>?_;obtain ⟨y0,hQ⟩:∃ y0:DIns,y0=⟨2,0,x.term,((L1++(⟨2,0,x.term,0⟩:DIns) :: (B++[⟨3,0,term0,0⟩])).length:Int)⟩:=⟨_,rfl⟩;have g9:EmF W g p (L1++y0 :: (B++[⟨3,0,term0,0⟩])) F9 w9:=by rw [hQ];exact g9
   refine (j0 g9 hv hZ so).mono ?_;rintro _ ja ⟨hw,jb,gg,hy⟩;have gO:∀ c∈F9,c∈F\/w.heap.size<=c:=λc hc=>g4 c (gJ c hc);have gh:∀ c∈jb,c∈F\/w.heap.size<=c:=λc hc=>(hy c hc).elim (gO c) λh=>.inr oo;have gP:=ze0 (ze0 (gp.trans (g5.chg _)) gq g4) hw gO;have gQ:=zag ja;have hR:=zkD p.globals p.locks (p.procs.map DProc.name) x.els (L1++y0 :: (B++[⟨3,0,term0,0⟩])).length;have jc:(L1++y0 :: (B++[(⟨3,0,term0,0⟩:DIns)])).length=L1.length+1+B.length+1:=by simp only [qag,qak,qaC];omega
   rw [jc] at gg hR;obtain ⟨E,hV⟩:∃ E,E=emL p.globals p.locks (p.procs.map DProc.name) x.els (L1.length+1+B.length+1):=⟨_,rfl⟩;rw [<-hV] at gg hR;have jd:L1++y0 :: (B++[(⟨3,0,term0,0⟩:DIns)])++E=(L1++y0 :: B)++(⟨3,0,term0,0⟩:DIns) :: E:=by simp
   rw [jd] at gg;refine zlz (gg.ext gQ) sS (by simp only [qag,qak];omega) λje jf hz gR hC=>zau<|I je jf (ze0 (gP.trans (gQ.chg _)) hz gh) ?_ λc hc=>gh c (hC c hc);rw [zgZ,qab k1,qab k4,qab k5,qab k6,qab k7,qab k8,qab k3,qah k2,qab oo,<-hB,<-hV]
   have q1:y0=⟨2,0,x.term,((L1.length+1+B.length+1:Nat):Int)⟩:=by
     rw [hQ];congr 1;simp only [qag,qak,qaC];omega
   have q2:(((L1++y0 :: B)++(⟨3,0,term0,0⟩:DIns) :: E).length:Int)=((L1.length+1+B.length+1+E.length:Nat):Int):=by
     simp only [qag,qak,qaC];omega
   rw [q2,q1] at gR;simpa using gR
 have g5:=zag w6;refine zlz (D.ext g5) rfl so λw9 F9 gq g9 gJ=>zau<|I w9 F9 (ze0 (gM.trans (g5.chg _)) gq Y) ?_ λc hc=>Y c (gJ c hc);rw [zgZ,qab k1,qab k4,qab k5,qab k6,qab k7,qab k8,qab k3,qah k2,qah oo,<-hB]
 have:((L1++(⟨2,0,x.term,0⟩:DIns) :: B).length:Int)=((L1.length+1+B.length:Nat):Int):=by
   simp only [qag,qak,qaC];omega
 rw [this] at g9;exact g9
def zk9 (c:Scp) (n:Nat):ztt c n []:=by
 intro _ w g _ _ F _ hE h _ _;refine co (g:=kf [] [(1,766247770432944429179173513575154591809369561091801072,[4])] [(6,[0,1,2,3,4,5,6,7,9,10,8,11,12,13],2304),(8,[0,1,2,3,4,5,6,7,8,9],128),(10,[0,1,2,3,4,5,6,7,8,9],128),(12,[0,1,2,3,4,5,6,7,8,9,10],256),(14,[0,1,2,3,4,5,6,7,8,9,10],256),(21,[0,1,2,3,4,5,6,7,8,9,10,11,12],0),(27,[0,1,2,3,4,5,6,7,8,9,10,11,12],0),(29,[0,1,2,3,4,5,6,7,8,9,10,11,12],0),(30,[0,1,2,3,4,5,6,7,8,9,10,11,12],0)]) Tryz.func98 ?_;refine zap 0 (λk us w'=>us=[.int .i64 (k:Int)]/\w'=w) 0 (z0 _) ⟨rfl,rfl⟩ ?_;rintro k _ _ _ _ ⟨hu,rfl⟩;try replace hu:=zbv hu
 rw [hu];refine zae zf9 h<|zaf<|br (λg0=>by simp at g0;omega) (λ_=>?_);exact ⟨Chg.refl _ _,F,by rw [emL,qaF];exact hE,λc hc=>.inl hc⟩
theorem zmI (c:Scp):∀ (n:Nat) (l:List DStmt),ztt c n l
 | 0,l=>zjH (n:=0) (l:=l) (λm l h=>absurd h oo) (zk9 c)
 | n + 1, l => zjH (n := n + 1) (l := l) (λm l h => by
     obtain rfl:m=n:=oo;exact zmI c m l) (zk9 c)
def CodeR.f (h:CodeR c):EntF c:=h.2.1.f h.1.procs8.2
def zh7  (h0:Is W0 v0 c) (e0:Ext W0 w)  :
   CALL tp 50 [v0,.int .i64 a] w λr w'=>Ext w w'/\(r=.bool (decide (0<=a/\a<c.ins.length))):=by
 refine co (g:=kf [] [] []) Tryz.func50 ?_;refine zax zbY rfl h0 e0 λg1 y1 g2 _=>zb9<|br (λc1=>?_) (λc1=>?_)
 . refine zaa zaY ?_;refine zab zdD (zam g2) (xrf g1) λ_ g0=>?_;have:=zak g0;refine zae u26 g0<|zaf<|⟨y1,?_⟩;simp [c1]
 refine ⟨y1,?_⟩;simp [c1]
def zrC  (h0:Is W0 v0 c) (e0:Ext W0 w) (hc:CodeR c) (ha:0<=a) (ha2:a<c.ins.length) :
   CALL tp 204 [v0,.int .i64 a] w λr w'=>Ext w w'/\(r=.int .i64 (zas c a)):=by
 refine co (g:=kf [] [(2,16777184,[5])] []) Tryz.func204 ?_;have hf:=hc.f;have:=hc.1.procs8;have:=hf.len;refine zax zbY rfl h0 e0 λg1 y1 g2 _=>zap (c.entry.length-1) (λk us w'=>us=[.int .i64 (k:Int)]/\Ext g1 w'/\(en c k<=a)) (0) oo ⟨sS,xrf g1,by rw [hf.zero];exact ha⟩ ?_;rintro k m2 _ _ _ ⟨hu,y2,g0⟩;try replace hu:=zbv hu
 try rw [hu]
 try clear hu
 refine zau<|zaa zbq<|zab zaS (zaq g2) y2 λ_ h9=>?_;have:=zak h9;refine zae u25 h9<|zaf<|br (λc1=>?_) (λc1=>?_)
 . refine zaa zbq ?_;refine zab zaS (zaq g2) y2 λ_ g3=>zau<|zad u25 ty3 g3 oo λ_ _ g4=>zac ty3 g4 y2 λ_=>zew<|br (λc2=>?_) (λc2=>?_)
   . refine zau ?_;refine ⟨m2-1,oo,k+1,oo,sS,y2,?_⟩;rwa [zbO] at c2
   refine ⟨(y1.t y2),?_⟩;rw [zbO] at c2;rw [hf.proc (i:=k) oo g0 (by rw [hf.step oo];omega)]
 refine ⟨(y1.t y2),?_⟩;rw [hf.proc (i:=k) oo g0 (by rw [hf.last oo];omega)]
def st (l:List Int) (i:Nat):Int:=l.getD i 0
def zrD {l:List Int} (h:i<l.length):l[i]=st l i:=by unfold st;rw [List.getD_eq_getElem?_getD,List.getElem?_eq_getElem h];rfl
def zf1 (c:DCode) (l:List Int):Prop:=l.length<=8/\(∀ i,i<l.length->0<=st l i/\st l i<c.ins.length) /\
 ∀ i,i<l.length-1->(zal c (st l i).toNat).op=4/\zas c (st l (i+1))=(zal c (st l i).toNat).arg
instance (c:DCode) (l:List Int):Decidable (zf1 c l):=by unfold zf1;infer_instance
def zaV (c:DCode) (s:DState):Prop:=s.vars.length=c.globals.length/\s.owner.length=c.locks.length/\(1<=s.stacks.length/\s.stacks.length<=6)/\(∀ v∈s.vars,0<=v/\v<=999) /\
 (∀ o∈s.owner,-1<=o/\o<s.stacks.length)/\∀ l∈s.stacks,zf1 c l
instance (c:DCode) (s:DState):Decidable (zaV c s):=by unfold zaV;infer_instance
def zDB (s:DState):Prop:=∀ x∈s.stacks,x=[]
instance (s:DState):Decidable (zDB s):=inferInstanceAs (Decidable (∀ x∈s.stacks,x=[]))
def zh8 {l1:(List Int)} {l2:(List Int)}  (h0:Is W0 v0 l1) (e0:Ext W0 w) (h1:Is W1 v1 l2) (e1:Ext W1 w)  :
   CALL tp 28 [v0,v1] w λr w'=>Ext w w'/\(r=.bool (decide (l1=l2))):=by
 refine co (g:=kf [] [(4,67106864,[5])] [(6,[0,1,2,3,4,5,6,7,8],0)]) Tryz.func28 ?_;have g1:=zak h0;refine zae u25 h0 ?_;have g2:=zak h1;refine zae u25 h1<|zaT<|br (λc1=>?_) (λc1=>?_)
 . refine ⟨xrf w,?_⟩;have:l1≠l2:=λe=>c1 (by rw [e]);simp [this]
 refine zap (l1.length) (λk us w'=>us=[.int .i64 (k:Int)]/\Ext w w'/\(l1.take k=l2.take k)) (0) oo ⟨sS,xrf w,sS⟩ ?_;rintro k m4 _ g3 _ ⟨hu,y1,C⟩;try replace hu:=zbv hu
 try rw [hu]
 try clear hu
 have g0:=zak h0;refine zae u25 h0<|zaf<|br (λc2=>?_) (λc2=>?_)
 . have y2:=zag g3;refine zad u25 ty3 h0 oo λ_ _ g4=>zac ty3 g4 (e0.t (y1.t y2)) λ_=>zad u25 ty3 h1 oo λ_ _ g5=>zac ty3 g5 (e1.trans (y1.t y2)) λ_=>zaT<|br (λc3=>?_) (λc3=>?_)
   . refine ⟨(y1.t y2),?_⟩;have:l1≠l2:=λe=>c3 (by subst e;rfl);simp [this]
   refine zau<|⟨m4-1,oo,k+1,oo,sS,(y1.t y2),?_⟩;rw [tk oo,tk oo,C,qai.1 c3]
 refine ⟨y1,?_⟩;rw [qaf oo,qaf oo] at C;simp [C]
def zg0 {l1:(List Int)} {l2:(List Int)}  (h0:Is W0 v0 l1) (e0:Ext W0 w) (h1:Is W1 v1 l2) (e1:Ext W1 w)  :
   CALL tp 21 [v0,v1] w λr w'=>Ext w w'/\(r=.bool (decide (l1=l2))):=by
 refine co (g:=kf [] [(4,67100720,[13])] [(6,[0,1,2,3,4,5,6,7,8],0)]) Tryz.func21 ?_;have g1:=zak h0;refine zae u25 h0 ?_;have g2:=zak h1;refine zae u25 h1<|zaT<|br (λc1=>?_) (λc1=>?_)
 . refine ⟨xrf w,?_⟩;have:l1≠l2:=λe=>c1 (by rw [e]);simp [this]
 have g0:=zak h0;refine zae u25 h0<|zap (l1.length) (λk us w'=>us=[.int .i64 (k:Int)]/\Ext w w'/\(l1.take k=l2.take k)) (0) oo ⟨sS,xrf w,sS⟩ ?_;rintro k m4 _ g3 _ ⟨hu,y1,C⟩;try replace hu:=zbv hu
 try rw [hu]
 try clear hu
 refine zaf<|br (λc2=>?_) (λc2=>?_)
 . have y2:=zag g3;refine zad u25 ty3 h0 oo λ_ _ g4=>zac ty3 g4 (e0.t (y1.t y2)) λ_=>zad u25 ty3 h1 oo λ_ _ g5=>zac ty3 g5 (e1.trans (y1.t y2)) λ_=>zaT<|br (λc3=>?_) (λc3=>?_)
   . refine ⟨(y1.t y2),?_⟩;have:l1≠l2:=λe=>c3 (by subst e;rfl);simp [this]
   refine zau<|⟨m4-1,oo,k+1,oo,sS,(y1.t y2),?_⟩;rw [tk oo,tk oo,C,qai.1 c3]
 refine ⟨y1,?_⟩;rw [qaf oo,qaf oo] at C;simp [C]
def zpU {l1:(List Int)} {l2:(List Int)}  (h0:Is W0 v0 l1) (e0:Ext W0 w) (h1:Is W1 v1 l2) (e1:Ext W1 w)  :
   CALL tp 231 [v0,v1] w λr w'=>Ext w w'/\(r=.bool (decide (l1=l2))):=by
 refine co (g:=kf [] [] []) Tryz.func231 ?_;refine (zg0 h0 e0 h1 e1).mono ?_;rintro _ _ ⟨y1,rfl⟩;refine ⟨y1,?_⟩;rfl
def zBx {f:Nat} {args:List vL} {K:VW} (hE:zea P f=true) (h:CALL P f args w K):OPN P (zlM (.func (.func f) #[] #[]) args) w K:=by
 obtain ⟨h⟩:=h;refine .enter f args.toArray w ?_ h;simp [zlM,Deferred.ofValue,invoke,zds hE]
def zHA:zea tp 231=true:=by kernel_rfl
def zrE {l1:(List (List Int))} {l2:(List (List Int))}  (h0:Is W0 v0 l1) (e0:Ext W0 w) (h1:Is W1 v1 l2) (e1:Ext W1 w) (hf:v2=.func (.func 231) #[] #[]) :
   CALL tp 230 [v0,v1,v2] w λr w'=>Ext w w'/\(r=.bool (decide (l1=l2))):=by
 refine co (g:=kf [] [(4,4294837184,[17])] []) Tryz.func230 ?_;subst hf;have g0:=zak h0;refine zae u31 h0 ?_;have g1:=zak h1;refine zae u31 h1<|zaT<|br (λc1=>?_) (λc1=>?_)
 . refine ⟨xrf w,?_⟩;have:l1≠l2:=λe=>c1 (by rw [e]);simp [this]
 have g2:=zak h0;refine zae u31 h0<|zap (l1.length) (λk us w'=>us=[.int .i64 (k:Int)]/\Ext w w'/\(l1.take k=l2.take k)) (0) oo ⟨sS,xrf w,sS⟩ ?_;rintro k m4 _ _ _ ⟨hu,y1,C⟩;try replace hu:=zbv hu
 try rw [hu]
 try clear hu
 refine zaf<|br (λc2=>?_) (λc2=>?_)
 . refine zad u31 zaS h0 oo λ_ _ g4=>?_;refine zab zaS g4 (e0.t y1) λ_ g5=>zad u31 zaS h1 oo λ_ _ g9=>zab zaS g9 (e1.trans y1) λ_ gb=>zBx zHA ((zpU g5 (e0.t y1) gb (e1.trans y1)).mono ?_);rintro _ _ ⟨g3,rfl⟩;refine zav<|br (λc3=>?_) (λc3=>?_)
   . refine ⟨(y1.t g3),?_⟩;have:l1≠l2:=λe=>c3 (by subst e;rfl);simp [this]
   refine zau<|⟨m4-1,oo,k+1,oo,sS,(y1.t g3),?_⟩;rw [tk oo,tk oo,C,qai.1 c3]
 refine ⟨y1,?_⟩;rw [qaf oo,qaf oo] at C;simp [C]
def zlj  (h0:Is W0 v0 s1) (e0:Ext W0 w) (h1:Is W1 v1 s2) (e1:Ext W1 w)  :
   CALL tp 174 [v0,v1] w λr w'=>Ext w w'/\(r=.bool (decide (s1=s2))):=by
 refine co (g:=kf [] [] []) Tryz.func174 ?_;refine zax zch rfl h0 e0 λ_ y1 g0 _=>zax zch rfl h1 (e1.trans y1) λg2 y2 g1 _=>zaa zhc<|zab zaS (zcK g0) y2 λ_ h6=>zaa zhc<|zab zaS (zcK g1) (xrf g2) λ_ h8=>?_;refine (zg0 h6 y2 h8 (xrf g2)).mono ?_;rintro _ _ ⟨y3,rfl⟩;refine zav<|br (λc1=>?_) (λc1=>?_)
 . refine ⟨(y1.t (y2.t y3)),?_⟩;have:s1≠s2:=λe=>c1 (by rw [e]);simp [this]
 refine zaa zdN<|zab zaS (zcy g0) (y2.t y3) λ_ g3=>zaa zdN<|zab zaS (zcy g1) y3 λ_ g4=>?_;refine (zg0 g3 (y2.t y3) g4 y3).mono ?_;rintro _ _ ⟨y4,rfl⟩;refine zav<|br (λc2=>?_) (λc2=>?_)
 . refine ⟨(y1.t (y2.t (y3.t y4))),?_⟩;have:s1≠s2:=λe=>c2 (by rw [e]);simp [this]
 refine zaa zbc<|zab zeV (zaB g0) (y2.t (y3.t y4)) λ_ g5=>zaa zbc<|zab zeV (zaB g1) (y3.t y4) λ_ g9=>?_;refine (zrE g5 (y2.t (y3.t y4)) g9 (y3.t y4) rfl).mono ?_;rintro _ _ ⟨y5,rfl⟩;refine ⟨(y1.t (y2.t (y3.t (y4.t y5)))),?_⟩
 have:s1=s2↔s1.stacks=s2.stacks:=by
   constructor
   . intro e;rw [e]
   intro e;cases s1;cases s2;simp only [qai] at c1 c2 e;rw [c1,c2,e]
 simp [this]
def zlk  (h0:Is W0 v0 s1) (e0:Ext W0 w) (h1:Is W1 v1 s2) (e1:Ext W1 w)  :
   CALL tp 187 [v0,v1] w λr w'=>Ext w w'/\(r=.bool (decide (s1=s2))):=by
 refine co (g:=kf [] [(4,281474439839792,[5])] [(6,[0,1,2,3,4,5,6,7,8,9,10,11],0)]) Tryz.func187 ?_;refine zax zch rfl h0 e0 λ_ y1 D _=>zax zch rfl h1 (e1.trans y1) λg1 y2 g0 _=>zaa zhc<|zab zaS (zcK D) y2 λ_ h7=>zaa zhc<|zab zaS (zcK g0) (xrf g1) λ_ h9=>?_;refine (zh8 h7 y2 h9 (xrf g1)).mono ?_;rintro _ _ ⟨y3,rfl⟩;refine zav<|br (λc1=>?_) (λc1=>?_)
 . refine ⟨(y1.t (y2.t y3)),?_⟩;have:s1≠s2:=λe=>c1 (by rw [e]);simp [this]
 refine zaa zdN<|zab zaS (zcy D) (y2.t y3) λ_ gd=>zaa zdN<|zab zaS (zcy g0) y3 λ_ gf=>?_;refine (zh8 gd (y2.t y3) gf y3).mono ?_;rintro _ g2 ⟨y4,rfl⟩;refine zav<|br (λc2=>?_) (λc2=>?_)
 . refine ⟨(y1.t (y2.t (y3.t y4))),?_⟩;have:s1≠s2:=λe=>c2 (by rw [e]);simp [this]
 refine zaa zbc<|zab zeV (zaB D) (y2.t (y3.t y4)) λ_ g3=>?_;have g4:=zak g3;refine zae u31 g3<|zaa zbc<|zab zeV (zaB g0) (y3.t y4) λ_ g5=>?_;have g9:=zak g5;refine zae u31 g5<|zaT<|br (λc3=>?_) (λc3=>?_)
 . refine ⟨(y1.t (y2.t (y3.t y4))),?_⟩;have:s1≠s2:=λe=>c3 (by rw [e]);simp [this]
 refine zap (s1.stacks.length) (λk us w'=>us=[.int .i64 (k:Int)]/\Ext g2 w'/\(s1.stacks.take k=s2.stacks.take k)) (0) oo ⟨sS,xrf g2,sS⟩ ?_;rintro k m4 _ gg _ ⟨hu,y5,C⟩;try replace hu:=zbv hu
 try rw [hu]
 try clear hu
 refine zaa zbc<|zab zeV (zaB D) (y2.t (y3.t (y4.t y5))) λ_ gb=>?_;have gc:=zak gb;refine zae u31 gb<|zaf<|br (λc4=>?_) (λc4=>?_)
 . have y6:=zag gg;refine zaa zbc<|zab zeV (zaB D) (y2.t (y3.t (y4.t (y5.t y6)))) λ_ gh=>zad u31 zaS gh oo λ_ _ gi=>zab zaS gi (y2.t (y3.t (y4.t (y5.t y6)))) λ_ gj=>zaa zbc<|zab zeV (zaB g0) (y3.t (y4.t (y5.t y6))) λ_ gl=>zad u31 zaS gl oo λ_ _ gp=>zab zaS gp (y3.t (y4.t (y5.t y6))) λ_ gq=>?_;refine (zh8 gj (y2.t (y3.t (y4.t (y5.t y6)))) gq (y3.t (y4.t (y5.t y6)))).mono ?_;rintro _ _ ⟨y7,rfl⟩;refine zav<|br (λc5=>?_) (λc5=>?_)
   . refine ⟨(y1.t (y2.t (y3.t (y4.t (y5.t (y6.t y7)))))),?_⟩;have:s1≠s2:=λe=>c5 (by subst e;rfl);simp [this]
   refine zau<|⟨m4-1,oo,k+1,oo,sS,(y5.t (y6.t y7)),?_⟩;rw [tk oo,tk oo,C,qai.1 c5]
 refine ⟨(y1.t (y2.t (y3.t (y4.t y5)))),?_⟩;rw [qaf oo,qaf oo] at C
 have:s1=s2:=by
   cases s1;cases s2;simp only [qai] at c1 c2 C;rw [c1,c2,C]
 simp [this]
def ow (s:DState) (i:Int):Int:=s.owner.getD i.toNat 0
def zu4 (h:i<s.owner.length):s.owner[i]=ow s i:=by unfold ow;rw [List.getD_eq_getElem?_getD,qal,List.getElem?_eq_getElem h];rfl
def zkE {i:Int} (h0:0<=i) (h:i.toNat<s.owner.length):s.owner[i.toNat]=ow s i:=by unfold ow;rw [List.getD_eq_getElem?_getD,List.getElem?_eq_getElem h];rfl
def stk (s:DState) (t:Int):List Int:=s.stacks.getD t.toNat []
def zem {t:Int} (h:t.toNat<s.stacks.length):s.stacks[t.toNat]=stk s t:=by unfold stk;rw [List.getD_eq_getElem?_getD,List.getElem?_eq_getElem h];rfl
def atI (c:DCode) (s:DState) (t:Int):DIns:=zal c (zbg s t).toNat
def zen {t:Int} (h:0<=zbg s t):0<=t/\t.toNat<s.stacks.length:=by
 unfold zbg at h;split at h
 . assumption
 omega
def zg1 {t:Int} (h0:0<=t) (h1:t.toNat<s.stacks.length):zbg s t=(stk s t).getLastD (-1):=by
 unfold zbg;rw [dif_pos ⟨h0,h1⟩,zem h1]
def zpV {l:List Int} (h:l≠[]):l.getLastD (-1)=st l (l.length-1):=by
 unfold st;rw [List.getLastD_eq_getLast?,List.getLast?_eq_getElem?,List.getD_eq_getElem?_getD];have:l.length-1<l.length:=by have:=qaO.2 h;omega
 rw [List.getElem?_eq_getElem this];rfl
def ziq (hs:zaV c s) (t:Int):-1<=zbg s t/\zbg s t<c.ins.length:=by
 by_cases h:0<=t/\t.toNat<s.stacks.length
 . rw [zg1 h.1 h.2];by_cases hn:stk s t=[]
   . rw [hn];simp [List.getLastD];omega
   have:=qaO.2 hn;have hm:=hs.2.2.2.2.2 (stk s t) (by rw [<-zem h.2];exact qac _);rw [zpV hn];have:=hm.2.1 ((stk s t).length-1) oo;omega
 unfold zbg;rw [dif_neg h];omega
def zhz (hc:CodeR c) {j:Nat} (hj:j<c.ins.length):ziw c (zal c j) (en c (zas c j).toNat) (zgd c (zas c j)+1):=hc.2.2 j hj
def zu5 (hc:CodeR c) {j:Nat} (hj:j<c.ins.length) (h:(zal c j).op=6\/(zal c j).op=7):0<=(zal c j).arg/\(zal c j).arg<c.locks.length:=by
 have:=(zhz hc hj).2.1;unfold zcz at this;rwa [qab oo,qab oo,qah h] at this
def NamesR.locks6 (h:NamesR c):c.locks.length<=6:=by
 have h1:=h.2.1;simp only [qar,qau] at h1;omega
def NamesR.globals6 (h:NamesR c):c.globals.length<=6:=by
 have h1:=h.1;simp only [qar,qau] at h1;omega
def zpW (hs:zaV c s) {i:Int} (h0:0<=i) (h:i.toNat<s.owner.length):-1<=ow s i/\ow s i<s.stacks.length:=by
 rw [<-zkE h0 h];exact hs.2.2.2.2.1 _ (qac _)
def zjI {t:Int} (hc:CodeR c) (hs:zaV c s) (h:0<=zbg s t):ziw c (atI c s t) (en c (zas c (zbg s t)).toNat) (zgd c (zas c (zbg s t))+1):=by
 have:=ziq hs t;have h1:=zhz hc (j:=(zbg s t).toNat) oo;rwa [qaI h] at h1
def zdm {t:Int} (hc:CodeR c) (hs:zaV c s) (h:0<=zbg s t) (ho:(atI c s t).op=6\/(atI c s t).op=7):0<=(atI c s t).arg/\(atI c s t).arg.toNat<s.owner.length:=by
 have:=ziq hs t;have:=zu5 hc (j:=(zbg s t).toNat) oo ho;have:=hs.2.1;unfold atI;omega
def ziX {i:Int}  (h0:Is W0 v0 s) (e0:Ext W0 w) (g5:0<=i) (g9:i.toNat<s.owner.length) :
   CALL tp 56 [v0,.int .i64 i] w λr w'=>Ext w w'/\(r=.int .i64 (max (ow s i) (-1))):=by
 refine co (g:=kf [] [] []) Tryz.func56 ?_;refine zax zch rfl h0 e0 λg0 y1 g1 _=>zaf<|br (λc1=>?_) (λc1=>?_)
 . refine ⟨y1,?_⟩;exact absurd c1 oo
 refine zaa zdN<|zab zaS (zcy g1) (xrf g0) λ_ g2=>?_;have:=zak g2;refine zae u25 g2<|zb9<|br (λc2=>?_) (λc2=>?_)
 . refine ⟨y1,?_⟩;exact absurd c2 oo
 refine zaa zdN<|zab zaS (zcy g1) (xrf g0) λ_ g3=>zaC u25 ty3 g3 oo oo λ_ _ g4=>zac ty3 g4 (xrf g0) λ_=>zDr<|⟨y1,?_⟩;rw [zkE g5 g9]
def GoR (c:DCode) (s:DState) (t:Int):Prop:=0<=zbg s t/\((atI c s t).op=6->ow s (atI c s t).arg=-1)/\((atI c s t).op=4->((stk s t).length:Int)<8)
instance (c:DCode) (s:DState) (t:Int):Decidable (GoR c s t):=by unfold GoR;infer_instance
def zu6 {t:Int}  (h0:Is W0 v0 c) (e0:Ext W0 w) (h1:Is W1 v1 s) (e1:Ext W1 w) (hc:CodeR c) (hs:zaV c s) :
   CALL tp 101 [v0,v1,.int .i64 t] w λr w'=>Ext w w'/\(r=.bool (decide (GoR c s t))):=by
 refine co (g:=kf [] [] [(6,[0,1,2,3,4,5,6,7,8,9,10,11],0)]) Tryz.func101 ?_;have hat:=ziq hs t;refine zax zbY rfl h0 e0 λ_ y1 g2 _=>zax zch rfl h1 (e1.trans y1) λgb y2 g3 gc=>zbr gc (xrf gb) ?_;refine (zgQ h1 (e1.trans (y1.t y2))).mono ?_;rintro _ gd ⟨y3,rfl⟩;refine zaf<|br (λc1=>?_) (λc1=>?_)
 . refine ⟨(y1.t (y2.t y3)),?_⟩;have:¬GoR c s t:=λh=>by have:=h.1;omega
   simp only [this,qam]
 refine zaa zaY<|zab zdD (zam g2) (y2.t y3) λ_ gf=>zaC u26 zbm gf oo oo λ_ _ g0=>?_;rw [zaG] at g0;change At _ _ _ (atI c s t) at g0;have C:0<=zbg s t:=oo;have gg:=zen C;refine zaa za8<|zac ty3 (zay g0) (y2.t y3) λ_=>zai<|br (λc2=>?_) (λc2=>?_)
 . have y4:=zag gd;refine zaa zdN<|zab zaS (zcy g3) (y3.t y4) λ_ gh=>zaa zaY<|zab zdD (zam g2) (y2.t (y3.t y4)) λ_ gi=>zaC u26 zbm gi oo oo λ_ _ g1=>?_;rw [zaG] at g1;change At _ _ _ (atI c s t) at g1;have g4:=zdm hc hs C (.inl c2);refine zaa zaZ<|zac ty3 (zat g1) (y2.t (y3.t y4)) λ_=>zaC u25 ty3 gh oo oo λ_ _ gj=>zac ty3 gj (y3.t y4) λ_=>zai<|⟨(y1.t (y2.t (y3.t y4))),?_⟩;congr 1;rw [decide_eq_decide,zkE g4.1 g4.2];exact ⟨λh=>⟨C,λ_=>h,λh4=>oo⟩,λh=>h.2.1 c2⟩
 refine zai<|br (λc3=>?_) (λc3=>?_)
 . refine zaa zbc ?_;refine zab zeV (zaB g3) y3 λ_ gl=>zaC u31 zaS gl oo oo λ_ _ gp=>zab zaS gp y3 λ_ g5=>?_;have g9:=zak g5;refine zae u25 g5<|zaf<|⟨(y1.t (y2.t y3)),?_⟩;congr 1;rw [decide_eq_decide,zem gg.2];exact ⟨λh=>⟨C,λh6=>oo,λ_=>h⟩,λh=>h.2.2 c3⟩
 refine ⟨(y1.t (y2.t y3)),?_⟩;have:GoR c s t:=⟨C,λh6=>absurd h6 c2,λh4=>absurd h4 c3⟩;simp only [this,qa6]
def zEU {t:Int}  (h0:Is W0 v0 c) (e0:Ext W0 w) (h1:Is W1 v1 s) (e1:Ext W1 w) (hc:CodeR c) (hs:zaV c s) :
   CALL tp 111 [v0,v1,.int .i64 t] w λr w'=>Ext w w'/\(r=.bool (decide (GoR c s t))):=by
 refine co (g:=kf [] [] [(6,[0,1,2,3,4,5,6,7,8,9],0)]) Tryz.func111 ?_;have hat:=ziq hs t;refine zax zbY rfl h0 e0 λ_ y1 g2 gb=>zax zch rfl h1 (e1.trans y1) λgc y2 gd g3=>zbr g3 (xrf gc) ?_;refine (ziH h1 (e1.trans (y1.t y2))).mono ?_;rintro _ _ ⟨y3,rfl⟩;refine zbr gb (y2.t y3) ?_;refine (zh7 h0 (e0.t (y1.t (y2.t y3)))).mono ?_;rintro _ gf ⟨y4,rfl⟩;refine zav<|br (λc1=>?_) (λc1=>?_)
 . refine ⟨(y1.t (y2.t (y3.t y4))),?_⟩;have:¬GoR c s t:=λh=>by have:=h.1;omega
   simp only [this,qam]
 refine zaa zaY<|zab zdD (zam g2) (y2.t (y3.t y4)) λ_ gg=>zaC u26 zbm gg oo oo λ_ _ g0=>?_;rw [zaG] at g0;change At _ _ _ (atI c s t) at g0;have C:0<=zbg s t:=oo;have gh:=zen C;refine zaa za8<|zac ty3 (zay g0) (y2.t (y3.t y4)) λ_=>zai<|br (λc2=>?_) (λc2=>?_)
 . have y5:=zag gf;refine zbr g3 (y3.t (y4.t y5))<|zaa zaY<|zab zdD (zam g2) (y2.t (y3.t (y4.t y5))) λ_ gi=>zaC u26 zbm gi oo oo λ_ _ g1=>?_;rw [zaG] at g1;change At _ _ _ (atI c s t) at g1;have g4:=zdm hc hs C (.inl c2);have hor:=zpW hs g4.1 g4.2;refine zaa zaZ<|zac ty3 (zat g1) (y2.t (y3.t (y4.t y5))) λ_=>?_;refine (ziX h1 (e1.trans (y1.t (y2.t (y3.t (y4.t y5))))) oo oo).mono ?_;rintro _ _ ⟨y6,rfl⟩;refine zaf<|⟨(y1.t (y2.t (y3.t (y4.t (y5.t y6))))),?_⟩;congr 1;rw [decide_eq_decide];exact ⟨λh=>⟨C,λ_=>oo,λh4=>oo⟩,λh=>by have:=h.2.1 c2;omega⟩
 refine zai<|br (λc3=>?_) (λc3=>?_)
 . refine zaa zbc ?_;refine zab zeV (zaB gd) (y3.t y4) λ_ gj=>zaC u31 zaS gj oo oo λ_ _ gl=>zab zaS gl (y3.t y4) λ_ g5=>?_;have g9:=zak g5;refine zae u25 g5<|zaf<|⟨(y1.t (y2.t (y3.t y4))),?_⟩;congr 1;rw [decide_eq_decide,zem gh.2];exact ⟨λh=>⟨C,λh6=>oo,λ_=>h⟩,λh=>h.2.2 c3⟩
 refine ⟨(y1.t (y2.t (y3.t y4))),?_⟩;have:GoR c s t:=⟨C,λh6=>absurd h6 c2,λh4=>absurd h4 c3⟩;simp only [this,qa6]
def zaO (c:DCode) (s:DState) (t:Int):Int:=if 0<=zbg s t/\(atI c s t).op=6/\0<=ow s (atI c s t).arg then (atI c s t).arg else -1
def ztu {t:Int}  (h0:Is W0 v0 c) (e0:Ext W0 w) (h1:Is W1 v1 s) (e1:Ext W1 w) (hc:CodeR c) (hs:zaV c s) :
   CALL tp 67 [v0,v1,.int .i64 t] w λr w'=>Ext w w'/\(r=.int .i64 (zaO c s t)):=by
 refine co (g:=kf [] [] [(2,[0,1,2,3,4,5,6,7,8,9,10,11,12,13,14,15,16,17,18,19,20,21,22,23],0)]) Tryz.func67 ?_;have:=ziq hs t;refine zax zbY rfl h0 e0 λ_ y1 g2 _=>zax zch rfl h1 (e1.trans y1) λg9 y2 gb gc=>zbr gc (xrf g9) ?_;refine (zgQ h1 (e1.trans (y1.t y2))).mono ?_;rintro _ gd ⟨y3,rfl⟩;have y4:=zag gd;refine zaf<|br (λc1=>?_) (λc1=>?_)
 . refine ⟨(y1.t (y2.t (y3.t y4))),?_⟩;unfold zaO;rw [qab oo]
 refine zaa zaY<|zab zdD (zam g2) (y2.t (y3.t y4)) λ_ gf=>zaC u26 zbm gf oo oo λ_ _ g3=>?_;rw [zaG] at g3;change At _ _ _ (atI c s t) at g3;have g0:0<=zbg s t:=oo;refine zaa za8<|zac ty3 (zay g3) (y2.t (y3.t y4)) λ_=>zaT<|br (λc2=>?_) (λc2=>?_)
 . refine ⟨(y1.t (y2.t (y3.t y4))),?_⟩;unfold zaO;rw [qab (λh=>c2 h.2.1)]
 refine zaa zdN<|zab zaS (zcy gb) (y3.t y4) λ_ gg=>zaa zaY<|zab zdD (zam g2) (y2.t (y3.t y4)) λ_ gh=>zaC u26 zbm gh oo oo λ_ _ g4=>?_;rw [zaG] at g4;change At _ _ _ (atI c s t) at g4;have g1:=zdm hc hs g0 (.inl (qai.1 c2));refine zaa zaZ<|zac ty3 (zat g4) (y2.t (y3.t y4)) λ_=>zaC u25 ty3 gg oo oo λ_ _ gi=>zac ty3 gi (y3.t y4) λ_=>zaf<|br (λc3=>?_) (λc3=>?_)
 . refine ⟨(y1.t (y2.t (y3.t y4))),?_⟩;rw [zkE g1.1 g1.2] at c3;unfold zaO;rw [qab oo]
 refine zaa zaY<|zab zdD (zam g2) (y2.t (y3.t y4)) λ_ gj=>zaC u26 zbm gj oo oo λ_ _ g5=>?_;rw [zaG] at g5;change At _ _ _ (atI c s t) at g5;refine zaa zaZ<|zac ty3 (zat g5) (y2.t (y3.t y4)) λ_=>⟨(y1.t (y2.t (y3.t y4))),?_⟩;rw [zkE g1.1 g1.2] at c3;unfold zaO;rw [qah ⟨g0,oo,oo⟩]
def zBy {t:Int}  (h0:Is W0 v0 c) (e0:Ext W0 w) (h1:Is W1 v1 s) (e1:Ext W1 w) (hc:CodeR c) (hs:zaV c s) :
   CALL tp 55 [v0,v1,.int .i64 t] w λr w'=>Ext w w'/\(r=.int .i64 (zaO c s t)):=by
 refine co (g:=kf [] [] [(2,[0,1,2,3,4,5,6,7,8,9,10,11,12,13,14,15,16,17,18,19,20,21,22,23],0)]) Tryz.func55 ?_;have:=ziq hs t;refine zax zbY rfl h0 e0 λ_ y1 g1 g9=>zax zch rfl h1 (e1.trans y1) λgb y2 _ g5=>zbr g5 (xrf gb) ?_;refine (ziH h1 (e1.trans (y1.t y2))).mono ?_;rintro _ gc ⟨y3,rfl⟩;have y4:=zag gc;refine zbr g9 (y2.t (y3.t y4)) ?_;refine (zh7 h0 (e0.t (y1.t (y2.t (y3.t y4))))).mono ?_;rintro _ _ ⟨y5,rfl⟩;refine zav<|br (λc1=>?_) (λc1=>?_)
 . refine ⟨(y1.t (y2.t (y3.t (y4.t y5)))),?_⟩;unfold zaO;rw [qab oo]
 refine zaa zaY<|zab zdD (zam g1) (y2.t (y3.t (y4.t y5))) λ_ gd=>zaC u26 zbm gd oo oo λ_ _ g2=>?_;rw [zaG] at g2;change At _ _ _ (atI c s t) at g2;have g0:0<=zbg s t:=oo;refine zaa za8<|zac ty3 (zay g2) (y2.t (y3.t (y4.t y5))) λ_=>zaT<|br (λc2=>?_) (λc2=>?_)
 . refine ⟨(y1.t (y2.t (y3.t (y4.t y5)))),?_⟩;unfold zaO;rw [qab (λh=>c2 h.2.1)]
 refine zbr g5 (y3.t (y4.t y5))<|zaa zaY<|zab zdD (zam g1) (y2.t (y3.t (y4.t y5))) λ_ gf=>zaC u26 zbm gf oo oo λ_ _ g3=>?_;rw [zaG] at g3;change At _ _ _ (atI c s t) at g3;have:=zdm hc hs g0 (.inl (qai.1 c2));refine zaa zaZ<|zac ty3 (zat g3) (y2.t (y3.t (y4.t y5))) λ_=>?_;refine (ziX h1 (e1.trans (y1.t (y2.t (y3.t (y4.t y5))))) oo oo).mono ?_;rintro _ _ ⟨y6,rfl⟩;refine zaf<|br (λc3=>?_) (λc3=>?_)
 . refine ⟨(y1.t (y2.t (y3.t (y4.t (y5.t y6))))),?_⟩;unfold zaO;rw [qab oo]
 refine zaa zaY<|zab zdD (zam g1) (y2.t (y3.t (y4.t (y5.t y6)))) λ_ gg=>zaC u26 zbm gg oo oo λ_ _ g4=>?_;rw [zaG] at g4;change At _ _ _ (atI c s t) at g4;refine zaa zaZ<|zac ty3 (zat g4) (y2.t (y3.t (y4.t (y5.t y6)))) λ_=>⟨(y1.t (y2.t (y3.t (y4.t (y5.t y6))))),?_⟩;unfold zaO;rw [qah ⟨g0,oo,oo⟩]
def zfN (c:DCode) (s:DState):Nat->List Int
 | 0=>[]
 | k+1=>if GoR c s k then zfN c s k++[(k:Int)] else zfN c s k
theorem zg2 (c:DCode) (s:DState):∀ k,(zfN c s k).length<=k
 | 0=>qaz _
 | k+1=>by
   have:=zg2 c s k;rw [zfN];split
   . simp;omega
   omega
def zbF (c:DCode) (s:DState):List Int:=zfN c s s.stacks.length
def zmJ  (h0:Is W0 v0 c) (e0:Ext W0 w) (h1:Is W1 v1 s) (e1:Ext W1 w) (hc:CodeR c) (hs:zaV c s) :
   CALL tp 44 [v0,v1] w λr w'=>Ext w w'/\(Own w.heap.size w' r (zbF c s)):=by
 refine co (g:=kf [] [(3,8388448,[5,6])] []) Tryz.func44 ?_;have g1:=hs.2.2.1;have σe0:=e0.size;have σe1:=e1.size;refine zax zbY rfl h0 e0 λ_ y1 _ gc=>?_;have σ1:=y1.size;refine zax zch rfl h1 (e1.trans y1) λ_ y2 gd gf=>?_;have σ2:=y2.size;refine zaD (α:=Int) u25 ty3 λ_ g0 y3 o7=>?_;have σ3:=y3.size;refine zap (s.stacks.length) (λk us w'=>∃ v:vL,us=[v,.int .i64 (k:Int)]/\Ext g0 w'/\(RowI g0.heap.size w'.heap.size 3 w' v (zfN c s k))) (0) oo ⟨_,rfl,xrf g0,zcd _ _ _ _ _⟩ ?_;rintro k m3 _ _ _ ⟨_,hu,y4,C⟩;have σ4:=y4.size;obtain ⟨g2,g3⟩:=zcZ hu;try rw [g2]
 try rw [g3]
 try clear g2 g3
 have hrl:=zg2 c s k;refine zaa zbc<|zab zeV (zaB gd) (y3.t y4) λ_ g4=>?_;have g5:=zak g4;refine zae u31 g4<|zaf<|br (λc1=>?_) (λc1=>?_)
 . refine zbr gc (y2.t (y3.t y4)) ?_;refine zbr gf (y3.t y4) ?_;refine (zu6 h0 (e0.t (y1.t (y2.t (y3.t y4)))) h1 (e1.trans (y1.t (y2.t (y3.t y4)))) aA aA).mono ?_;rintro _ g9 ⟨y5,rfl⟩;have σ5:=y5.size;refine br (λc2=>?_) (λc2=>?_)
   . refine zbM (α:=Int) u25 ty3 z3 zc3 qd (C.ext y5) oo (zbI (lo:=g9.heap.size) (hi:=g9.heap.size) (by first | assumption | (unfold I64 at *;omega))) oo oo (by rw [zaj];omega) oo λ_ _ D gg=>?_;have gb:=D.size;have o7_c6:=(o7.ext (y4.t y5)).chg D oo;refine zau<|⟨m3-1,oo,k+1,oo,_,rfl,(Ext.chgI (y4.t y5) D oo),?_⟩;rw [zfN,qah c2];exact gg
   refine zau<|⟨m3-1,oo,k+1,oo,_,rfl,(y4.t y5),?_⟩;rw [zfN,qab c2];exact (C.ext y5).mono oo oo
 refine ⟨(y1.t (y2.t (y3.t y4))),?_⟩;have:k=s.stacks.length:=oo;subst this;exact C.own.own.mono oo
def zrF (c:DCode) (s:DState):Prop:=(CodeR c/\zaV c s)/\¬zDB s/\zbF c s=[]
instance (c:DCode) (s:DState):Decidable (zrF c s):=by unfold zrF;infer_instance
def zjJ {n:Int} (h:0<=n):n.tmod 1000=n%1000:=qce h
def zlA {n:Int} (h:n<0):n.tmod 1000=-((-n)%1000):=by
 have h1:(-n).tmod 1000=(-n)%1000:=qce oo;rw [Int.neg_tmod] at h1;omega
def zzh (n:Int):-1000<n.tmod 1000/\n.tmod 1000<1000:=by
 rcases qc9 n 0 with h | h
 . rw [zlA h];omega
 rw [zjJ h];omega
def zmK {n:Int}   (hn:I64 n) :
   CALL tp 228 [.int .i64 n] w λr w'=>Ext w w'/\(r=.int .i64 (n%1000)):=by
 refine co (g:=kf [] [] []) Tryz.func228 ?_;have:=zzh n;refine zqJ oo<|zcY io<|zqJ oo<|⟨xrf w,?_⟩;congr 1;rw [zjJ (n:=n.tmod 1000+1000) oo];rcases qc9 n 0 with h | h
 . rw [zlA h];omega
 rw [zjJ h];omega
def zjK {b:Bool}    :
   CALL tp 229 [.bool b] w λr w'=>Ext w w'/\(r=.int .i64 (if b=true then 1 else 0)):=by
 refine co (g:=kf [] [] []) Tryz.func229 ?_;refine zbX (λc1=>?_) (λc1=>?_)
 . refine ⟨xrf w,?_⟩;rw [qah c1]
 refine ⟨xrf w,?_⟩;rw [qab (by simp [c1])]
def zhA {b:Bool}    :
   CALL tp 224 [.bool b] w λr w'=>Ext w w'/\(r=.int .i64 (if b=true then 1 else 0)):=by
 refine co (g:=kf [] [] []) Tryz.func224 ?_;refine zbX (λc1=>?_) (λc1=>?_)
 . refine ⟨xrf w,?_⟩;rw [qah c1]
 refine ⟨xrf w,?_⟩;rw [qab (by simp [c1])]
def zhB {n:Int}   (hn:I64 n) :
   CALL tp 223 [.int .i64 n] w λr w'=>Ext w w'/\(r=.int .i64 (n%1000)):=by
 refine co (g:=kf [] [] []) Tryz.func223 ?_;have:=zzh n;refine zqJ oo<|zaf<|br (λc1=>?_) (λc1=>?_)
 . refine zcY io ?_;refine ⟨xrf w,?_⟩;congr 1;rcases qc9 n 0 with h | h
   . rw [zlA h] at c1 ⊢;try omega
   rw [zjJ h] at c1 ⊢;try omega
 refine ⟨xrf w,?_⟩;congr 1;rcases qc9 n 0 with h | h
 . rw [zlA h] at c1 ⊢;try omega
 rw [zjJ h] at c1 ⊢;try omega
def zaW:DTerm:=.mk 0 0 (ByteArray.mk #[]) []
def workT (names:List ByteArray) (vals:List Int):Nat->DTerm->Int
 | n,t=>if t.kind=1 then t.num%1000 else if t.kind=2 then (if 0<=plc t.name names/\plc t.name names<vals.length then vals.getD (plc t.name names).toNat 0%1000 else 0) else
   match n with
   | 0=>0
   | m+1=>
     if t.kind=8 then (if workT names vals m (t.kids.getD 0 zaW)=0 then 1 else 0)
     else if t.kind=3 then (workT names vals m (t.kids.getD 0 zaW)+workT names vals m (t.kids.getD 1 zaW))%1000
     else if t.kind=4 then (workT names vals m (t.kids.getD 0 zaW)-workT names vals m (t.kids.getD 1 zaW))%1000
     else if t.kind=5 then (workT names vals m (t.kids.getD 0 zaW)*workT names vals m (t.kids.getD 1 zaW))%1000
     else if t.kind=6 then (if workT names vals m (t.kids.getD 0 zaW)<workT names vals m (t.kids.getD 1 zaW) then 1 else 0)
     else if t.kind=7 then (if workT names vals m (t.kids.getD 0 zaW)=workT names vals m (t.kids.getD 1 zaW) then 1 else 0)
     else (if workT names vals m (t.kids.getD 0 zaW)≠0/\workT names vals m (t.kids.getD 1 zaW)≠0 then 1 else 0)
def zbh (names:List ByteArray) (vals:List Int) (n:Nat) (t:DTerm):workT names vals n t=(if t.kind=1 then t.num%1000 else if t.kind=2 then (if 0<=plc t.name names/\plc t.name names<vals.length then vals.getD (plc t.name names).toNat 0%1000 else 0) else
   match n with
   | 0=>0
   | m+1=>
     if t.kind=8 then (if workT names vals m (t.kids.getD 0 zaW)=0 then 1 else 0)
     else if t.kind=3 then (workT names vals m (t.kids.getD 0 zaW)+workT names vals m (t.kids.getD 1 zaW))%1000
     else if t.kind=4 then (workT names vals m (t.kids.getD 0 zaW)-workT names vals m (t.kids.getD 1 zaW))%1000
     else if t.kind=5 then (workT names vals m (t.kids.getD 0 zaW)*workT names vals m (t.kids.getD 1 zaW))%1000
     else if t.kind=6 then (if workT names vals m (t.kids.getD 0 zaW)<workT names vals m (t.kids.getD 1 zaW) then 1 else 0)
     else if t.kind=7 then (if workT names vals m (t.kids.getD 0 zaW)=workT names vals m (t.kids.getD 1 zaW) then 1 else 0)
     else (if workT names vals m (t.kids.getD 0 zaW)≠0/\workT names vals m (t.kids.getD 1 zaW)≠0 then 1 else 0)):=workT.eq_def names vals n t
def zdY (names:List ByteArray) (g0:List Int) (n:Nat) (t:DTerm):0<=workT names g0 n t/\workT names g0 n t<=999:=by
 rw [zbh];cases n<;>simp only<;>(repeat' split)<;>omega
theorem zzi {t:DTerm} (h:zbj n t=true) (h1:¬t.kind=1) (h2:¬t.kind=2):∃ m,n=m+1/\0<t.kids.length/\zbj m (t.kids.getD 0 zaW)=true/\(¬t.kind=8->1<t.kids.length/\zbj m (t.kids.getD 1 zaW)=true):=by
 rw [zbJ h1 h2] at h;simp only [qar,qau] at h;obtain ⟨⟨_,h3⟩,h4⟩:=h;cases n with
 | zero=>simp at h4
 | succ m=>
   have g1:∀ k∈t.kids,zbj m k=true:=λk hk=>qaM.1 h4 k hk
   have hg:∀ i,i<t.kids.length->zbj m (t.kids.getD i zaW)=true:=λi hi=>by
     rw [List.getD_eq_getElem?_getD,List.getElem?_eq_getElem hi];exact g1 _ (qac hi)
   have g0:0<t.kids.length:=by split at h3<;>omega
   exact ⟨m,rfl,g0,hg 0 g0,λh8=>by rw [qab h8] at h3;exact ⟨oo,hg 1 oo⟩⟩
def zBz (f:Nat) (n:Nat):Prop:=∀ {w W W1 W2:wD} {v v1 v2:vL} {t:DTerm} {names:List ByteArray} {vals:List Int},Is W v t->Ext W w->Is W1 v1 names->Ext W1 w->Is W2 v2 vals->Ext W2 w->zbj n t=true ->
 CALL tp f [v,v1,v2] w λr w'=>Ext w w'/\r=.int .i64 (workT names vals n t)
def zla {t:DTerm} {names:(List ByteArray)} {C:(List Int)} (h0:Is W0 v0 t) (e0:Ext W0 w) (h1:Is W1 v1 names) (e1:Ext W1 w) (h2:Is W2 v2 C) (e2:Ext W2 w) (ih:∀ m,n=m+1->zBz 171 m) (gd:zbj n t=true) :
   CALL tp 171 [v0,v1,v2] w λr w'=>Ext w w'/\(r=.int .i64 (workT names C n t)):=by
 refine co (g:=kf [] [] []) Tryz.func171 ?_;refine zax zbl rfl h0 e0 λO y1 I _=>zaa zdK<|zac ty3 (zbT I) (xrf O) λ_=>zai<|br (λc1=>?_) (λc1=>?_)
 . refine zaa zeG ?_;refine zac ty3 (zcv I) (xrf O) λ_=>?_;refine (zmK (by first | assumption | (unfold I64 at *;omega))).mono ?_;rintro _ _ ⟨y2,rfl⟩;refine ⟨(y1.t y2),?_⟩;rw [zbh names C n t,qah c1]
 refine zai<|br (λc2=>?_) (λc2=>?_)
 . refine zaa zdX ?_;refine zar ty9 (zb3 I) (xrf O) λ_=>?_;refine (zgT h1 (e1.trans y1)).mono ?_;rintro _ _ ⟨y3,rfl⟩;refine zaf<|br (λc3=>?_) (λc3=>?_)
   . refine ⟨(y1.t y3),?_⟩;rw [zbh,qab c1,qah c2,qab oo]
   have:=zak h2;refine zae u25 h2<|zb9<|br (λc4=>?_) (λc4=>?_)
   . refine ⟨(y1.t y3),?_⟩;rw [zbh,qab c1,qah c2,qab oo]
   refine zaC u25 ty3 h2 oo oo λ_ _ g9=>zac ty3 g9 (e2.trans (y1.t y3)) λ_=>?_;refine (zmK (by first | assumption | (unfold I64 at *;omega))).mono ?_;rintro _ _ ⟨y4,rfl⟩;refine ⟨(y1.t (y3.t y4)),?_⟩;rw [zbh,qab c1,qah c2,qah oo];congr 1;rw [List.getD_eq_getElem?_getD,List.getElem?_eq_getElem oo];rfl
 refine zaa zbL<|zab zd7 (za0 I) (xrf O) λ_ gb=>?_;obtain ⟨m,D,g2,_,gc⟩:=zzi gd c1 c2;have g0:=zdY names C m (t.kids.getD 0 zaW);have U:=zdY names C m (t.kids.getD 1 zaW);refine zaC zio zbl gb oo oo λ_ _ g3=>?_;have gf:t.kids[(0:Int).toNat]'(by simpa using g2)=t.kids.getD 0 zaW:=by rw [List.getD_eq_getElem?_getD,List.getElem?_eq_getElem g2];rfl
 rw [gf] at g3;refine zab zbl g3 (xrf O) λ_ gg=>?_;refine (ih m D gg (xrf O) h1 (e1.trans y1) h2 (e2.trans y1) aA).mono ?_;rintro _ _ ⟨y5,rfl⟩;refine zaa zdK<|zac ty3 (zbT I) y5 λ_=>zai<|br (λc5=>?_) (λc5=>?_)
 . refine zai ?_;refine (zjK ).mono ?_;rintro _ _ ⟨y6,rfl⟩;refine ⟨(y1.t (y5.t y6)),?_⟩;rw [zbh names C n t,qab c1,qab c2,D];simp only [c5,if_true,qau]
 refine zaa zbL<|zab zd7 (za0 I) y5 λ_ gh=>?_;obtain ⟨g4,_⟩:=gc c5;refine zaC zio zbl gh oo oo λ_ _ g5=>?_;have g1:t.kids[(1:Int).toNat]'(by simpa using g4)=t.kids.getD 1 zaW:=by rw [List.getD_eq_getElem?_getD,List.getElem?_eq_getElem g4];rfl
 rw [g1] at g5;refine zab zbl g5 y5 λ_ gi=>?_;refine (ih m D gi y5 h1 (e1.trans (y1.t y5)) h2 (e2.trans (y1.t y5)) aA).mono ?_;rintro _ _ ⟨y7,rfl⟩;refine zaa zdK<|zac ty3 (zbT I) (y5.t y7) λ_=>zai<|br (λc6=>?_) (λc6=>?_)
 . refine zcY io ?_;refine (zmK (by first | assumption | (unfold I64 at *;omega))).mono ?_;rintro _ _ ⟨y8,rfl⟩;refine ⟨(y1.t (y5.t (y7.t y8))),?_⟩;rw [zbh names C n t,qab c1,qab c2,D];dsimp only;generalize workT names C m (t.kids.getD 0 zaW)=a at *;generalize workT names C m (t.kids.getD 1 zaW)=b at *;simp_all
 refine zai<|br (λc7=>?_) (λc7=>?_)
 . refine zbe io ?_;refine (zmK (by first | assumption | (unfold I64 at *;omega))).mono ?_;rintro _ _ ⟨y9,rfl⟩;refine ⟨(y1.t (y5.t (y7.t y9))),?_⟩;rw [zbh names C n t,qab c1,qab c2,D];dsimp only;generalize workT names C m (t.kids.getD 0 zaW)=a at *;generalize workT names C m (t.kids.getD 1 zaW)=b at *;simp_all
 refine zai<|br (λc8=>?_) (λc8=>?_)
 . refine zn1 (by unfold I64;have h1:=qcQ g0.1 U.1;have h2:=qcR g0.2 U.2 U.1 (by omega:(0:Int)<=999);omega) ?_;have:=qcQ g0.1 U.1;have:=qcR g0.2 U.2 U.1 (by omega:(0:Int)<=999);refine (zmK (by first | assumption | (unfold I64 at *;omega))).mono ?_;rintro _ _ ⟨gj,rfl⟩;refine ⟨(y1.t (y5.t (y7.t gj))),?_⟩;rw [zbh names C n t,qab c1,qab c2,D];dsimp only;generalize workT names C m (t.kids.getD 0 zaW)=a at *;generalize workT names C m (t.kids.getD 1 zaW)=b at *;simp_all
 refine zai<|br (λc9=>?_) (λc9=>?_)
 . refine zaf ?_;refine (zjK ).mono ?_;rintro _ _ ⟨gl,rfl⟩;refine ⟨(y1.t (y5.t (y7.t gl))),?_⟩;rw [zbh names C n t,qab c1,qab c2,D];dsimp only;generalize workT names C m (t.kids.getD 0 zaW)=a at *;generalize workT names C m (t.kids.getD 1 zaW)=b at *;simp_all
 refine zai<|br (λgp=>?_) (λgp=>?_)
 . refine zai ?_;refine (zjK ).mono ?_;rintro _ _ ⟨gq,rfl⟩;refine ⟨(y1.t (y5.t (y7.t gq))),?_⟩;rw [zbh names C n t,qab c1,qab c2,D];dsimp only;generalize workT names C m (t.kids.getD 0 zaW)=a at *;generalize workT names C m (t.kids.getD 1 zaW)=b at *;simp_all
 refine zaT<|br (λgr=>?_) (λgr=>?_)
 . refine zaT ?_;refine (zjK ).mono ?_;rintro _ _ ⟨gs,rfl⟩;refine ⟨(y1.t (y5.t (y7.t gs))),?_⟩;rw [zbh names C n t,qab c1,qab c2,D];dsimp only;generalize workT names C m (t.kids.getD 0 zaW)=a at *;generalize workT names C m (t.kids.getD 1 zaW)=b at *;simp_all
 refine (zjK ).mono ?_;rintro _ _ ⟨gt,rfl⟩;refine ⟨(y1.t (y5.t (y7.t gt))),?_⟩;rw [zbh names C n t,qab c1,qab c2,D];dsimp only;generalize workT names C m (t.kids.getD 0 zaW)=a at *;generalize workT names C m (t.kids.getD 1 zaW)=b at *;simp_all
theorem zos (n:Nat):zBz 171 n:=by
 induction n with
 | zero=>intro w W W1 W2 v v1 v2 t names g0 h e h1 e1 h2 e2 g1;exact zla h e h1 e1 h2 e2 (λm hm=>oo) g1
 | succ n ih=>intro w W W1 W2 v v1 v2 t names g0 h e h1 e1 h2 e2 g1;exact zla h e h1 e1 h2 e2 (λm hm=>Nat.succ.inj hm▸ih) g1
def zlb {t:DTerm} {names:(List ByteArray)} {C:(List Int)} (h0:Is W0 v0 t) (e0:Ext W0 w) (h1:Is W1 v1 names) (e1:Ext W1 w) (h2:Is W2 v2 C) (e2:Ext W2 w) (ih:∀ m,n=m+1->zBz 163 m) (gg:zbj n t=true) :
   CALL tp 163 [v0,v1,v2] w λr w'=>Ext w w'/\(r=.int .i64 (workT names C n t)):=by
 refine co (g:=kf [] [(6,2199022731456,[7])] [(8,[0,1,2,3,4,5,6],0)]) Tryz.func163 ?_;refine zax zbl rfl h0 e0 λO y1 U _=>zaa zdK<|zac ty3 (zbT U) (xrf O) λ_=>zai<|br (λc1=>?_) (λc1=>?_)
 . refine zaa zeG ?_;refine zac ty3 (zcv U) (xrf O) λ_=>?_;refine (zhB (by first | assumption | (unfold I64 at *;omega))).mono ?_;rintro _ _ ⟨y2,rfl⟩;refine ⟨(y1.t y2),?_⟩;rw [zbh names C n t,qah c1]
 refine zai<|br (λc2=>?_) (λc2=>?_)
 . refine zap (names.length) (λk us w'=>us=[.int .i64 (k:Int)]/\Ext O w'/\(t.name∉names.take k)) (0) oo ⟨sS,xrf O,sS⟩ ?_;rintro k m6 _ g9 _ ⟨hu,y3,D⟩;try replace hu:=zbv hu
   try rw [hu]
   try clear hu
   have:=zak h1;have:=zak h1;refine zae u24 h1<|zaf<|br (λc3=>?_) (λc3=>?_)
   . have y4:=zag g9;refine zad u24 ty9 h1 oo λ_ _ gb=>zar ty9 gb (e1.trans (y1.t (y3.t y4))) λ_=>zaa zdX<|zar ty9 (zb3 U) (y3.t y4) λ_=>zaQ<|br (λc4=>?_) (λc4=>?_)
     . have:=zak h2;refine zae u25 h2<|zaf<|br (λc5=>?_) (λc5=>?_)
       . refine zad u25 ty3 h2 oo λ_ _ gc=>?_;refine zac ty3 gc (e2.trans (y1.t (y3.t y4))) λ_=>?_;refine (zhB (by first | assumption | (unfold I64 at *;omega))).mono ?_;rintro _ _ ⟨y5,rfl⟩;refine ⟨(y1.t (y3.t (y4.t y5))),?_⟩;have hp:=zoe (s:=t.name) (l:=names) (k:=k) oo D c4;rw [zbh names C n t,qab c1,qah c2,hp,qah oo];congr 1;rw [qal,List.getD_eq_getElem?_getD,List.getElem?_eq_getElem oo];rfl
       refine ⟨(y1.t (y3.t y4)),?_⟩;have hp:=zoe (s:=t.name) (l:=names) (k:=k) oo D c4;rw [zbh names C n t,qab c1,qah c2,hp,qab oo]
     refine zau<|⟨m6-1,oo,k+1,oo,sS,(y3.t y4),?_⟩;exact zdd oo D c4
   refine ⟨(y1.t y3),?_⟩;rw [qaf oo] at D;rw [zbh names C n t,qab c1,qah c2,zlr D,qab oo]
 refine zaa zbL<|zab zd7 (za0 U) (xrf O) λ_ gd=>?_;obtain ⟨m,I,g2,_,gf⟩:=zzi gg c1 c2;have g0:=zdY names C m (t.kids.getD 0 zaW);have V:=zdY names C m (t.kids.getD 1 zaW);refine zaC zio zbl gd oo oo λ_ _ g3=>?_;have gh:t.kids[(0:Int).toNat]'(by simpa using g2)=t.kids.getD 0 zaW:=by rw [List.getD_eq_getElem?_getD,List.getElem?_eq_getElem g2];rfl
 rw [gh] at g3;refine zab zbl g3 (xrf O) λ_ gi=>?_;refine (ih m I gi (xrf O) h1 (e1.trans y1) h2 (e2.trans y1) aA).mono ?_;rintro _ _ ⟨y6,rfl⟩;refine zaa zdK<|zac ty3 (zbT U) y6 λ_=>zai<|br (λc6=>?_) (λc6=>?_)
 . refine zai ?_;refine (zhA ).mono ?_;rintro _ _ ⟨y7,rfl⟩;refine ⟨(y1.t (y6.t y7)),?_⟩;rw [zbh names C n t,qab c1,qab c2,I];simp only [c6,if_true,qau]
 refine zaa zbL<|zab zd7 (za0 U) y6 λ_ gj=>?_;obtain ⟨g4,_⟩:=gf c6;refine zaC zio zbl gj oo oo λ_ _ g5=>?_;have g1:t.kids[(1:Int).toNat]'(by simpa using g4)=t.kids.getD 1 zaW:=by rw [List.getD_eq_getElem?_getD,List.getElem?_eq_getElem g4];rfl
 rw [g1] at g5;refine zab zbl g5 y6 λ_ gl=>?_;refine (ih m I gl y6 h1 (e1.trans (y1.t y6)) h2 (e2.trans (y1.t y6)) aA).mono ?_;rintro _ _ ⟨y8,rfl⟩;refine zaa zdK<|zac ty3 (zbT U) (y6.t y8) λ_=>zai<|br (λc7=>?_) (λc7=>?_)
 . refine zcY io ?_;refine (zhB (by first | assumption | (unfold I64 at *;omega))).mono ?_;rintro _ _ ⟨y9,rfl⟩;refine ⟨(y1.t (y6.t (y8.t y9))),?_⟩;rw [zbh names C n t,qab c1,qab c2,I];dsimp only;generalize workT names C m (t.kids.getD 0 zaW)=a at *;generalize workT names C m (t.kids.getD 1 zaW)=b at *;simp_all
 refine zai<|br (λc8=>?_) (λc8=>?_)
 . refine zbe io ?_;refine (zhB (by first | assumption | (unfold I64 at *;omega))).mono ?_;rintro _ _ ⟨gp,rfl⟩;refine ⟨(y1.t (y6.t (y8.t gp))),?_⟩;rw [zbh names C n t,qab c1,qab c2,I];dsimp only;generalize workT names C m (t.kids.getD 0 zaW)=a at *;generalize workT names C m (t.kids.getD 1 zaW)=b at *;simp_all
 refine zai<|br (λc9=>?_) (λc9=>?_)
 . refine zn1 (by unfold I64;have h1:=qcQ g0.1 V.1;have h2:=qcR g0.2 V.2 V.1 (by omega:(0:Int)<=999);omega) ?_;have:=qcQ g0.1 V.1;have:=qcR g0.2 V.2 V.1 (by omega:(0:Int)<=999);refine (zhB (by first | assumption | (unfold I64 at *;omega))).mono ?_;rintro _ _ ⟨gq,rfl⟩;refine ⟨(y1.t (y6.t (y8.t gq))),?_⟩;rw [zbh names C n t,qab c1,qab c2,I];dsimp only;generalize workT names C m (t.kids.getD 0 zaW)=a at *;generalize workT names C m (t.kids.getD 1 zaW)=b at *;simp_all
 refine zai<|br (λgr=>?_) (λgr=>?_)
 . refine zaf ?_;refine (zhA ).mono ?_;rintro _ _ ⟨gs,rfl⟩;refine ⟨(y1.t (y6.t (y8.t gs))),?_⟩;rw [zbh names C n t,qab c1,qab c2,I];dsimp only;generalize workT names C m (t.kids.getD 0 zaW)=a at *;generalize workT names C m (t.kids.getD 1 zaW)=b at *;simp_all
 refine zai<|br (λgt=>?_) (λgt=>?_)
 . refine zai ?_;refine (zhA ).mono ?_;rintro _ _ ⟨gx,rfl⟩;refine ⟨(y1.t (y6.t (y8.t gx))),?_⟩;rw [zbh names C n t,qab c1,qab c2,I];dsimp only;generalize workT names C m (t.kids.getD 0 zaW)=a at *;generalize workT names C m (t.kids.getD 1 zaW)=b at *;simp_all
 refine zaT<|br (λgy=>?_) (λgy=>?_)
 . refine zaT ?_;refine (zhA ).mono ?_;rintro _ _ ⟨gz,rfl⟩;refine ⟨(y1.t (y6.t (y8.t gz))),?_⟩;rw [zbh names C n t,qab c1,qab c2,I];dsimp only;generalize workT names C m (t.kids.getD 0 zaW)=a at *;generalize workT names C m (t.kids.getD 1 zaW)=b at *;simp_all
 refine (zhA ).mono ?_;rintro _ _ ⟨gC,rfl⟩;refine ⟨(y1.t (y6.t (y8.t gC))),?_⟩;rw [zbh names C n t,qab c1,qab c2,I];dsimp only;generalize workT names C m (t.kids.getD 0 zaW)=a at *;generalize workT names C m (t.kids.getD 1 zaW)=b at *;simp_all
theorem zwr (n:Nat):zBz 163 n:=by
 induction n with
 | zero=>intro w W W1 W2 v v1 v2 t names g0 h e h1 e1 h2 e2 g1;exact zlb h e h1 e1 h2 e2 (λm hm=>oo) g1
 | succ n ih=>intro w W W1 W2 v v1 v2 t names g0 h e h1 e1 h2 e2 g1;exact zlb h e h1 e1 h2 e2 (λm hm=>Nat.succ.inj hm▸ih) g1
def zjL {t:DTerm} {names:(List ByteArray)} {g0:(List Int)}  (h0:Is W0 v0 t) (e0:Ext W0 w) (h1:Is W1 v1 names) (e1:Ext W1 w) (h2:Is W2 v2 g0) (e2:Ext W2 w) (g3:zbj 6 t=true) :
   CALL tp 103 [v0,v1,v2] w λr w'=>Ext w w'/\(r=.int .i64 (workT names g0 6 t)):=by
 refine co (g:=kf [] [] []) Tryz.func103 ?_;refine zax zbl rfl h0 e0 λg2 y1 _ g1=>zbr g1 (xrf g2) ?_;refine (zc2 h0 (e0.t y1)).mono ?_;rintro _ _ ⟨y2,rfl⟩;refine za2<|zbX (λc1=>?_) (λc1=>?_)
 . refine ⟨(y1.t y2),?_⟩;simp [g3] at c1
 refine zbr g1 y2 ?_;refine (zwr 6 h0 (e0.t (y1.t y2)) h1 (e1.trans (y1.t y2)) h2 (e2.trans (y1.t y2)) aA).mono ?_;rintro _ _ ⟨y3,rfl⟩;refine ⟨(y1.t (y2.t y3)),?_⟩;rfl
def zcJ (c:DCode) (s:DState) (t:Int):Int:=
 if (atI c s t).op=2 then (if workT c.globals s.vars 6 (atI c s t).term=0 then (atI c s t).to else zbg s t+1) else if (atI c s t).op=3 then (atI c s t).to else zbg s t+1
def zaP (c:DCode) (s:DState) (t:Int):DState:=
 if (atI c s t).op=1 then ⟨s.vars.set (atI c s t).arg.toNat (workT c.globals s.vars 6 (atI c s t).term),s.owner,s.stacks⟩
 else if (atI c s t).op=5 then (if s.stacks.length<6 then ⟨s.vars,s.owner,s.stacks++[[en c (atI c s t).arg.toNat]]⟩ else s)
 else if (atI c s t).op=6 then ⟨s.vars,s.owner.set (atI c s t).arg.toNat t,s.stacks⟩
 else if (atI c s t).op=7 then (if ow s (atI c s t).arg=t then ⟨s.vars,s.owner.set (atI c s t).arg.toNat (-1),s.stacks⟩ else s)
 else s
def zfl (l:List Int):List Int:=if l.length-1=0 then [] else (l.take (l.length-1)).set (l.length-2) (st l (l.length-2)+1)
def za1 (c:DCode) (s:DState) (t:Int):DState:=
 if (atI c s t).op=4 then ⟨s.vars,s.owner,s.stacks.set t.toNat (stk s t++[en c (atI c s t).arg.toNat])⟩
 else if (atI c s t).op=9 then ⟨s.vars,s.owner,s.stacks.set t.toNat (zfl (stk s t))⟩
 else ⟨(zaP c s t).vars,(zaP c s t).owner,(zaP c s t).stacks.set t.toNat ((stk s t).set ((stk s t).length-1) (zcJ c s t))⟩
def zf2 {t:Int} (hs:zaV c s) (hg:0<=zbg s t):∃ tn:Nat,t=tn/\tn<s.stacks.length/\stk s t≠[]/\(stk s t).length<=8/\zbg s t=st (stk s t) ((stk s t).length-1):=by
 obtain ⟨h0,h1⟩:=zen hg;have h2:=zg1 h0 h1;have g0:stk s t≠[]:=λe=>by rw [h2,e] at hg;simp [List.getLastD] at hg
 have hm:=hs.2.2.2.2.2 (stk s t) (by rw [<-zem h1];exact qac _);exact ⟨t.toNat,oo,h1,g0,hm.1,by rw [h2,zpV g0]⟩
def zzj (hc:CodeR c) (hs:zaV c s):zHz s:=by
 have:=hc.1.globals6;have:=hc.1.locks6;have:=hs.1;have:=hs.2.1;have:=hs.2.2.1;exact ⟨oo,oo,oo,λx hx=>by have:=(hs.2.2.2.2.2 x hx).1;omega⟩
def zdk {t e:TypeId} {b a n cap sz by_ k:Nat} (ht:P.underlying t=some (.slice e)) (he:tyI P e=some (sz,by_,ag)) (hu:u=.slice (some ⟨b,a,none⟩) n cap) (hk:k<n) (kk:K (.pointer (some ⟨b,a+k*sz,none⟩))) :
   RD P (Instr.indexAt t u (.int .i64 (k:Int))) w K:=by
 subst hu;exact zba (λ_ _=>by rw [zcb ht he oo oo];simp) kk
def zjM {z:DStV} (h:VarI lo hi w g z) (hg:lo<=g/\g<hi) (hk:k<z.owner.length):∃ u b a cap,w.rangeAt g (0+1) [u]/\Is w u z.owner/\u=.slice (some ⟨b,a,none⟩) z.owner.length cap /\
   ∀ w1,Ext w w1->∀ (g0:Int),I64 g0->∀ K:wD->Prop,(∀ w2,ChgI lo hi w1 w2->VarI lo hi w2 g (⟨z.vars,z.owner.set k g0,z.stacks⟩:DStV)->K w2)->OPU tp (Instr.storeAt 3 (.pointer (some ⟨b,a+k*1,none⟩)) (.int .i64 g0)) w1 K:=by
 obtain ⟨_,hO,hF⟩:=h;obtain ⟨_,g1⟩:=ztq (Lens.var hO);obtain ⟨u,b,a,cap,_,hr,g2,hu,g3⟩:=g1.elem hk;exact ⟨u,b,a,cap,hr,g2,hu,λw1 hx g0 hI K kk=>zf0 ty3 (g3.ext hx) hF hg (zbt hI) kk⟩
def zu7 {z:DStV} (h:VarI lo hi w g z) (hg:lo<=g/\g<hi) (hk:k<z.vars.length):∃ u b a cap,w.rangeAt g (0+0) [u]/\Is w u z.vars/\u=.slice (some ⟨b,a,none⟩) z.vars.length cap /\
   ∀ w1,Ext w w1->∀ (g0:Int),I64 g0->∀ K:wD->Prop,(∀ w2,ChgI lo hi w1 w2->VarI lo hi w2 g (⟨z.vars.set k g0,z.owner,z.stacks⟩:DStV)->K w2)->OPU tp (Instr.storeAt 3 (.pointer (some ⟨b,a+k*1,none⟩)) (.int .i64 g0)) w1 K:=by
 obtain ⟨_,hO,hF⟩:=h;obtain ⟨_,g1⟩:=ztp (Lens.var hO);obtain ⟨u,b,a,cap,_,hr,g2,hu,g3⟩:=g1.elem hk;exact ⟨u,b,a,cap,hr,g2,hu,λw1 hx g0 hI K kk=>zf0 ty3 (g3.ext hx) hF hg (zbt hI) kk⟩
def zdw (h:w.rangeAt b o [u]) (h':w.rangeAt b o [u']):u=u':=by
 have h1:=h 0 u rfl;have h2:=h' 0 u' rfl;rw [h1] at h2;exact qa0 h2
def zzk {z:DStV} (h:OAt F w g 0 z):OAt F w g 0 z.er:=by
 obtain ⟨_,hr,g0⟩:=h;obtain ⟨_,_,_,_,_,_,rfl,rfl,h0,h1,h2⟩:=zBv hr;exact ⟨_,zvX (x:=z.er) h0 h1 (zGv h2),g0⟩
def zGD {t e:TypeId} {l:List Int} (ht:P.underlying t=some (.slice e)) (he:tyI P e=some (1,by_,false)) (hm:Mine G w u l) (hk:k<=l.length) (g4:l≠[])
   (kk:∀ b a cap v G',u=.slice (some ⟨b,a,none⟩) l.length cap->Mine G' w v (l.take k)->(∀ c∈G',c∈G)->(0<k->v=.slice (some ⟨b,a,none⟩) k k)->K v):RD P (Instr.sliceAt t u none (some (.int .i64 (k:Int))) (some (.int .i64 (k:Int)))) w K:=by
 obtain ⟨⟨_,⟨a,cap,_,xs,rfl,_,_,hc,h4⟩,rfl⟩,_,hw⟩:=hm;rcases h4 with ⟨h4,_⟩ | ⟨b,o,rfl,rfl,hr,hb⟩
 . exact absurd h4 g4
 have g5:=Cells.flat (xs:=xs) hc;subst g5
 have g9:∀ w',(Instr.sliceBounds true l.length cap none (some (.int .i64 (k:Int))) (some (.int .i64 (k:Int)))).run P w'=.ok (0,k,k) w':=λw'=>by
   have h5:(k:Int)<=(cap:Int):=oo;simp [Instr.sliceBounds,Instr.sliceBound,asIntOf,h5]
 have e0:l=l.take k++l.drop k:=by simp
 have g2:=hc;rw [e0] at g2;obtain ⟨_,_,x1,_,gb,rfl,c1,_⟩:=Cells.split g2;obtain ⟨rfl,rfl⟩:=qbQ.1 gb.symm;have g3:(l.take k).length=k:=by simp;omega
 have g0:∃ v:vL,(∀ w',(Instr.sliceAt t (.slice (some ⟨b,o,none⟩) l.length cap) none (some (.int .i64 (k:Int))) (some (.int .i64 (k:Int)))).run P w'=.ok v w')/\v=.slice (some ⟨b,o,none⟩) k k:=by
   refine ⟨_,λw'=>?_,rfl⟩;simp only [Instr.sliceAt,Instr.slice,Sem.run_bind,run_underlying ht,Result.andThen_ok,g9,zaJ he];simp [Addr.add_mid]
 obtain ⟨v,g1,rfl⟩:=g0;refine zba (λw' _=>g1 w') ?_;by_cases h0:k=0
 . subst h0;refine kk b o cap _ [] rfl ?_ sS (λ_=>oo);have:l.take 0=[]:=by simp
   rw [this];exact ⟨⟨_,⟨some ⟨b,o,none⟩,0,[],[],rfl,lr _,z0 _,⟨rfl,rfl⟩,.inl ⟨rfl,rfl⟩⟩,rfl⟩,qav,Wr.nil w⟩
 refine kk b o cap _ [b] rfl ?_ sS (λ_=>rfl);refine ⟨⟨_,⟨some ⟨b,o,none⟩,k,[],x1,rfl,by rw [g3];exact qaz _,oo,c1,.inr ⟨b,o,rfl,rfl,(zaK hr).1,hb⟩⟩,by rw [g3];rfl⟩,sS,hw.sub sS⟩
def zpX {z:DStV} (h:VarI lo hi w g z):VarI lo hi w g z.er:=by
 obtain ⟨F,h,hF⟩:=h;exact ⟨F,zzk h,hF⟩
def zBA {z:DState} (h:OwnI lo hi w v z):∃ a b c,v=.agg #[a,b,c]:=by
 obtain ⟨_,⟨⟨_,hr,rfl⟩,_⟩,_⟩:=h;obtain ⟨_,_,_,_,_,_,rfl,rfl,⟨_,_,_,_,rfl,_⟩,⟨_,_,_,_,rfl,_⟩,⟨_,_,_,_,rfl,_⟩⟩:=zvY hr;exact ⟨_,_,_,rfl⟩
def zzl {t:Int} (hc:CodeR c) (hs:zaV c s) (h:0<=zbg s t) (ho:(atI c s t).op=1):0<=(atI c s t).arg/\(atI c s t).arg.toNat<s.vars.length:=by
 have h1:=(zjI hc hs h).2.1;have:=hs.1;unfold zcz at h1;rw [qah ho] at h1;omega
def zh9 {t:Int} (hc:CodeR c) (hs:zaV c s) (h:0<=zbg s t) (ho:(atI c s t).op=4\/(atI c s t).op=5):0<=(atI c s t).arg/\(atI c s t).arg.toNat<c.entry.length:=by
 have h1:=(zjI hc hs h).2.1;have:=hc.2.1.1;unfold zcz at h1;rw [qab oo,qah ho] at h1;omega
def zws {t:Int} (h0:Is W0 v0 c) (e0:Ext W0 w) (h1:Is W1 v1 s) (e1:Ext W1 w) (hc:CodeR c) (hs:zaV c s) (j1:GoR c s t) :
   CALL tp 112 [v0,v1,.int .i64 t] w λr w'=>Ext w w'/\Own w.heap.size w' r (za1 c s t):=by
 obtain ⟨tn,rfl,gX,jO,_,d4⟩:=zf2 hs j1.1;have h5:=ziq hs tn;have gf:0<=zbg s tn:=j1.1;have d5:=qaO.2 jO;refine co (g:=⟨extL,[(30,22300745198530623141535718272648327146244096,[11])],[],[(4,[0,1,2,3,4,5,6,7,8,9],256),(8,[0,1,2,3,4,5,6,7,8,9,10,11,12],1024),(15,[0,1,2,3,4,5,6,7,8,9,10,11,12,13],3072),(19,[0,1,2,3,4,5,6,7,8,9,10,11,12],768),(26,[0,1,2,3,4,5,6,7,8],0)],[],[15],[]⟩) Tryz.func112 ?_;refine zbp h0 e0 λw1 jc h6=>zbp h1 (e1.trans jc) λw2 h8 jd=>zaL zu1 λw3 gO jP=>?_;have hg3:=jP.lt;have hs1:=jc.size;have hs2:=h8.size;refine zab zch jd gO λ_ d6=>?_;refine (zrA d6 gO (zzj hc hs)).mono ?_;rintro _ w4 ⟨jQ,z,d7,hz⟩;have hs4:=jQ.size;refine zeC (α:=DStV) zu1 λ_ je jR=>?_;have hs5:=je.size;have hg5:=jR.lt;refine zbH zch jR (d7.ext je) oo λw6 jS j2=>?_;have hs6:=jS.size;have gP:Ext w3 w6:=Ext.chgI (jQ.t je) jS oo;have gi:z.stacks.l.map RV.l=s.stacks:=qax DState.stacks hz;have gQ:tn<z.stacks.l.length:=by have:=qax List.length gi;simp at this;omega
 refine zaa zbc<|zab (α:=RIntss) zeV (zfM j2.at) (xrf w6) λ_ d8=>?_;obtain ⟨rfl,d9⟩:=znE d8;refine zad (α:=RInts) u31 zaS d9 gQ λ_ _ jf=>zab (α:=RInts) zaS jf (xrf w6) λ_ da=>?_;obtain ⟨rfl,j3⟩:=znE da;obtain ⟨x,hx⟩:∃ x,x=z.stacks.l[tn]:=⟨_,rfl⟩
 have gd:x.l=stk s tn:=by
   have e1:(z.stacks.l.map RV.l)[tn]?=s.stacks[tn]?:=by rw [gi]
   rw [List.getElem?_map,List.getElem?_eq_getElem gQ,List.getElem?_eq_getElem gX] at e1;have e2:=qa0 e1;rw [hx,e2];exact zem (t:=(tn:Int)) (by simpa using gX)
 rw [<-hx] at j3 ⊢;refine zae u25 j3<|zbe (by unfold I64;rw [gd];omega) ?_;obtain ⟨top,h9⟩:∃ top:Nat,(x.l.length:Int)-1=top:=⟨x.l.length-1,by rw [gd];omega⟩;have j4:top<x.l.length:=oo;rw [h9];have gR:=zag w6;have hs7:=gR.size;have g2:Ext w1 w6:=h8.t (gO.t gP);have gt:Ext w2 w6:=gO.t gP;refine zaa zaY<|zab zdD (zam h6) (g2.t gR) λ_ db=>zad u25 ty3 j3 j4 λ_ _ ha=>?_
 have hb:x.l[top]=zbg s tn:=by
   rw [zrD,d4,gd];congr 1;rw [gd] at h9;omega
 rw [hb] at ha;refine zac ty3 ha gR λ_=>zaC u26 zbm db j1.1 oo λ_ _ hd=>?_;rw [zaG] at hd;refine zab zbm hd (g2.t gR) λ_ dc=>zxG ziG rfl zbm rfl dc (g2.t gR) λw8 jg Y _=>?_;have hs8:=jg.size;refine zad u25 ty3 j3 j4 λ_ _ hf=>?_;rw [hb] at hf;refine zac ty3 hf (gR.t jg) λ_=>?_;have dd:=hc.f.ins;refine zcY io ?_;have hR:=zjI hc hs j1.1;obtain ⟨I,hI⟩:∃ I,I=atI c s tn:=⟨_,rfl⟩;have Y:At w8 (World.drew1 w6).heap.size 0 I:=by rw [hI];exact Y
 have V:=gR.t jg;have g9:VarI w3.heap.size w8.heap.size w8 w4.heap.size z:=(j2.ext V).mono (lr _) oo;have Z:Ext w3 w8:=gP.t V
 have gx:∀ (zz:DState) (w9:wD),Ext w3 w9->VarI w3.heap.size w9.heap.size w9 w4.heap.size zz->zz=za1 c s tn ->
     RD tp (Instr.loadAt 43 (.pointer (some ⟨w4.heap.size,0,none⟩))) w9 λjh=>OPU tp (Instr.storeAt 43 (.pointer (some ⟨w2.heap.size,0,none⟩)) jh) w9 λw'=>
       RD tp (zfA 43 (.pointer (some ⟨w2.heap.size,0,none⟩))) w' λr6=>Ext w w'/\Own w.heap.size w' r6 (za1 c s tn):=by
   intro zz w9 D j5 he;have hh:=D.size;refine zfE zch j5 (xrf w9) λ_ gS=>?_;obtain ⟨a,b,_,rfl⟩:=zBA gS;refine zaz (α:=DState) zch rfl (jP.ext D) rfl gS λg1 gj ji=>zcl ji zch<|⟨Ext.chgI (jc.t (h8.t (gO.t D))) gj oo,?_⟩;have:=gS.chg gj oo;rw [he] at this;exact this.own.mono oo
 refine JOIN.mk (λus w'=>us=[.int .i64 (zcJ c s tn)]/\Ext w3 w'/\∃ z':DStV,VarI w3.heap.size w'.heap.size w' w4.heap.size z'/\z'.vars=(zaP c s tn).vars/\z'.owner=(zaP c s tn).owner/\z'.stacks.l.map RV.l=(zaP c s tn).stacks/\z'.stacks.l[tn]?=some x/\(I.op≠4/\I.op≠9)) ?_ ?_
 . refine zaa za8 ?_;refine zac ty3 (zay Y) (xrf w8) λ_=>?_;have gy:z.vars=s.vars:=qax DState.vars hz;have gl:z.owner=s.owner:=qax DState.owner hz;have gU:z.stacks.l[tn]?=some x:=by rw [List.getElem?_eq_getElem gQ,hx]
   have gz:∀ w9,Ext w8 w9->(I.op≠1/\I.op≠4/\I.op≠5/\I.op≠6/\I.op≠7/\I.op≠9)->∃ z':DStV,VarI w3.heap.size w9.heap.size w9 w4.heap.size z'/\z'.vars=(zaP c s tn).vars/\z'.owner=(zaP c s tn).owner/\z'.stacks.l.map RV.l=(zaP c s tn).stacks/\z'.stacks.l[tn]?=some x/\(I.op≠4/\I.op≠9):=by
     rintro w9 D ⟨q1,q4,q5,q6,q7,q9⟩;have he:zaP c s tn=s:=by unfold zaP;rw [<-hI,qab q1,qab q5,qab q6,qab q7]
     rw [he];exact ⟨z,(g9.ext D).mono (lr _) D.size,gy,gl,gi,gU,q4,q9⟩
   have gH:I.op≠2->I.op≠3->zcJ c s tn=zbg s tn+1:=λq2 q3=>by unfold zcJ;rw [<-hI,qab q2,qab q3]
   refine zai<|br (λq1=>?_) (λq1=>?_)
   . have D:=zag w8;have hh:=D.size;have gI:=g9.lt;obtain ⟨g3,g4⟩:=zzl hc hs gf (hI▸q1);rw [<-hI] at g3 g4;obtain ⟨ar,g5⟩:∃ ar:Nat,I.arg=ar:=⟨I.arg.toNat,oo⟩;have g0:ar<z.vars.length:=by rw [gy];omega
     obtain ⟨u,b,a,cap,hr,jj,hu,hj⟩:=zu7 (g9.ext D) oo g0;refine zaa zhc<|zcN zaS hr<|zaa zaZ<|zac ty3 (zat Y) D λ_=>zaa zdL<|zab zbl (zco Y) D λde jk=>zaa zee<|zab zdt (zbs h6) (g2.t (V.t D)) λdf jl=>zaa zhc<|zab zaS (zcK jd) (gt.t (V.t D)) λdg jm=>?_
     have jn:zbj 6 I.term=true:=by
       have:=hR.2.2.1;rw [<-hI,qah (.inl q1)] at this;exact this.1
     refine (zos 6 jk D jl (g2.t (V.t D)) jm (gt.t (V.t D)) jn).mono ?_;rintro _ g1 ⟨X,rfl⟩;refine ⟨X,?_⟩;have gC:=X.size;rw [g5];refine zdk u25 ty3 hu g0 ?_;have hwr:=zdY c.globals s.vars 6 I.term;refine hj g1 X _ io _ λgD U gb=>?_;have gp:=U.size;have C:zaP c s tn=⟨s.vars.set I.arg.toNat (workT c.globals s.vars 6 I.term),s.owner,s.stacks⟩:=by unfold zaP;rw [<-hI,qah q1]
     refine ⟨by rw [gH oo oo],Ext.chgI ((Z.t D).trans X) U oo,_,gb.mono (lr _) oo,?_,?_,?_,gU,oo,oo⟩
     . rw [C,gy,g5];rfl
     . rw [C];exact gl
     rw [C];exact gi
   refine zai<|br (λq2=>?_) (λq2=>?_)
   . refine zaa zdL ?_;refine zab zbl (zco Y) (xrf w8) λde jk=>zaa zee<|zab zdt (zbs h6) (g2.t V) λdf jl=>zaa zhc<|zab zaS (zcK jd) (gt.t V) λdg jm=>?_
     have jn:zbj 6 I.term=true:=by
       have:=hR.2.2.1;rw [<-hI,qah (.inr q2)] at this;exact this.1
     refine (zos 6 jk (xrf w8) jl (g2.t V) jm (gt.t V) jn).mono ?_;rintro _ w9 ⟨D,rfl⟩;refine zai<|br (λq=>?_) (λq=>?_)
     . refine zaa zdg ?_;refine zac ty3 (zcc Y) D λ_=>⟨by unfold zcJ;rw [<-hI,qah q2,qah q],Z.t D,gz w9 D oo⟩
     exact ⟨by unfold zcJ;rw [<-hI,qah q2,qab q],Z.t D,gz w9 D oo⟩
   refine zai<|br (λq3=>?_) (λq3=>?_)
   . refine zaa zdg ?_;refine zac ty3 (zcc Y) (xrf w8) λ_=>⟨by unfold zcJ;rw [<-hI,qab q2,qah q3],Z,gz w8 (xrf w8) oo⟩
   have hn:=gH q2 q3;refine zai<|br (λq4=>?_) (λq4=>?_)
   . have D:=zag w8;have hh:=D.size;have gI:=g9.lt;obtain ⟨g3,g4⟩:=zh9 hc hs gf (.inl (hI▸q4));rw [<-hI] at g3 g4;obtain ⟨ar,g5⟩:∃ ar:Nat,I.arg=ar:=⟨I.arg.toNat,oo⟩;obtain ⟨F,hO,hF⟩:=j2.ext (V.t D);have gY:=hO.lts;obtain ⟨G1,gh⟩:=zdv (Lens.var hO);obtain ⟨b2,a2,hk,G2,jT,jo,gg⟩:=gh.elemV gQ;rw [<-hx] at gg;obtain ⟨dh,⟨rfl,_⟩,hl,_,_,di,_⟩:=gh.here;obtain ⟨cs,⟨rfl,gV⟩,_,jp,_,_,_⟩:=gg.here
     have jq:∀ c∈G2,c∈F:=λc O=>by
       rcases qaa.1 (gg.sub c (by simp [O])) with rfl | h
       . exact absurd (jo _ (by simp [O])) di
       exact h
     have j6:∀ c∈G2,w3.heap.size<=c/\c<w4.heap.size:=λc O=>hF c (jq c O);have j7:∀ c,c∈G2->w3.heap.size<=c:=λc O=>(j6 c O).1;have gc:=Z.t D;refine XR.mk (λc=>c∈G2)<|zeN zbc<|zfr zeV hl (λh=>by have:=j6 _ h;omega)<|zeN zbq<|zej (w0:=w3) j7 gc<|zab zaS (zaq h6) (h8.t gO) λ_ dj=>zeN zaZ<|zfr ty3 (zbQ (zyN (zat Y)) D) (λh=>by have:=j6 _ h;omega) ?_;rw [g5];refine zej (w0:=w3) j7 gc<|zad u25 ty3 dj oo λ_ _ hq=>?_;rw [zbO] at hq;refine zej (w0:=w3) j7 gc<|zac ty3 hq (h8.t gO) λjr=>zdU (β:=Int) (G:=G2) u25 ty3 z3 zc3 qd gV jp (zbt jr) sS (by rw [zaj,gd];omega) (by rw [gd];omega) (λg1 _ gD G' X U js jt gp=>?_) λsv g1 X ju=>⟨X.toX,ju⟩;refine ⟨U.toX (λc h=>h),?_⟩;have gC:=X.size;have jU:=U.size;have gJ:Chg G2 (World.drew1 w8) gD:=(X.chg G2).trans U;have ht:Ext w3 gD:=Ext.chgI gc (gJ.toI (lo:=w3.heap.size) (hi:=w4.heap.size) j6) (lr _);refine zej (w0:=w3) j7 ht<|zdk u31 zaS jT gQ<|zgy zaS gg gY gJ js jt (λc O=>?_) λj8 gE ⟨F',gq,hv⟩=>?_
     . rcases gp c O with h | h | h
       . exact .inl h
       . simp at h
       exact .inr h
     have hw:=gE.size
     have hy:ChgI w3.heap.size w8.heap.size (World.drew1 w8) j8:=gE.toI λc O=>by
       have:=gg.sub c O;rcases qaa.1 this with rfl | h
       . exact ⟨oo,gI⟩
       have:=hF c h;omega
     refine gx _ j8 (Ext.chgI gc hy (lr _)) (zpX ⟨F',gq,λc O=>?_⟩) ?_
     . have h1:=gq.lts c (by simp [O]);rcases hv c O with h | h
       . rcases qaa.1 h with rfl | h
         . obtain ⟨_,_,_,_,_,hB,_⟩:=gq;exact absurd O hB
         have:=hF c h;omega
       omega
     unfold za1 DStV.er;have e1:((tn:Int)).toNat=tn:=oo;rw [<-hI,qah q4];simp only [DState.mk.injEq,gy,gl,true_and];rw [qcp,gi,gd,e1,g5,qal]
   refine zai<|br (λq5=>?_) (λq5=>?_)
   . have gI:=g9.lt;obtain ⟨g3,g4⟩:=zh9 hc hs gf (.inr (hI▸q5));rw [<-hI] at g3 g4;obtain ⟨ar,g5⟩:∃ ar:Nat,I.arg=ar:=⟨I.arg.toNat,oo⟩;have gr:z.stacks.l.length=s.stacks.length:=by have:=qax List.length gi;simpa using this
     refine zaa zbc<|zab (α:=RIntss) zeV (zfM g9.at) (xrf w8) λ_ dk=>?_;obtain ⟨rfl,dl⟩:=znE dk;refine zae u31 dl ?_;rw [gr];refine zaf<|br (λqq=>?_) (λqq=>?_)
     . have D:=zag w8;have hh:=D.size;obtain ⟨F,hO,hF⟩:=g9.ext D;have gY:=hO.lts;obtain ⟨G1,gh⟩:=zdv (Lens.var hO);refine zaa zbc<|zbR zeV (zfM g9.at) D<|zaa zbq<|zab zaS (zaq h6) (g2.t (V.t D)) λ_ dm=>zaa zaZ<|zac ty3 (zat Y) D λ_=>?_;rw [g5];refine zad u25 ty3 dm oo λ_ _ hC=>?_;rw [zbO] at hC;refine zac ty3 hC (g2.t (V.t D)) λjv=>zci (β:=Int) u25 ty3 z3 qd (zbt jv) λ_ g1 X dn=>⟨X,?_⟩;have gC:=X.size;obtain ⟨_,dp,jV⟩:=zff dn;obtain ⟨cs,⟨rfl,gV⟩,_,jp,_⟩:=gh.here;have hD:∀ c∈G1,c<(World.drew1 w8).heap.size:=λc O=>gY c (gh.sub c (by simp [O]));refine zdU (β:=RInts) (G:=G1) (w:=g1) u31 zaS z25 zyq qd (gV.keep λc O=>X.heap (hD c O)) jp dp (λc O hg=>by have:=jV c O;have:=hD c hg;omega) (by rw [zaj,gr];omega) (by rw [gr];omega) (λgD _ j8 G' gW hG jw jx hw=>?_) λsv gD gW ju=>⟨gW,ju⟩;have gE:Chg G1 g1 j8:=(gW.chg G1).trans hG;refine zaa zbc<|zgy zeV gh gY ((X.chg G1).trans gE) jw jx (λc O=>?_) λdq hH ⟨F',gq,hv⟩=>?_
       . rcases hw c O with h | h | h
         . exact .inl h
         . exact .inr (jV c h).1
         exact .inr oo
       have dr:=hH.size
       have hy:ChgI w3.heap.size w8.heap.size (World.drew1 w8) dq:=hH.toI λc O=>by
         have:=gh.sub c O;rcases qaa.1 this with rfl | h
         . exact ⟨oo,gI⟩
         exact hF c h
       have C:zaP c s tn=⟨s.vars,s.owner,s.stacks++[[en c I.arg.toNat]]⟩:=by unfold zaP;rw [<-hI,qab q1,qah q5,qah oo]
       refine ⟨by rw [hn],Ext.chgI (Z.t D) hy (lr _),_,⟨F',gq,λc O=>?_⟩,?_,?_,?_,?_,oo,oo⟩
       . have h1:=gq.lts c (by simp [O]);rcases hv c O with h | h
         . rcases qaa.1 h with rfl | h
           . obtain ⟨_,_,_,_,_,hB,_⟩:=gq;exact absurd O hB
           have:=hF c h;omega
         omega
       . rw [C];exact gy
       . rw [C];exact gl
       . rw [C];simp only [qbx,qbI,qca,gi,g5,qal]
       show (z.stacks.l++_)[tn]?=some x;rw [List.getElem?_append_left gQ];exact gU
     have C:zaP c s tn=s:=by unfold zaP;rw [<-hI,qab q1,qah q5,qab oo]
     refine ⟨by rw [hn],Z,z,g9,?_,?_,?_,gU,oo,oo⟩
     . rw [C];exact gy
     . rw [C];exact gl
     rw [C];exact gi
   refine zai<|br (λq6=>?_) (λq6=>?_)
   . have gI:=g9.lt;obtain ⟨g3,g4⟩:=zdm hc hs gf (.inl (hI▸q6));rw [<-hI] at g3 g4;obtain ⟨ar,g5⟩:∃ ar:Nat,I.arg=ar:=⟨I.arg.toNat,oo⟩;have g0:ar<z.owner.length:=by rw [gl];omega
     obtain ⟨u,b,a,cap,hr,jj,hu,hj⟩:=zjM g9 oo g0;refine zaa zdN<|zcN zaS hr<|zaa zaZ<|zac ty3 (zat Y) (xrf w8) λ_=>?_;rw [g5];refine zdk u25 ty3 hu g0 ?_;have jW:=hs.2.2.1;refine hj w8 (xrf w8) _ io _ λgD U gb=>?_;have gp:=U.size;have C:zaP c s tn=⟨s.vars,s.owner.set I.arg.toNat tn,s.stacks⟩:=by unfold zaP;rw [<-hI,qab q1,qab q5,qah q6]
     refine ⟨by rw [hn],Ext.chgI Z U oo,_,gb.mono (lr _) oo,?_,?_,?_,gU,oo,oo⟩
     . rw [C];exact gy
     . rw [C,gl,g5];rfl
     rw [C];exact gi
   refine zai<|br (λq7=>?_) (λq7=>?_)
   . have gI:=g9.lt;obtain ⟨g3,g4⟩:=zdm hc hs gf (.inr (hI▸q7));rw [<-hI] at g3 g4;obtain ⟨ar,g5⟩:∃ ar:Nat,I.arg=ar:=⟨I.arg.toNat,oo⟩;have g0:ar<z.owner.length:=by rw [gl];omega
     obtain ⟨u,b,a,cap,hr,jj,hu,hj⟩:=zjM g9 oo g0;refine zaa zdN<|zcN zaS hr<|zaa zaZ<|zac ty3 (zat Y) (xrf w8) λ_=>?_;rw [g5];refine zad u25 ty3 jj g0 λ_ _ hJ=>zac ty3 hJ (xrf w8) λ_=>?_
     have ds:z.owner[ar]=ow s I.arg:=by
       have:ar<s.owner.length:=by rw [<-gl];exact g0
       rw [g5,<-zu4 this];congr 1
     rw [ds];refine zai<|br (λqq=>?_) (λqq=>?_)
     . refine zaa zdN ?_;refine zcN zaS hr<|zaa zaZ<|zac ty3 (zat Y) (xrf w8) λ_=>?_;rw [g5];refine zdk u25 ty3 hu g0<|hj w8 (xrf w8) _ io _ λgD U gb=>?_;have gp:=U.size;have C:zaP c s tn=⟨s.vars,s.owner.set I.arg.toNat (-1),s.stacks⟩:=by unfold zaP;rw [<-hI,qab q1,qab q5,qab q6,qah q7,qah qq]
       refine ⟨by rw [hn],Ext.chgI Z U oo,_,gb.mono (lr _) oo,?_,?_,?_,gU,oo,oo⟩
       . rw [C];exact gy
       . rw [C,gl,g5];rfl
       rw [C];exact gi
     have C:zaP c s tn=s:=by unfold zaP;rw [<-hI,qab q1,qab q5,qab q6,qah q7,qab qq]
     refine ⟨by rw [hn],Z,z,g9,?_,?_,?_,gU,oo,oo⟩
     . rw [C];exact gy
     . rw [C];exact gl
     rw [C];exact gi
   refine zai<|br (λq9=>?_) (λq9=>?_)
   . have D:=zag w8;have hh:=D.size;have gI:=g9.lt;have gc:=Z.t D;obtain ⟨F,hO,hF⟩:=j2.ext (V.t D);have gY:=hO.lts;obtain ⟨_,hK⟩:=zdv (Lens.var hO);obtain ⟨dt,du,_,_,jy,hL,hM⟩:=hK.elemV gQ;rw [<-hx] at hM;obtain ⟨dh,⟨rfl,_⟩,jz,_,_,jA,_⟩:=hK.here;obtain ⟨_,⟨rfl,hN⟩,hP,_,_,_,hQ⟩:=hM.here;have dv:OAt F (World.drew1 w8) w4.heap.size 0 s:=by have:=zzk hO;rwa [hz] at this
     obtain ⟨G1,gh⟩:=zfo (Lens.var dv);obtain ⟨_,_,_,_,_,_,_⟩:=gh.here;obtain ⟨u1,b2,a2,hk,G2,hl,_,gZ,gg⟩:=gh.elem gX;have hu:u1=z.stacks.v:=zdw hl jz;refine zaa zbc<|zcN zeV hl ?_
     have dw:b2=dt/\a2=du:=by
       rw [hu,jy] at gZ;simp only [Value.slice.injEq,qao,Addr.mk.injEq] at gZ;exact ⟨gZ.1.1.symm,gZ.1.2.1.symm⟩
     obtain ⟨rfl,rfl⟩:=dw;obtain ⟨ux,jX,dx,dz,_⟩:=gg.row;obtain ⟨_,_,_,_,_,hS,_⟩:=gg.here;have dA:ux=x.v:=zdw dx hP;have jY:s.stacks[tn]=x.l:=by rw [gd];exact zem (t:=(tn:Int)) (by simpa using gX)
     rw [dA,jY] at jX;refine zGD u25 ty3 jX oo (by rw [gd];exact jO) λbx ax _ gF G' jZ j9 jB dB=>zdk u31 zaS gZ gX ?_;have gK:b2∉G':=λh=>hS (jB _ h);have jC:b2≠w4.heap.size:=λe=>jA (e▸hL b2 sS);have gM:=zbC rfl j9.own;have hV:gF.oneCell'=true:=Rep.one gM gF sS;refine zlu zaS hQ hP hN.one hV λg1 h4 hW=>?_;have gs:∀ c∈G',g1.heap[c]?=(World.drew1 w8).heap[c]?:=λc O=>h4.chg.block c (j9.lt c O) (by simp;exact λe=>gK (e▸O));obtain ⟨cb,eb,dC⟩:=hQ;obtain ⟨dD,jD,_⟩:=h4.cell cb eb dC;have dE:OAt G' g1 b2 (a2+tn*Rep.size (List Int)) (x.l.take top):=⟨[gF],Rep.keep gM gs,hW,j9.nodup,j9.wr.keep gs,gK,dD,eb,jD⟩;have jE:g1.heap[w4.heap.size]?=(World.drew1 w8).heap[w4.heap.size]?:=h4.chg.block _ (gY _ sS) (by simp;exact λe=>jC e.symm);obtain ⟨F',gq,hv⟩:=gg.back g1 G' (x.l.take top) (h4.mono (lr _) (lr _) sS) dE (λc O=>.inl (jB c O));have gC:=h4.chg.size
     have d0:∀ c∈F',w3.heap.size<=c/\c<w4.heap.size:=λc O=>by
       have dF:c∈w4.heap.size :: F:=by
         rcases hv c O with h | h
         . exact h
         exact dz c (jB c h)
       rcases qaa.1 dF with rfl | h
       . obtain ⟨_,_,_,_,_,hB,_⟩:=gq;exact absurd O hB
       exact hF c h
     have jF:b2∈w4.heap.size :: F:=gg.sub b2 sS
     have hy:ChgI w3.heap.size w8.heap.size (World.drew1 w8) g1:=h4.chg.toI λc O=>by
       simp only [qaa,qad,qaq] at O;subst O;rcases qaa.1 jF with h | h
       . rw [h];exact ⟨oo,gI⟩
       have:=hF _ h;omega
     have gN:Ext w3 g1:=Ext.chgI gc hy (lr _);have e1:((tn:Int)).toNat=tn:=oo;have hX:x.l.length=top+1:=oo;have d1:top<8:=by have h:=j4;rw [gd] at h;omega
     refine zcO<|br (λhp=>?_) (λhp=>?_)
     . refine zbe io ?_;obtain ⟨tp,dG⟩:∃ tp:Nat,(top:Int)-1=tp:=⟨top-1,oo⟩;rw [dG];obtain ⟨_,jG⟩:=zfo (Lens.var gq);have ja:tn<(s.stacks.set tn (x.l.take top)).length:=by simpa using gX
       obtain ⟨dH,dI,dJ,_,_,jH,_,gG,hY⟩:=jG.elem ja;have dK:dH=u1:=zdw jH (zbo hl jE)
       have jI:dI=b2/\dJ=a2:=by
         rw [dK,gZ] at gG;simp only [Value.slice.injEq,qao,Addr.mk.injEq] at gG;exact ⟨gG.1.1.symm,gG.1.2.1.symm⟩
       obtain ⟨rfl,rfl⟩:=jI;have dL:(s.stacks.set tn (x.l.take top))[tn]'ja=x.l.take top:=qcF ..;simp only [dL] at hY;obtain ⟨uy,dM,dN,_,_,dO,_,jb,hZ⟩:=hY.elem (k:=tp) so;have jJ:uy=gF:=zdw dO hW;have j0:=dB oo
       have dP:dM=bx/\dN=ax:=by
         rw [jJ,j0] at jb;simp only [Value.slice.injEq,qao,Addr.mk.injEq] at jb;exact ⟨jb.1.1.symm,jb.1.2.1.symm⟩
       obtain ⟨rfl,rfl⟩:=dP;refine zdk u25 ty3 jZ (k:=tp) oo ?_
       have jK:(x.l.take top)[tp]'(by simp;omega)=st x.l tp:=by
         rw [qcB,zrD]
       refine zac ty3 hZ.here.at (xrf g1) λ_=>?_;rw [jK]
       have dQ:0<=st x.l tp/\st x.l tp<c.ins.length:=by
         have jL:=hs.2.2.2.2.2 x.l (by rw [<-jY];exact qac _);exact jL.2.1 tp oo
       refine zcY io<|zdk u25 ty3 jZ (k:=tp) oo ?_;have d2:w4.heap.size<g1.heap.size:=oo;refine zf0 (α:=DState) (lo:=w3.heap.size) (hi:=g1.heap.size) ty3 hZ (λc O=>by have:=d0 c O;omega) oo (zbt (x:=st x.l tp+1) io) λgD U gb=>?_;have gp:=U.size;refine gx _ gD (Ext.chgI gN U (lr _)) (gb.mono (lr _) oo) ?_;unfold za1;rw [<-hI,qab q4,qah q9];simp only [DState.mk.injEq,true_and,e1,List.set_set];congr 1;unfold zfl;rw [<-gd,hX,qab oo,show top+1-1=top by omega,show top+1-2=tp by omega]
     refine gx _ g1 gN ⟨F',gq,λc O=>by have:=d0 c O;omega⟩ ?_;unfold za1;rw [<-hI,qab q4,qah q9];simp only [DState.mk.injEq,true_and,e1];congr 1;unfold zfl;have dR:top=0:=oo;subst dR;rw [<-gd,hX];simp
   exact ⟨by rw [hn],Z,gz w8 (xrf w8) oo⟩
 rintro _ w9 ⟨hu,D,z',j5,dT,dU,dV,dW,dX,dY⟩;try replace hu:=zbv hu
 rw [hu];have hh:=D.size;obtain ⟨ja,dZ⟩:=List.getElem?_eq_some_iff.1 dW;have hg9:=j5.lt;obtain ⟨F,hO,hF⟩:=j5;obtain ⟨G1,gh⟩:=zdv (Lens.var hO);obtain ⟨b2,a2,hk,G2,jT,_,gg⟩:=gh.elemV ja;rw [dZ] at gg;refine zuI (e:=3) u25 ty3 gg j4 λ_ _ _ z1=>?_
 have jM:I64 (zcJ c s tn):=by
   have d3:I.op=2\/I.op=3->I64 I.to:=λh=>by
     have:=hR.2.2.2;rw [<-hI,qah h] at this;obtain ⟨i,hi,_,_,z6⟩:=hc.f.find hc.1.procs8.2 gf h5.2;have h1:=hc.f.nonneg hi;have h2:=(hc.f.lt i hi).2;rw [z6,zeh,qal] at this;unfold I64;omega
   unfold zcJ;rw [<-hI];split
   . split
     . exact d3 (.inl aA)
     unfold I64;omega
   split
   . exact d3 (.inr aA)
   unfold I64;omega
 refine zf0 ty3 z1 hF oo (zbt jM) λg1 gj jN=>?_;have gC:=gj.size;refine gx _ g1 (Ext.chgI D gj (lr _)) (zpX (jN.mono (lr _) oo)) ?_;unfold za1 DStV.er;rw [<-hI,qab dX,qab dY];simp only [DState.mk.injEq,dT,dU,true_and];have e1:((tn:Int)).toNat=tn:=oo;have e2:(stk s tn).length-1=top:=by rw [<-gd];omega
 rw [qcp,dV,gd,e1,e2]
def zb2 (c:DCode):DState:=⟨List.replicate c.globals.length 0,List.replicate c.locks.length (-1),[[en c (plc zip c.procs).toNat]]⟩
def zkF (c:DCode):DState:=if CodeR c then zb2 c else ⟨[],[],[]⟩
def zlI:zcu tp 3=some [.int .i64 0]:=by kernel_rfl
def zpY (hc:CodeR c):0<=plc zip c.procs/\(plc zip c.procs).toNat<c.entry.length:=by
 have:=zgb.2 hc.1.2.2.2.2.2.2;have:=zl8 (s:=zip) (l:=c.procs);have:=hc.2.1.1;omega
def zu8:OwnI lo hi w (.agg #[.slice none 0 0,.slice none 0 0,.slice none 0 0]) (⟨[],[],[]⟩:DState):=
 (zeL (s:=⟨[],[],[]⟩) (lo:=lo) (hi:=lo) (l0:=lo) (h0:=lo) (l1:=lo) (h1:=lo) (l2:=lo) (h2:=lo) (zc8 none) (zc8 none) (zc8 none) oo oo oo oo oo oo).elim λF h=>⟨F,h.1,λb hb=>by have:=h.2 b hb;omega⟩
def zkG  (h0:Is W0 v0 c) (e0:Ext W0 w)  :
   CALL tp 100 [v0] w λr w'=>Ext w w'/\(r=.int .i64 (plc zip c.procs)):=by
 refine co (g:=kf [] [] []) Tryz.func100 ?_;refine zax zbY rfl h0 e0 λg0 y1 g1 _=>zaa zdl<|zab zdt (zbd g1) (xrf g0) λ_ h4=>?_;refine (zcL h4 (xrf g0)).mono ?_;rintro _ _ ⟨y2,rfl⟩;refine ⟨(y1.t y2),?_⟩;rfl
def zgf (h:Is W v c) (e:Ext W w) (hw:zjq c<=1048576) :
   CALL tp 43 [v] w λr w'=>Ext w w'/\Own w.heap.size w' r (zkF c):=by
 refine co (g:=kf [] [(5,67092496,[4])] [(8,[0,1,2,3,4,5,6,7,8,9,10,11,12],800)]) Tryz.func43 ?_;refine zbp h e λw1 gb hA=>zaL zu1 λ_ Z gc=>?_;have hg2:=gc.lt;have hs1:=gb.size;refine zab zbY hA Z λ_ h5=>?_;refine (zgU h5 Z).mono ?_;rintro _ w3 ⟨Y,rfl⟩;have hs3:=Y.size;refine zav<|br (λhn=>?_) (λhc=>?_)
 . refine zaF (cells:=#[.slice none 0 0,.slice none 0 0,.slice none 0 0]) kK ?_;refine zaz (lo:=w3.heap.size) (hi:=w3.heap.size) zch rfl (gc.ext Y) rfl zu8 λw4 gl gx=>zcl gx zch<|⟨Ext.chgI (gb.t (Z.t Y)) gl oo,?_⟩;unfold zkF;rw [qab hn];exact (zu8 (lo:=w4.heap.size) (hi:=w4.heap.size)).own.mono (by have:=gl.size;omega)
 have hc:=qai.1 hc;have hsz:c.globals.length<=1048576/\c.locks.length<=1048576:=by unfold zjq zyA at hw;omega
 refine zaa zee<|zab zdt (zbs hA) (Z.t Y) λ_ gy=>zae u24 gy<|zeY (α:=Int) u25 ty3 rfl rfl zlI oo oo λw4 gd gp=>?_;have hs4:=gd.size;refine zaF (cells:=#[.slice (some ⟨w3.heap.size,0,none⟩) c.globals.length c.globals.length,.slice none 0 0,.slice none 0 0]) kK<|zaL zu1 λ_ g0 gq=>?_;have hg5:=gq.lt;have hs5:=g0.size;have gz:=(gp.own.ext g0)
 refine zaz (x:=(⟨List.replicate c.globals.length 0,[],[]⟩:DState)) (lo:=w3.heap.size) (hi:=w4.heap.size) zch rfl gq rfl
   (zeL (l0:=w3.heap.size) (h0:=w4.heap.size) (l1:=w4.heap.size) (h1:=w4.heap.size) (l2:=w4.heap.size) (h2:=w4.heap.size) gz (zc8 none) (zc8 none) oo oo oo oo oo oo) λw6 g5 gC=>?_
 have hs6:=g5.size;have gf:=(gp.ext g0).chg g5 oo;have gg:Ext w1 w6:=Ext.chgI (Z.t (Y.t (gd.t g0))) g5 oo
 refine zap c.locks.length (λk us w'=>us=[.int .i64 (k:Int)]/\∃ v1 hi,hi<=w'.heap.size/\w6.heap.size<=w'.heap.size/\Ext w1 w'/\Blk w4.heap.size 43 w' [.slice (some ⟨w3.heap.size,0,none⟩) c.globals.length c.globals.length,v1,.slice none 0 0] /\
   RowI w3.heap.size w4.heap.size 3 w' (.slice (some ⟨w3.heap.size,0,none⟩) c.globals.length c.globals.length) (List.replicate c.globals.length 0)/\RowI w6.heap.size hi 3 w' v1 (List.replicate k (-1))/\Blk w1.heap.size 43 w' [.slice none 0 0,.slice none 0 0,.slice none 0 0]) 0 (z0 _)
   ⟨rfl,.slice none 0 0,w6.heap.size,lr _,qaz _,gg,gC,gf,zb7 _ _ _ _,((gc.ext Y).ext (gd.t g0)).chgI g5 oo⟩ ?_
 rintro k m _ w7 _ ⟨hu,v1,hi,_,_,V,g9,o7,r7,g1⟩;try replace hu:=zbv hu
 rw [hu];refine zaa zfk<|zab zdt (zbU hA) V λ_ gD=>zae u24 gD<|zaf<|br (λ_=>?_) (λ_=>?_)
 . refine zaa zdN ?_;refine zan zaS g9 rfl<|zbM (α:=Int) (lo2:=w7.heap.size) (hi2:=w7.heap.size) u25 ty3 z3 zc3 qd r7 oo (zbI io) oo oo (by rw [zaj,qbl];omega) (by rw [qbl];omega) λgE w8 g2 r8=>?_;have gF:=g2.size;refine zaa zdN<|za3 (α:=List Int) zaS rfl rfl (g9.chgI g2 oo) sS r8.own λw9 g3 gG=>?_;have gH:=g3.size;refine zau<|⟨m-1,oo,k+1,oo,rfl,gE,w8.heap.size,oo,oo,Ext.chgI (Ext.chgI V g2 oo) g3 oo,gG,(o7.chg g2 oo).chg g3 oo,?_,(g1.chgI g2 oo).chgI g3 oo⟩;have:=r8.chg g3 oo;rwa [<-qcg] at this
 have hk:k=c.locks.length:=oo;subst hk;have O:=zag w7;have gF:=O.size;refine zaa zbc<|zan zeV (g9.ext O) rfl<|zaa zbq<|zab zaS (zaq hA) (V.t O) λ_ gI=>zab zbY hA (V.t O) λ_ gJ=>?_;refine (zkG gJ (V.t O)).mono ?_;rintro _ w9 ⟨U,rfl⟩;have gH:=U.size;refine ⟨U,?_⟩;obtain ⟨gK,gM⟩:=zpY hc;refine zaC u25 ty3 gI gK gM λ_ _ gN=>zac ty3 gN (V.t (O.t U)) λhI=>zgr (α:=Int) (lo:=w9.heap.size) (hi:=w9.heap.size) u25 ty3 z3 qd (zbI hI) oo λ_ _ C gO=>?_;have gP:=C.size;refine ⟨C,?_⟩;refine zlo (α:=List Int) (lo:=w9.heap.size) (hi:=w9.heap.size) u31 zaS z25 zyq qd (zb7 _ _ _ _) oo gO oo oo (by rw [zaj];simp) sS λgQ gr D gs=>?_;have gR:=D.size;have gh:=((g9.ext (O.t (U.t C)))).chgI D oo;have gS:=((o7.ext (O.t (U.t C)))).chg D oo;have gU:=((r7.ext (O.t (U.t C)))).chg D oo;have g4:=((g1.ext (O.t (U.t C)))).chgI D oo;refine zaa zbc<|za3 (α:=List (List Int)) zeV rfl rfl gh sS gs.own λgV I gi=>?_;have gW:=I.size;refine zck gi zch ?_
 have gt:OwnI w3.heap.size gr.heap.size gV (.agg #[.slice (some ⟨w3.heap.size,0,none⟩) c.globals.length c.globals.length,v1,gQ]) (zb2 c):=by
   refine zeL (l0:=w3.heap.size) (h0:=w4.heap.size) (l1:=w6.heap.size) (h1:=hi) (l2:=w9.heap.size) (h2:=gr.heap.size) (gS.chg I oo).own (gU.chg I oo).own ?_ oo oo oo oo oo oo;have:=(gs.chg I oo).own;rw [zbO] at this;exact this
 refine zaz zch rfl (g4.chgI I oo) rfl gt λ_ X gj=>?_;have gX:=X.size;refine zcl gj zch<|⟨Ext.chgI (Ext.chgI (Ext.chgI (gb.t (V.t (O.t (U.t C)))) D oo) I oo) X oo,?_⟩;unfold zkF;rw [qah hc];exact (gt.chg X oo).own.mono oo
def stQ (c:DCode) (g1:Nat) (w0:wD):ParQ:=λi u T w=>match i with
 | 0=>u 5=.pointer (some ⟨g1,0+0,none⟩)
 | 1=>Is w0 (u 6) c.globals
 | 2=>u 7=.int .i64 (c.globals.length:Int)
 | 3=>∃ a cap,u 8=.slice a c.globals.length cap/\RowI (T 3).1 (T 3).2 3 w (u 8) (List.replicate c.globals.length (0:Int))
 | 4=>u 9=.pointer (some ⟨g1,0+1,none⟩)
 | 5=>Is w0 (u 10) c.locks
 | 6=>u 11=.int .i64 (c.locks.length:Int)
 | 7=>∃ a cap,u 12=.slice a c.locks.length cap/\RowI (T 7).1 (T 7).2 3 w (u 12) (List.replicate c.locks.length (0:Int))
 | 8=>u 13=.agg #[u 8,u 12,.slice none 0 0]
 | 9=>∃ g,u 3=.pointer (some ⟨g,0,none⟩)/\(T 9).1<=g/\g<(T 9).2/\Blk g 43 w [.slice none 0 0,.slice none 0 0,.slice none 0 0]
 | _=>True
def zwt (h:Is W v c) (e:Ext W w) (hw:zjq c<=1048576) (hc:CodeR c) :
   CALL tp 110 [v] w λr w'=>Ext w w'/\Own w.heap.size w' r (zb2 c):=by
 have hsz:c.globals.length<=1048576/\c.locks.length<=1048576:=by unfold zjq zyA at hw;omega
 refine co (g:=⟨extL,[],[(3,33423376,[17])],[(7,[0,1,2,3,4,5,6,7,8,9,10],16)],[(1,16360,10)],[],[]⟩) Tryz.func110 ?_;refine zbp h e λw1 gl hA=>zaL zu1 λw2 Z gp=>?_;have hg2:=gp.lt;have hs1:=gl.size;have O:=zag w2;have hs3:=O.size;refine PAR.mk (stQ c w.heap.size (World.drew1 w2)) ?_ ?_ ?_
 . intro i u u' T _ _ _ _ gc hd hq
   match i,hd,hq with
   | 0,hd,hq=>exact (hd (0,5) qd).1.trans hq
   | 1,hd,hq=>have:=(hd (1,6) qd).1;show Is _ (u' 6) _;simp only [this];exact hq
   | 2,hd,hq=>exact (hd (2,7) qd).1.trans hq
   | 3,hd,⟨a,cap,q1,q2⟩=>
     obtain ⟨e1,e2⟩:=hd (3,8) qd;simp only at e1 e2;refine ⟨a,cap,e1.trans q1,?_⟩;simp only [e1,e2];exact q2.ext gc
   | 4,hd,hq=>exact (hd (4,9) qd).1.trans hq
   | 5,hd,hq=>have:=(hd (5,10) qd).1;show Is _ (u' 10) _;simp only [this];exact hq
   | 6,hd,hq=>exact (hd (6,11) qd).1.trans hq
   | 7,hd,⟨a,cap,q1,q2⟩=>
     obtain ⟨e1,e2⟩:=hd (7,12) qd;simp only at e1 e2;refine ⟨a,cap,e1.trans q1,?_⟩;simp only [e1,e2];exact q2.ext gc
   | 8,hd,hq=>
     have e1:=(hd (8,13) qd).1;have e2:=(hd (3,8) qd).1;have e3:=(hd (7,12) qd).1;simp only at e1 e2 e3;show u' 13=.agg #[u' 8,u' 12,.slice none 0 0];rw [e1,e2,e3];exact hq
   | 9,hd,⟨g,q1,q2,q3,q4⟩=>
     obtain ⟨e1,e2⟩:=hd (9,3) qd;simp only at e1 e2;exact ⟨g,e1.trans q1,by rw [e2];exact q2,by rw [e2];exact q3,q4.ext gc⟩
   | n+10,_,_=>trivial
 . refine ⟨λu T w' hx _ _=>?_,λu T w' hx _ hp=>?_,λu T w' hx _ hp=>?_,λu T w' hx _ hp=>?_,λu T w' hx _ _=>?_,λu T w' hx _ hp=>?_,λu T w' hx _ hp=>?_,λu T w' hx _ hp=>?_,λu T w' hx _ hp=>?_,λu T w' hx _ _=>?_,trivial⟩
   . exact zaa zee ⟨xrf _,rfl⟩
   . have q0:u 5=_:=hp.1;rw [q0];exact zab zdt (zbs hA) (Z.t (O.t hx)) λv6 h6=>⟨xrf _,(h6.ext (Z.t O))⟩
   . have q1:Is _ (u 6) c.globals:=hp.1;exact zae u24 q1 ⟨xrf _,rfl⟩
   . have q2:u 7=_:=hp.1;rw [q2];exact zeY (α:=Int) u25 ty3 rfl rfl zlI oo oo λw4 I r=>⟨I,_,_,rfl,r⟩
   . exact zaa zfk ⟨xrf _,rfl⟩
   . have q0:u 9=_:=hp.1;rw [q0];exact zab zdt (zbU hA) (Z.t (O.t hx)) λv6 h6=>⟨xrf _,(h6.ext (Z.t O))⟩
   . have q1:Is _ (u 10) c.locks:=hp.1;exact zae u24 q1 ⟨xrf _,rfl⟩
   . have q2:u 11=_:=hp.1;rw [q2];exact zeY (α:=Int) u25 ty3 rfl rfl zlI oo oo λw4 I r=>⟨I,_,_,rfl,r⟩
   . obtain ⟨a,cap,q1,_⟩:∃ a cap,u 8=.slice a c.globals.length cap/\_:=hp.1;obtain ⟨a',g0,gq,_⟩:∃ a cap,u 12=.slice a c.locks.length cap/\_:=hp.2.1;rw [q1,gq];refine zaF (cells:=#[.slice a c.globals.length cap,.slice a' c.locks.length g0,.slice none 0 0]) kK ⟨xrf _,?_⟩;show _=Value.agg #[u 8,u 12,.slice none 0 0];rw [q1,gq];rfl
   exact zaL zu1 λw4 I hB=>⟨I,w'.heap.size,rfl,lr _,hB.lt,hB⟩
 rintro u T w4 I V ⟨-,-,-,⟨a,cap,-,r8⟩,-,-,-,⟨a',g0,-,gr⟩,gd,⟨g,q3,_,_,gC⟩,-⟩;have gd:u 13=.agg #[u 8,u 12,.slice none 0 0]:=gd;have t3:=V.1 3 qd;have t7:=V.1 7 qd;have t9:=V.1 9 qd;have d37:=V.2 3 qd 7 qd qd;have d39:=V.2 3 qd 9 qd qd;have d79:=V.2 7 qd 9 qd qd;generalize u 8=v8 at *;generalize u 12=v12 at *;have hs4:=I.size;rw [gd,q3]
 refine zaz (x:=(⟨List.replicate c.globals.length 0,List.replicate c.locks.length 0,[]⟩:DState)) (lo:=0) (hi:=w4.heap.size) zch rfl gC rfl
   (zeL (l2:=0) (h2:=0) r8.own gr.own (zc8 none) oo oo oo oo oo oo) λw5 g1 gs=>?_
 have hs5:=g1.size;have gf:Ext w1 w5:=Ext.chgI (Z.t (O.t I)) g1 oo;have o8:=r8.own.chg g1 oo;have g5:=gr.own.chg g1 oo;have gg:=((gp.ext O).ext I).chgI g1 oo;refine zaa zdN<|zan zaS gs rfl<|zae u25 g5.is ?_;rw [qbl]
 refine zap c.locks.length (λk us w'=>us=[.int .i64 (k:Int)]/\w5.heap.size<=w'.heap.size/\Ext w1 w'/\Blk g 43 w' [v8,v12,.slice none 0 0]/\OwnI (T 3).1 (T 3).2 w' v8 (List.replicate c.globals.length (0:Int)) /\
   OwnI (T 7).1 (T 7).2 w' v12 (List.replicate k (-1)++List.replicate (c.locks.length-k) (0:Int))/\Blk w1.heap.size 43 w' [.slice none 0 0,.slice none 0 0,.slice none 0 0]) 0 (z0 _)
   ⟨rfl,lr _,gf,gs,o8,by simpa using g5,gg⟩ ?_
 rintro k m _ w7 _ ⟨hu,_,X,gh,o8,⟨F,hM,hF⟩,g2⟩;try replace hu:=zbv hu
 rw [hu];refine zaf<|br (λ_=>?_) (λ_=>?_)
 . refine zaa zdN ?_;refine zan zaS gh rfl<|zue (α:=Int) u25 ty3 hM so (zbt (w:=w7) (x:=-1) io).own λ_ gt gD=>?_;have g9:=gt.toI hF;have gE:=gt.size;refine zau<|⟨m-1,oo,k+1,oo,rfl,oo,Ext.chgI X g9 oo,gh.chgI g9 oo,o8.chg g9 oo,⟨F,?_,hF⟩,g2.chgI g9 oo⟩
   have:(List.replicate k (-1)++List.replicate (c.locks.length-k) (0:Int)).set k (-1)=List.replicate (k+1) (-1)++List.replicate (c.locks.length-(k+1)) 0:=by
     rw [show c.locks.length-k=(c.locks.length-(k+1))+1 by omega,List.replicate_succ (n:=c.locks.length-(k+1)),qbb _ _ sS,qbl,qcE,List.set_cons_zero,qcg (n:=k)];simp
   rw [<-this];exact gD
 have hk:k=c.locks.length:=oo;subst hk;have g5:OwnI (T 7).1 (T 7).2 w7 v12 (List.replicate c.locks.length (-1)):=⟨F,by simpa using hM,hF⟩;clear hM;have Y:=zag w7;have gE:=Y.size;refine zaa zbq<|zab zaS (zaq hA) (X.t Y) λ_ gF=>zaa zdl<|zab zdt (zbd hA) (X.t Y) λ_ gG=>?_;refine (zgT gG (X.t Y)).mono ?_;rintro _ w9 ⟨gb,rfl⟩;have hs9:=gb.size;refine ⟨gb,?_⟩;obtain ⟨gH,gI⟩:0<=plc (ByteArray.mk #[109,97,105,110]) c.procs/\(plc (ByteArray.mk #[109,97,105,110]) c.procs).toNat<c.entry.length:=zpY hc;refine zaC u25 ty3 gF gH gI λ_ _ gJ=>zac ty3 gJ (X.t (Y.t gb)) λhI=>zgr (α:=Int) (lo:=w9.heap.size) (hi:=w9.heap.size) u25 ty3 z3 qd (zbI hI) oo λ_ _ g3 gK=>?_;have gM:=g3.size;refine zgr (α:=List Int) u31 zaS z25 qd gK oo λgN gx g4 gy=>?_;have gO:=g4.size;have C:=Y.t (gb.t (g3.t g4));refine zaa zbc<|za3 (α:=List (List Int)) zeV rfl rfl (gh.ext C) sS gy λgP D gi=>?_;have gQ:=D.size;refine zck gi zch ?_
 have gz:OwnI w2.heap.size gx.heap.size gP (.agg #[v8,v12,gN]) (zb2 c):=by
   refine zeL (l2:=w9.heap.size) (h2:=gx.heap.size) ((o8.ext C).chg D oo) ((g5.ext C).chg D oo) ?_ oo oo oo oo oo oo;have:=(gy.chg D oo);rw [zbO] at this;exact this
 refine zaz zch rfl ((g2.ext C).chgI D oo) rfl gz λ_ U gj=>?_;have gR:=U.size;refine zcl gj zch<|⟨Ext.chgI (Ext.chgI (gl.t (X.t C)) D oo) U oo,?_⟩;exact (gz.chg U oo).own.mono oo
def zdx {α:Type} {l:List α} {x y:α} (h:y∈l.set i x):y=x\/y∈l:=by
 rcases List.mem_or_eq_of_mem_set h with h | h
 . exact .inr h
 exact .inl h
def zfO (hc:CodeR c):zaV c (zb2 c):=by
 obtain ⟨_,g0⟩:=zpY hc;have hl:=hc.f.lt _ g0;have h0:=hc.f.nonneg g0;refine ⟨by simp [zb2],by simp [zb2],by simp [zb2],λ_ hv=>?_,λ_ ho=>?_,λ_ g1=>?_⟩
 . have:=qcX hv;omega
 . have:=qcX ho;simp only [zb2,qak,qaC];omega
 simp only [zb2,qaa,qad,qaq] at g1;subst g1;refine ⟨sS,λi hi=>?_,λi hi=>by simp at hi⟩;have:i=0:=by simp at hi;omega
 subst this;simp only [st,List.getD_cons_zero];omega
def zGE {l:List Int} (hi:i<l.length):st (l.set i x) j=if i=j then x else st l j:=by
 unfold st;rw [List.getD_eq_getElem?_getD,List.getD_eq_getElem?_getD,List.getElem?_set];by_cases h:i=j
 . subst h;simp [hi]
 simp [h]
def zpZ {l:List Int} (hj:j<k):st (l.take k) j=st l j:=by
 unfold st;rw [List.getD_eq_getElem?_getD,List.getD_eq_getElem?_getD,List.getElem?_take,qah hj]
def ztv {l:List Int}:st (l++[x]) j=if j=l.length then x else st l j:=by
 unfold st;rw [List.getD_eq_getElem?_getD,List.getD_eq_getElem?_getD,List.getElem?_append];by_cases h:j<l.length
 . rw [qah h,qab oo]
 by_cases h2:j=l.length
 . subst h2;simp
 rw [qab h,qab h2,List.getElem?_eq_none so,List.getElem?_eq_none oo]
def zmL (hc:CodeR c) {a:Int} (h0:0<=a) (h1:a<c.ins.length) (ho:(zal c a.toNat).op≠9):a+1<c.ins.length/\zas c (a+1)=zas c a:=by
 obtain ⟨i,hi,_,_,h4⟩:=hc.f.find hc.1.procs8.2 h0 h1;have h5:=(hc.2.1.2.2.2 a.toNat oo);rw [qaI h0,h4,zeh] at h5;have:zeX c i-1≠a:=λe=>ho (h5.2 e);have:=(hc.f.lt i hi).2;exact ⟨oo,by rw [h4];exact hc.f.proc hi oo oo⟩
def ziY (hc:CodeR c) {a:Int} (h0:0<=a) (h1:a<c.ins.length) (ho:(zal c a.toNat).op=2\/(zal c a.toNat).op=3) :
   0<=(zal c a.toNat).to/\(zal c a.toNat).to<c.ins.length/\zas c (zal c a.toNat).to=zas c a:=by
 obtain ⟨i,hi,_,_,h4⟩:=hc.f.find hc.1.procs8.2 h0 h1;have h5:=(zhz hc (j:=a.toNat) oo).2.2.2;rw [qah ho,qaI h0,h4,zeh,qal] at h5;have:=hc.f.nonneg hi;have:=(hc.f.lt i hi).2;exact ⟨oo,oo,by rw [h4];exact hc.f.proc hi h5.1 oo⟩
def zp0 (hc:CodeR c) {i:Nat} (hi:i<c.entry.length):0<=en c i/\en c i<c.ins.length/\zas c (en c i)=i:=by
 have h6:=hc.f.nonneg hi;have h7:=hc.f.lt i hi;exact ⟨h6,oo,hc.f.proc hi (qdd _) h7.1⟩
def zwu (c:DCode):zf1 c []:=⟨sS,λi hi=>by simp at hi,λi hi=>by simp at hi⟩
def zwv {n:Int} (h0:0<=n) (h1:n<c.ins.length):zf1 c [n]:=by
 refine ⟨sS,λi hi=>?_,λi hi=>by simp at hi⟩;have:i=0:=by simp at hi;omega
 subst this;exact ⟨h0,h1⟩
def zot {l:List Int} {n:Int} (h:zf1 c l) (hl:0<l.length) (h0:0<=n) (h1:n<c.ins.length) (hp:zas c n=zas c (st l (l.length-1))):zf1 c (l.set (l.length-1) n):=by
 have hs:∀ j,st (l.set (l.length-1) n) j=if l.length-1=j then n else st l j:=λj=>zGE oo;refine ⟨by rw [qaW];exact h.1,λi hi=>?_,λi hi=>?_⟩
 . rw [qaW] at hi;rw [hs];split
   . exact ⟨h0,h1⟩
   exact h.2.1 i hi
 rw [qaW] at hi;have h2:=h.2.2 i hi;rw [hs i,qab oo];refine ⟨h2.1,?_⟩;rw [hs (i+1)];split
 . rename_i he;rw [hp,he];exact h2.2
 exact h2.2
def ztw {l:List Int} {n:Int} (h:zf1 c l) (hl:l.length<8) (h0:0<=n) (h1:n<c.ins.length) (hp:0<l.length->(zal c (st l (l.length-1)).toNat).op=4/\zas c n=(zal c (st l (l.length-1)).toNat).arg):zf1 c (l++[n]):=by
 refine ⟨by simp;omega,λi hi=>?_,λi hi=>?_⟩
 . rw [ztv];split
   . exact ⟨h0,h1⟩
   exact h.2.1 i (by simp at hi;omega)
 simp only [qag,qak,qaC] at hi;rw [ztv,ztv,qab oo];by_cases e:i+1=l.length
 . rw [qah e];have:i=l.length-1:=oo;subst this;exact hp oo
 rw [qab e];exact h.2.2 i oo
def ztx {l:List Int} (h:zf1 c l) (k:Nat):zf1 c (l.take k):=by
 refine ⟨by rw [qaj];have:=h.1;omega,λi hi=>?_,λi hi=>?_⟩
 . rw [qaj] at hi;rw [zpZ oo];exact h.2.1 i oo
 rw [qaj] at hi;rw [zpZ oo,zpZ oo];exact h.2.2 i oo
def zww (hc:CodeR c) {l:List Int} (h:zf1 c l) (hl:0<l.length):zf1 c (zfl l):=by
 unfold zfl;split
 . exact zwu c
 rename_i h1;have:=h.2.2 (l.length-2) oo;have h3:=h.2.1 (l.length-2) oo;obtain ⟨h4,h5⟩:=zmL hc h3.1 h3.2 oo
 have h6:=zot (n:=st l (l.length-2)+1) (ztx h (l.length-1)) (by rw [qaj];omega) oo h4 (by
   rw [qaj,zpZ oo,h5];congr 2;omega)
 rw [qaj] at h6;rw [show min (l.length-1) l.length-1=l.length-2 by omega] at h6;exact h6
def zkH (hs:zaV c s) {k:Nat} {l:List Int} (hl:zf1 c l):zaV c ⟨s.vars,s.owner,s.stacks.set k l⟩:=by
 refine ⟨hs.1,hs.2.1,by simp only [qaW];exact hs.2.2.1,hs.2.2.2.1,by simp only [qaW];exact hs.2.2.2.2.1,λx hx=>?_⟩;rcases zdx hx with rfl | hx
 . exact hl
 exact hs.2.2.2.2.2 x hx
def zrG {t:Int} (hc:CodeR c) (hs:zaV c s) (g0:GoR c s t):zaV c (zaP c s t):=by
 have:=zen g0.1;unfold zaP;split
 . refine ⟨by simp only [qaW];exact hs.1,hs.2.1,hs.2.2.1,λv hv=>?_,hs.2.2.2.2.1,hs.2.2.2.2.2⟩;rcases zdx hv with rfl | hv
   . exact zdY _ _ _ _
   exact hs.2.2.2.1 v hv
 split
 . split
   . rename_i h1 h5 h6;have hp:=zh9 hc hs g0.1 (.inr h5);refine ⟨hs.1,hs.2.1,by simp only [qag,qak,qaC];omega,hs.2.2.2.1,λo ho=>?_,λx hx=>?_⟩
     . have:=hs.2.2.2.2.1 o ho;simp only [qag,qak,qaC];omega
     rcases qae.1 hx with hx | hx
     . exact hs.2.2.2.2.2 x hx
     simp only [qaa,qad,qaq] at hx;subst hx;obtain ⟨h7,h8,_⟩:=zp0 hc hp.2;exact zwv h7 h8
   exact hs
 split
 . refine ⟨hs.1,by simp only [qaW];exact hs.2.1,hs.2.2.1,hs.2.2.2.1,λo ho=>?_,hs.2.2.2.2.2⟩;rcases zdx ho with rfl | ho
   . simp only;omega
   exact hs.2.2.2.2.1 o ho
 split
 . split
   . refine ⟨hs.1,by simp only [qaW];exact hs.2.1,hs.2.2.1,hs.2.2.2.1,λo ho=>?_,hs.2.2.2.2.2⟩;rcases zdx ho with rfl | ho
     . simp only;omega
     exact hs.2.2.2.2.1 o ho
   exact hs
 exact hs
def zgz {t:Int} (hc:CodeR c) (hs:zaV c s) (r:GoR c s t):zaV c (za1 c s t):=by
 have hth:=zen r.1;obtain ⟨tn,rfl,_,g5,_,g3⟩:=zf2 hs r.1;have g0:=qaO.2 g5;have hk:=hs.2.2.2.2.2 (stk s tn) (by rw [<-zem oo];exact qac _);have g1:=ziq hs tn;unfold za1;split
 . rename_i h4;have hp:=zh9 hc hs r.1 (.inl h4);obtain ⟨h7,h8,h9⟩:=zp0 hc hp.2;have h10:=r.2.2 h4;refine zkH hs (ztw hk oo h7 h8 λ_=>?_);rw [<-g3];refine ⟨h4,?_⟩;rw [h9];have:=hp.1;unfold atI at this ⊢;omega
 split
 . exact zkH hs (zww hc hk g0)
 rename_i h4 h9;have hn:=zmL hc r.1 g1.2 h9
 have g2:0<=zcJ c s tn/\zcJ c s tn<c.ins.length/\zas c (zcJ c s tn)=zas c (zbg s tn):=by
   unfold zcJ;have g4:0<=zbg s tn+1/\zbg s tn+1<c.ins.length/\zas c (zbg s tn+1)=zas c (zbg s tn):=⟨by have:=r.1;omega,hn.1,hn.2⟩;split
   . rename_i h2;split
     . exact ziY hc r.1 g1.2 (.inl h2)
     exact g4
   split
   . rename_i h3;exact ziY hc r.1 g1.2 (.inr h3)
   exact g4
 refine zkH (zrG hc hs r) (zot hk g0 g2.1 g2.2.1 ?_);rw [g2.2.2,g3]
def zaA (c:DCode) (i:Nat):List Nat:=
 if (zal c i).op=9 then [] else if (zal c i).op=3 then [(zal c i).to.toNat] else if (zal c i).op=2/\(zal c i).to≠(i:Int)+1 then [i+1,(zal c i).to.toNat] else [i+1]
def zdn (hc:CodeR c) {i j:Nat} (hi:i<c.ins.length) (h:j∈zaA c i):j<c.ins.length/\zas c j=zas c i:=by
 have h9:=zmL hc (a:=(i:Int)) oo oo;have g0:=ziY hc (a:=(i:Int)) oo oo;simp only [qal] at h9 g0;unfold zaA at h;split at h
 . cases h
 rename_i ho;have h1:=h9 ho;have e1:((i+1:Nat):Int)=(i:Int)+1:=oo;split at h
 . rename_i h3;simp only [qaa,qad,qaq] at h;subst h;have h2:=g0 (.inr h3);rw [qaI h2.1];exact ⟨oo,h2.2.2⟩
 split at h
 . rename_i h2;simp only [qaa,qad,qaq] at h;rcases h with rfl | rfl
   . exact ⟨oo,by rw [e1];exact h1.2⟩
   have h2:=g0 (.inl h2.1);rw [qaI h2.1];exact ⟨oo,h2.2.2⟩
 simp only [qaa,qad,qaq] at h;subst h;exact ⟨oo,by rw [e1];exact h1.2⟩
def zgA (c:DCode) (i:Nat):(zaA c i).length<=2:=by
 unfold zaA;split
 . simp
 split
 . simp
 split<;>simp
section
variable {P:pG} {w:wD} {K:VW}
def vsI (l:List Int):List vL:=l.map λx=>.int .i64 x
theorem zrH {w:wD}:∀ {l:List Int},(∀ x∈l,I64 x)->Cells [] w (vsI l) l
 | [],_=>⟨rfl,rfl⟩
 | x :: l,h=>⟨[],[],[.int .i64 x],vsI l,rfl,rfl,⟨rfl,rfl,h x sS⟩,zrH λy hy=>h y (by simp [hy])⟩
def zEV {l:List Int} {e:Nat} (hl:∀ x∈l,I64 x) (hm:l.length<=maxLen):Own w.heap.size (w.alloc (.cells (vsI l).toArray e)) (.slice (some ⟨w.heap.size,0,none⟩) l.length l.length) l:=by
 have hB:Blk w.heap.size e (w.alloc (.cells (vsI l).toArray e)) (vsI l):=heap_alloc_new w _;refine ⟨[w.heap.size],⟨⟨_,⟨some ⟨w.heap.size,0,none⟩,l.length,[],vsI l,rfl,lr _,hm,zrH hl,.inr ⟨_,_,rfl,rfl,hB.range,?_⟩⟩,rfl⟩,sS,λ_ hi=>?_⟩,sS⟩
 . exact (Array.getElem?_eq_some_iff.1 hB).1
 simp only [qaa,qad,qaq] at hi;subst hi;exact ⟨_,_,hB⟩
theorem zou {t e:TypeId} {by_:Nat} {x y:Int} (ht:P.underlying t=some (.slice e)) (he:tyI P e=some (1,by_,false)) (hz:zcu P e=some [.int .i64 0]) (hx:I64 x) (hy:I64 y)
   (k:∀ v w',Ext w w'->Own w.heap.size w' v [x,y]->K v w'):OP P (Instr.buildSlice t 2 #[(0,.int .i64 x),(1,.int .i64 y)]) w K:=by
 unfold zcu at hz;cases hi:P.info? e with
 | none=>simp [hi] at hz
 | some i=>
   simp only [hi] at hz;obtain ⟨v,hv,g1⟩:=qaQ.1 hz;refine ⟨_,w.alloc (.cells (vsI [x,y]).toArray e),?_,k _ _ (zaX w _) (zEV (l:=[x,y]) (e:=e) (by simp [hx,hy]) (by simp [maxLen]))⟩;have g0:v.cells=#[.int .i64 0]:=qcn (by simpa using g1);have e1:∀ n:Int,(Value.int .i64 n).cells=#[.int .i64 n]:=λ_=>rfl;simp only [Instr.buildSlice,Sem.run_bind,run_underlying ht,Result.andThen_ok,zaJ he];have e2:Array.range 2=#[0,1]:=by decide
   simp [zeroValue,typeInfo,hi,hv,newRow,Instr.fill,g0,vsI,e1,e2]
end
def zHB:zcu tp 3=some [.int .i64 0]:=by kernel_rfl
def zjN (hA:At W0 b 0 c) (e0:Ext W0 w) (hc:CodeR c) (hi:i<c.ins.length) :
   CALL tp 127 [.pointer (some ⟨b,0,none⟩),.int .i64 (i:Int)] w λr w'=>Ext w w'/\Own w.heap.size w' r (za5 (zaA c i)):=by
 refine co (g:=kf [] [] []) Tryz.func127 ?_;have:=hc.f.ins;have g1:=ziY hc (a:=(i:Int)) oo oo;simp only [qal] at g1;refine NIL.mk rfl<|zaa zbf<|zaa zaY<|zab zdD (zam hA) e0 λ_ g3=>zad u26 zbm g3 hi λ_ _ g2=>?_;rw [zaG] at g2;have C:zaA c i=if (zal c i).op=9 then [] else if (zal c i).op=3 then [(zal c i).to.toNat] else if (zal c i).op=2/\(zal c i).to≠(i:Int)+1 then [i+1,(zal c i).to.toNat] else [i+1]:=rfl;generalize zal c i=I at *;refine zab zbm g2 e0 λ_ g4=>zcP ziG rfl zbm rfl g4 e0 λ_ D g0 _=>zaa za8<|zac ty3 (zay g0) (xrf _) λ_=>zai<|br (λc9=>?_) (λc9=>?_)
 . rw [C,qah c9];exact ⟨D,ziz rfl⟩
 rw [qab c9] at C;refine zai<|br (λc3=>?_) (λc3=>?_)
 . rw [qah c3] at C;have ht:=g1 (.inr c3);refine zaa zdg<|zac ty3 (zcc g0) (xrf _) λhI=>zci (x:=I.to) u25 ty3 z3 qd (zbt hI) λv w2 O hr=>⟨D.t O,?_⟩;rw [C];have e:za5 [I.to.toNat]=[I.to]:=by simp [za5,qaI ht.1]
   rw [e];have:=D.size;exact hr.own.own.mono oo
 rw [qab c3] at C;have e1:za5 [i+1]=[((i+1:Nat):Int)]:=by simp [za5]
 refine zai<|br (λc2=>?_) (λc2=>?_)
 . have ht:=g1 (.inl c2);refine zaa zdg<|zac ty3 (zcc g0) (xrf _) λhI=>zau<|zaT<|br (λcn=>?_) (λcn=>?_)
   . rw [qah ⟨c2,oo⟩] at C;refine zau<|zaa zdg<|zac ty3 (zcc g0) (xrf _) λ_=>zou u25 ty3 zHB io hI λv w2 O hr=>⟨D.t O,?_⟩;have e:za5 [i+1,I.to.toNat]=[((i+1:Nat):Int),I.to]:=by simp [za5,qaI ht.1]
     rw [C,e];have:=D.size;exact hr.mono oo
   rw [qab (λh=>cn (by have:=h.2;omega))] at C;refine zau<|zci (x:=((i+1:Nat):Int)) u25 ty3 z3 qd (zbt io) λv w2 O hr=>⟨D.t O,?_⟩;rw [C,e1];have:=D.size;exact hr.own.own.mono oo
 rw [qab (λh=>c2 h.1)] at C;refine zau<|zci (x:=((i+1:Nat):Int)) u25 ty3 z3 qd (zbt io) λv w2 O hr=>⟨D.t O,?_⟩;rw [C,e1];have:=D.size;exact hr.own.own.mono oo
def zov (h0:Is W0 v0 c) (e0:Ext W0 w) (hc:CodeR c) (hi:i<c.ins.length) :
   CALL tp 260 [v0,.int .i64 (i:Int)] w λr w'=>Ext w w'/\Own w.heap.size w' r (za5 (zaA c i)):=by
 refine co (g:=kf [] [] []) Tryz.func260 ?_;have:=hc.f.ins;have g1:=ziY hc (a:=(i:Int)) oo oo;simp only [qal] at g1;refine zbp h0 e0 λ_ g2 hA=>zaa zaY<|zab zdD (zam hA) (xrf _) λ_ g5=>zad u26 zbm g5 hi λ_ _ g3=>?_;rw [zaG] at g3;have C:zaA c i=if (zal c i).op=9 then [] else if (zal c i).op=3 then [(zal c i).to.toNat] else if (zal c i).op=2/\(zal c i).to≠(i:Int)+1 then [i+1,(zal c i).to.toNat] else [i+1]:=rfl;generalize zal c i=I at *;refine zab zbm g3 (xrf _) λ_ g9=>zcP ziG rfl zbm rfl g9 (xrf _) λ_ g4 g0 _=>?_;have:=g2.size;have:=g4.size;have D:=g2.t g4;have e1:za5 [i+1]=[((i+1:Nat):Int)]:=by simp [za5]
 refine zaa za8<|zac ty3 (zay g0) (xrf _) λ_=>zai<|br (λc2=>?_) (λc2=>?_)
 . have ht:=g1 (.inl c2);rw [qab oo,qab oo] at C;refine zaa zdg<|zac ty3 (zcc g0) (xrf _) λhI=>zau<|zai<|br (λcn=>?_) (λcn=>?_)
   . rw [qab (λh=>h.2 oo)] at C;refine zau<|zci (x:=((i+1:Nat):Int)) u25 ty3 z3 qd (zbt io) λv w2 O hr=>⟨D.t O,?_⟩;rw [C,e1];exact hr.own.own.mono oo
   rw [qah ⟨c2,oo⟩] at C;refine zau<|zaa zdg<|zac ty3 (zcc g0) (xrf _) λ_=>zou u25 ty3 zHB io hI λv w2 O hr=>⟨D.t O,?_⟩;have e:za5 [i+1,I.to.toNat]=[((i+1:Nat):Int),I.to]:=by simp [za5,qaI ht.1]
   rw [C,e];exact hr.mono oo
 refine zai<|br (λc3=>?_) (λc3=>?_)
 . rw [qab oo,qah c3] at C;have ht:=g1 (.inr c3);refine zaa zdg<|zac ty3 (zcc g0) (xrf _) λhI=>zci (x:=I.to) u25 ty3 z3 qd (zbt hI) λv w2 O hr=>⟨D.t O,?_⟩;rw [C];have e:za5 [I.to.toNat]=[I.to]:=by simp [za5,qaI ht.1]
   rw [e];exact hr.own.own.mono oo
 refine zai<|br (λc9=>?_) (λc9=>?_)
 . rw [qah c9] at C;rw [C];refine zaD (α:=Int) u25 ty3 λa w2 O hr=>?_;have:=O.size;exact ⟨D.t O,hr.own.own.mono oo⟩
 rw [qab c9,qab c3,qab (λh=>c2 h.1)] at C;refine zau<|zci (x:=((i+1:Nat):Int)) u25 ty3 z3 qd (zbt io) λv w2 O hr=>⟨D.t O,?_⟩;rw [C,e1];exact hr.own.own.mono oo
end Go.Proofs.YtkgiigmcbgifdaaGreat
