/-
  The program's Watch returns what the reference's returns, for every text (the tied card).
-/
import Derived.Test.YtkgiigmcbgifdaaGreatDoorPFnExactWatch9
set_option linter.defProp false
set_option linter.unusedVariables false
set_option linter.unusedSimpArgs false
set_option linter.unusedSectionVars false
open Go renaming Value→vL,World→wD,Program→pG
namespace Go.Proofs.YtkgiigmcbgifdaaGreatDoor.fnExactWatch
open Go.ChangeShapes Go.WideShapes Go.ChangeAt Go.RowKit Go.Sh
variable {W:wD}
def own:ownKnob tp.godebug=none:=by kernel_rfl
def zCU:laidOutB tp=true:=by kernel_rfl
def zFu:tp.globalNamed "internal/strconv.uint64pow10" = some 1:=by kernel_rfl
def zz6:(tp.globals[1]?).map (·.type)=some 302:=by kernel_rfl
def cellsT:tp.cellsOf 302=20:=by kernel_rfl
def zEn:tp.cellsOf 207=1:=by kernel_rfl
def pow (h:laidMetH tp Rows.fnExactWatchRow.laid W):PowT W:=
 Lib.tabIs_of_head (zs:=Lib.pow10Tab) (rest:=[]) zFu zz6 Tryz.underlying302 Tryz.underlying207 zEn cellsT (laidMet.tail (laidMet.tail h))
set_option maxRecDepth 100000 in
theorem zz7 (H:Type) (enc:TypeId×vL->H) (W:wD) (base:Nat) (args:Array vL) (ds gs:List (DataW H)) (g0:List MemPlace)
    (C:∀ (j:Nat) t v,Tryz.f3.params[j]?=some t->args[j]?=some v->Value.okWide tp W .any base t v)
    (hW:DataW.Whole enc tp Tryz.f3.params.toList Rows.fnExactWatchSpec.vars false W args.toList ds gs g0) (hL:laidMetH tp Rows.fnExactWatchRow.laid W) :
    Calls tp 3 args W λe W'=>∃ v,e=.returned v/\Rows.fnExactWatchSpec.post enc tp Tryz.f3 false true false false W args v W':=by
  have g1:=C;have g5:=hW;obtain ⟨p,_,g3,hV,rfl,_,_⟩:=hW;have hA:DataW.TrodAll enc tp W 0 (λ_=>true) true Tryz.f3.params.toList args.toList ds p:=g3;rw [Tryz.params3] at hA g1;obtain ⟨v0,_,_,_,p0,_,_,rfl,rfl,h0,r0⟩:=trodAll_cons hA;obtain ⟨rfl,rfl,rfl⟩:=trodAll_nil r0;obtain rfl:args=#[v0]:=by cases args;simp_all
  obtain ⟨rfl,rfl⟩:=trodVars_none hV;have lt0:∀ x∈p0,x.block<W.heap.size:=by obtain ⟨m,hm⟩:=h0;exact DataW.trod_lt m _ _ _ hm
  obtain ⟨_,i0⟩:=zv7 u9 (g1 0 9 v0 rfl rfl) h0;obtain ⟨rfl,_⟩:=zAd.1 i0;clear g3 C;obtain ⟨g2⟩:=zz3  (pow hL);refine g2.mono λe W' ⟨v,he,g4,hv⟩=>?_;subst he hv;exact ⟨_,rfl,_,_,_,[],_,[],g5,trodAll_mk1 (shut_bool Tryz.underlying4 _),(trodAll_cons_mk (Below.trod zCU kK (of_decide_eq_true kK) h0 g4 lt0) trodAll_mk0),rfl,g4.frame _,λh=>by cases h⟩
def zEo:DataW Unit->Array vL
 | .agg l=>(l.map λd=>match d with | .lit (.int k z)=>Value.int k z | _=>undef).toArray
 | _=>#[]
def zEW (d:DataW Unit):Obj->Obj
 | .cells _ t frozen=>.cells (zEo d) t frozen
 | o=>o
noncomputable def zmP (os:Os):wD:=
 { World.holding tp os ⟨#[],#[],[]⟩ with heap:=(((World.holding tp os ⟨#[],#[],[]⟩).heap.modify 1 (zEW Rows.laid_internal_strconv_uint64pow10)).modify 2 (zEW Rows.laid_math_bits_deBruijn32tab)).modify 3 (zEW Rows.laid_math_bits_deBruijn64tab) }
def zz8 (os:Os):laidMet tp Rows.fnExactWatchRow.laid ((zmP os).forCall (λ_ _=>0) ⟨#[],#[.string ByteArray.empty],[]⟩).memory:=
 laidMet_of_run' 8 kK kK
def reads (os:Os) {H:Type} (enc:TypeId×vL->H):∃ places,DataW.whole enc tp ((zmP os).forCall (λ_ _=>0) ⟨#[],#[.string ByteArray.empty],[]⟩).memory Tryz.f3.params.toList Rows.fnExactWatchSpec.vars false (#[.string ByteArray.empty]:Array vL).toList 8=some ([.lit (.string [])],[],places):=
 ⟨[],kK⟩
set_option maxRecDepth 100000 in
theorem lifted (os:Os) (D:os.Started) (H:Type) (enc:TypeId×vL->H) (F:Stop.Interp) :
    ReturnsInHanded {} Tryz.checked os 3 .any ((OpenSpec.ofChange Rows.fnExactWatchSpec).preRow enc tp Tryz.f3 Rows.fnExactWatchRow.domain false Rows.fnExactWatchRow.laid) (((OpenSpec.ofChange Rows.fnExactWatchSpec).at F).post enc tp Tryz.f3 false true false false):=by
  obtain ⟨_,hx⟩:=reads os enc
  refine returnsInHanded_of_row (C:=Tryz.checked) (s:=OpenSpec.ofChange Rows.fnExactWatchSpec) own D kK Tryz.func3
    (witness_row_at (enc:=enc) (C:=Tryz.checked) false (zmP os) #[.string ByteArray.empty] rfl kK kK kK
      (OpenSpec.preRow_of_cond 8 hx kK (λ_ hk=>by cases hk) kK (zz8 os))) ?_
  intro W base args ds gs g0 g1 hW _ _ _ hL _ _;exact zz7 H enc W base args ds gs g0 g1 hW hL
def zyz:(Rows.fnExactWatchRow.inPlace == tp.inPlace 3)=true:=by kernel_rfl
def zrh:(Rows.fnExactWatchRow.unfollowed == tp.unfollowed 3)=true:=by kernel_rfl
def zvh:(Rows.fnExactWatchRow.recurses == tp.recurses 3)=true:=by kernel_rfl
def zCV:(Rows.fnExactWatchRow.named == tp.varsNamed 3)=true:=by kernel_rfl
def closed:joinedFacts tp 3 Tryz.f3 (OpenSpec.ofChange Rows.fnExactWatchSpec).bare Rows.fnExactWatchRow=true:=by
 unfold joinedFacts;exact (zcj (zcj (zcj (zcj (zcj (zcj (zcj (zcj (zcj (zcj (zcj (zcj (zcj (zcj (zcj (zcj (zcj (zcj (zcj (zcj (zcj (zcj (zcj (zcj (zcj (zcj (zcj (zcj (zcj (zcj (zcj kK zCQ) zCR) kK) kK) kK) kK) kK) kK) zyz) zrh) zvh) zCV) kK) kK) kK) kK) kK) kK) kK) kK) kK) zz4) kK) zz5) zEm) zCS) zCT) kK) kK) kK) kK)
set_option maxRecDepth 100000 in
theorem zFv:Rows.FnExactWatchSaid:=
  OpenClaim.holds_of_cond 3 Tryz.f3 rfl rfl rfl rfl rfl rfl rfl ⟨rfl,rfl,rfl,rfl,rfl⟩ rfl rfl rfl rfl rfl kK Tryz.func3 closed
    (of_decide_eq_true kK) (by unfold Func.isWrapper;first | (rw [qah (by decide +kernel)];kernel_rfl) | (rw [qad (by decide +kernel)];exact ⟨rfl,rfl⟩))
    (λos started H enc _ F=>by rw [OpenClaim.pre_eq_preRow];exact lifted os started H enc F)
def zEX (f:FuncId) (fn:Func) (hf:Tryz.pinned.checked.prog.funcNamed "loop.example/g00966/laws.FnExactWatch" = some f) (hfn:Tryz.pinned.checked.prog.funcs[f]?=some fn) :
   false=Tryz.pinned.checked.prog.looks []/\∀ (j:Nat) t,fn.params[j]?=some t->Tryz.pinned.checked.prog.wantsStandIn t=false:=by
 obtain rfl:f=3:=qco ((show tp.funcNamed "loop.example/g00966/laws.FnExactWatch" = some 3 by kernel_rfl).symm.trans hf) |>.symm;obtain rfl:fn=Tryz.f3:=(qco (Tryz.func3.symm.trans hfn)).symm;refine ⟨kK,λj t ht=>?_⟩;rw [Tryz.params3] at ht;have hm:=Array.mem_of_getElem? ht;have hm:t=9:=by simpa using hm
 subst hm;exact (show tp.wantsStandIn 9=false by kernel_rfl)
theorem proved:Rows.FnExactWatchCardSaid:=
 Claim7.holds_tied_plain_at .later [] _ _ _ _ zFv (λ_ h=>by cases h) kK (λ_ h=>by cases h) fnExactWatch_row_tie rfl ⟨rfl,rfl⟩ kK rfl zEX kK
end Go.Proofs.YtkgiigmcbgifdaaGreatDoor.fnExactWatch
