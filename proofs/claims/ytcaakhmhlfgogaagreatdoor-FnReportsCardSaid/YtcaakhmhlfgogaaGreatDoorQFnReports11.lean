/-
  The law FnReports of the given program returns true for every input, and its arguments read afterwards as before; the library's tables that it reads are tied to the program's text: the given statement Rows.FnReportsCardSaid.
-/
import Derived.Test.YtcaakhmhlfgogaaGreatDoorQFnReports10
set_option linter.defProp false
set_option linter.unusedVariables false
set_option linter.unusedSimpArgs false
set_option linter.unusedSectionVars false
open Go renaming Value→vL,World→wD,Program→pG
namespace Go.Proofs.YtcaakhmhlfgogaaGreatDoor.fnReports
open Go.ChangeShapes Go.WideShapes Go.ChangeAt Go.RowKit Go.Sh
variable {W:wD}
def own:ownKnob tp.godebug=none:=by kernel_rfl
def zGt:laidOutB tp=true:=by kernel_rfl
def zJj:tp.globalNamed "internal/strconv.uint64pow10" = some 1:=by kernel_rfl
def zDd:(tp.globals[1]?).map (·.type)=some 302:=by kernel_rfl
def iC:tp.cellsOf 302=20:=by kernel_rfl
def zHV:tp.cellsOf 207=1:=by kernel_rfl
def pow (h:laidMetH tp Rows.fnReportsRow.laid W):oF W:=
 Lib.tabIs_of_head (zs:=Lib.pow10Tab) (rest:=[]) zJj zDd Tryz.underlying302 Tryz.underlying207 zHV iC (laidMet.tail (laidMet.tail h))
set_option maxRecDepth 100000 in
theorem zDe (H:Type) (enc:TypeId×vL->H) (W:wD) (base:Nat) (args:Array vL) (ds gs:List (DataW H)) (g0:List MemPlace)
    (C:∀ (j:Nat) t v,Tryz.f4.params[j]?=some t->args[j]?=some v->Value.okWide tp W .any base t v)
    (hW:DataW.Whole enc tp Tryz.f4.params.toList Rows.fnReportsSpec.vars false W args.toList ds gs g0) (hL:laidMetH tp Rows.fnReportsRow.laid W) :
    Calls tp 4 args W λe W'=>∃ v,e=.returned v/\Rows.fnReportsSpec.post enc tp Tryz.f4 false true false false W args v W':=by
  have g1:=C;have g5:=hW;obtain ⟨p,_,g3,hV,rfl,_,_⟩:=hW;have hA:DataW.TrodAll enc tp W 0 (λ_=>true) true Tryz.f4.params.toList args.toList ds p:=g3;rw [Tryz.params4] at hA g1;obtain ⟨v0,_,_,_,p0,_,_,rfl,rfl,h0,r0⟩:=trodAll_cons hA;obtain ⟨rfl,rfl,rfl⟩:=trodAll_nil r0;obtain rfl:args=#[v0]:=by cases args;simp_all
  obtain ⟨rfl,rfl⟩:=trodVars_none hV;have lt0:∀ x∈p0,x.block<W.heap.size:=by obtain ⟨m,hm⟩:=h0;exact DataW.trod_lt m _ _ _ hm
  obtain ⟨_,i0⟩:=ztg (α:=UInt8) mA zGo (g1 0 24 v0 rfl rfl) h0;clear g3 C;obtain ⟨g2⟩:=zxw i0 (aC W) (pow hL);refine g2.mono λe W' ⟨v,he,g4,hv⟩=>?_;subst he hv;exact ⟨_,rfl,_,_,_,[],_,[],g5,trodAll_mk1 (shut_bool Tryz.underlying4 _),(trodAll_cons_mk (Below.trod zGt kK (of_decide_eq_true kK) h0 g4 lt0) trodAll_mk0),rfl,g4.frame _,λh=>by cases h⟩
def zHW:DataW Unit->Array vL
 | .agg l=>(l.map λd=>match d with | .lit (.int k z)=>Value.int k z | _=>undef).toArray
 | _=>#[]
def zIF (d:DataW Unit):Obj->Obj
 | .cells _ t frozen=>.cells (zHW d) t frozen
 | o=>o
noncomputable def zn2 (os:Os):wD:=
 { World.holding tp os ⟨#[],#[],[]⟩ with heap:=(((World.holding tp os ⟨#[],#[],[]⟩).heap.modify 1 (zIF Rows.laid_internal_strconv_uint64pow10)).modify 2 (zIF Rows.laid_math_bits_deBruijn32tab)).modify 3 (zIF Rows.laid_math_bits_deBruijn64tab) }
def zDf (os:Os):laidMet tp Rows.fnReportsRow.laid ((zn2 os).forCall (λ_ _=>0) ⟨#[],#[.slice none 0 0],[]⟩).memory:=
 laidMet_of_run' 8 kK kK
def reads (os:Os) {H:Type} (enc:TypeId×vL->H):∃ places,DataW.whole enc tp ((zn2 os).forCall (λ_ _=>0) ⟨#[],#[.slice none 0 0],[]⟩).memory Tryz.f4.params.toList Rows.fnReportsSpec.vars false (#[.slice none 0 0]:Array vL).toList 8=some ([.nil],[],places):=
 ⟨[],kK⟩
set_option maxRecDepth 100000 in
theorem lifted (os:Os) (D:os.Started) (H:Type) (enc:TypeId×vL->H) (F:Stop.Interp) :
    ReturnsInHanded {} Tryz.checked os 4 .any ((OpenSpec.ofChange Rows.fnReportsSpec).preRow enc tp Tryz.f4 Rows.fnReportsRow.domain false Rows.fnReportsRow.laid) (((OpenSpec.ofChange Rows.fnReportsSpec).at F).post enc tp Tryz.f4 false true false false):=by
  obtain ⟨_,hx⟩:=reads os enc
  refine returnsInHanded_of_row (C:=Tryz.checked) (s:=OpenSpec.ofChange Rows.fnReportsSpec) own D kK Tryz.func4
    (witness_row_at (enc:=enc) (C:=Tryz.checked) false (zn2 os) #[.slice none 0 0] rfl kK kK kK
      (OpenSpec.preRow_of_cond 8 hx kK (λ_ hk=>by cases hk) kK (zDf os))) ?_
  intro W base args ds gs g0 g1 hW _ _ _ hL _ _;exact zDe H enc W base args ds gs g0 g1 hW hL
def zBn:(Rows.fnReportsRow.inPlace == tp.inPlace 4)=true:=by kernel_rfl
def zsQ:(Rows.fnReportsRow.unfollowed == tp.unfollowed 4)=true:=by kernel_rfl
def zxx:(Rows.fnReportsRow.recurses == tp.recurses 4)=true:=by kernel_rfl
def zGu:(Rows.fnReportsRow.named == tp.varsNamed 4)=true:=by kernel_rfl
def closed:joinedFacts tp 4 Tryz.f4 (OpenSpec.ofChange Rows.fnReportsSpec).bare Rows.fnReportsRow=true:=by
 unfold joinedFacts;exact (zcs (zcs (zcs (zcs (zcs (zcs (zcs (zcs (zcs (zcs (zcs (zcs (zcs (zcs (zcs (zcs (zcs (zcs (zcs (zcs (zcs (zcs (zcs (zcs (zcs (zcs (zcs (zcs (zcs (zcs (zcs kK zGp) zGq) kK) kK) kK) kK) kK) kK) zBn) zsQ) zxx) zGu) kK) kK) kK) kK) kK) kK) kK) kK) kK) zDb) kK) zDc) zHU) zGr) zGs) kK) kK) kK) kK)
set_option maxRecDepth 100000 in
theorem zJk:Rows.FnReportsSaid:=
  OpenClaim.holds_of_cond 4 Tryz.f4 rfl rfl rfl rfl rfl rfl rfl ⟨rfl,rfl,rfl,rfl,rfl⟩ rfl rfl rfl rfl rfl kK Tryz.func4 closed
    (of_decide_eq_true kK) (by unfold Func.isWrapper;first | (rw [aP (by decide +kernel)];kernel_rfl) | (rw [aH (by decide +kernel)];exact ⟨rfl,rfl⟩))
    (λos started H enc _ F=>by rw [OpenClaim.pre_eq_preRow];exact lifted os started H enc F)
def zIG (f:FuncId) (fn:Func) (hf:Tryz.pinned.checked.prog.funcNamed "loop.example/g00966/laws.FnReports" = some f) (hfn:Tryz.pinned.checked.prog.funcs[f]?=some fn) :
   false=Tryz.pinned.checked.prog.looks []/\∀ (j:Nat) t,fn.params[j]?=some t->Tryz.pinned.checked.prog.wantsStandIn t=false:=by
 obtain rfl:f=4:=Ez ((show tp.funcNamed "loop.example/g00966/laws.FnReports" = some 4 by kernel_rfl).symm.trans hf) |>.symm;obtain rfl:fn=Tryz.f4:=(Ez (Tryz.func4.symm.trans hfn)).symm;refine ⟨kK,λj t ht=>?_⟩;rw [Tryz.params4] at ht;have hm:=Array.mem_of_getElem? ht;have hm:t=24:=by simpa using hm
 subst hm;exact (show tp.wantsStandIn 24=false by kernel_rfl)
theorem proved:Rows.FnReportsCardSaid:=
 Claim7.holds_tied_plain_at .later [] _ _ _ _ zJk (λ_ h=>by cases h) kK (λ_ h=>by cases h) fnReports_row_tie rfl ⟨rfl,rfl⟩ kK rfl zIG kK
end Go.Proofs.YtcaakhmhlfgogaaGreatDoor.fnReports
