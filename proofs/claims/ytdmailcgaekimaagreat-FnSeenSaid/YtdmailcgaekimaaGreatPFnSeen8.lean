/-
  The law FnSeen of the given program returns true for every input, and its arguments read afterwards as before: the given statement Rows.FnSeenSaid.
-/
import Derived.Test.YtdmailcgaekimaaGreatPFnSeen7
set_option linter.unusedVariables false
set_option linter.unusedSimpArgs false
set_option linter.unusedSectionVars false
namespace Go.Proofs.YtdmailcgaekimaaGreat.fnSeen
open Go.ChangeShapes Go.WideShapes Go.ChangeAt Go.RowKit Go.Sh
theorem own:ownKnob Tryz.prog.godebug=none:=by kernel_rfl
theorem zsS:laidOutB Tryz.prog=true:=by kernel_rfl
set_option maxRecDepth 100000 in
theorem lifted (os:Os) (started:os.Started) (H:Type) (enc:TypeId×Value→H) :
    ReturnsInHanded {} Tryz.checked os 3 .any (Rows.fnSeenSpec.pre6 enc Tryz.prog Tryz.f3 Rows.fnSeenRow.domain false) (Rows.fnSeenSpec.post enc Tryz.prog Tryz.f3 false true false false):=by
  refine returnsInHanded_of_change (C:=Tryz.checked) own started (by kernel_rfl) Tryz.func3
    (ChangeSpec.witness6 (enc:=enc) (C:=Tryz.checked) false ⟨#[],#[.slice none 0 0],[]⟩ 8 (by kernel_rfl) (by kernel_rfl) (by kernel_rfl) (by kernel_rfl)) ?_
  intro W base args ds gs before hval0 hW hcnd _
  have hval:∀ (j:Nat) t v,Tryz.f3.params[j]?=some t→args[j]?=some v→Value.okWide Tryz.prog W .any base t v:=hval0
  have hW':=hW
  obtain ⟨p,q,hA0,hV,rfl,hfz,hnd⟩:=hW
  have hA:DataW.TrodAll enc Tryz.prog W 0 (fun _=>true) true Tryz.f3.params.toList args.toList ds p:=hA0
  rw [Tryz.params3] at hA hval
  obtain ⟨v0,vs0,d0,ds0,p0,q0,hargs,rfl,rfl,h0,r0⟩:=trodAll_cons hA
  obtain ⟨rfl,rfl,rfl⟩:=trodAll_nil r0
  obtain rfl:args=#[v0]:=by cases args;simp_all
  obtain ⟨rfl,rfl⟩:=trodVars_none hV
  have lt0:∀ x∈p0,x.block<W.heap.size:=by obtain ⟨m,hm⟩:=h0;exact DataW.trod_lt m _ _ _ hm
  obtain ⟨x0,i0⟩:=zl1 (α:=UInt8) u22 zsN (hval 0 22 v0 rfl rfl) h0
  clear hA0 hval0
  obtain ⟨hcall⟩:=zsM i0 (Ext.refl W)
  refine hcall.mono fun e W' ⟨v,he,bel,hv⟩=>?_
  subst he hv
  exact ⟨_,rfl,_,_,_,[],_,[],hW',trodAll_mk1 (shut_bool Tryz.underlying4 _),(trodAll_cons_mk (Below.trod zsS (by kernel_rfl) (of_decide_eq_true (by kernel_rfl)) h0 bel lt0) trodAll_mk0),rfl,bel.frame _,fun h=>by cases h⟩
theorem zqg:(Rows.fnSeenRow.inPlace == Tryz.prog.inPlace 3)=true:=by kernel_rfl
theorem zlN:(Rows.fnSeenRow.unfollowed == Tryz.prog.unfollowed 3)=true:=by kernel_rfl
theorem zoz:(Rows.fnSeenRow.recurses == Tryz.prog.recurses 3)=true:=by kernel_rfl
theorem zsT:(Rows.fnSeenRow.named == Tryz.prog.varsNamed 3)=true:=by kernel_rfl
theorem closed:joinedFacts Tryz.prog 3 Tryz.f3 Rows.fnSeenSpec Rows.fnSeenRow=true:=by
 unfold joinedFacts
 exact (zbA (zbA (zbA (zbA (zbA (zbA (zbA (zbA (zbA (zbA (zbA (zbA (zbA (zbA (zbA (zbA (zbA (zbA (zbA (zbA (zbA (zbA (zbA (zbA (zbA (zbA (zbA (zbA (zbA (zbA (zbA (by kernel_rfl) zsO) zsP) (by kernel_rfl)) (by kernel_rfl)) (by kernel_rfl)) (by kernel_rfl)) (by kernel_rfl)) (by kernel_rfl)) zqg) zlN) zoz) zsT) (by kernel_rfl)) (by kernel_rfl)) (by kernel_rfl)) (by kernel_rfl)) (by kernel_rfl)) (by kernel_rfl)) (by kernel_rfl)) (by kernel_rfl)) (by kernel_rfl)) zri) (by kernel_rfl)) zrj) ztG) zsQ) zsR) (by kernel_rfl)) (by kernel_rfl)) (by kernel_rfl)) (by kernel_rfl))
theorem over:Rows.fnSeenRow.holds Tryz.pinned (OpenSpec.ofChange Rows.fnSeenSpec):=
 OpenClaim.holds_of_wide 3 Tryz.f3 rfl rfl rfl rfl rfl rfl rfl ⟨rfl,rfl,rfl,rfl,rfl⟩ rfl rfl rfl rfl rfl (by kernel_rfl) Tryz.func3 closed
   (of_decide_eq_true (by kernel_rfl)) (by unfold Func.isWrapper;first | (rw [if_pos (by decide +kernel)];kernel_rfl) | (rw [if_neg (by decide +kernel)];exact ⟨rfl,rfl⟩))
   (fun os started H enc _=>lifted os started H enc)
theorem proved:Rows.FnSeenSaid:=over
end Go.Proofs.YtdmailcgaekimaaGreat.fnSeen
