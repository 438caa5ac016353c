/-
  Names: the program's and the reference's tests.
-/
import Derived.Test.YtokppocbfpjngaaConv
import Derived.Test.YtokppocbfpjngaaTerm
namespace Go.Proofs.Ytokppocbfpjngaa
open Go Go.Sh Go.Proofs
set_option linter.unusedVariables false
set_option linter.unusedSimpArgs false

def letB (b : UInt8) : Bool := decide ((97 : Int) ≤ (b.toNat : Int) ∧ (b.toNat : Int) ≤ 122)
def figB (b : UInt8) : Bool := decide ((48 : Int) ≤ (b.toNat : Int) ∧ (b.toNat : Int) ≤ 57)
def wordB (s : ByteArray) : Bool := decide (s.size ≤ 12) && (bts s).head?.any letB && (bts s).all (fun b => letB b || figB b)
def kw : List ByteArray := [.mk #[97, 110, 100], .mk #[99, 97, 108, 108], .mk #[101, 108, 115, 101], .mk #[103, 108, 111, 98, 97, 108, 115], .mk #[105, 102], .mk #[108, 111, 99, 107], .mk #[108, 111, 99, 107, 115],
  .mk #[110, 111, 116], .mk #[112, 114, 111, 99], .mk #[115, 107, 105, 112], .mk #[115, 112, 97, 119, 110], .mk #[117, 110, 108, 111, 99, 107], .mk #[119, 104, 105, 108, 101]]
/-- is it a name? -/
def nameB (s : ByteArray) : Bool := wordB s && !decide (s ∈ kw)

theorem isSmall_ok {w : World} {n : Nat}    :
    CALL Try.prog 156 [.int .u8 (n : Int)] w fun r w' => Ext w w' ∧ (r = .bool (decide ((97 : Int) ≤ (n : Int) ∧ (n : Int) ≤ 122))) := by
  refine F156_call ?_
  unfold F156
  refine rd_geq ?_
  refine br (fun c1 => ?_) (fun c1 => ?_)
  · refine rd_leq ?_
    refine ⟨Ext.refl w, ?_⟩
    simp [c1]
  · refine ⟨Ext.refl w, ?_⟩
    simp [c1]

theorem isFigure_ok {w : World} {n : Nat}    :
    CALL Try.prog 157 [.int .u8 (n : Int)] w fun r w' => Ext w w' ∧ (r = .bool (decide ((48 : Int) ≤ (n : Int) ∧ (n : Int) ≤ 57))) := by
  refine F157_call ?_
  unfold F157
  refine rd_geq ?_
  refine br (fun c1 => ?_) (fun c1 => ?_)
  · refine rd_leq ?_
    refine ⟨Ext.refl w, ?_⟩
    simp [c1]
  · refine ⟨Ext.refl w, ?_⟩
    simp [c1]

theorem l02Letter_ok {w : World} {n : Nat}    :
    CALL Try.prog 158 [.int .u8 (n : Int)] w fun r w' => Ext w w' ∧ (r = .bool (decide ((97 : Int) ≤ (n : Int) ∧ (n : Int) ≤ 122))) := by
  refine F158_call ?_
  unfold F158
  refine rd_geq ?_
  refine br (fun c1 => ?_) (fun c1 => ?_)
  · refine rd_leq ?_
    refine ⟨Ext.refl w, ?_⟩
    simp [c1]
  · refine ⟨Ext.refl w, ?_⟩
    simp [c1]

theorem l02Figure_ok {w : World} {n : Nat}    :
    CALL Try.prog 159 [.int .u8 (n : Int)] w fun r w' => Ext w w' ∧ (r = .bool (decide ((48 : Int) ≤ (n : Int) ∧ (n : Int) ≤ 57))) := by
  refine F159_call ?_
  unfold F159
  refine rd_geq ?_
  refine br (fun c1 => ?_) (fun c1 => ?_)
  · refine rd_leq ?_
    refine ⟨Ext.refl w, ?_⟩
    simp [c1]
  · refine ⟨Ext.refl w, ?_⟩
    simp [c1]

theorem head_bts {s : ByteArray} (h : 0 < s.size) : (bts s).head? = some ((bts s)[0]'(by rw [bts_len]; exact h)) := by
  rw [List.head?_eq_getElem?, List.getElem?_eq_getElem (by rw [bts_len]; exact h)]
theorem word_empty {s : ByteArray} (h : s.size = 0) : wordB s = false := by
  have : bts s = [] := List.eq_nil_of_length_eq_zero (by rw [bts_len]; exact h)
  simp [wordB, this]
theorem word_long {s : ByteArray} (h : 12 < s.size) : wordB s = false := by
  simp [wordB, Nat.not_le.2 h]
theorem word_head {s : ByteArray} (h : 0 < s.size) (c : ¬ ((97 : Int) ≤ (((bts s)[0]'(by rw [bts_len]; exact h)).toNat : Int) ∧ (((bts s)[0]'(by rw [bts_len]; exact h)).toNat : Int) ≤ 122)) : wordB s = false := by
  have : letB ((bts s)[0]'(by rw [bts_len]; exact h)) = false := by simp only [letB, c, decide_false]
  simp [wordB, head_bts h, this]
theorem word_at {s : ByteArray} {k : Nat} (h : k < s.size) (c1 : ¬ ((97 : Int) ≤ (((bts s)[k]'(by rw [bts_len]; exact h)).toNat : Int) ∧ (((bts s)[k]'(by rw [bts_len]; exact h)).toNat : Int) ≤ 122))
    (c2 : ¬ ((48 : Int) ≤ (((bts s)[k]'(by rw [bts_len]; exact h)).toNat : Int) ∧ (((bts s)[k]'(by rw [bts_len]; exact h)).toNat : Int) ≤ 57)) : wordB s = false := by
  have h1 : letB ((bts s)[k]'(by rw [bts_len]; exact h)) = false := by simp only [letB, c1, decide_false]
  have h2 : figB ((bts s)[k]'(by rw [bts_len]; exact h)) = false := by simp only [figB, c2, decide_false]
  have : (bts s).all (fun b => letB b || figB b) = false := by
    rw [List.all_eq_false]
    exact ⟨_, List.getElem_mem (by rw [bts_len]; exact h), by simp [h1, h2]⟩
  simp [wordB, this]
theorem word_step {s : ByteArray} {k : Nat} (h : k < s.size) (hi : ∀ b ∈ (bts s).take k, (letB b || figB b) = true) (c : letB ((bts s)[k]'(by rw [bts_len]; exact h)) = true ∨ figB ((bts s)[k]'(by rw [bts_len]; exact h)) = true) :
    ∀ b ∈ (bts s).take (k + 1), (letB b || figB b) = true := by
  rw [List.take_succ_eq_append_getElem (by rw [bts_len]; exact h)]
  intro b hb
  rcases List.mem_append.1 hb with hb | hb
  · exact hi b hb
  · simp only [List.mem_cons, List.not_mem_nil, or_false] at hb
    subst hb
    simpa using c
theorem word_all {s : ByteArray} {k : Nat} (h0 : 0 < s.size) (h1 : s.size ≤ 12) (c : (97 : Int) ≤ (((bts s)[0]'(by rw [bts_len]; exact h0)).toNat : Int) ∧ (((bts s)[0]'(by rw [bts_len]; exact h0)).toNat : Int) ≤ 122) (hk : s.size ≤ k)
    (hi : ∀ b ∈ (bts s).take k, (letB b || figB b) = true) : wordB s = true := by
  rw [List.take_of_length_le (by rw [bts_len]; exact hk)] at hi
  have e1 : letB ((bts s)[0]'(by rw [bts_len]; exact h0)) = true := by simp only [letB, c, and_self, decide_true]
  have e2 : (bts s).all (fun b => letB b || figB b) = true := List.all_eq_true.2 hi
  simp [wordB, head_bts h0, e1, e2, h1]
theorem l02Word_ok {w : World} {s : ByteArray}    :
    CALL Try.prog 155 [.string s] w fun r w' => Ext w w' ∧ (r = .bool (wordB s)) := by
  refine F155_call ?_
  unfold F155
  refine rd_lenS u9 ?_
  refine rd_eql ?_
  refine br (fun c1 => ?_) (fun c1 => ?_)
  · refine ⟨Ext.refl w, ?_⟩
    rw [word_empty (by omega)]
  · refine rd_lenS u9 ?_
    refine rd_gtr ?_
    refine br (fun c2 => ?_) (fun c2 => ?_)
    · refine ⟨Ext.refl w, ?_⟩
      rw [word_long (by omega)]
    · refine rd_indexS (i := 0) u9 (by omega) ?_
      refine (l02Letter_ok ).mono ?_
      rintro _ w1_ ⟨hx1_, rfl⟩
      refine rd_nodec ?_
      refine br (fun c3 => ?_) (fun c3 => ?_)
      · refine ⟨hx1_, ?_⟩
        rw [word_head (by omega) c3]
      · refine loopC (s.size) (fun k us w' => us = [.int .i64 (k : Int)] ∧ Ext w1_ w' ∧ (∀ b ∈ (bts s).take k, (letB b || figB b) = true)) (0) (by omega) ⟨by simp, Ext.refl w1_, by simp⟩ ?_
        rintro k m4 uu4 w2_ hk4 ⟨hu, hx2_, hinv⟩
        simp only [List.map_cons, List.map_nil, List.cons.injEq, and_true] at hu
        try rw [hu]
        try clear hu
        refine rd_lenS u9 ?_
        refine rd_lss ?_
        refine br (fun c4 => ?_) (fun c4 => ?_)
        · refine rd_indexS u9 (by omega) ?_
          refine (l02Letter_ok ).mono ?_
          rintro _ w3_ ⟨hx3_, rfl⟩
          refine rd_nodec ?_
          refine br (fun c5 => ?_) (fun c5 => ?_)
          · refine rd_indexS u9 (by omega) ?_
            refine (l02Figure_ok ).mono ?_
            rintro _ w4_ ⟨hx4_, rfl⟩
            refine rd_nodec ?_
            refine br (fun c6 => ?_) (fun c6 => ?_)
            · refine ⟨(hx1_.trans (hx2_.trans (hx3_.trans hx4_))), ?_⟩
              rw [word_at (by omega) c5 c6]
            · refine rd_inc (by omega) ?_
              refine ⟨m4 - 1, by omega, k + 1, by omega, by simp, (hx2_.trans (hx3_.trans hx4_)), ?_⟩
              exact word_step (by omega) hinv (.inr (by simp only [figB, Decidable.not_not.1 c6, and_self, decide_true]))
          · refine rd_inc (by omega) ?_
            refine ⟨m4 - 1, by omega, k + 1, by omega, by simp, (hx2_.trans hx3_), ?_⟩
            exact word_step (by omega) hinv (.inl (by simp only [letB, Decidable.not_not.1 c5, and_self, decide_true]))
        · refine ⟨(hx1_.trans hx2_), ?_⟩
          rw [word_all (by omega) (by omega) (Decidable.not_not.1 c3) (by omega) hinv]

theorem specIsName_ok {w : World} {s : ByteArray}    :
    CALL Try.prog 146 [.string s] w fun r w' => Ext w w' ∧ (r = .bool (nameB s)) := by
  refine F146_call ?_
  unfold F146
  refine rd_eqlS ?_
  refine br (fun c1 => ?_) (fun c1 => ?_)
  · refine ⟨Ext.refl w, ?_⟩
    have hm : s ∈ kw := by simp [kw, *]
    simp [nameB, hm]
  · refine rd_eqlS ?_
    refine br (fun c2 => ?_) (fun c2 => ?_)
    · refine ⟨Ext.refl w, ?_⟩
      have hm : s ∈ kw := by simp [kw, *]
      simp [nameB, hm]
    · refine rd_eqlS ?_
      refine br (fun c3 => ?_) (fun c3 => ?_)
      · refine ⟨Ext.refl w, ?_⟩
        have hm : s ∈ kw := by simp [kw, *]
        simp [nameB, hm]
      · refine rd_eqlS ?_
        refine br (fun c4 => ?_) (fun c4 => ?_)
        · refine ⟨Ext.refl w, ?_⟩
          have hm : s ∈ kw := by simp [kw, *]
          simp [nameB, hm]
        · refine rd_eqlS ?_
          refine br (fun c5 => ?_) (fun c5 => ?_)
          · refine ⟨Ext.refl w, ?_⟩
            have hm : s ∈ kw := by simp [kw, *]
            simp [nameB, hm]
          · refine rd_eqlS ?_
            refine br (fun c6 => ?_) (fun c6 => ?_)
            · refine ⟨Ext.refl w, ?_⟩
              have hm : s ∈ kw := by simp [kw, *]
              simp [nameB, hm]
            · refine rd_eqlS ?_
              refine br (fun c7 => ?_) (fun c7 => ?_)
              · refine ⟨Ext.refl w, ?_⟩
                have hm : s ∈ kw := by simp [kw, *]
                simp [nameB, hm]
              · refine rd_eqlS ?_
                refine br (fun c8 => ?_) (fun c8 => ?_)
                · refine ⟨Ext.refl w, ?_⟩
                  have hm : s ∈ kw := by simp [kw, *]
                  simp [nameB, hm]
                · refine rd_eqlS ?_
                  refine br (fun c9 => ?_) (fun c9 => ?_)
                  · refine ⟨Ext.refl w, ?_⟩
                    have hm : s ∈ kw := by simp [kw, *]
                    simp [nameB, hm]
                  · refine rd_eqlS ?_
                    refine br (fun c10 => ?_) (fun c10 => ?_)
                    · refine ⟨Ext.refl w, ?_⟩
                      have hm : s ∈ kw := by simp [kw, *]
                      simp [nameB, hm]
                    · refine rd_eqlS ?_
                      refine br (fun c11 => ?_) (fun c11 => ?_)
                      · refine ⟨Ext.refl w, ?_⟩
                        have hm : s ∈ kw := by simp [kw, *]
                        simp [nameB, hm]
                      · refine rd_eqlS ?_
                        refine br (fun c12 => ?_) (fun c12 => ?_)
                        · refine ⟨Ext.refl w, ?_⟩
                          have hm : s ∈ kw := by simp [kw, *]
                          simp [nameB, hm]
                        · refine rd_eqlS ?_
                          refine br (fun c13 => ?_) (fun c13 => ?_)
                          · refine ⟨Ext.refl w, ?_⟩
                            have hm : s ∈ kw := by simp [kw, *]
                            simp [nameB, hm]
                          · refine (l02Word_ok ).mono ?_
                            rintro _ w1_ ⟨hx1_, rfl⟩
                            refine ⟨hx1_, ?_⟩
                            have hm : s ∉ kw := by simp [kw, *]
                            simp [nameB, hm]

theorem implIsName_ok {w : World} {s : ByteArray}    :
    CALL Try.prog 149 [.string s] w fun r w' => Ext w w' ∧ (r = .bool (nameB s)) := by
  refine F149_call ?_
  unfold F149
  refine rd_lenS u9 ?_
  refine rd_lss ?_
  refine br (fun c1 => ?_) (fun c1 => ?_)
  · refine ⟨Ext.refl w, ?_⟩
    simp [nameB, word_empty (s := s) (by omega)]
  · refine rd_lenS u9 ?_
    refine rd_gtr ?_
    refine br (fun c2 => ?_) (fun c2 => ?_)
    · refine ⟨Ext.refl w, ?_⟩
      simp [nameB, word_long (s := s) (by omega)]
    · refine rd_indexS (i := 0) u9 (by omega) ?_
      refine (isSmall_ok ).mono ?_
      rintro _ w1_ ⟨hx1_, rfl⟩
      refine rd_nodec ?_
      refine br (fun c3 => ?_) (fun c3 => ?_)
      · refine ⟨hx1_, ?_⟩
        simp [nameB, word_head (s := s) (by omega) c3]
      · refine loopC (s.size) (fun k us w' => us = [.int .i64 (k : Int)] ∧ Ext w1_ w' ∧ (∀ b ∈ (bts s).take k, (letB b || figB b) = true)) (0) (by omega) ⟨by simp, Ext.refl w1_, by simp⟩ ?_
        rintro k m4 uu4 w2_ hk4 ⟨hu, hx2_, hinv⟩
        simp only [List.map_cons, List.map_nil, List.cons.injEq, and_true] at hu
        try rw [hu]
        try clear hu
        refine rd_lenS u9 ?_
        refine rd_lss ?_
        refine br (fun c4 => ?_) (fun c4 => ?_)
        · refine rd_indexS u9 (by omega) ?_
          refine (isSmall_ok ).mono ?_
          rintro _ w3_ ⟨hx3_, rfl⟩
          refine rd_nodec ?_
          refine br (fun c5 => ?_) (fun c5 => ?_)
          · refine rd_indexS u9 (by omega) ?_
            refine (isFigure_ok ).mono ?_
            rintro _ w4_ ⟨hx4_, rfl⟩
            refine rd_nodec ?_
            refine br (fun c6 => ?_) (fun c6 => ?_)
            · refine ⟨(hx1_.trans (hx2_.trans (hx3_.trans hx4_))), ?_⟩
              simp [nameB, word_at (s := s) (by omega) c5 c6]
            · refine rd_inc (by omega) ?_
              refine ⟨m4 - 1, by omega, k + 1, by omega, by simp, (hx2_.trans (hx3_.trans hx4_)), ?_⟩
              exact word_step (by omega) hinv (.inr (by simp only [figB, Decidable.not_not.1 c6, and_self, decide_true]))
          · refine rd_inc (by omega) ?_
            refine ⟨m4 - 1, by omega, k + 1, by omega, by simp, (hx2_.trans hx3_), ?_⟩
            exact word_step (by omega) hinv (.inl (by simp only [letB, Decidable.not_not.1 c5, and_self, decide_true]))
        · refine rd_eqlS ?_
          refine br (fun c7 => ?_) (fun c7 => ?_)
          · refine ⟨(hx1_.trans hx2_), ?_⟩
            have hm : s ∈ kw := by simp only [kw, List.mem_cons, *, true_or, or_true]
            simp [nameB, hm]
          · refine rd_eqlS ?_
            refine br (fun c8 => ?_) (fun c8 => ?_)
            · refine ⟨(hx1_.trans hx2_), ?_⟩
              have hm : s ∈ kw := by simp only [kw, List.mem_cons, *, true_or, or_true]
              simp [nameB, hm]
            · refine rd_eqlS ?_
              refine br (fun c9 => ?_) (fun c9 => ?_)
              · refine ⟨(hx1_.trans hx2_), ?_⟩
                have hm : s ∈ kw := by simp only [kw, List.mem_cons, *, true_or, or_true]
                simp [nameB, hm]
              · refine rd_eqlS ?_
                refine br (fun c10 => ?_) (fun c10 => ?_)
                · refine ⟨(hx1_.trans hx2_), ?_⟩
                  have hm : s ∈ kw := by simp only [kw, List.mem_cons, *, true_or, or_true]
                  simp [nameB, hm]
                · refine rd_eqlS ?_
                  refine br (fun c11 => ?_) (fun c11 => ?_)
                  · refine ⟨(hx1_.trans hx2_), ?_⟩
                    have hm : s ∈ kw := by simp only [kw, List.mem_cons, *, true_or, or_true]
                    simp [nameB, hm]
                  · refine rd_eqlS ?_
                    refine br (fun c12 => ?_) (fun c12 => ?_)
                    · refine ⟨(hx1_.trans hx2_), ?_⟩
                      have hm : s ∈ kw := by simp only [kw, List.mem_cons, *, true_or, or_true]
                      simp [nameB, hm]
                    · refine rd_eqlS ?_
                      refine br (fun c13 => ?_) (fun c13 => ?_)
                      · refine ⟨(hx1_.trans hx2_), ?_⟩
                        have hm : s ∈ kw := by simp only [kw, List.mem_cons, *, true_or, or_true]
                        simp [nameB, hm]
                      · refine rd_eqlS ?_
                        refine br (fun c14 => ?_) (fun c14 => ?_)
                        · refine ⟨(hx1_.trans hx2_), ?_⟩
                          have hm : s ∈ kw := by simp only [kw, List.mem_cons, *, true_or, or_true]
                          simp [nameB, hm]
                        · refine rd_eqlS ?_
                          refine br (fun c15 => ?_) (fun c15 => ?_)
                          · refine ⟨(hx1_.trans hx2_), ?_⟩
                            have hm : s ∈ kw := by simp only [kw, List.mem_cons, *, true_or, or_true]
                            simp [nameB, hm]
                          · refine rd_eqlS ?_
                            refine br (fun c16 => ?_) (fun c16 => ?_)
                            · refine ⟨(hx1_.trans hx2_), ?_⟩
                              have hm : s ∈ kw := by simp only [kw, List.mem_cons, *, true_or, or_true]
                              simp [nameB, hm]
                            · refine rd_eqlS ?_
                              refine br (fun c17 => ?_) (fun c17 => ?_)
                              · refine ⟨(hx1_.trans hx2_), ?_⟩
                                have hm : s ∈ kw := by simp only [kw, List.mem_cons, *, true_or, or_true]
                                simp [nameB, hm]
                              · refine rd_eqlS ?_
                                refine br (fun c18 => ?_) (fun c18 => ?_)
                                · refine ⟨(hx1_.trans hx2_), ?_⟩
                                  have hm : s ∈ kw := by simp only [kw, List.mem_cons, *, true_or, or_true]
                                  simp [nameB, hm]
                                · refine rd_eqlS ?_
                                  refine br (fun c19 => ?_) (fun c19 => ?_)
                                  · refine ⟨(hx1_.trans hx2_), ?_⟩
                                    have hm : s ∈ kw := by simp only [kw, List.mem_cons, *, true_or, or_true]
                                    simp [nameB, hm]
                                  · refine ⟨(hx1_.trans hx2_), ?_⟩
                                    have hm : s ∉ kw := by simp only [kw, List.mem_cons, List.not_mem_nil, or_false, *, not_false_eq_true]
                                    simp [nameB, hm, word_all (by omega) (by omega) (Decidable.not_not.1 c3) (by omega) hinv]

end Go.Proofs.Ytokppocbfpjngaa
