/- Plain law: the net of four vertices, and its residual arcs. -/
import Derived.Test.YtcdbemdogkmahaaAcqNetLaw
namespace Go.Acq
open Go
def FOUR : List Arc := [⟨0, 1, 5⟩, ⟨0, 2, 4⟩, ⟨1, 3, 3⟩, ⟨2, 3, 6⟩, ⟨1, 2, 2⟩]
theorem four_begins : begins FOUR 4 = 10 := by decide
theorem four_check : checkE 4 0 3 FOUR = 0 := by decide +kernel
theorem all10 {P : Nat → Prop} (h0 : P 0) (h1 : P 1) (h2 : P 2) (h3 : P 3) (h4 : P 4) (h5 : P 5) (h6 : P 6) (h7 : P 7) (h8 : P 8) (h9 : P 9) : ∀ j, j < 10 → P j := by
  intro j hj
  rcases (show j = 0 ∨ j = 1 ∨ j = 2 ∨ j = 3 ∨ j = 4 ∨ j = 5 ∨ j = 6 ∨ j = 7 ∨ j = 8 ∨ j = 9 by omega) with rfl | rfl | rfl | rfl | rfl | rfl | rfl | rfl | rfl | rfl <;> assumption
theorem take5 {xs : List Int} {n : Nat} {a b c d e : Int} (hl : xs.length = n) (hn : 5 ≤ n) (h0 : xs.getD 0 0 = a) (h1 : xs.getD 1 0 = b) (h2 : xs.getD 2 0 = c) (h3 : xs.getD 3 0 = d) (h4 : xs.getD 4 0 = e) : xs.take 5 = [a, b, c, d, e] := by
  apply eq_of_getD 0 (by simp; omega)
  intro i hi
  simp only [List.length_take] at hi
  rw [List.getD_eq_getElem?_getD, List.getElem?_take, if_pos (by omega), ← List.getD_eq_getElem?_getD]
  rcases (show i = 0 ∨ i = 1 ∨ i = 2 ∨ i = 3 ∨ i = 4 by omega) with rfl | rfl | rfl | rfl | rfl <;> first | exact h0 | exact h1 | exact h2 | exact h3 | exact h4
theorem five {xs : List Int} {a b c d e : Int} (hl : xs.length = 5) (h0 : xs.getD 0 0 = a) (h1 : xs.getD 1 0 = b) (h2 : xs.getD 2 0 = c) (h3 : xs.getD 3 0 = d) (h4 : xs.getD 4 0 = e) : xs = [a, b, c, d, e] := by
  rw [← take5 hl (Nat.le_refl _) h0 h1 h2 h3 h4, List.take_of_length_le (by omega)]
theorem four_ok {fs hs rs cs aa : List Int} {bs : List Bool} (h : CsrOK FOUR 4 fs hs rs cs aa bs) :
    fs = [0, 2, 5, 8, 10] ∧ hs.take 5 = [1, 2, 0, 3, 2] ∧ cs.take 5 = [5, 4, 0, 3, 2] ∧ rs.getD 0 0 = 2 ∧ (∀ j, j < 10 → resOK aa cs bs [3, 0, 3, 0, 0] j) ∧ (∀ rl, ResAt aa cs bs [3, 0, 3, 0, 0] 10 10 rl → rl.take 5 = [2, 4, 3, 0, 2]) ∧
    (∀ j, j < 10 → 0 ≤ aa.getD j 0) ∧ ∀ j, j < 10 → cs.getD j 0 ≤ 9223372036854775807 := by
  have a0 : hs.getD 0 0 = 1 ∧ rs.getD 0 0 = 2 ∧ cs.getD 0 0 = 5 ∧ aa.getD 0 0 = 0 ∧ bs.getD 0 false = false := h.hat 0 (by decide) (by decide) false
  have a1 : hs.getD 1 0 = 2 ∧ rs.getD 1 0 = 5 ∧ cs.getD 1 0 = 4 ∧ aa.getD 1 0 = 1 ∧ bs.getD 1 false = false := h.hat 1 (by decide) (by decide) false
  have a2 : hs.getD 2 0 = 0 ∧ rs.getD 2 0 = 0 ∧ cs.getD 2 0 = 0 ∧ aa.getD 2 0 = 0 ∧ bs.getD 2 false = true := h.hat 0 (by decide) (by decide) true
  have a3 : hs.getD 3 0 = 3 ∧ rs.getD 3 0 = 8 ∧ cs.getD 3 0 = 3 ∧ aa.getD 3 0 = 2 ∧ bs.getD 3 false = false := h.hat 2 (by decide) (by decide) false
  have a4 : hs.getD 4 0 = 2 ∧ rs.getD 4 0 = 7 ∧ cs.getD 4 0 = 2 ∧ aa.getD 4 0 = 4 ∧ bs.getD 4 false = false := h.hat 4 (by decide) (by decide) false
  have a5 : hs.getD 5 0 = 0 ∧ rs.getD 5 0 = 1 ∧ cs.getD 5 0 = 0 ∧ aa.getD 5 0 = 1 ∧ bs.getD 5 false = true := h.hat 1 (by decide) (by decide) true
  have a6 : hs.getD 6 0 = 3 ∧ rs.getD 6 0 = 9 ∧ cs.getD 6 0 = 6 ∧ aa.getD 6 0 = 3 ∧ bs.getD 6 false = false := h.hat 3 (by decide) (by decide) false
  have a7 : hs.getD 7 0 = 1 ∧ rs.getD 7 0 = 4 ∧ cs.getD 7 0 = 0 ∧ aa.getD 7 0 = 4 ∧ bs.getD 7 false = true := h.hat 4 (by decide) (by decide) true
  have a8 : hs.getD 8 0 = 1 ∧ rs.getD 8 0 = 3 ∧ cs.getD 8 0 = 0 ∧ aa.getD 8 0 = 2 ∧ bs.getD 8 false = true := h.hat 2 (by decide) (by decide) true
  have a9 : hs.getD 9 0 = 2 ∧ rs.getD 9 0 = 6 ∧ cs.getD 9 0 = 0 ∧ aa.getD 9 0 = 3 ∧ bs.getD 9 false = true := h.hat 3 (by decide) (by decide) true
  have lh := h.lh
  have lc := h.lc
  rw [four_begins] at lh lc
  refine ⟨five h.lf (h.hf 0 (by omega)) (h.hf 1 (by omega)) (h.hf 2 (by omega)) (h.hf 3 (by omega)) (h.hf 4 (by omega)), take5 lh (by omega) a0.1 a1.1 a2.1 a3.1 a4.1, take5 lc (by omega) a0.2.2.1 a1.2.2.1 a2.2.2.1 a3.2.2.1 a4.2.2.1, a0.2.1, ?_, ?_, ?_, ?_⟩
  · apply all10 <;> unfold resOK
    · rw [a0.2.2.1, a0.2.2.2.1, a0.2.2.2.2]; decide
    · rw [a1.2.2.1, a1.2.2.2.1, a1.2.2.2.2]; decide
    · rw [a2.2.2.1, a2.2.2.2.1, a2.2.2.2.2]; decide
    · rw [a3.2.2.1, a3.2.2.2.1, a3.2.2.2.2]; decide
    · rw [a4.2.2.1, a4.2.2.2.1, a4.2.2.2.2]; decide
    · rw [a5.2.2.1, a5.2.2.2.1, a5.2.2.2.2]; decide
    · rw [a6.2.2.1, a6.2.2.2.1, a6.2.2.2.2]; decide
    · rw [a7.2.2.1, a7.2.2.2.1, a7.2.2.2.2]; decide
    · rw [a8.2.2.1, a8.2.2.2.1, a8.2.2.2.2]; decide
    · rw [a9.2.2.1, a9.2.2.2.1, a9.2.2.2.2]; decide
  · intro rl hr
    refine take5 hr.1 (by omega) ((hr.2 0 (by omega)).2.trans ?_) ((hr.2 1 (by omega)).2.trans ?_) ((hr.2 2 (by omega)).2.trans ?_) ((hr.2 3 (by omega)).2.trans ?_) ((hr.2 4 (by omega)).2.trans ?_) <;> unfold resV
    · rw [a0.2.2.1, a0.2.2.2.1, a0.2.2.2.2]; decide
    · rw [a1.2.2.1, a1.2.2.2.1, a1.2.2.2.2]; decide
    · rw [a2.2.2.1, a2.2.2.2.1, a2.2.2.2.2]; decide
    · rw [a3.2.2.1, a3.2.2.2.1, a3.2.2.2.2]; decide
    · rw [a4.2.2.1, a4.2.2.2.1, a4.2.2.2.2]; decide
  · apply all10
    · rw [a0.2.2.2.1]; decide
    · rw [a1.2.2.2.1]; decide
    · rw [a2.2.2.2.1]; decide
    · rw [a3.2.2.2.1]; decide
    · rw [a4.2.2.2.1]; decide
    · rw [a5.2.2.2.1]; decide
    · rw [a6.2.2.2.1]; decide
    · rw [a7.2.2.2.1]; decide
    · rw [a8.2.2.2.1]; decide
    · rw [a9.2.2.2.1]; decide
  · apply all10
    · rw [a0.2.2.1]; decide
    · rw [a1.2.2.1]; decide
    · rw [a2.2.2.1]; decide
    · rw [a3.2.2.1]; decide
    · rw [a4.2.2.1]; decide
    · rw [a5.2.2.1]; decide
    · rw [a6.2.2.1]; decide
    · rw [a7.2.2.1]; decide
    · rw [a8.2.2.1]; decide
    · rw [a9.2.2.1]; decide
end Go.Acq
