/- Plain law: ways that are hopped by numbers; what is sent moves the ends alone; ways back. -/
import Derived.Test.YtcdbemdogkmahaaAcqL06
namespace Go.Acq
open Go
set_option linter.unusedSimpArgs false
theorem getD_app {α : Type} {xs : List α} {y d : α} {i : Nat} (h : i < xs.length) : (xs ++ [y]).getD i d = xs.getD i d := by
  rw [List.getD_eq_getElem?_getD, List.getElem?_append_left h, List.getD_eq_getElem?_getD]
theorem getD_last {α : Type} {xs : List α} {y d : α} {i : Nat} (h : i = xs.length) : (xs ++ [y]).getD i d = y := by
  subst h
  rw [List.getD_eq_getElem?_getD, List.getElem?_append_right (Nat.le_refl _)]; simp
/-- a way from v to w -/
structure PathP (n : Net) (v : Int) (l : List Hop) (w : Int) : Prop where
  way : WayK n l l.length
  start : 0 < l.length → hfr n (l.getD 0 default) = v
  fin : w = if l.length = 0 then v else hto n (l.getD (l.length - 1) default)
theorem PathP.nil (n : Net) (v : Int) : PathP n v [] v := ⟨⟨fun i h => by simp at h, fun i h => by simp at h⟩, fun h => by simp at h, rfl⟩
theorem PathP.app {n : Net} {v w : Int} {l : List Hop} (h : PathP n v l w) {p : Hop} (hp : hok n p) (hw : hfr n p = w) : PathP n v (l ++ [p]) (hto n p) := by
  refine ⟨⟨fun i hi => ?_, fun i hi => ?_⟩, fun _ => ?_, ?_⟩
  · rw [List.length_append, List.length_singleton] at hi
    rcases Nat.lt_or_ge i l.length with h1 | h1
    · rw [getD_app h1]; exact h.way.1 i h1
    · rw [getD_last (by omega)]; exact hp
  · rw [List.length_append, List.length_singleton] at hi
    rcases Nat.lt_or_ge (i + 1) l.length with h1 | h1
    · rw [getD_app h1, getD_app (by omega)]; exact h.way.2 i h1
    · rw [getD_last (by omega), getD_app (by omega), hw, h.fin, if_neg (by omega), show l.length - 1 = i by omega]
  · rcases Nat.lt_or_ge 0 l.length with h1 | h1
    · rw [getD_app h1]; exact h.start h1
    · rw [getD_last (by omega), hw, h.fin, if_pos (by omega)]
  · rw [List.length_append, List.length_singleton, if_neg (by omega), Nat.add_sub_cancel, getD_last rfl]
/-! ### what is sent moves the ends alone -/
def exC (al : List Arc) (c : Nat → Int) (u : Int) : Nat → Int
  | 0 => 0
  | k + 1 => exC al c u k - (if (al.getD k default).fr = u then c k else 0) + (if (al.getD k default).to = u then c k else 0)
theorem ex_sent {al : List Arc} {f g : List Int} {d : Int} {c : Nat → Int} (u : Int) {n : Nat} (h : ∀ i, i < n → g.getD i 0 = f.getD i 0 + d * c i) : ∀ k, k ≤ n → ex al g u k = ex al f u k + d * exC al c u k
  | 0, _ => by simp [ex, exC]
  | k + 1, hk => by
    simp only [ex, exC, ex_sent u h k (by omega), h k (by omega), Int.mul_add, Int.mul_sub]
    split <;> split <;> (try simp only [Int.mul_zero]) <;> omega
def sgn (h : Hop) : Int := if h.Back = true then -1 else 1
theorem exC_succ {al : List Arc} {l : List Hop} {j : Nat} (u : Int) (h0 : 0 ≤ (l.getD j default).Arc) : ∀ K : Nat, exC al (fun i => cntH l i (j + 1)) u K = exC al (fun i => cntH l i j) u K +
    (if (l.getD j default).Arc < K then (if (al.getD (l.getD j default).Arc.toNat default).to = u then sgn (l.getD j default) else 0) - (if (al.getD (l.getD j default).Arc.toNat default).fr = u then sgn (l.getD j default) else 0) else 0)
  | 0 => by
    rw [if_neg (show ¬ (l.getD j default).Arc < ((0 : Nat) : Int) by omega)]; rfl
  | K + 1 => by
    have ih := exC_succ (al := al) u h0 K
    have hc : ∀ i, cntH l i (j + 1) = cntH l i j + (if (l.getD j default).Arc = i then sgn (l.getD j default) else 0) := fun i => rfl
    simp only [exC]
    rw [ih, hc]
    by_cases c : (l.getD j default).Arc = K
    · have e : (l.getD j default).Arc.toNat = K := by omega
      rw [if_neg (show ¬ (l.getD j default).Arc < (K : Int) by omega), if_pos c, if_pos (show (l.getD j default).Arc < ((K + 1 : Nat) : Int) by omega), e]
      by_cases a1 : (al.getD K default).fr = u
      · by_cases a2 : (al.getD K default).to = u
        · simp only [if_pos a1, if_pos a2]; omega
        · simp only [if_pos a1, if_neg a2]; omega
      · by_cases a2 : (al.getD K default).to = u
        · simp only [if_neg a1, if_pos a2]; omega
        · simp only [if_neg a1, if_neg a2]; omega
    · rw [if_neg c]
      by_cases c2 : (l.getD j default).Arc < K
      · rw [if_pos c2, if_pos (show (l.getD j default).Arc < ((K + 1 : Nat) : Int) by omega)]; simp only [Int.add_zero]; omega
      · rw [if_neg c2, if_neg (show ¬ (l.getD j default).Arc < ((K + 1 : Nat) : Int) by omega)]; simp only [Int.add_zero]
def one (a b : Int) : Int := if a = b then 1 else 0
theorem exC_path {n : Net} {v w : Int} {l : List Hop} (h : PathP n v l w) (u : Int) : exC n.Arcs (fun i => cntH l i l.length) u n.Arcs.length = one w u - one v u := by
  have key : ∀ j, j ≤ l.length → exC n.Arcs (fun i => cntH l i j) u n.Arcs.length = one (if j = 0 then v else hto n (l.getD (j - 1) default)) u - one v u := by
    intro j
    induction j with
    | zero =>
      intro _
      have : ∀ K, exC n.Arcs (fun i => cntH l i 0) u K = 0 := by
        intro K
        induction K with
        | zero => rfl
        | succ K ih =>
          simp only [exC]
          rw [ih]
          simp only [cntH, ite_self]; rfl
      rw [this, if_pos rfl]; omega
    | succ j ih =>
      intro hj
      have hk := h.way.1 j (by omega)
      rw [exC_succ u hk.1, ih (by omega), if_pos hk.2, if_neg (show ¬ j + 1 = 0 by omega), Nat.add_sub_cancel]
      have hf : hfr n (l.getD j default) = if j = 0 then v else hto n (l.getD (j - 1) default) := by
        by_cases c : j = 0
        · rw [if_pos c, c]; exact h.start (by omega)
        · rw [if_neg c]
          have := h.way.2 (j - 1) (by omega)
          rw [show j - 1 + 1 = j by omega] at this
          exact this
      rw [← hf]
      unfold one sgn hfr hto
      by_cases hB : (l.getD j default).Back = true
      · simp only [hB, if_true]
        split <;> split <;> split <;> omega
      · simp only [hB, if_false, Bool.false_eq_true]
        split <;> split <;> split <;> omega
  rw [key _ (Nat.le_refl _), h.fin]
/-! ### back -/
def flipH (h : Hop) : Hop := ⟨h.Arc, !h.Back⟩
theorem hfr_flip (n : Net) (h : Hop) : hfr n (flipH h) = hto n h := by
  unfold hfr hto flipH
  cases hB : h.Back <;> simp
theorem hto_flip (n : Net) (h : Hop) : hto n (flipH h) = hfr n h := by
  unfold hfr hto flipH
  cases hB : h.Back <;> simp
def BackIs (l b : List Hop) : Prop := b.length = l.length ∧ ∀ q, q < l.length → b.getD q default = flipH (l.getD (l.length - 1 - q) default)
theorem BackIs.way {n : Net} {l b : List Hop} (h : BackIs l b) (hw : WayK n l l.length) : WayK n b b.length := by
  rw [h.1]
  refine ⟨fun i hi => ?_, fun i hi => ?_⟩
  · rw [h.2 i hi]; exact hw.1 _ (by omega)
  · rw [h.2 i (by omega), h.2 (i + 1) hi, hfr_flip, hto_flip]
    have := hw.2 (l.length - 1 - (i + 1)) (by omega)
    rw [show l.length - 1 - (i + 1) + 1 = l.length - 1 - i by omega] at this
    exact this.symm
theorem BackIs.cnt {l b : List Hop} (h : BackIs l b) (i : Int) : cntH b i b.length = -cntH l i l.length := by
  have key : ∀ q, q ≤ l.length → cntH b i q = cntH l i (l.length - q) - cntH l i l.length := by
    intro q
    induction q with
    | zero => intro _; simp only [cntH, Nat.sub_zero]; omega
    | succ q ih =>
      intro hq
      have e : l.length - q = (l.length - 1 - q) + 1 := by omega
      have ih := ih (by omega)
      rw [e] at ih
      simp only [cntH] at ih ⊢
      rw [ih, h.2 q (by omega), show l.length - (q + 1) = l.length - 1 - q by omega]
      simp only [flipH]
      by_cases c : (l.getD (l.length - 1 - q) default).Arc = i
      · by_cases hB : (l.getD (l.length - 1 - q) default).Back = true
        · simp only [c, hB, if_true, Bool.not_true, Bool.false_eq_true, if_false]; omega
        · simp only [c, if_true, Bool.eq_false_iff.2 hB, Bool.not_false, Bool.false_eq_true, if_false]; omega
      · simp only [c, if_false]; omega
  rw [h.1, key _ (Nat.le_refl _), Nat.sub_self]
  simp only [cntH]; omega
end Go.Acq
