/- Plain law: copies; a row of one, again and again. -/
import Derived.Test.YtcdbemdogkmahaaAcqL02
namespace Go.Acq
open Go
set_option linter.unusedSimpArgs false
theorem getD_appL {α : Type} {xs ys : List α} {d : α} {i : Nat} (h : i < xs.length) : (xs ++ ys).getD i d = xs.getD i d := by
  rw [List.getD_eq_getElem?_getD, List.getElem?_append_left h, List.getD_eq_getElem?_getD]
theorem getD_appR {α : Type} {xs ys : List α} {d : α} {i : Nat} (h : xs.length ≤ i) : (xs ++ ys).getD i d = ys.getD (i - xs.length) d := by
  rw [List.getD_eq_getElem?_getD, List.getElem?_append_right h, List.getD_eq_getElem?_getD]
theorem getD_repl {α : Type} {n i : Nat} {v d : α} (h : i < n) : (List.replicate n v).getD i d = v := by
  rw [List.getD_eq_getElem?_getD, List.getElem?_replicate, if_pos h]; rfl
theorem getD_take2 {α : Type} {xs : List α} {d : α} {i k : Nat} (h : i < k) : (xs.take k).getD i d = xs.getD i d := by
  simp [List.getD_eq_getElem?_getD, List.getElem?_take, h]
theorem getD_drop2 {α : Type} {xs : List α} {d : α} {i k : Nat} : (xs.drop k).getD i d = xs.getD (k + i) d := by
  simp [List.getD_eq_getElem?_getD]
theorem cpy_getD {α : Type} {xs ys : List α} {d : α} {i : Nat} (h : i < xs.length) : (cpy xs ys).getD i d = if i < ys.length then ys.getD i d else xs.getD i d := by
  unfold cpy
  by_cases c : i < ys.length
  · rw [if_pos c, getD_appL (by rw [List.length_take]; omega), getD_take2 (by omega)]
  · rw [if_neg c, getD_appR (by rw [List.length_take]; omega), getD_drop2, List.length_take]
    congr 1; omega
theorem fdiv0 {y : Int} (h : 0 ≤ y) (h2 : y < 4294967296) : Int.fdiv y (2 ^ 32) = 0 := by
  rw [Int.fdiv_eq_ediv_of_nonneg _ (by decide)]
  exact Int.ediv_eq_zero_of_lt h (by omega)
/-- one of two factors is 1 -/
theorem s_Mul1 {m : Int → Int → Option (Int × Int)} {y : Int} (h : 0 ≤ y) (h2 : y < 4294967296)
    (hm : m = fun x0 y1 =>
      gd (u64ok x0) <| gd (u64ok y1) <| gd (u64ok ((x0 % 4294967296) * (y1 % 4294967296))) <| gd (u64ok ((Int.fdiv x0 (2 ^ 32)) * (y1 % 4294967296))) <|
      gd (u64ok (((Int.fdiv x0 (2 ^ 32)) * (y1 % 4294967296)) + (Int.fdiv ((x0 % 4294967296) * (y1 % 4294967296)) (2 ^ 32)))) <|
      gd (u64ok (((Int.fdiv x0 (2 ^ 32)) * (y1 % 4294967296)) + (Int.fdiv ((x0 % 4294967296) * (y1 % 4294967296)) (2 ^ 32)))) <|
      gd (u64ok ((x0 % 4294967296) * (Int.fdiv y1 (2 ^ 32)))) <|
      gd (u64ok (((((Int.fdiv x0 (2 ^ 32)) * (y1 % 4294967296)) + (Int.fdiv ((x0 % 4294967296) * (y1 % 4294967296)) (2 ^ 32))) % 4294967296) + ((x0 % 4294967296) * (Int.fdiv y1 (2 ^ 32))))) <|
      gd (u64ok ((Int.fdiv x0 (2 ^ 32)) * (Int.fdiv y1 (2 ^ 32)))) <|
      gd (u64ok (((Int.fdiv x0 (2 ^ 32)) * (Int.fdiv y1 (2 ^ 32))) + (Int.fdiv (((Int.fdiv x0 (2 ^ 32)) * (y1 % 4294967296)) + (Int.fdiv ((x0 % 4294967296) * (y1 % 4294967296)) (2 ^ 32))) (2 ^ 32)))) <|
      gd (u64ok ((((Int.fdiv x0 (2 ^ 32)) * (Int.fdiv y1 (2 ^ 32))) + (Int.fdiv (((Int.fdiv x0 (2 ^ 32)) * (y1 % 4294967296)) + (Int.fdiv ((x0 % 4294967296) * (y1 % 4294967296)) (2 ^ 32))) (2 ^ 32))) + (Int.fdiv (((((Int.fdiv x0 (2 ^ 32)) * (y1 % 4294967296)) + (Int.fdiv ((x0 % 4294967296) * (y1 % 4294967296)) (2 ^ 32))) % 4294967296) + ((x0 % 4294967296) * (Int.fdiv y1 (2 ^ 32)))) (2 ^ 32)))) <|
      gd (u64ok (x0 * y1)) <|
      some (((((Int.fdiv x0 (2 ^ 32)) * (Int.fdiv y1 (2 ^ 32))) + (Int.fdiv (((Int.fdiv x0 (2 ^ 32)) * (y1 % 4294967296)) + (Int.fdiv ((x0 % 4294967296) * (y1 % 4294967296)) (2 ^ 32))) (2 ^ 32))) + (Int.fdiv (((((Int.fdiv x0 (2 ^ 32)) * (y1 % 4294967296)) + (Int.fdiv ((x0 % 4294967296) * (y1 % 4294967296)) (2 ^ 32))) % 4294967296) + ((x0 % 4294967296) * (Int.fdiv y1 (2 ^ 32)))) (2 ^ 32))), (x0 * y1))) : m 1 y = some (0, y) := by
  subst hm
  have e1 : Int.fdiv 1 (2 ^ 32) = 0 := by decide
  have e2 : Int.fdiv y (2 ^ 32) = 0 := fdiv0 h h2
  have e3 : y % 4294967296 = y := Int.emod_eq_of_lt h h2
  have e4 : (1 : Int) % 4294967296 = 1 := by decide
  have e5 : Int.fdiv 0 (2 ^ 32) = 0 := by decide
  simp only [e1, e2, e3, e4, e5, Int.one_mul, Int.zero_mul, Int.mul_zero, Int.zero_add, Int.add_zero, Int.zero_emod]
  repeat rw [gd_pos (by constructor <;> omega)]
/-- the doubling -/
theorem s_double {v : Int} {n : Nat} {step : List Int → Int → Option ((List Int × Int) ⊕ (List Int))} (hn : n ≤ 4611686018427387904)
    (hs : step = fun xs k => if k < (xs.length : Int) then (gd (0 ≤ k ∧ k ≤ (xs.length : Int)) <| gd (0 ≤ k ∧ k ≤ (xs.length : Int)) <|
      gd (i64ok (k + ((min (xs.drop k.toNat).length (xs.take k.toNat).length : Nat) : Int))) <|
      some (.inl ((xs.take k.toNat ++ cpy (xs.drop k.toNat) (xs.take k.toNat)), (k + ((min (xs.drop k.toNat).length (xs.take k.toNat).length : Nat) : Int))))) else some (.inr xs)) :
    Ok (loopM (fun s => step s.1 s.2) FUEL ((cpy (List.replicate n (0 : Int)) [v]), ((min (List.replicate n (0 : Int)).length [v].length : Nat) : Int))) (fun r => r = List.replicate n v) := by
  subst hs
  refine Ok.lp (fun s => ∃ k : Nat, s.2 = k ∧ k ≤ n ∧ (0 < n → 0 < k) ∧ s.1.length = n ∧ ∀ i, i < k → s.1.getD i 0 = v) (fun s => (n - s.2).toNat) ⟨min n 1, by simp, by omega, by omega, cpy_len (by simp), fun i hi => ?_⟩ (by unfold FUEL; simp only [List.length_replicate, List.length_singleton]; omega) ?_
  · rw [cpy_getD (by simp; omega), if_pos (by simp; omega), show i = 0 by omega]; rfl
  rintro ⟨xs, x⟩ ⟨k, h1, hk, hk0, hl, hv⟩ P next exit
  simp only at h1 hl hv next ⊢
  subst h1
  simp only [Int.toNat_natCast, List.length_drop, List.length_take, hl]
  refine Ok.ite.2 ⟨fun hx => Ok.gd.2 ⟨(by (first | omega | (constructor <;> omega) | (simp only [List.length_set, List.length_replicate]; omega) | (simp only [List.length_set, List.length_replicate]; constructor <;> omega))), Ok.gd.2 ⟨(by (first | omega | (constructor <;> omega) | (simp only [List.length_set, List.length_replicate]; omega) | (simp only [List.length_set, List.length_replicate]; constructor <;> omega))), Ok.gd.2 ⟨by constructor <;> omega, Ok.some.2 (next _ ⟨k + min (n - k) (min k n), by simp, by omega, by omega, ?_, fun i hi => ?_⟩ (by simp only; omega))⟩⟩⟩, fun hx => Ok.some.2 (exit _ ?_)⟩
  · simp only
    rw [List.length_append, cpy_len (n := n - k) (by rw [List.length_drop, hl]), List.length_take]; omega
  · simp only
    rcases Nat.lt_or_ge i k with h | h
    · rw [getD_appL (by rw [List.length_take]; omega), getD_take2 h]; exact hv i h
    · have e : (xs.take k).length = k := by rw [List.length_take]; omega
      rw [getD_appR (by omega), e, cpy_getD (by rw [List.length_drop]; omega), e, if_pos (by omega), getD_take2 (by omega)]
      exact hv _ (by omega)
  · exact eq_of_getD 0 (by simp [hl]) fun i hi => by
      rw [hl] at hi
      rw [hv i (by omega), List.getD_eq_getElem?_getD, List.getElem?_replicate, if_pos hi]; rfl
end Go.Acq
