/- Plain law: excesses, flows, preflows. -/
import Derived.Test.YtcdbemdogkmahaaAcqL02
import Derived.Test.YtcdbemdogkmahaaAcqMS3
namespace Go.Acq
open Go
set_option linter.unusedSimpArgs false
/-- what the first k arcs bring a vertex -/
def ex (al : List Arc) (f : List Int) (v : Int) : Nat → Int
  | 0 => 0
  | k + 1 => ex al f v k - (if (al.getD k default).fr = v then f.getD k 0 else 0) + (if (al.getD k default).to = v then f.getD k 0 else 0)
/-- all that the first k arcs bear -/
def tot (f : List Int) : Nat → Int
  | 0 => 0
  | k + 1 => tot f k + f.getD k 0
/-- what the first k arcs bring the vertices below j -/
def part (al : List Arc) (f : List Int) (j : Int) : Nat → Int
  | 0 => 0
  | k + 1 => part al f j k - (if (al.getD k default).fr < j then f.getD k 0 else 0) + (if (al.getD k default).to < j then f.getD k 0 else 0)
theorem ex_le {al : List Arc} {f : List Int} (v : Int) {n : Nat} (h : ∀ i, i < n → 0 ≤ f.getD i 0) : ∀ k, k ≤ n → -tot f k ≤ ex al f v k ∧ ex al f v k ≤ tot f k
  | 0, _ => by simp [ex, tot]
  | k + 1, hk => by
    have ih := ex_le (al := al) v h k (by omega)
    have := h k hk
    simp only [ex, tot]
    split <;> split <;> omega
theorem tot_mono {f : List Int} {n : Nat} (h : ∀ i, i < n → 0 ≤ f.getD i 0) : ∀ j k, j ≤ k → k ≤ n → tot f j ≤ tot f k
  | j, 0, hj, _ => by have : j = 0 := by omega
                      subst this; exact Int.le_refl _
  | j, k + 1, hj, hk => by
    rcases Nat.lt_or_ge j (k + 1) with h1 | h1
    · have := tot_mono h j k (by omega) (by omega)
      have := h k hk
      simp only [tot]; omega
    · rw [show j = k + 1 by omega]; exact Int.le_refl _
theorem sumL_tot {f : List Int} : ∀ (al : List Arc) (left : Int) (k : Nat), (sumL left (al.drop k)).isSome = true → 0 ≤ left → k ≤ al.length → (∀ i, i < al.length → 0 ≤ f.getD i 0 ∧ f.getD i 0 ≤ (al.getD i default).cap) → tot f al.length - tot f k ≤ left := by
  intro al left k
  induction hn : al.length - k generalizing left k with
  | zero =>
    intro _ h0 hk _
    rw [show k = al.length by omega]; omega
  | succ n ih =>
    intro hs h0 hk hf
    have hkl : k < al.length := by omega
    rw [sumL_drop hkl] at hs
    by_cases hc : (al.getD k default).cap < 0 ∨ left < (al.getD k default).cap
    · rw [if_pos hc] at hs; cases hs
    · rw [if_neg hc] at hs
      have := ih (left - (al.getD k default).cap) (k + 1) (by omega) hs (by omega) (by omega) hf
      have hfk := hf k hkl
      simp only [tot] at this
      omega
/-- the numbers are within the capacities of a right net -/
def FwithinP (n : Net) (f : List Int) : Prop := checkE n.N n.S n.T n.Arcs = 0 ∧ f.length = n.Arcs.length ∧ ∀ i, i < n.Arcs.length → 0 ≤ f.getD i 0 ∧ f.getD i 0 ≤ (n.Arcs.getD i default).cap
theorem FwithinP.tot {n : Net} {f : List Int} (h : FwithinP n f) : ∀ k, k ≤ n.Arcs.length → 0 ≤ tot f k ∧ tot f k ≤ 4611686018427387904 := by
  intro k hk
  have hz := checkE_zero h.1
  have h1 := sumL_tot (f := f) n.Arcs 4611686018427387904 0 (by simpa using hz.2.2.2.2.2) (by omega) (by omega) h.2.2
  have h2 := tot_mono (fun i hi => (h.2.2 i hi).1) k n.Arcs.length hk (Nat.le_refl _)
  have h3 := tot_mono (fun i hi => (h.2.2 i hi).1) 0 k (by omega) hk
  simp only [Acq.tot] at h1 h3
  omega
theorem s_FWithin {n : Net} {f : List Int} (hl : lenok n.Arcs.length) : Ok (m_flow_Within n f) (fun b => b = true ↔ FwithinP n f) := by
  unfold m_flow_Within
  refine Ok.bind.2 (ok_of (s_Check n hl) (Ok.ite.2 ⟨fun h => Ok.some.2 ⟨fun h2 => (by cases h2), fun h2 => absurd h2.1 h⟩, fun h1 => Ok.ite.2 ⟨fun h => Ok.some.2 ⟨fun h2 => (by cases h2), fun h2 => absurd h2.2.1 (by omega)⟩, fun h2 => Ok.bind.2 ?_⟩⟩))
  have hz := checkE_zero (Classical.not_not.1 h1)
  refine Ok.lp (fun x => ∃ k : Nat, x = k ∧ k ≤ n.Arcs.length ∧ ∀ i, i < k → 0 ≤ f.getD i 0 ∧ f.getD i 0 ≤ (n.Arcs.getD i default).cap) (fun x => (n.Arcs.length - x).toNat) ⟨0, rfl, by omega, fun i hi => by omega⟩ (by unfold FUEL; omega) ?_
  rintro x ⟨k, rfl, hk, h3⟩ P next exit
  unfold m_flow_Within_s1
  simp only [Int.toNat_natCast]
  refine Ok.ite.2 ⟨fun hx => ?_, fun hx => ?_⟩
  · refine Ok.gd.2 ⟨(by (first | omega | (constructor <;> omega) | (simp only [List.length_set, List.length_replicate]; omega) | (simp only [List.length_set, List.length_replicate]; constructor <;> omega))), Ok.gd.2 ⟨(by (first | omega | (constructor <;> omega) | (simp only [List.length_set, List.length_replicate]; omega) | (simp only [List.length_set, List.length_replicate]; constructor <;> omega))), Ok.ite.2 ⟨fun h => Ok.some.2 (exit _ (Ok.some.2 ⟨fun h2 => (by cases h2), fun h2 => by have := h2.2.2 k (by omega); omega⟩)), fun h4 => Ok.gd.2 ⟨(by (first | omega | (constructor <;> omega) | (simp only [List.length_set, List.length_replicate]; omega) | (simp only [List.length_set, List.length_replicate]; constructor <;> omega))), Ok.ite.2 ⟨fun h => Ok.some.2 (exit _ (Ok.some.2 ⟨fun h2 => (by cases h2), fun h2 => by have := h2.2.2 k (by omega); omega⟩)), fun h5 => Ok.gd.2 ⟨(by (first | omega | (constructor <;> omega) | (simp only [List.length_set, List.length_replicate]; omega) | (simp only [List.length_set, List.length_replicate]; constructor <;> omega))), Ok.some.2 (next _ ⟨k + 1, by simp, by omega, fun i hi => ?_⟩ (by omega))⟩⟩⟩⟩⟩⟩
    rcases Nat.lt_or_ge i k with h | h
    · exact h3 i h
    · rw [show i = k by omega]; omega
  · refine Ok.some.2 (exit _ ?_)
    unfold m_flow_Within_j2
    exact Ok.some.2 ⟨fun _ => ⟨Classical.not_not.1 h1, by omega, fun i hi => h3 i (by omega)⟩, fun _ => rfl⟩
theorem s_Excess {n : Net} {f : List Int} (hl : lenok n.Arcs.length) : Ok (m_flow_Excess n f) (fun r => (FwithinP n f ∧ r.2 = 0 ∧ r.1.length = n.N.toNat ∧ ∀ v : Nat, v < n.N.toNat → r.1.getD v 0 = ex n.Arcs f v n.Arcs.length) ∨ (¬ FwithinP n f ∧ r = ([], 20))) := by
  unfold m_flow_Excess
  refine Ok.bind.2 (Ok.mono (s_FWithin hl) fun b hb => Ok.ite.2 ⟨fun h => Ok.some.2 (.inr ⟨fun h2 => (by rw [hb.2 h2] at h; cases h), rfl⟩), fun h => ?_⟩)
  have hw : FwithinP n f := hb.1 (by cases b; exact absurd rfl h; rfl)
  have hz := checkE_zero hw.1
  obtain ⟨m, hm⟩ : ∃ m : Nat, n.N = m := ⟨n.N.toNat, by omega⟩
  have he : endsOK m n.Arcs := endsOK_of (by rw [← hm]; exact hz.2.2.2.1)
  have hfl := hw.2.1
  refine Ok.gd.2 ⟨(by (first | omega | (constructor <;> omega) | (simp only [List.length_set, List.length_replicate]; omega) | (simp only [List.length_set, List.length_replicate]; constructor <;> omega))), Ok.bind.2 ?_⟩
  rw [hm]
  simp only [Int.toNat_natCast]
  refine Ok.lp (fun s => ∃ k : Nat, s.2 = k ∧ k ≤ n.Arcs.length ∧ s.1.length = m ∧ ∀ v : Nat, v < m → s.1.getD v 0 = ex n.Arcs f v k) (fun s => (n.Arcs.length - s.2).toNat) ⟨0, rfl, by omega, List.length_replicate, fun v _ => by rw [getD_replicate]; rfl⟩ (by unfold FUEL; simp only; omega) ?_
  rintro ⟨xs, x⟩ ⟨k, h1, hk, h3, h4⟩ P next exit
  simp only at h1 h3 h4 next ⊢
  subst h1
  unfold m_flow_Excess_s1
  simp only [Int.toNat_natCast]
  refine Ok.ite.2 ⟨fun hx => ?_, fun hx => ?_⟩
  · have hkl : k < n.Arcs.length := by omega
    have e0 := he k hkl false
    have e1 := he k hkl true
    simp only [vtx, Bool.false_eq_true, if_false, if_true] at e0 e1
    obtain ⟨p, hp⟩ : ∃ p : Nat, (n.Arcs.getD k default).fr = p := ⟨(n.Arcs.getD k default).fr.toNat, by omega⟩
    obtain ⟨q, hq⟩ : ∃ q : Nat, (n.Arcs.getD k default).to = q := ⟨(n.Arcs.getD k default).to.toNat, by omega⟩
    have hfk := hw.2.2 k hkl
    have b0 := ex_le (al := n.Arcs) (f := f) (p : Int) (fun i hi => (hw.2.2 i hi).1) k hk
    have b1 := ex_le (al := n.Arcs) (f := f) (q : Int) (fun i hi => (hw.2.2 i hi).1) k hk
    have t0 := hw.tot k hk
    have t1 := hw.tot (k + 1) hkl
    simp only [tot] at t1
    rw [hp] at e0
    rw [hq] at e1
    have v0 := h4 p (by omega)
    have v1 := h4 q (by omega)
    simp only [hp, hq, Int.toNat_natCast, v0, lset, List.length_set, h3]
    refine Ok.gd.2 ⟨(by (first | omega | (constructor <;> omega) | (simp only [List.length_set, List.length_replicate]; omega) | (simp only [List.length_set, List.length_replicate]; constructor <;> omega))), Ok.gd.2 ⟨(by (first | omega | (constructor <;> omega) | (simp only [List.length_set, List.length_replicate]; omega) | (simp only [List.length_set, List.length_replicate]; constructor <;> omega))), Ok.gd.2 ⟨(by (first | omega | (constructor <;> omega) | (simp only [List.length_set, List.length_replicate]; omega) | (simp only [List.length_set, List.length_replicate]; constructor <;> omega))), Ok.gd.2 ⟨(by (first | omega | (constructor <;> omega) | (simp only [List.length_set, List.length_replicate]; omega) | (simp only [List.length_set, List.length_replicate]; constructor <;> omega))), Ok.gd.2 ⟨(by (first | omega | (constructor <;> omega) | (simp only [List.length_set, List.length_replicate]; omega) | (simp only [List.length_set, List.length_replicate]; constructor <;> omega))), Ok.gd.2 ⟨(by (first | omega | (constructor <;> omega) | (simp only [List.length_set, List.length_replicate]; omega) | (simp only [List.length_set, List.length_replicate]; constructor <;> omega))), Ok.gd.2 ⟨(by (first | omega | (constructor <;> omega) | (simp only [List.length_set, List.length_replicate]; omega) | (simp only [List.length_set, List.length_replicate]; constructor <;> omega))), Ok.gd.2 ⟨by split <;> constructor <;> omega, Ok.gd.2 ⟨(by (first | omega | (constructor <;> omega) | (simp only [List.length_set, List.length_replicate]; omega) | (simp only [List.length_set, List.length_replicate]; constructor <;> omega))), Ok.gd.2 ⟨(by (first | omega | (constructor <;> omega) | (simp only [List.length_set, List.length_replicate]; omega) | (simp only [List.length_set, List.length_replicate]; constructor <;> omega))), Ok.some.2 (next _ ⟨k + 1, by simp, by omega, by simp [h3], fun v hv => ?_⟩ (by simp only; omega))⟩⟩⟩⟩⟩⟩⟩⟩⟩⟩
    simp only [lset, List.length_set, h3, ex, hp, hq]
    rw [h4 v hv]
    by_cases c1 : p = v
    · subst c1
      by_cases c2 : q = p
      · subst c2
        simp only [true_and, if_true]
        rw [if_pos (by omega)]; simp [show q < m by omega]
      · rw [if_neg (fun h => c2 h.1), if_pos ⟨rfl, by omega⟩, if_pos rfl, if_neg (by omega)]; omega
    · by_cases c2 : q = v
      · subst c2
        rw [if_pos ⟨rfl, by omega⟩, if_neg (fun h => c1 h.1), if_neg (by omega), if_pos rfl, v1]; omega
      · rw [if_neg (fun h => c2 h.1), if_neg (fun h => c1 h.1), if_neg (by omega), if_neg (by omega)]; omega
  · refine Ok.some.2 (exit _ ?_)
    unfold m_flow_Excess_j2
    rw [show k = n.Arcs.length by omega] at h4
    exact Ok.some.2 (.inl ⟨hw, rfl, h3, h4⟩)
theorem s_Contains {s : List Int} {v : Int} (hl : lenok s.length) : m_slices_Contains_int s v = some (s.contains v) := by
  refine ok_eq ?_
  unfold m_slices_Contains_int m_slices_Index_int
  refine Ok.bind.2 (Ok.bind.2 (Ok.lp (fun x => ∃ k : Nat, x = k ∧ k ≤ s.length ∧ ∀ j, j < k → s.getD j 0 ≠ v) (fun x => (s.length - x).toNat) ⟨0, rfl, by omega, fun j hj => by omega⟩ (by unfold FUEL; omega) ?_))
  rintro x ⟨k, rfl, g2, g3⟩ P next exit
  unfold m_slices_Index_int_s1
  simp only [Int.toNat_natCast]
  refine Ok.ite.2 ⟨fun hx => ?_, fun hx => ?_⟩
  · refine Ok.gd.2 ⟨(by (first | omega | (constructor <;> omega) | (simp only [List.length_set, List.length_replicate]; omega) | (simp only [List.length_set, List.length_replicate]; constructor <;> omega))), Ok.ite.2 ⟨fun h => Ok.some.2 (exit _ (Ok.some.2 (Ok.some.2 ?_))), fun h => Ok.gd.2 ⟨(by (first | omega | (constructor <;> omega) | (simp only [List.length_set, List.length_replicate]; omega) | (simp only [List.length_set, List.length_replicate]; constructor <;> omega))), Ok.some.2 (next _ ⟨k + 1, by simp, by omega, fun j hj => ?_⟩ (by omega))⟩⟩⟩
    · rw [show s.contains v = true from List.contains_iff_mem.2 (by rw [h]; exact getD_mem (by omega) 0)]
      exact decide_eq_true (by omega)
    · rcases Nat.lt_or_ge j k with h1 | h1
      · exact g3 j h1
      · rw [show j = k by omega]; exact fun e => h e.symm
  · refine Ok.some.2 (exit _ ?_)
    unfold m_slices_Index_int_j2
    refine Ok.some.2 (Ok.some.2 ?_)
    have : s.contains v = false := by
      rw [Bool.eq_false_iff]
      intro hc
      obtain ⟨j, hj, e⟩ := List.mem_iff_getElem.1 (List.contains_iff_mem.1 hc)
      have := g3 j (by omega)
      rw [List.getD_eq_getElem?_getD, List.getElem?_eq_getElem hj] at this
      exact this e
    rw [this]
    exact decide_eq_false (by omega)
theorem bool_of_not {b : Bool} (h : ¬(!b) = true) : b = true := by cases b; exact absurd rfl h; rfl
theorem mem_of_not {l : List Int} {x : Int} (h : ¬(!l.contains x) = true) : x ∈ l := List.contains_iff_mem.1 (bool_of_not h)
/-- is something so of all vertices but some? -/
def AllP (n : Net) (f : List Int) (so : Int → Prop) (but : List Int) : Prop := FwithinP n f ∧ ∀ v : Nat, v < n.N.toNat → so (ex n.Arcs f v n.Arcs.length) ∨ (v : Int) ∈ but
theorem s_Right {n : Net} {f : List Int} (hl : lenok n.Arcs.length) : Ok (m_flow_Right n f) (fun b => b = true ↔ AllP n f (fun x => x = 0) [n.S, n.T]) := by
  unfold m_flow_Right m_flow_all_Right_1
  refine Ok.bind.2 (Ok.mono (Q := fun b => b = true ↔ AllP n f (fun x => x = 0) [n.S, n.T]) ?_ fun b hb => Ok.some.2 hb)
  refine Ok.bind.2 (Ok.mono (s_Excess hl) ?_)
  rintro ⟨l, e⟩ hle
  refine Ok.bind.2 (Ok.lp (fun x => ∃ k : Nat, x = k ∧ k ≤ l.length ∧ ∀ v, v < k → l.getD v 0 = 0 ∨ (v : Int) ∈ [n.S, n.T]) (fun x => (l.length - x).toNat) ⟨0, rfl, by omega, fun j hj => by omega⟩ ?_ ?_)
  · rcases hle with ⟨hw, -, h2, -⟩ | ⟨-, h2⟩
    · have := checkE_zero hw.1; simp only at h2; unfold FUEL; omega
    · injection h2 with h2 h3; subst h2; unfold FUEL; simp
  rintro x ⟨k, rfl, g2, g3⟩ P next exit
  unfold m_flow_all_Right_1_s1 m_flow_Right_1
  simp only [Int.toNat_natCast]
  have hlen : l.length ≤ 4096 := by
    rcases hle with ⟨hw, -, h2, -⟩ | ⟨-, h2⟩
    · have := checkE_zero hw.1; simp only at h2; omega
    · injection h2 with h2 h3; subst h2; simp
  refine Ok.ite.2 ⟨fun hx => ?_, fun hx => ?_⟩
  · refine Ok.gd.2 ⟨(by (first | omega | (constructor <;> omega) | (simp only [List.length_set, List.length_replicate]; omega) | (simp only [List.length_set, List.length_replicate]; constructor <;> omega))), Ok.bind.2 (Ok.some.2 (Ok.ite.2 ⟨fun h => Ok.bind.2 (ok_of (s_Contains (by simp)) (Ok.ite.2 ⟨fun h2 => Ok.some.2 (exit _ (Ok.some.2 ⟨fun h3 => (by cases h3), fun h3 => ?_⟩)), fun h2 => Ok.gd.2 ⟨(by (first | omega | (constructor <;> omega) | (simp only [List.length_set, List.length_replicate]; omega) | (simp only [List.length_set, List.length_replicate]; constructor <;> omega))), Ok.some.2 (next _ ⟨k + 1, by simp, by omega, fun j hj => ?_⟩ (by omega))⟩⟩)), fun h => Ok.gd.2 ⟨(by (first | omega | (constructor <;> omega) | (simp only [List.length_set, List.length_replicate]; omega) | (simp only [List.length_set, List.length_replicate]; constructor <;> omega))), Ok.some.2 (next _ ⟨k + 1, by simp, by omega, fun j hj => ?_⟩ (by omega))⟩⟩))⟩
    · exfalso
      rcases hle with ⟨hw, -, h5, h6⟩ | ⟨h5, -⟩
      · simp only at h5 h6
        rcases h3.2 k (by omega) with h7 | h7
        · rw [← h6 k (by omega)] at h7; rw [decide_eq_true h7] at h; cases h
        · rw [List.contains_iff_mem.2 h7] at h2; cases h2
      · exact h5 h3.1
    · rcases Nat.lt_or_ge j k with h1 | h1
      · exact g3 j h1
      · rw [show j = k by omega]; right; exact mem_of_not h2
    · rcases Nat.lt_or_ge j k with h1 | h1
      · exact g3 j h1
      · rw [show j = k by omega]; left; exact of_decide_eq_true (bool_of_not h)
  · refine Ok.some.2 (exit _ ?_)
    unfold m_flow_all_Right_1_j2
    refine Ok.some.2 ?_
    rcases hle with ⟨hw, h4, h5, h6⟩ | ⟨h5, h6⟩
    · simp only at h4 h5 h6
      refine ⟨fun _ => ⟨hw, fun v hv => ?_⟩, fun _ => decide_eq_true h4⟩
      rw [← h6 v hv]; exact g3 v (by omega)
    · injection h6 with h6 h7
      simp only [h7]
      exact ⟨fun h => (by cases h), fun h => absurd h.1 h5⟩
theorem s_Value {n : Net} {f : List Int} (hl : lenok n.Arcs.length) : Ok (m_flow_Value n f) (fun r => (AllP n f (fun x => x = 0) [n.S, n.T] ∧ r = (ex n.Arcs f n.T n.Arcs.length, 0)) ∨ (¬ AllP n f (fun x => x = 0) [n.S, n.T] ∧ r = (0, 20))) := by
  unfold m_flow_Value
  refine Ok.bind.2 (Ok.mono (s_Right hl) fun b hb => Ok.ite.2 ⟨fun h => Ok.some.2 (.inr ⟨fun h2 => (by rw [hb.2 h2] at h; cases h), rfl⟩), fun h => ?_⟩)
  have hw := hb.1 (by cases b; exact absurd rfl h; rfl)
  refine Ok.bind.2 (Ok.mono (s_Excess hl) ?_)
  rintro ⟨l, e⟩ (⟨-, h2, h3, h4⟩ | ⟨h2, -⟩)
  · simp only at h2 h3 h4 ⊢
    have hz := checkE_zero hw.1.1
    have hT := of_decide_eq_true hz.2.2.1.2.1
    refine Ok.gd.2 ⟨(by (first | omega | (constructor <;> omega) | (simp only [List.length_set, List.length_replicate]; omega) | (simp only [List.length_set, List.length_replicate]; constructor <;> omega))), Ok.some.2 (.inl ⟨hw, ?_⟩)⟩
    rw [h4 n.T.toNat (by omega), h2, Int.toNat_of_nonneg hT.1]
  · exact absurd hw.1 h2
end Go.Acq
