/- Plain law: what the models of low and net give. -/
import Derived.Test.YtcdbemdogkmahaaAcqMS2
import Derived.Test.YtcdbemdogkmahaaAcqTurnLaw
namespace Go.Acq
open Go
theorem ok_eq {α : Type} {m : Option α} {v : α} (h : Ok m (fun a => a = v)) : m = some v := by obtain ⟨a, h1, h2⟩ := h; rw [h1, h2]
theorem ok_of {α : Type} {m : Option α} {v : α} {Q : α → Prop} (h : m = some v) (q : Q v) : Ok m Q := ⟨v, h, q⟩
/-- a list's length that fits -/
abbrev lenok (n : Nat) : Prop := n ≤ 9223372036854775807
theorem s_Among {x n : Int} (h1 : n ≤ 4611686018427387904) : m_acequialow_Among x n = some (among x n) := by
  unfold m_acequialow_Among among
  by_cases h : n < 1
  · rw [if_pos h, if_pos h]
  · have a1 := Int.tmod_lt_of_pos x (show 0 < n by omega)
    have a2 := neg_lt_tmod x (show 0 < n by omega)
    rw [if_neg h, if_neg h, gd_pos (by omega), gd_pos (by constructor <;> omega), gd_pos (by omega)]
/-- what a search for a bad one gives -/
theorem s_vertex (n : Net) (v : Int) : m_net_vertex n v = some (vertexB n.N v) := by
  unfold m_net_vertex vertexB
  by_cases h : 0 ≤ v <;> simp [h]
theorem s_rules4 (n : Net) (a : Arc) : m_net_rules_4 n a = some (endsB n.N a) := by
  unfold m_net_rules_4 endsB
  rw [s_vertex, s_vertex]
  simp only [Option.bind_some]
  cases vertexB n.N a.fr <;> simp
theorem s_of4 (n : Net) (h : lenok n.Arcs.length) : m_net_of_1_rules_4 n = some (n.Arcs.all (endsB n.N)) := by
  refine ok_eq ?_
  unfold m_net_of_1_rules_4 m_slices_ContainsFunc_Arc_of_1_1_rules_4 m_slices_IndexFunc_Arc_of_1_1_rules_4
  refine Ok.bind.2 (Ok.bind.2 (Ok.bind.2 (Ok.loop (fun x => 0 ≤ x ∧ x ≤ n.Arcs.length ∧ ∀ i, i < x.toNat → endsB n.N (n.Arcs.getD i default) = true) (fun x => (n.Arcs.length - x).toNat) ⟨by omega, by omega, fun i hi => by omega⟩ (by unfold FUEL; omega) ?_)))
  rintro x ⟨h0, h1, h2⟩
  unfold m_slices_IndexFunc_Arc_of_1_1_rules_4_s1 m_net_of_1_1_rules_4
  refine Ok.ite.2 ⟨fun hx => ?_, fun hx => ?_⟩
  · refine Ok.gd.2 ⟨(by (first | omega | (constructor <;> omega) | (simp only [List.length_set, List.length_replicate]; omega) | (simp only [List.length_set, List.length_replicate]; constructor <;> omega))), Ok.bind.2 (Ok.bind.2 (ok_of (s_rules4 _ _) (Ok.some.2 (Ok.ite.2 ⟨fun hb => ?_, fun hb => ?_⟩))))⟩
    · refine Ok.some.2 (Ok.some.2 (Ok.some.2 (Ok.some.2 ?_)))
      simp only [h0, decide_true, Bool.not_true]
      refine Eq.symm (Bool.eq_false_iff.2 fun hall => ?_)
      have := List.all_eq_true.1 hall _ (getD_mem (show x.toNat < n.Arcs.length by omega) default)
      rw [this] at hb; cases hb
    · refine Ok.gd.2 ⟨(by (first | omega | (constructor <;> omega) | (simp only [List.length_set, List.length_replicate]; omega) | (simp only [List.length_set, List.length_replicate]; constructor <;> omega))), Ok.some.2 ⟨⟨by omega, by omega, fun i hi => ?_⟩, by omega⟩⟩
      rcases Nat.lt_or_ge i x.toNat with h3 | h3
      · exact h2 i h3
      · rw [show i = x.toNat by omega]; simpa using hb
  · refine Ok.some.2 (Ok.some.2 (Ok.some.2 (Ok.some.2 ?_)))
    refine Eq.symm (List.all_eq_true.2 fun a ha => ?_)
    obtain ⟨i, hi, rfl⟩ := List.getElem_of_mem ha
    have := h2 i (by omega)
    rwa [List.getD_eq_getElem?_getD, List.getElem?_eq_getElem hi] at this
theorem s_of5 (n : Net) (h : lenok n.Arcs.length) : m_net_of_1_rules_5 n = some (n.Arcs.all capB) := by
  refine ok_eq ?_
  unfold m_net_of_1_rules_5 m_slices_ContainsFunc_Arc_of_1_1_rules_5 m_slices_IndexFunc_Arc_of_1_1_rules_5
  refine Ok.bind.2 (Ok.bind.2 (Ok.bind.2 (Ok.loop (fun x => 0 ≤ x ∧ x ≤ n.Arcs.length ∧ ∀ i, i < x.toNat → capB (n.Arcs.getD i default) = true) (fun x => (n.Arcs.length - x).toNat) ⟨by omega, by omega, fun i hi => by omega⟩ (by unfold FUEL; omega) ?_)))
  rintro x ⟨h0, h1, h2⟩
  unfold m_slices_IndexFunc_Arc_of_1_1_rules_5_s1 m_net_of_1_1_rules_5 m_net_rules_5
  refine Ok.ite.2 ⟨fun hx => ?_, fun hx => ?_⟩
  · refine Ok.gd.2 ⟨(by (first | omega | (constructor <;> omega) | (simp only [List.length_set, List.length_replicate]; omega) | (simp only [List.length_set, List.length_replicate]; constructor <;> omega))), Ok.bind.2 (Ok.bind.2 (Ok.some.2 (Ok.some.2 (Ok.ite.2 ⟨fun hb => ?_, fun hb => ?_⟩))))⟩
    · refine Ok.some.2 (Ok.some.2 (Ok.some.2 (Ok.some.2 ?_)))
      simp only [h0, decide_true, Bool.not_true]
      refine Eq.symm (Bool.eq_false_iff.2 fun hall => ?_)
      have := List.all_eq_true.1 hall _ (getD_mem (show x.toNat < n.Arcs.length by omega) default)
      simp only [capB] at this
      rw [this] at hb; cases hb
    · refine Ok.gd.2 ⟨(by (first | omega | (constructor <;> omega) | (simp only [List.length_set, List.length_replicate]; omega) | (simp only [List.length_set, List.length_replicate]; constructor <;> omega))), Ok.some.2 ⟨⟨by omega, by omega, fun i hi => ?_⟩, by omega⟩⟩
      rcases Nat.lt_or_ge i x.toNat with h3 | h3
      · exact h2 i h3
      · rw [show i = x.toNat by omega]; simpa [capB] using hb
  · refine Ok.some.2 (Ok.some.2 (Ok.some.2 (Ok.some.2 ?_)))
    refine Eq.symm (List.all_eq_true.2 fun a ha => ?_)
    obtain ⟨i, hi, rfl⟩ := List.getElem_of_mem ha
    have := h2 i (by omega)
    rwa [List.getD_eq_getElem?_getD, List.getElem?_eq_getElem hi] at this
theorem s_Sum (n : Net) (h : lenok n.Arcs.length) : m_net_Sum n = some (match sumL 4611686018427387904 n.Arcs with | some l => (4611686018427387904 - l, true) | none => (0, false)) := by
  refine ok_eq ?_
  unfold m_net_Sum
  refine Ok.bind.2 (Ok.loop (fun s => 0 ≤ s.2 ∧ s.2 ≤ n.Arcs.length ∧ 0 ≤ s.1 ∧ s.1 ≤ 4611686018427387904 ∧ sumL 4611686018427387904 n.Arcs = sumL s.1 (n.Arcs.drop s.2.toNat)) (fun s => (n.Arcs.length - s.2).toNat) ⟨by simp, by simp, by simp, by simp, by simp⟩ (by unfold FUEL; simp; omega) ?_)
  rintro ⟨left, x⟩ ⟨h0, h1, h2, h3, h4⟩
  simp only at h0 h1 h2 h3 h4 ⊢
  unfold m_net_Sum_s1 m_net_Sum_j2
  refine Ok.ite.2 ⟨fun hx => ?_, fun hx => ?_⟩
  · rw [sumL_drop (by omega)] at h4
    refine Ok.gd.2 ⟨(by (first | omega | (constructor <;> omega) | (simp only [List.length_set, List.length_replicate]; omega) | (simp only [List.length_set, List.length_replicate]; constructor <;> omega))), Ok.ite.2 ⟨fun hb => ?_, fun hb => ?_⟩⟩
    · rw [if_pos rfl]
      refine Ok.some.2 (Ok.some.2 ?_)
      rw [h4, if_pos (.inl hb)]
    · by_cases hc : left < (n.Arcs.getD x.toNat default).cap
      · rw [if_pos (decide_eq_true hc)]
        refine Ok.some.2 (Ok.some.2 ?_)
        rw [h4, if_pos (.inr hc)]
      · rw [if_neg (by simpa using hc)]
        refine Ok.gd.2 ⟨(by (first | omega | (constructor <;> omega) | (simp only [List.length_set, List.length_replicate]; omega) | (simp only [List.length_set, List.length_replicate]; constructor <;> omega))), Ok.gd.2 ⟨(by (first | omega | (constructor <;> omega) | (simp only [List.length_set, List.length_replicate]; omega) | (simp only [List.length_set, List.length_replicate]; constructor <;> omega))), Ok.some.2 ⟨⟨by simp only; omega, by simp only; omega, by simp only; omega, by simp only; omega, ?_⟩, by simp only; omega⟩⟩⟩
        rw [h4, if_neg (by omega)]
        simp only
        rw [show (x + 1).toNat = x.toNat + 1 by omega]
  · unfold m_net_Sum_j3
    refine Ok.some.2 (Ok.gd.2 ⟨(by (first | omega | (constructor <;> omega) | (simp only [List.length_set, List.length_replicate]; omega) | (simp only [List.length_set, List.length_replicate]; constructor <;> omega))), Ok.some.2 ?_⟩)
    rw [h4, List.drop_eq_nil_of_le (by omega)]
    rfl
theorem s_Check (n : Net) (h : lenok n.Arcs.length) : m_net_Check n = some (checkE n.N n.S n.T n.Arcs) := by
  unfold m_net_Check m_net_rules m_net_of_rules_4 m_net_of_rules_5 m_net_rules_1 m_net_rules_2 m_net_rules_3 m_net_rules_6 m_net_Check_j1
  rw [s_vertex, s_vertex, s_of4 n h, s_of5 n h, s_Sum n h]
  unfold checkE
  simp only [Option.bind_some]
  by_cases h1 : 2 ≤ n.N ∧ n.N ≤ 4096
  · rw [if_pos h1.1, if_neg (not_not_intro h1)]
    simp only [Option.bind_some, decide_eq_true h1.2, Bool.not_true, Bool.false_eq_true, if_false]
    by_cases h2 : (n.Arcs.length : Int) ≤ 16384
    · rw [if_neg (by simp [h2]), if_neg (not_not_intro h2)]
      by_cases h3 : vertexB n.N n.S = true ∧ vertexB n.N n.T = true ∧ n.S ≠ n.T
      · rw [if_pos h3.1, if_pos h3.2.1, if_neg (not_not_intro h3)]
        simp only [Option.bind_some, decide_eq_true h3.2.2, Bool.not_true, Bool.false_eq_true, if_false]
        cases h4 : n.Arcs.all (endsB n.N)
        · simp
        · cases h5 : n.Arcs.all capB
          · simp
          · cases h6 : sumL 4611686018427387904 n.Arcs <;> simp
      · rw [if_pos h3]
        by_cases a1 : vertexB n.N n.S = true
        · by_cases a2 : vertexB n.N n.T = true
          · have a3 : ¬ n.S ≠ n.T := fun e => h3 ⟨a1, a2, e⟩
            simp [a1, a2, a3]
          · simp [a1, a2]
        · simp [a1]
    · rw [if_pos (by simp [h2]), if_pos h2]
  · rw [if_pos h1]
    by_cases a1 : 2 ≤ n.N
    · have a2 : ¬ n.N ≤ 4096 := fun e => h1 ⟨a1, e⟩
      simp [a1, a2]
    · simp [a1]
end Go.Acq
