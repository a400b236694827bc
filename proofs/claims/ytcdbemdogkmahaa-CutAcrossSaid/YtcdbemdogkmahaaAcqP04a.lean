/- Plain law: CutAcross. -/
import Derived.Test.YtcdbemdogkmahaaAcqL12
import Derived.Test.YtcdbemdogkmahaaAcqMLCutAcross
namespace Go.Acq
open Go
set_option linter.unusedSimpArgs false
theorem p_CutAcross {n : Net} {l : List Int} {s : List Bool} (hn : NetIn n) (hl : RowIn l) (hs : s.length ≤ 9223372036854775807) : m_acequialaw04_CutAcross n l s = some true := by
  refine ok_eq ?_
  unfold m_acequialaw04_CutAcross
  refine Ok.bind.2 (Ok.mono (s_Some hn (by omega) (by omega) (by omega) (by omega)) fun r hr => ?_)
  obtain ⟨m, hm, hso⟩ := hr.nat
  have hlen := hr.arcs
  have hv := hr.verts
  have hends := hr.ends
  have hcaps := Made.caps hso
  have he : endsOK m r.Arcs := endsOK_of (by rw [← hm]; exact (checkE_zero hr.check).2.2.2.1)
  have hll : lenok r.Arcs.length := by omega
  refine Ok.bind.2 (Ok.mono (s_Within (by omega) (fun i hi => (hcaps i hi).1) hl) fun f hf => ?_)
  have hw : FwithinP r f := ⟨hr.check, hf.1, fun i hi => ⟨(hf.2.1 i hi).1, (hf.2.1 i hi).2.1⟩⟩
  refine Ok.bind.2 (Ok.mono (s_side hr.check) fun c hc => ?_)
  refine Ok.bind.2 (Ok.mono (s_Across hll) ?_)
  rintro ⟨x, e⟩ (⟨-, -, h⟩ | ⟨-, h, -⟩ | ⟨h, -⟩)
  rotate_left
  · exact absurd hw h
  · exact absurd hc h
  injection h with h1 h2
  subst h2
  refine Ok.bind.2 (Ok.mono (s_Cap hll) ?_)
  rintro ⟨most, e⟩ (⟨-, h⟩ | ⟨h, -⟩)
  rotate_left
  · exact absurd hc h
  injection h with h3 h4
  subst h4
  refine Ok.bind.2 (Ok.mono (s_Excess hll) ?_)
  rintro ⟨xf, e⟩ (⟨-, a0, a1, a2⟩ | ⟨h, -⟩)
  rotate_left
  · exact absurd hw h
  simp only at a0 a1 a2 ⊢
  subst a0
  rw [hm, Int.toNat_natCast] at a1 a2
  rw [if_neg (by simp)]
  unfold m_acequialaw04_CutAcross_j1
  rw [if_neg (by simp)]
  unfold m_acequialaw04_CutAcross_j2
  rw [if_neg (by simp)]
  refine Ok.bind.2 (Ok.mono (s_CutRight hll) fun b hb => ?_)
  rw [hb.2 hc]
  unfold m_acequialaw04_CutAcross_j3
  rw [if_neg (by simp)]
  unfold m_acequialaw04_CutAcross_j4
  rw [if_neg (by simp; omega)]
  have hcl : c.length = m := by have := hc.2.1; omega
  refine Ok.bind.2 (Ok.lp (fun s => ∃ k : Nat, s.2 = k ∧ k ≤ m ∧ s.1 = partC r.Arcs f c k r.Arcs.length) (fun s => (m - s.2).toNat) ⟨0, rfl, by omega, (partC_none he _ (Nat.le_refl _)).symm⟩ (by unfold FUEL; simp only; omega) ?_)
  rintro ⟨sum, y⟩ ⟨k, e1, hk, hsum⟩ P next exit
  simp only at e1 hsum next ⊢
  subst e1; subst hsum
  unfold m_acequialaw04_CutAcross_s5
  simp only [Int.toNat_natCast]
  refine Ok.ite.2 ⟨fun hx => Ok.gd.2 ⟨(by (first | omega | (constructor <;> omega) | (simp only [List.length_set, List.length_replicate]; omega) | (simp only [List.length_set, List.length_replicate]; constructor <;> omega))), ?_⟩, fun hx => Ok.some.2 (exit _ ?_)⟩
  · have hps := partC_succ (al := r.Arcs) (f := f) (c := c) k r.Arcs.length
    have hb := partC_le (al := r.Arcs) (f := f) (c := c) ((k : Int) + 1) (fun i hi => (hw.2.2 i hi).1) r.Arcs.length (Nat.le_refl _)
    have ht := hw.tot r.Arcs.length (Nat.le_refl _)
    have hin : inS c k = c.getD k false := by unfold inS; rw [Int.toNat_natCast]
    rw [hin] at hps
    refine Ok.ite.2 ⟨fun h => ?_, fun h => ?_⟩
    · have h' : c.getD k false = false := by simpa using h
      rw [if_pos h', ← a2 k (by omega)] at hps
      refine Ok.gd.2 ⟨(by (first | omega | (constructor <;> omega) | (simp only [List.length_set, List.length_replicate]; omega) | (simp only [List.length_set, List.length_replicate]; constructor <;> omega))), Ok.gd.2 ⟨by constructor <;> omega, Ok.gd.2 ⟨(by (first | omega | (constructor <;> omega) | (simp only [List.length_set, List.length_replicate]; omega) | (simp only [List.length_set, List.length_replicate]; constructor <;> omega))), Ok.some.2 (next _ ⟨k + 1, by simp, by omega, ?_⟩ (by simp only; omega))⟩⟩⟩
      simp only [Int.natCast_succ]; omega
    · have h' : ¬ c.getD k false = false := by simpa using h
      rw [if_neg h', Int.add_zero] at hps
      exact Ok.gd.2 ⟨(by (first | omega | (constructor <;> omega) | (simp only [List.length_set, List.length_replicate]; omega) | (simp only [List.length_set, List.length_replicate]; constructor <;> omega))), Ok.some.2 (next _ ⟨k + 1, by simp, by omega, by simp only [Int.natCast_succ]; omega⟩ (by simp only; omega))⟩
  obtain rfl : k = m := by omega
  rw [partC_all he _ (Nat.le_refl _)]
  obtain ⟨q1, q2⟩ := acK_cap (c := c) hw.2.2 r.Arcs.length (Nat.le_refl _)
  unfold m_acequialaw04_CutAcross_j6
  rw [if_neg (by simp [h1]), if_neg (by omega)]
  refine Ok.bind.2 (Ok.mono (s_Tight hll) fun b hb => ?_)
  have hb' : decide (x = most) = b := by
    rw [Bool.eq_iff_iff, decide_eq_true_iff, hb, h1, h3, q2]
    exact ⟨fun h => ⟨hc, hw, h⟩, fun h => h.2.2⟩
  rw [hb', if_neg (by simp)]
  have aw : Ok (Option.bind m_acequialaw04_awake fun r => some r) (fun a => a = true) := Ok.bind.2 (ok_of p_awake04 (Ok.some.2 rfl))
  refine Ok.bind.2 (Ok.mono (s_Value hll) ?_)
  rintro ⟨v, e⟩ (⟨hA, h⟩ | ⟨-, h⟩)
  rotate_left
  · injection h with h5 h6
    subst h6
    simp only
    rw [if_neg (by omega)]
    exact aw
  injection h with h5 h6
  subst h6
  simp only [if_true]
  refine Ok.ite.2 ⟨fun h => absurd ?_ h, fun _ => aw⟩
  have hj : ∀ j : Nat, j ≤ k → partC r.Arcs f c j r.Arcs.length = if r.T < j then ex r.Arcs f r.T r.Arcs.length else 0 := by
    intro j
    induction j with
    | zero => intro _; rw [show ((0 : Nat) : Int) = 0 from rfl, partC_none he _ (Nat.le_refl _), if_neg (by omega)]
    | succ j ih =>
      intro hj
      rw [Int.natCast_succ, partC_succ, ih (by omega)]
      by_cases c1 : r.T = j
      · rw [← c1, if_neg (by omega), if_pos hc.2.2.2, if_pos (by omega)]; omega
      · have hz : (if inS c j = false then ex r.Arcs f j r.Arcs.length else 0) = 0 := by
          by_cases c2 : inS c j = false
          · rw [if_pos c2]
            rcases hA.2 j (by omega) with h7 | h7
            · exact h7
            · simp only [List.mem_cons, List.not_mem_nil, or_false] at h7
              rcases h7 with h7 | h7
              · rw [h7, hc.2.2.1] at c2; cases c2
              · exact absurd h7.symm c1
          · rw [if_neg c2]
        rw [hz]
        by_cases c3 : r.T < j
        · rw [if_pos c3, if_pos (by omega)]; omega
        · rw [if_neg c3, if_neg (by omega)]; rfl
  have := hj k (Nat.le_refl _)
  rw [partC_all he _ (Nat.le_refl _), if_pos (by omega)] at this
  omega
end Go.Acq
