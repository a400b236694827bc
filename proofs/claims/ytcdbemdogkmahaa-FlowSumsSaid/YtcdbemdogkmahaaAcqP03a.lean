/- Plain law: FlowSums. -/
import Derived.Test.YtcdbemdogkmahaaAcqL03
import Derived.Test.YtcdbemdogkmahaaAcqMLFlowSums
namespace Go.Acq
open Go
set_option linter.unusedSimpArgs false
theorem Made.within {n : Net} {v a : Int} (h : Made n v a) {f : List Int} (hf : WithinAt n.Arcs n.Arcs.length n.Arcs.length f) : FwithinP n f :=
  ⟨h.check, hf.1, fun i hi => ⟨(hf.2.1 i hi).1, (hf.2.1 i hi).2.1⟩⟩
theorem not_beq {a b : Bool} (h : a = b) : ¬(!(a == b)) = true := by subst h; simp
theorem p_FlowSums {n : Net} {l : List Int} (hn : NetIn n) (hl : RowIn l) : m_acequialaw03_FlowSums n l = some true := by
  refine ok_eq ?_
  unfold m_acequialaw03_FlowSums
  refine Ok.bind.2 (Ok.mono (s_Some hn (by omega) (by omega) (by omega) (by omega)) fun r hr => ?_)
  obtain ⟨m, hm, hso⟩ := hr.nat
  have hlen := hr.arcs
  have hv := hr.verts
  have hends := hr.ends
  have hcaps := Made.caps hso
  have he : endsOK m r.Arcs := endsOK_of (by rw [← hm]; exact (checkE_zero hr.check).2.2.2.1)
  refine Ok.bind.2 (Ok.mono (s_Within (by omega) (fun i hi => (hcaps i hi).1) hl) fun f hf => ?_)
  have hw := hr.within hf
  have hll : lenok r.Arcs.length := by omega
  refine Ok.bind.2 (Ok.mono (s_Excess hll) ?_)
  rintro ⟨xs, e⟩ (⟨-, h0, hxl, hx⟩ | ⟨h, -⟩)
  rotate_left
  · exact absurd hw h
  simp only at h0 hxl hx
  subst h0
  rw [hm, Int.toNat_natCast] at hxl hx
  simp only
  rw [if_neg (by simp)]
  refine Ok.ite.2 ⟨fun h => by omega, fun _ => Ok.bind.2 (Ok.mono (s_FWithin hll) fun b hb => ?_)⟩
  rw [hb.2 hw, if_neg (by simp)]
  have hall : ∀ so but, AllP r f so but ↔ ∀ v : Nat, v < m → so (xs.getD v 0) ∨ (v : Int) ∈ but := fun so but => by
    unfold AllP
    rw [hm, Int.toNat_natCast]
    exact ⟨fun h v hv => by rw [hx v hv]; exact h.2 v hv, fun h => ⟨hw, fun v hv => by rw [← hx v hv]; exact h v hv⟩⟩
  refine Ok.bind.2 (Ok.lp (fun s => ∃ k : Nat, s.2.2.2 = k ∧ k ≤ m ∧ s.1 = part r.Arcs f k r.Arcs.length ∧ (s.2.1 = true ↔ ∀ v : Nat, v < k → 0 ≤ xs.getD v 0 ∨ (v : Int) ∈ [r.S]) ∧ (s.2.2.1 = true ↔ ∀ v : Nat, v < k → xs.getD v 0 = 0 ∨ (v : Int) ∈ [r.S, r.T]))
    (fun s => (m - s.2.2.2).toNat) ⟨0, rfl, by omega, (part_none he _ (Nat.le_refl _)).symm, ⟨fun _ v hv => by omega, fun _ => rfl⟩, ⟨fun _ v hv => by omega, fun _ => rfl⟩⟩ (by unfold FUEL; simp only; omega) ?_)
  rintro ⟨sum, pre, right, x⟩ ⟨k, h1, hk, h2, h3, h4⟩ P next exit
  simp only at h1 h2 h3 h4 next ⊢
  subst h1
  subst h2
  unfold m_acequialaw03_FlowSums_s1
  simp only [Int.toNat_natCast]
  have ht := hw.tot r.Arcs.length (Nat.le_refl _)
  have hp0 := part_le (al := r.Arcs) (f := f) (k : Int) (fun i hi => (hw.2.2 i hi).1) r.Arcs.length (Nat.le_refl _)
  have hp1 := part_le (al := r.Arcs) (f := f) ((k : Int) + 1) (fun i hi => (hw.2.2 i hi).1) r.Arcs.length (Nat.le_refl _)
  have hps := part_succ (al := r.Arcs) (f := f) (k : Int) r.Arcs.length
  refine Ok.ite.2 ⟨fun hxk => ?_, fun hxk => ?_⟩
  · have hkm : k < m := by omega
    have hxk := hx k hkm
    have hstep : ∀ (so : Int → Prop) (but : List Int) (b b' : Bool), (b = true ↔ ∀ v : Nat, v < k → so (xs.getD v 0) ∨ (v : Int) ∈ but) → (b' = true ↔ b = true ∧ (so (xs.getD k 0) ∨ (k : Int) ∈ but)) → (b' = true ↔ ∀ v : Nat, v < k + 1 → so (xs.getD v 0) ∨ (v : Int) ∈ but) := by
      intro so but b b' h1 h2
      rw [h2, h1]
      refine ⟨fun h v hv => ?_, fun h => ⟨fun v hv => h v (by omega), h k (by omega)⟩⟩
      rcases Nat.lt_or_ge v k with h5 | h5
      · exact h.1 v h5
      · rw [show v = k by omega]; exact h.2
    have hnx : ∀ p' r' : Bool, (p' = true ↔ pre = true ∧ (0 ≤ xs.getD k 0 ∨ (k : Int) ∈ [r.S])) → (r' = true ↔ right = true ∧ (xs.getD k 0 = 0 ∨ (k : Int) ∈ [r.S, r.T])) → P (.inl (part r.Arcs f k r.Arcs.length + xs.getD k 0, p', r', (k : Int) + 1)) := by
      intro p' r' a b
      refine next _ ⟨k + 1, by simp, by omega, ?_, hstep (fun x => 0 ≤ x) _ _ _ h3 a, hstep (fun x => x = 0) _ _ _ h4 b⟩ (by simp only; omega)
      simp only
      rw [hxk, Int.natCast_succ, hps]
    have j2 : ∀ p' : Bool, (p' = true ↔ pre = true ∧ (0 ≤ xs.getD k 0 ∨ (k : Int) ∈ [r.S])) → Ok (m_acequialaw03_FlowSums_j2 r xs (part r.Arcs f k r.Arcs.length) right k p') P := by
      intro p' hp'
      unfold m_acequialaw03_FlowSums_j2
      simp only [Int.toNat_natCast]
      refine Ok.ite.2 ⟨fun hr => Ok.ite.2 ⟨fun h => Ok.gd.2 ⟨(by (first | omega | (constructor <;> omega) | (simp only [List.length_set, List.length_replicate]; omega) | (simp only [List.length_set, List.length_replicate]; constructor <;> omega))), Ok.some.2 (hnx _ _ hp' ⟨fun _ => ⟨hr, .inl h⟩, fun _ => rfl⟩)⟩, fun h => Ok.ite.2 ⟨fun hS => Ok.gd.2 ⟨(by (first | omega | (constructor <;> omega) | (simp only [List.length_set, List.length_replicate]; omega) | (simp only [List.length_set, List.length_replicate]; constructor <;> omega))), Ok.some.2 (hnx _ _ hp' ⟨fun _ => ⟨hr, .inr (by rw [hS]; simp)⟩, fun _ => rfl⟩)⟩, fun hS => Ok.gd.2 ⟨(by (first | omega | (constructor <;> omega) | (simp only [List.length_set, List.length_replicate]; omega) | (simp only [List.length_set, List.length_replicate]; constructor <;> omega))), Ok.some.2 (hnx _ _ hp' ?_)⟩⟩⟩, fun hr => Ok.gd.2 ⟨(by (first | omega | (constructor <;> omega) | (simp only [List.length_set, List.length_replicate]; omega) | (simp only [List.length_set, List.length_replicate]; constructor <;> omega))), Ok.some.2 (hnx _ _ hp' ⟨fun h => (by cases h), fun h => absurd h.1 hr⟩)⟩⟩
      rw [decide_eq_true_iff]
      refine ⟨fun hT => ⟨hr, .inr (by rw [hT]; simp)⟩, fun h5 => ?_⟩
      rcases h5.2 with h6 | h6
      · exact absurd h6 h
      · simpa [hS] using h6
    refine Ok.gd.2 ⟨(by (first | omega | (constructor <;> omega) | (simp only [List.length_set, List.length_replicate]; omega) | (simp only [List.length_set, List.length_replicate]; constructor <;> omega))), Ok.gd.2 ⟨by rw [hxk]; constructor <;> omega, Ok.ite.2 ⟨fun hp => Ok.ite.2 ⟨fun h => j2 _ ⟨fun _ => ⟨hp, .inl h⟩, fun _ => rfl⟩, fun h => j2 _ ?_⟩, fun hp => j2 _ ⟨fun h => (by cases h), fun h => absurd h.1 hp⟩⟩⟩⟩
    rw [decide_eq_true_iff]
    refine ⟨fun hS => ⟨hp, .inr (by rw [hS]; simp)⟩, fun h5 => ?_⟩
    rcases h5.2 with h6 | h6
    · exact absurd h6 h
    · simpa using h6
  · refine Ok.some.2 (exit _ ?_)
    obtain rfl : k = m := by omega
    have hzero := part_all (f := f) he _ (Nat.le_refl _)
    unfold m_acequialaw03_FlowSums_j3
    have hpre : pre = true ↔ AllP r f (fun x => 0 ≤ x) [r.S] := by rw [h3, hall]
    have hright : right = true ↔ AllP r f (fun x => x = 0) [r.S, r.T] := by rw [h4, hall]
    refine Ok.bind.2 (Ok.mono (s_Value hll) ?_)
    rintro ⟨val, e⟩ hval
    simp only
    rw [if_neg (by simpa using hzero)]
    refine Ok.bind.2 (Ok.mono (s_Pre hll) fun b hb => ?_)
    have hbp : b = pre := by rw [Bool.eq_iff_iff, hb, hpre]
    rw [if_neg (not_beq hbp)]
    refine Ok.bind.2 (Ok.mono (s_Right hll) fun b2 hb2 => ?_)
    have hbr : b2 = right := by rw [Bool.eq_iff_iff, hb2, hright]
    rw [if_neg (not_beq hbr)]
    have aw : Ok (Option.bind m_acequialaw03_awake fun r81 => some r81) (fun a => a = true) := Ok.bind.2 (ok_of p_awake03 (Ok.some.2 rfl))
    -- all excesses but those of the ends are 0
    have hST : AllP r f (fun x => x = 0) [r.S, r.T] → xs.getD r.S.toNat 0 + xs.getD r.T.toNat 0 = 0 ∧ ((∀ v : Nat, v < k → 0 ≤ xs.getD v 0 ∨ (v : Int) ∈ [r.S]) ↔ 0 ≤ xs.getD r.T.toNat 0) := by
      intro h
      rw [hall] at h
      have hsum : ∀ j : Nat, j ≤ k → part r.Arcs f j r.Arcs.length = (if r.S < j then xs.getD r.S.toNat 0 else 0) + (if r.T < j then xs.getD r.T.toNat 0 else 0) := by
        intro j
        induction j with
        | zero => intro _; rw [show ((0 : Nat) : Int) = 0 from rfl, part_none he _ (Nat.le_refl _), if_neg (by omega), if_neg (by omega)]; rfl
        | succ j ih =>
          intro hj
          rw [Int.natCast_succ, part_succ, ih (by omega), ← hx j (by omega)]
          rcases h j (by omega) with h5 | h5
          · rw [h5]
            by_cases c1 : r.S = j
            · have e1 : r.S.toNat = j := by omega
              rw [e1, h5]; simp only [ite_self]
              by_cases c2 : r.T < j
              · rw [if_pos c2, if_pos (by omega)]; omega
              · rw [if_neg c2, if_neg (by omega)]; omega
            · by_cases c2 : r.T = j
              · have e1 : r.T.toNat = j := by omega
                rw [e1, h5]; simp only [ite_self]
                by_cases c3 : r.S < j
                · rw [if_pos c3, if_pos (by omega)]; omega
                · rw [if_neg c3, if_neg (by omega)]; omega
              · rw [Int.add_zero]
                congr 1
                · by_cases c3 : r.S < j
                  · rw [if_pos c3, if_pos (by omega)]
                  · rw [if_neg c3, if_neg (by omega)]
                · by_cases c3 : r.T < j
                  · rw [if_pos c3, if_pos (by omega)]
                  · rw [if_neg c3, if_neg (by omega)]
          · simp only [List.mem_cons, List.not_mem_nil, or_false] at h5
            rcases h5 with h5 | h5
            · have e1 : r.S.toNat = j := by omega
              rw [e1, if_neg (show ¬ r.S < (j : Int) by omega), if_pos (show r.S < (j : Int) + 1 by omega)]
              by_cases c3 : r.T < j
              · rw [if_pos c3, if_pos (by omega)]; omega
              · rw [if_neg c3, if_neg (by omega)]; omega
            · have e1 : r.T.toNat = j := by omega
              rw [e1, if_neg (show ¬ r.T < (j : Int) by omega), if_pos (show r.T < (j : Int) + 1 by omega)]
              by_cases c3 : r.S < j
              · rw [if_pos c3, if_pos (by omega)]; omega
              · rw [if_neg c3, if_neg (by omega)]; omega
      have h6 := hsum k (Nat.le_refl _)
      rw [hzero, if_pos (by omega), if_pos (by omega)] at h6
      refine ⟨h6.symm, fun h7 => ?_, fun h7 v hv => ?_⟩
      · rcases h7 r.T.toNat (by omega) with h8 | h8
        · exact h8
        · simp only [List.mem_cons, List.not_mem_nil, or_false] at h8; omega
      · rcases h v hv with h8 | h8
        · left; rw [h8]; exact Int.le_refl _
        · simp only [List.mem_cons, List.not_mem_nil, or_false] at h8
          rcases h8 with h8 | h8
          · right; simp [h8]
          · left; rw [show v = r.T.toNat by omega]; exact h7
    rcases hval with ⟨hR, hve⟩ | ⟨hR, hve⟩
    · injection hve with hv1 hv2
      subst hv1; subst hv2
      have hrt : right = true := hright.2 hR
      obtain ⟨hs1, hs2⟩ := hST hR
      have hTm : r.T.toNat < k := by omega
      have hxT := hx r.T.toNat hTm
      rw [Int.toNat_of_nonneg (by omega)] at hxT
      have hbT := ex_le (al := r.Arcs) (f := f) r.T (fun i hi => (hw.2.2 i hi).1) r.Arcs.length (Nat.le_refl _)
      rw [hrt]
      rw [if_neg (by simp), if_pos rfl]
      refine Ok.gd.2 ⟨(by (first | omega | (constructor <;> omega) | (simp only [List.length_set, List.length_replicate]; omega) | (simp only [List.length_set, List.length_replicate]; constructor <;> omega))), Ok.ite.2 ⟨fun h => absurd hxT.symm h, fun _ => Ok.gd.2 ⟨(by (first | omega | (constructor <;> omega) | (simp only [List.length_set, List.length_replicate]; omega) | (simp only [List.length_set, List.length_replicate]; constructor <;> omega))), Ok.gd.2 ⟨(by (first | omega | (constructor <;> omega) | (simp only [List.length_set, List.length_replicate]; omega) | (simp only [List.length_set, List.length_replicate]; constructor <;> omega))), Ok.ite.2 ⟨fun h => absurd (by omega) h, fun _ => ?_⟩⟩⟩⟩⟩
      rw [if_neg (not_beq ?_), if_pos rfl]
      · exact aw
      · rw [Bool.eq_iff_iff, h3, hs2, decide_eq_true_iff, hxT]
    · injection hve with hv1 hv2
      subst hv1; subst hv2
      have hrf : right = false := by
        cases hq : right with
        | false => rfl
        | true => exact absurd (hright.1 hq) hR
      rw [hrf, if_neg (by simp), if_neg (by simp), if_neg (by simp), if_pos rfl, if_pos rfl]
      exact aw
end Go.Acq
