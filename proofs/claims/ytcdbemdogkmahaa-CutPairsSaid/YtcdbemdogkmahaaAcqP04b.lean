/- Plain law: CutPairs. -/
import Derived.Test.YtcdbemdogkmahaaAcqL10
import Derived.Test.YtcdbemdogkmahaaAcqMLCutPairs
namespace Go.Acq
open Go
set_option linter.unusedSimpArgs false
theorem s_Bools {a b : List Bool} (h : lenok a.length) : m_acequialow_Bools a b = some (decide (a = b)) := by
  refine ok_eq ?_
  unfold m_acequialow_Bools
  refine Ok.ite.2 ⟨fun hl => Ok.some.2 (decide_eq_false ?_).symm, fun hl => ?_⟩
  · rintro rfl; exact hl rfl
  · refine Ok.bind.2 (Ok.loop (fun x => 0 ≤ x ∧ x ≤ a.length ∧ ∀ i, i < x.toNat → a.getD i false = b.getD i false) (fun x => (a.length - x).toNat) ⟨by omega, by omega, fun i hi => by omega⟩ (by unfold FUEL; omega) ?_)
    rintro x ⟨h0, h1, h2⟩
    unfold m_acequialow_Bools_s1
    refine Ok.ite.2 ⟨fun hx => ?_, fun hx => ?_⟩
    · refine Ok.gd.2 ⟨(by (first | omega | (constructor <;> omega) | (simp only [List.length_set, List.length_replicate]; omega) | (simp only [List.length_set, List.length_replicate]; constructor <;> omega))), Ok.gd.2 ⟨(by (first | omega | (constructor <;> omega) | (simp only [List.length_set, List.length_replicate]; omega) | (simp only [List.length_set, List.length_replicate]; constructor <;> omega))), Ok.ite.2 ⟨fun hne => ?_, fun hne => ?_⟩⟩⟩
      · refine Ok.some.2 (Ok.some.2 (decide_eq_false ?_).symm)
        rintro rfl; simp at hne
      · refine Ok.gd.2 ⟨(by (first | omega | (constructor <;> omega) | (simp only [List.length_set, List.length_replicate]; omega) | (simp only [List.length_set, List.length_replicate]; constructor <;> omega))), Ok.some.2 ⟨⟨by omega, by omega, fun i hi => ?_⟩, by omega⟩⟩
        rcases Nat.lt_or_ge i x.toNat with h3 | h3
        · exact h2 i h3
        · rw [show i = x.toNat by omega]; simpa using hne
    · refine Ok.some.2 (Ok.some.2 (decide_eq_true ?_).symm)
      exact eq_of_getD false (by omega) (fun i hi => h2 i (by omega))
def both (g : Bool → Bool → Bool) (a b : List Bool) : List Bool := (List.range a.length).map fun v => g (a.getD v false) (b.getD v false)
theorem both_getD {g : Bool → Bool → Bool} {a b : List Bool} {v : Nat} (h : v < a.length) : (both g a b).getD v false = g (a.getD v false) (b.getD v false) := by
  unfold both
  rw [List.getD_eq_getElem?_getD, List.getElem?_map, List.getElem?_range h]; rfl
theorem both_len (g : Bool → Bool → Bool) (a b : List Bool) : (both g a b).length = a.length := by simp [both]
theorem s_And {a b : List Bool} (hab : a.length = b.length) (hl : a.length ≤ 4096) : m_cut_And a b = some (both (· && ·) a b) := by
  refine ok_eq ?_
  unfold m_cut_And m_cut_both_And_1
  have hmx : max (a.length : Int) (b.length : Int) = a.length := by omega
  simp only [hmx]
  refine Ok.bind.2 (Ok.gd.2 ⟨(by (first | omega | (constructor <;> omega) | (simp only [List.length_set, List.length_replicate]; omega) | (simp only [List.length_set, List.length_replicate]; constructor <;> omega))), Ok.bind.2 ?_⟩)
  refine Ok.lp (fun s => ∃ k : Nat, s.2 = k ∧ k ≤ a.length ∧ s.1.length = a.length ∧ ∀ v, v < k → s.1.getD v false = (a.getD v false && b.getD v false)) (fun s => (a.length - s.2).toNat) ⟨0, rfl, by omega, by simp, fun v hv => by omega⟩ (by unfold FUEL; simp only; omega) ?_
  rintro ⟨xs, x⟩ ⟨k, h1, hk, hxl, hx⟩ P next exit
  simp only at h1 hxl hx next ⊢
  subst h1
  unfold m_cut_both_And_1_s1
  simp only [hmx, List.length_replicate, Int.toNat_natCast]
  refine Ok.ite.2 ⟨fun h => ?_, fun h => Ok.some.2 (exit _ ?_)⟩
  · refine Ok.bind.2 (ok_of (s_has (by omega) (by omega)) (Ok.bind.2 (ok_of (s_has (by omega) (by omega)) (Ok.bind.2 ?_))))
    have : m_cut_And_1 (inS a k) (inS b k) = some (a.getD k false && b.getD k false) := by
      unfold m_cut_And_1 inS; rw [Int.toNat_natCast]; cases a.getD k false <;> simp
    refine ok_of this (Ok.gd.2 ⟨(by (first | omega | (constructor <;> omega) | (simp only [List.length_set, List.length_replicate]; omega) | (simp only [List.length_set, List.length_replicate]; constructor <;> omega))), Ok.gd.2 ⟨(by (first | omega | (constructor <;> omega) | (simp only [List.length_set, List.length_replicate]; omega) | (simp only [List.length_set, List.length_replicate]; constructor <;> omega))), Ok.some.2 (next _ ⟨k + 1, by simp, by omega, by simp [hxl], fun v hv => ?_⟩ (by simp only; omega))⟩⟩)
    simp only [lset]
    by_cases e : k = v
    · subst e; rw [if_pos ⟨rfl, by omega⟩]
    · rw [if_neg (fun h => e h.1)]; exact hx v (by omega)
  · obtain rfl : k = a.length := by omega
    unfold m_cut_both_And_1_j2
    exact Ok.some.2 (Ok.some.2 (eq_of_getD false (by rw [hxl, both_len]) fun v hv => by rw [hx v (by omega), both_getD (by omega)]))
theorem s_Or {a b : List Bool} (hab : a.length = b.length) (hl : a.length ≤ 4096) : m_cut_Or a b = some (both (· || ·) a b) := by
  refine ok_eq ?_
  unfold m_cut_Or m_cut_both_Or_1
  have hmx : max (a.length : Int) (b.length : Int) = a.length := by omega
  simp only [hmx]
  refine Ok.bind.2 (Ok.gd.2 ⟨(by (first | omega | (constructor <;> omega) | (simp only [List.length_set, List.length_replicate]; omega) | (simp only [List.length_set, List.length_replicate]; constructor <;> omega))), Ok.bind.2 ?_⟩)
  refine Ok.lp (fun s => ∃ k : Nat, s.2 = k ∧ k ≤ a.length ∧ s.1.length = a.length ∧ ∀ v, v < k → s.1.getD v false = (a.getD v false || b.getD v false)) (fun s => (a.length - s.2).toNat) ⟨0, rfl, by omega, by simp, fun v hv => by omega⟩ (by unfold FUEL; simp only; omega) ?_
  rintro ⟨xs, x⟩ ⟨k, h1, hk, hxl, hx⟩ P next exit
  simp only at h1 hxl hx next ⊢
  subst h1
  unfold m_cut_both_Or_1_s1
  simp only [hmx, List.length_replicate, Int.toNat_natCast]
  refine Ok.ite.2 ⟨fun h => ?_, fun h => Ok.some.2 (exit _ ?_)⟩
  · refine Ok.bind.2 (ok_of (s_has (by omega) (by omega)) (Ok.bind.2 (ok_of (s_has (by omega) (by omega)) (Ok.bind.2 ?_))))
    have : m_cut_Or_1 (inS a k) (inS b k) = some (a.getD k false || b.getD k false) := by
      unfold m_cut_Or_1 inS; rw [Int.toNat_natCast]; cases a.getD k false <;> simp
    refine ok_of this (Ok.gd.2 ⟨(by (first | omega | (constructor <;> omega) | (simp only [List.length_set, List.length_replicate]; omega) | (simp only [List.length_set, List.length_replicate]; constructor <;> omega))), Ok.gd.2 ⟨(by (first | omega | (constructor <;> omega) | (simp only [List.length_set, List.length_replicate]; omega) | (simp only [List.length_set, List.length_replicate]; constructor <;> omega))), Ok.some.2 (next _ ⟨k + 1, by simp, by omega, by simp [hxl], fun v hv => ?_⟩ (by simp only; omega))⟩⟩)
    simp only [lset]
    by_cases e : k = v
    · subst e; rw [if_pos ⟨rfl, by omega⟩]
    · rw [if_neg (fun h => e h.1)]; exact hx v (by omega)
  · obtain rfl : k = a.length := by omega
    unfold m_cut_both_Or_1_j2
    exact Ok.some.2 (Ok.some.2 (eq_of_getD false (by rw [hxl, both_len]) fun v hv => by rw [hx v (by omega), both_getD (by omega)]))
theorem inS_both {g : Bool → Bool → Bool} {a b : List Bool} {v : Int} (h0 : 0 ≤ v) (h : v < a.length) : inS (both g a b) v = g (inS a v) (inS b v) := by
  unfold inS; rw [both_getD (by omega)]
theorem CutR.both {n : Net} {a b : List Bool} {g : Bool → Bool → Bool} (ha : CutR n a) (hb : CutR n b) (g1 : g true true = true) (g0 : g false false = false) : CutR n (Acq.both g a b) := by
  have hz := checkE_zero ha.1
  simp only [vertexB, decide_eq_true_eq] at hz
  have := ha.2.1
  refine ⟨ha.1, by rw [both_len]; exact ha.2.1, ?_, ?_⟩
  · rw [inS_both (by omega) (by omega), ha.2.2.1, hb.2.2.1]; exact g1
  · rw [inS_both (by omega) (by omega), ha.2.2.2, hb.2.2.2]; exact g0
theorem cap_pair {al : List Arc} {a b : List Bool} {m : Nat} (he : endsOK m al) (ha : a.length = m) (hc : ∀ i, i < al.length → 0 ≤ (al.getD i default).cap) : ∀ k, k ≤ al.length → capK al (both (· && ·) a b) k + capK al (both (· || ·) a b) k ≤ capK al a k + capK al b k
  | 0, _ => by simp [capK]
  | k + 1, hk => by
    have ih := cap_pair (b := b) he ha hc k (by omega)
    have h0 := he k hk false
    have h1 := he k hk true
    simp only [vtx, Bool.false_eq_true, if_false, if_true] at h0 h1
    have hck := hc k hk
    simp only [capK]
    rw [inS_both h0.1 (by omega), inS_both h1.1 (by omega), inS_both h0.1 (by omega), inS_both h1.1 (by omega)]
    obtain ⟨A, hA⟩ : ∃ A, al.getD k default = A := ⟨_, rfl⟩
    rw [hA] at hck ⊢
    cases inS a A.fr <;> cases inS a A.to <;> cases inS b A.fr <;> cases inS b A.to <;> simp <;> omega
theorem totC_small {al : List Arc} (h : ∀ i, i < al.length → (al.getD i default).cap < 1125899906842624) : ∀ k : Nat, k ≤ al.length → totC al k ≤ k * 1125899906842624
  | 0, _ => by simp [totC]
  | k + 1, hk => by
    have ih := totC_small h k (by omega)
    have := h k (by omega)
    simp only [totC]; omega
theorem p_CutPairs {n : Net} {s t : List Bool} (hn : NetIn n) (hs : s.length ≤ 9223372036854775807) (ht : t.length ≤ 9223372036854775807) : m_acequialaw04_CutPairs n s t = some true := by
  refine ok_eq ?_
  unfold m_acequialaw04_CutPairs
  refine Ok.bind.2 (Ok.mono (s_Some hn (by omega) (by omega) (by omega) (by omega)) fun r hr => ?_)
  obtain ⟨m, hm, hso⟩ := hr.nat
  have hlen := hr.arcs
  have hv := hr.verts
  have hll : lenok r.Arcs.length := by omega
  have he : endsOK m r.Arcs := endsOK_of (by rw [← hm]; exact (checkE_zero hr.check).2.2.2.1)
  have hcs := check_caps hr.check
  refine Ok.bind.2 (Ok.mono (s_side hr.check) fun a ha => Ok.bind.2 (Ok.mono (s_side hr.check) fun b hb => ?_))
  have la := ha.2.1
  have lb := hb.2.1
  have hA : CutR r (both (· && ·) a b) := ha.both hb rfl rfl
  have hO : CutR r (both (· || ·) a b) := ha.both hb rfl rfl
  refine Ok.bind.2 (Ok.mono (s_Cap hll) ?_)
  rintro ⟨x, e⟩ (⟨-, h⟩ | ⟨h, -⟩)
  rotate_left
  · exact absurd ha h
  injection h with x1 x2
  refine Ok.bind.2 (Ok.mono (s_Cap hll) ?_)
  rintro ⟨y, e⟩ (⟨-, h⟩ | ⟨h, -⟩)
  rotate_left
  · exact absurd hb h
  injection h with y1 y2
  refine Ok.bind.2 (ok_of (s_And (by omega) (by omega)) (Ok.bind.2 (Ok.mono (s_Cap hll) ?_)))
  rintro ⟨p, e⟩ (⟨-, h⟩ | ⟨h, -⟩)
  rotate_left
  · exact absurd hA h
  injection h with p1 p2
  refine Ok.bind.2 (ok_of (s_Or (by omega) (by omega)) (Ok.bind.2 (Ok.mono (s_Cap hll) ?_)))
  rintro ⟨q, e⟩ (⟨-, h⟩ | ⟨h, -⟩)
  rotate_left
  · exact absurd hO h
  injection h with q1 q2
  subst x2; subst y2; subst p2; subst q2
  have bx := capK_le (c := a) hcs r.Arcs.length (Nat.le_refl _)
  have bY := capK_le (c := b) hcs r.Arcs.length (Nat.le_refl _)
  have bp := capK_le (c := both (· && ·) a b) hcs r.Arcs.length (Nat.le_refl _)
  have bq := capK_le (c := both (· || ·) a b) hcs r.Arcs.length (Nat.le_refl _)
  have bt := totC_small (fun i hi => (Made.caps hso i hi).2) r.Arcs.length (Nat.le_refl _)
  have hpair := cap_pair (b := b) he (show a.length = m by omega) hcs r.Arcs.length (Nat.le_refl _)
  rw [← x1] at bx
  rw [← y1] at bY
  rw [← p1] at bp
  rw [← q1] at bq
  rw [← x1, ← y1, ← p1, ← q1] at hpair
  simp only
  rw [if_neg (by simp)]
  unfold m_acequialaw04_CutPairs_j1
  rw [if_neg (by simp)]
  unfold m_acequialaw04_CutPairs_j2
  rw [if_neg (by simp)]
  unfold m_acequialaw04_CutPairs_j3
  rw [if_neg (by simp)]
  refine Ok.gd.2 ⟨by constructor <;> omega, Ok.gd.2 ⟨by constructor <;> omega, ?_⟩⟩
  unfold m_acequialaw04_CutPairs_j4
  rw [if_neg (by simp; omega)]
  unfold m_acequialaw04_CutPairs_j5
  rw [if_neg (by simp; omega)]
  unfold m_acequialaw04_CutPairs_j6
  rw [if_neg (by simp; omega)]
  refine Ok.bind.2 (ok_of (s_And rfl (by omega)) (Ok.bind.2 (ok_of (s_Bools (by rw [both_len]; omega)) ?_)))
  have e1 : both (· && ·) a a = a := eq_of_getD false (both_len _ _ _) fun v hv => by rw [both_len] at hv; rw [both_getD hv]; simp
  rw [decide_eq_true e1, if_pos rfl]
  refine Ok.bind.2 (ok_of (s_Or (by omega) (by omega)) (Ok.bind.2 (ok_of (s_Or (by omega) (by omega)) (Ok.bind.2 (ok_of (s_Bools (by rw [both_len]; omega)) ?_)))))
  have e2 : both (· || ·) a b = both (· || ·) b a := eq_of_getD false (by rw [both_len, both_len]; omega) fun v hv => by rw [both_len] at hv; rw [both_getD hv, both_getD (by omega), Bool.or_comm]
  rw [decide_eq_true e2, if_pos rfl]
  exact Ok.bind.2 (ok_of p_awake04 (Ok.some.2 rfl))
end Go.Acq
