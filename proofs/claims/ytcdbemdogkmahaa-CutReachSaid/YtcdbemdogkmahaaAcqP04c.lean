/- Plain law: CutReach. -/
import Derived.Test.YtcdbemdogkmahaaAcqL11
import Derived.Test.YtcdbemdogkmahaaAcqMLCutReach
namespace Go.Acq
open Go
set_option linter.unusedSimpArgs false
theorem beq_of_iff {a b : Bool} (h : a = true ↔ b = true) : (a == b) = true := by
  cases a <;> cases b <;> simp_all
theorem p_CutReach {n : Net} {l : List Int} (hn : NetIn n) (hl : RowIn l) : m_acequialaw04_CutReach n l = some true := by
  refine ok_eq ?_
  unfold m_acequialaw04_CutReach
  refine Ok.bind.2 (Ok.mono (s_Some hn (by omega) (by omega) (by omega) (by omega)) fun r hr => ?_)
  obtain ⟨m, hm, hso⟩ := hr.nat
  have hlen := hr.arcs
  have hv := hr.verts
  have hends := hr.ends
  have hcaps := Made.caps hso
  have he : endsOK m r.Arcs := endsOK_of (by rw [← hm]; exact (checkE_zero hr.check).2.2.2.1)
  have hll : lenok r.Arcs.length := by omega
  refine Ok.bind.2 (Ok.mono (s_Within (by omega) (fun i hi => (hcaps i hi).1) hl) fun f hf => ?_)
  have hw : FwithinP r f := ⟨hr.check, hf.1, fun i hi => ⟨(hf.2.1 i hi).1, (hf.2.1 i hi).2.1⟩⟩
  have hfl := hw.2.1
  refine Ok.bind.2 (Ok.mono (s_From hll) ?_)
  rintro ⟨a, e⟩ (⟨-, h1, la, ha⟩ | ⟨h, -⟩)
  rotate_left
  · exact absurd hw h
  refine Ok.bind.2 (Ok.mono (s_To hll) ?_)
  rintro ⟨b, e2⟩ (⟨-, h2, lb, hb⟩ | ⟨h, -⟩)
  rotate_left
  · exact absurd hw h
  simp only at h1 h2 la ha lb hb ⊢
  subst h1; subst h2
  obtain ⟨S, hS⟩ : ∃ S : Nat, r.S = S := ⟨r.S.toNat, by omega⟩
  obtain ⟨T, hT⟩ : ∃ T : Nat, r.T = T := ⟨r.T.toNat, by omega⟩
  rw [hm, Int.toNat_natCast] at la ha lb hb
  rw [hS, Int.toNat_natCast] at ha
  rw [hT, Int.toNat_natCast] at hb
  rw [hS, hT] at hends
  have hSm : S < m := by omega
  have hTm : T < m := by omega
  have aS : a.getD S false = true := (ha S hSm).2 .refl
  have bT : b.getD T false = false := by
    rw [Bool.eq_false_iff]; intro h; exact (hb T hTm).1 h .refl
  have cA : ∀ u v : Nat, OpenA r f u v → u < m → v < m → a.getD u false = true → a.getD v false = true := fun u v ho hu hv h => (ha v hv).2 (.step ((ha u hu).1 h) ho)
  have cB : ∀ u v : Nat, OpenA r f u v → u < m → v < m → b.getD v false = false → b.getD u false = false := fun u v ho hu hv h => by
    rw [Bool.eq_false_iff]; intro h2
    refine (hb u hu).1 h2 (Reach.trans (.step .refl ho) ?_)
    exact Classical.not_not.1 fun h3 => by rw [(hb v hv).2 h3] at h; cases h
  rw [if_neg (by simp)]
  unfold m_acequialaw04_CutReach_j1
  rw [if_neg (by simp)]
  unfold m_acequialaw04_CutReach_j2
  rw [if_neg (by simp; omega)]
  unfold m_acequialaw04_CutReach_j3
  rw [if_neg (by simp; omega), hS]
  refine Ok.gd.2 ⟨(by (first | omega | (constructor <;> omega) | (simp only [List.length_set, List.length_replicate]; omega) | (simp only [List.length_set, List.length_replicate]; constructor <;> omega))), ?_⟩
  simp only [Int.toNat_natCast, aS]
  unfold m_acequialaw04_CutReach_j4
  rw [if_neg (by simp), hT]
  refine Ok.gd.2 ⟨(by (first | omega | (constructor <;> omega) | (simp only [List.length_set, List.length_replicate]; omega) | (simp only [List.length_set, List.length_replicate]; constructor <;> omega))), ?_⟩
  simp only [Int.toNat_natCast, bT]
  unfold m_acequialaw04_CutReach_j5
  rw [if_neg (by simp)]
  have rA : CutR r a ↔ a.getD T false = false := by
    unfold CutR inS
    rw [hS, hT, Int.toNat_natCast, Int.toNat_natCast]
    exact ⟨fun h => h.2.2.2, fun h => ⟨by rw [← hS, ← hT]; exact hr.check, by omega, aS, h⟩⟩
  have rB : CutR r b ↔ b.getD S false = true := by
    unfold CutR inS
    rw [hS, hT, Int.toNat_natCast, Int.toNat_natCast]
    exact ⟨fun h => h.2.2.1, fun h => ⟨by rw [← hS, ← hT]; exact hr.check, by omega, h, bT⟩⟩
  have rAB : CutR r a ↔ CutR r b := by
    rw [rA, rB, hb S hSm, ← ha T hTm]; simp
  refine Ok.bind.2 (Ok.mono (s_CutRight hll) fun p hp => Ok.bind.2 (Ok.mono (s_CutRight hll) fun q hq => ?_))
  rw [beq_of_iff (hp.trans (rAB.trans hq.symm))]
  unfold m_acequialaw04_CutReach_j6
  rw [if_neg (by simp)]
  refine Ok.bind.2 (Ok.mono (s_CutRight hll) fun p hp => ?_)
  rw [hT]
  refine Ok.gd.2 ⟨(by (first | omega | (constructor <;> omega) | (simp only [List.length_set, List.length_replicate]; omega) | (simp only [List.length_set, List.length_replicate]; constructor <;> omega))), ?_⟩
  simp only [Int.toNat_natCast]
  refine Ok.ite.2 ⟨fun h => absurd h (by rw [beq_of_iff (hp.trans (rA.trans (by simp)))]; simp), fun _ => ?_⟩
  refine Ok.bind.2 (Ok.lp (fun s => ∃ k : Nat, s.2 = k ∧ k ≤ m ∧ (s.1 = true ↔ ∃ v, v < k ∧ a.getD v false = true ∧ b.getD v false = false)) (fun s => (m - s.2).toNat) ⟨0, rfl, by omega, fun h => (by cases h), fun ⟨v, h, _⟩ => by omega⟩ (by unfold FUEL; simp only; omega) ?_)
  rintro ⟨bo, y⟩ ⟨k, e1, hk, hbo⟩ P next exit
  simp only at e1 hbo next ⊢
  subst e1
  unfold m_acequialaw04_CutReach_s7
  simp only [Int.toNat_natCast]
  have more : ∀ c : Bool, (c = true ↔ bo = true ∨ (a.getD k false = true ∧ b.getD k false = false)) → (c = true ↔ ∃ v, v < k + 1 ∧ a.getD v false = true ∧ b.getD v false = false) := fun c hc => by
    rw [hc, hbo]
    constructor
    · rintro (⟨v, h1, h2⟩ | h)
      · exact ⟨v, by omega, h2⟩
      · exact ⟨k, by omega, h⟩
    · rintro ⟨v, h1, h2⟩
      rcases Nat.lt_or_ge v k with h3 | h3
      · exact .inl ⟨v, h3, h2⟩
      · rw [show v = k by omega] at h2; exact .inr h2
  refine Ok.ite.2 ⟨fun hx => Ok.ite.2 ⟨fun hb1 => ?_, fun hb1 => ?_⟩, fun hx => Ok.some.2 (exit _ ?_)⟩
  · exact Ok.gd.2 ⟨(by (first | omega | (constructor <;> omega) | (simp only [List.length_set, List.length_replicate]; omega) | (simp only [List.length_set, List.length_replicate]; constructor <;> omega))), Ok.some.2 (next _ ⟨k + 1, by simp, by omega, more _ ⟨fun _ => .inl hb1, fun _ => rfl⟩⟩ (by simp only; omega))⟩
  · refine Ok.gd.2 ⟨(by (first | omega | (constructor <;> omega) | (simp only [List.length_set, List.length_replicate]; omega) | (simp only [List.length_set, List.length_replicate]; constructor <;> omega))), Ok.ite.2 ⟨fun h => Ok.gd.2 ⟨(by (first | omega | (constructor <;> omega) | (simp only [List.length_set, List.length_replicate]; omega) | (simp only [List.length_set, List.length_replicate]; constructor <;> omega))), Ok.gd.2 ⟨(by (first | omega | (constructor <;> omega) | (simp only [List.length_set, List.length_replicate]; omega) | (simp only [List.length_set, List.length_replicate]; constructor <;> omega))), Ok.some.2 (next _ ⟨k + 1, by simp, by omega, more _ ?_⟩ (by simp only; omega))⟩⟩, fun h => Ok.gd.2 ⟨(by (first | omega | (constructor <;> omega) | (simp only [List.length_set, List.length_replicate]; omega) | (simp only [List.length_set, List.length_replicate]; constructor <;> omega))), Ok.some.2 (next _ ⟨k + 1, by simp, by omega, more _ ⟨fun h => (by cases h), fun h2 => ?_⟩⟩ (by simp only; omega))⟩⟩⟩
    · exact ⟨fun h2 => .inr ⟨h, by simpa using h2⟩, fun h2 => by
        rcases h2 with h2 | h2
        · exact absurd h2 hb1
        · rw [h2.2]; rfl⟩
    · rcases h2 with h2 | h2
      · exact absurd h2 hb1
      · exact absurd h2.1 h
  obtain rfl : k = m := by omega
  have hboT : bo = true ↔ a.getD T false = true := by
    rw [hbo]
    constructor
    · rintro ⟨v, h1, h2, h3⟩
      refine (ha T hTm).2 (((ha v h1).1 h2).trans ?_)
      exact Classical.not_not.1 fun h4 => by rw [(hb v h1).2 h4] at h3; cases h3
    · intro h
      exact ⟨T, hTm, h, bT⟩
  unfold m_acequialaw04_CutReach_j8
  refine Ok.bind.2 (Ok.lp (fun x => ∃ i : Nat, x = i ∧ i ≤ r.Arcs.length) (fun x => (r.Arcs.length - x).toNat) ⟨0, rfl, by omega⟩ (by unfold FUEL; omega) ?_)
  rintro x ⟨i, rfl, hi⟩ P2 next2 exit2
  unfold m_acequialaw04_CutReach_s9
  simp only [Int.toNat_natCast]
  refine Ok.ite.2 ⟨fun hx2 => Ok.gd.2 ⟨(by (first | omega | (constructor <;> omega) | (simp only [List.length_set, List.length_replicate]; omega) | (simp only [List.length_set, List.length_replicate]; constructor <;> omega))), Ok.gd.2 ⟨(by (first | omega | (constructor <;> omega) | (simp only [List.length_set, List.length_replicate]; omega) | (simp only [List.length_set, List.length_replicate]; constructor <;> omega))), ?_⟩⟩, fun hx2 => Ok.some.2 (exit2 _ ?_)⟩
  · have hil : i < r.Arcs.length := by omega
    have e0 := he i hil false
    have e1 := he i hil true
    simp only [vtx, Bool.false_eq_true, if_false, if_true] at e0 e1
    obtain ⟨p, hpp⟩ : ∃ p : Nat, (r.Arcs.getD i default).fr = p := ⟨(r.Arcs.getD i default).fr.toNat, by omega⟩
    obtain ⟨q, hqq⟩ : ∃ q : Nat, (r.Arcs.getD i default).to = q := ⟨(r.Arcs.getD i default).to.toNat, by omega⟩
    rw [hpp] at e0
    rw [hqq] at e1
    have hpm : p < k := by omega
    have hqm : q < k := by omega
    have fw : f.getD i 0 < (r.Arcs.getD i default).cap → (a.getD p false = true → a.getD q false = true) ∧ (b.getD q false = false → b.getD p false = false) := fun h => by
      by_cases c : p = q
      · subst c; exact ⟨id, id⟩
      · have ho : OpenA r f p q := ⟨i, hil, by omega, .inl ⟨hpp, hqq, h⟩⟩
        exact ⟨cA p q ho hpm hqm, cB p q ho hpm hqm⟩
    have bw : 0 < f.getD i 0 → (a.getD q false = true → a.getD p false = true) ∧ (b.getD p false = false → b.getD q false = false) := fun h => by
      by_cases c : p = q
      · subst c; exact ⟨id, id⟩
      · have ho : OpenA r f q p := ⟨i, hil, by omega, .inr ⟨hqq, hpp, h⟩⟩
        exact ⟨cA q p ho hqm hpm, cB q p ho hqm hpm⟩
    have nx : Ok (gd (i64ok ((i : Int) + 1)) <| some (.inl ((i : Int) + 1))) P2 := Ok.gd.2 ⟨(by (first | omega | (constructor <;> omega) | (simp only [List.length_set, List.length_replicate]; omega) | (simp only [List.length_set, List.length_replicate]; constructor <;> omega))), Ok.some.2 (next2 _ ⟨i + 1, by simp, by omega⟩ (by omega))⟩
    have j14 : 0 < f.getD i 0 → Ok (m_acequialaw04_CutReach_j14 r b i false) P2 := fun h0 => by
      unfold m_acequialaw04_CutReach_j14
      simp only [Int.toNat_natCast, hpp, hqq]
      rw [if_neg (by simp)]
      refine Ok.gd.2 ⟨(by (first | omega | (constructor <;> omega) | (simp only [List.length_set, List.length_replicate]; omega) | (simp only [List.length_set, List.length_replicate]; constructor <;> omega))), Ok.ite.2 ⟨fun h => Ok.gd.2 ⟨(by (first | omega | (constructor <;> omega) | (simp only [List.length_set, List.length_replicate]; omega) | (simp only [List.length_set, List.length_replicate]; constructor <;> omega))), Ok.ite.2 ⟨fun h2 => ?_, fun _ => nx⟩⟩, fun _ => nx⟩⟩
      rw [(bw h0).2 (by simpa using h)] at h2; cases h2
    have j13 : Ok (m_acequialaw04_CutReach_j13 r f a b i false) P2 := by
      unfold m_acequialaw04_CutReach_j13
      simp only [Int.toNat_natCast, hpp, hqq]
      rw [if_neg (by simp)]
      refine Ok.gd.2 ⟨(by (first | omega | (constructor <;> omega) | (simp only [List.length_set, List.length_replicate]; omega) | (simp only [List.length_set, List.length_replicate]; constructor <;> omega))), Ok.ite.2 ⟨fun h => Ok.gd.2 ⟨(by (first | omega | (constructor <;> omega) | (simp only [List.length_set, List.length_replicate]; omega) | (simp only [List.length_set, List.length_replicate]; constructor <;> omega))), Ok.ite.2 ⟨fun h2 => Ok.gd.2 ⟨(by (first | omega | (constructor <;> omega) | (simp only [List.length_set, List.length_replicate]; omega) | (simp only [List.length_set, List.length_replicate]; constructor <;> omega))), ?_⟩, fun _ => j14 h⟩⟩, fun _ => nx⟩⟩
      rw [(bw h).1 h2]; exact j14 h
    have j12 : Ok (m_acequialaw04_CutReach_j12 r f a b i false) P2 := by unfold m_acequialaw04_CutReach_j12; exact j13
    have j11 : Ok (m_acequialaw04_CutReach_j11 r f a b i false) P2 := by unfold m_acequialaw04_CutReach_j11; exact j12
    have j10 : f.getD i 0 < (r.Arcs.getD i default).cap → Ok (m_acequialaw04_CutReach_j10 r f a b i false) P2 := fun h0 => by
      unfold m_acequialaw04_CutReach_j10
      simp only [Int.toNat_natCast, hpp, hqq]
      rw [if_neg (by simp)]
      refine Ok.gd.2 ⟨(by (first | omega | (constructor <;> omega) | (simp only [List.length_set, List.length_replicate]; omega) | (simp only [List.length_set, List.length_replicate]; constructor <;> omega))), Ok.ite.2 ⟨fun h => Ok.gd.2 ⟨(by (first | omega | (constructor <;> omega) | (simp only [List.length_set, List.length_replicate]; omega) | (simp only [List.length_set, List.length_replicate]; constructor <;> omega))), ?_⟩, fun _ => j11⟩⟩
      rw [(fw h0).2 (by simpa using h)]; exact j11
    simp only [hpp, hqq, Int.toNat_natCast]
    refine Ok.ite.2 ⟨fun h => Ok.gd.2 ⟨(by (first | omega | (constructor <;> omega) | (simp only [List.length_set, List.length_replicate]; omega) | (simp only [List.length_set, List.length_replicate]; constructor <;> omega))), Ok.ite.2 ⟨fun h2 => Ok.gd.2 ⟨(by (first | omega | (constructor <;> omega) | (simp only [List.length_set, List.length_replicate]; omega) | (simp only [List.length_set, List.length_replicate]; constructor <;> omega))), ?_⟩, fun _ => j10 h⟩⟩, fun _ => j13⟩
    rw [(fw h).1 h2]; exact j10 h
  unfold m_acequialaw04_CutReach_j15
  rw [hT]
  refine Ok.gd.2 ⟨(by (first | omega | (constructor <;> omega) | (simp only [List.length_set, List.length_replicate]; omega) | (simp only [List.length_set, List.length_replicate]; constructor <;> omega))), ?_⟩
  simp only [Int.toNat_natCast]
  refine Ok.ite.2 ⟨fun _ => ?_, fun h => absurd (beq_of_iff hboT) h⟩
  exact Ok.bind.2 (ok_of p_awake04 (Ok.some.2 rfl))
end Go.Acq
