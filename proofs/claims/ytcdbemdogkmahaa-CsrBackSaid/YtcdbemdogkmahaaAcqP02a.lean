/- Plain law: CsrTurns and CsrBack. -/
import Derived.Test.YtcdbemdogkmahaaAcqL02
import Derived.Test.YtcdbemdogkmahaaAcqMLCsrBack
namespace Go.Acq
open Go
set_option linter.unusedSimpArgs false
theorem Made.nat {n : Net} {v a : Int} (h : Made n v a) : ∃ m : Nat, n.N = m ∧ SomeAt m n.Arcs := ⟨n.N.toNat, by have := h.ends.1; omega, h.rows⟩
/-- what is known of a made net's row -/
structure Row (n : Net) (m : Nat) (c : Csr) (f : List Int) : Prop where
  is : CsrIs n m c
  he : endsOK m n.Arcs
  hm : 2 ≤ m ∧ m ≤ 4096
  hl : n.Arcs.length ≤ 4096
  cap : ∀ i, i < n.Arcs.length → 0 ≤ (n.Arcs.getD i default).cap ∧ (n.Arcs.getD i default).cap < 1125899906842624
  f : WithinAt n.Arcs n.Arcs.length n.Arcs.length f
theorem Made.caps {n : Net} {m : Nat} (h : SomeAt m n.Arcs) : ∀ i, i < n.Arcs.length → 0 ≤ (n.Arcs.getD i default).cap ∧ (n.Arcs.getD i default).cap < 1125899906842624 := fun _ hi => (h _ (getD_mem hi default)).2
theorem s_ResRow {n : Net} {m : Nat} {c : Csr} {f : List Int} (hc : CsrIs n m c) (hm : m ≤ 4096) (hl : n.Arcs.length ≤ 16384) (hcap : ∀ i, i < n.Arcs.length → 0 ≤ (n.Arcs.getD i default).cap ∧ (n.Arcs.getD i default).cap ≤ 9223372036854775807) :
    Ok (m_csr_Res c f) (fun r => ((∀ j, j < begins n.Arcs m → resOK c.Arc c.Cap c.Back f j) ∧ r.2 = 0 ∧ ResAt c.Arc c.Cap c.Back f (begins n.Arcs m) (begins n.Arcs m) r.1) ∨ ((∃ j, j < begins n.Arcs m ∧ ¬resOK c.Arc c.Cap c.Back f j) ∧ r = ([], 20))) := by
  have hok := hc.ok
  refine s_Res hok.lh hok.lc hok.la hok.lb (begins_small hm hl) (fun j hj => ?_) (fun j hj => ?_)
  · obtain ⟨i, s, _, _, _, _, _, _, h4, _⟩ := hok.place hj
    omega
  · obtain ⟨i, s, hi, _, _, _, _, h3, _, _⟩ := hok.place hj
    have := hcap i hi
    rw [h3]; split <;> omega
/-- what is left at both places of an arc -/
theorem res_at {n : Net} {m : Nat} {c : Csr} {f r : List Int} (hc : CsrIs n m c) (he : endsOK m n.Arcs) (hr : ResAt c.Arc c.Cap c.Back f (begins n.Arcs m) (begins n.Arcs m) r) {i : Nat} (hi : i < n.Arcs.length) (hne : (n.Arcs.getD i default).fr ≠ (n.Arcs.getD i default).to) (s : Bool) :
    r.getD (pos n.Arcs i s) 0 = if s then f.getD i 0 else (n.Arcs.getD i default).cap - f.getD i 0 := by
  have hp : pos n.Arcs i s < begins n.Arcs m := pos_lt hi hne he
  have hh := hc.ok.hat i hi hne s
  rw [(hr.2 _ hp).2]
  unfold resV
  rw [hh.2.2.1, hh.2.2.2.1, hh.2.2.2.2, Int.toNat_natCast]
  cases s <;> simp
theorem within_resOK {n : Net} {m : Nat} {c : Csr} {f : List Int} (hc : CsrIs n m c) (hw : WithinAt n.Arcs n.Arcs.length n.Arcs.length f) : ∀ j, j < begins n.Arcs m → resOK c.Arc c.Cap c.Back f j := hc.ok.resok hw
theorem list_of_getD {f g : List Int} (hl : f.length = g.length) (h : ∀ i, i < f.length → f.getD i 0 = g.getD i 0) : f = g := eq_of_getD 0 hl h
theorem flowK_eq {n : Net} {m : Nat} {c : Csr} {f r fl : List Int} (hc : CsrIs n m c) (he : endsOK m n.Arcs) (hw : WithinAt n.Arcs n.Arcs.length n.Arcs.length f) (hr : ResAt c.Arc c.Cap c.Back f (begins n.Arcs m) (begins n.Arcs m) r)
    (hf : FlowK n.Arcs n.Arcs.length r (begins n.Arcs m) fl) : fl = f := by
  refine list_of_getD (by rw [hf.1, hw.1]) fun i hi => ?_
  rw [hf.1] at hi
  rw [hf.2 i]
  by_cases hne : (n.Arcs.getD i default).fr ≠ (n.Arcs.getD i default).to
  · rw [if_pos ⟨hi, hne, pos_lt hi hne he⟩, res_at hc he hr hi hne true]; simp
  · rw [if_neg (fun h => hne h.2.1)]
    exact ((hw.2.1 i hi).2.2 (Classical.not_not.1 hne)).symm
/-- a flow within leaves what a flow is told of -/
theorem flowOK_of {n : Net} {m : Nat} {c : Csr} {f r : List Int} (hc : CsrIs n m c) (he : endsOK m n.Arcs) (hcap : ∀ i, i < n.Arcs.length → 0 ≤ (n.Arcs.getD i default).cap) (hw : ∀ i, i < n.Arcs.length → 0 ≤ f.getD i 0 ∧ f.getD i 0 ≤ (n.Arcs.getD i default).cap) (hr : ResAt c.Arc c.Cap c.Back f (begins n.Arcs m) (begins n.Arcs m) r) :
    ∀ j, j < begins n.Arcs m → flowOK c.Rev c.Cap r j ∧ max (c.Cap.getD j 0) (c.Cap.getD (c.Rev.getD j 0).toNat 0) = (n.Arcs.getD (c.Arc.getD j 0).toNat default).cap ∧ (c.Arc.getD j 0).toNat < n.Arcs.length ∧ 0 ≤ c.Arc.getD j 0 ∧ (0 ≤ c.Rev.getD j 0 ∧ c.Rev.getD j 0 < begins n.Arcs m) := by
  intro j hj
  obtain ⟨i, s, hi, hne, hp, q1, q2, q3, q4, q5⟩ := hc.ok.place hj
  have hq : pos n.Arcs i (!s) < begins n.Arcs m := pos_lt hi hne he
  have r3 : c.Cap.getD (pos n.Arcs i (!s)) 0 = (if (!s) then 0 else (n.Arcs.getD i default).cap) := (hc.ok.hat i hi hne (!s)).2.2.1
  have hci := hcap i hi
  have hmax : max (c.Cap.getD j 0) (c.Cap.getD (c.Rev.getD j 0).toNat 0) = (n.Arcs.getD i default).cap := by
    rw [q2, Int.toNat_natCast, q3, r3]; cases s <;> simp only [Bool.not_false, Bool.not_true, if_true, Bool.false_eq_true, if_false] <;> omega
  have v1 := res_at hc he hr hi hne s
  have v2 := res_at hc he hr hi hne (!s)
  rw [hp] at v1
  have hwi := hw i hi
  refine ⟨⟨?_, ?_, ?_⟩, by rw [hmax, q4, Int.toNat_natCast], by omega, by omega, by omega, by omega⟩
  · rw [v1]; cases s <;> simp only [if_true, Bool.false_eq_true, if_false] <;> omega
  · rw [hmax, v1]; cases s <;> simp only [if_true, Bool.false_eq_true, if_false] <;> omega
  · rw [hmax, q2, Int.toNat_natCast, v1, v2]; cases s <;> simp only [Bool.not_false, Bool.not_true, if_true, Bool.false_eq_true, if_false] <;> omega
theorem p_CsrBack {n : Net} {l : List Int} {a b : Int} (hn : NetIn n) (hl : RowIn l) (ha : u8ok a) (_hb : i64ok b) : m_acequialaw02_CsrBack n l a b = some true := by
  refine ok_eq ?_
  unfold m_acequialaw02_CsrBack
  refine Ok.bind.2 (Ok.mono (s_Some hn (by omega) (by omega) (by omega) (by omega)) fun r hr => ?_)
  obtain ⟨m, hm, hso⟩ := hr.nat
  have hlen := hr.arcs
  have hv := hr.verts
  have hcaps := Made.caps hso
  have he : endsOK m r.Arcs := endsOK_of (by rw [← hm]; exact (checkE_zero hr.check).2.2.2.1)
  refine Ok.bind.2 (Ok.mono (s_Within (by omega) (fun i hi => (hcaps i hi).1) hl) fun f hf => ?_)
  refine Ok.bind.2 (Ok.mono (s_Make hm hr.check (by omega)) ?_)
  rintro ⟨c, e⟩ ⟨hc, rfl⟩
  have hc : CsrIs r m c := hc
  have hbs := begins_small (al := r.Arcs) (v := m) (by omega) (by omega)
  refine Ok.bind.2 (Ok.mono (s_ResRow hc (by omega) (by omega) (fun i hi => by have := hcaps i hi; omega)) ?_)
  rintro ⟨g, e⟩ (⟨hok, h0, hg⟩ | ⟨⟨j, hj, hjr⟩, -⟩)
  rotate_left
  · exact absurd (within_resOK hc hf j hj) hjr
  simp only at h0 hg
  subst h0
  have hfo := flowOK_of hc he (fun i hi => (hcaps i hi).1) (fun i hi => ⟨(hf.2.1 i hi).1, (hf.2.1 i hi).2.1⟩) hg
  have hgl := hg.1
  have hfl := hf.1
  have lh := hc.ok.lh
  have lr := hc.ok.lr
  have la := hc.ok.la
  have lc := hc.ok.lc
  simp only
  unfold m_csr_Len
  rw [if_neg (by simp), if_neg (by simp)]
  refine Ok.bind.2 (Ok.some.2 (Ok.ite.2 ⟨fun h => by omega, fun _ => Ok.bind.2 ?_⟩))
  refine Ok.lp (fun x => ∃ k : Nat, x = k ∧ k ≤ begins r.Arcs m) (fun x => (begins r.Arcs m - x).toNat) ⟨0, rfl, by omega⟩ (by unfold FUEL; omega) ?_
  rintro x ⟨k, rfl, hk⟩ P next exit
  unfold m_acequialaw02_CsrBack_s1
  simp only [Int.toNat_natCast]
  refine Ok.ite.2 ⟨fun hx => ?_, fun hx => ?_⟩
  · obtain ⟨f1, f2, f3, f4, f5⟩ := hfo k (by omega)
    have hcap := hcaps _ f3
    obtain ⟨q1, q2, q3⟩ := f1
    rw [f2] at q2 q3
    refine Ok.gd.2 ⟨(by (first | omega | (constructor <;> omega) | (simp only [List.length_set, List.length_replicate]; omega) | (simp only [List.length_set, List.length_replicate]; constructor <;> omega))), Ok.ite.2 ⟨fun h => absurd q1 (by omega), fun _ => Ok.gd.2 ⟨(by (first | omega | (constructor <;> omega) | (simp only [List.length_set, List.length_replicate]; omega) | (simp only [List.length_set, List.length_replicate]; constructor <;> omega))), Ok.gd.2 ⟨(by (first | omega | (constructor <;> omega) | (simp only [List.length_set, List.length_replicate]; omega) | (simp only [List.length_set, List.length_replicate]; constructor <;> omega))), Ok.gd.2 ⟨(by (first | omega | (constructor <;> omega) | (simp only [List.length_set, List.length_replicate]; omega) | (simp only [List.length_set, List.length_replicate]; constructor <;> omega))), Ok.gd.2 ⟨(by (first | omega | (constructor <;> omega) | (simp only [List.length_set, List.length_replicate]; omega) | (simp only [List.length_set, List.length_replicate]; constructor <;> omega))), Ok.gd.2 ⟨(by (first | omega | (constructor <;> omega) | (simp only [List.length_set, List.length_replicate]; omega) | (simp only [List.length_set, List.length_replicate]; constructor <;> omega))), Ok.ite.2 ⟨fun h => absurd q3 h, fun _ => Ok.gd.2 ⟨(by (first | omega | (constructor <;> omega) | (simp only [List.length_set, List.length_replicate]; omega) | (simp only [List.length_set, List.length_replicate]; constructor <;> omega))), Ok.some.2 (next _ ⟨k + 1, by simp, by omega⟩ (by omega))⟩⟩⟩⟩⟩⟩⟩⟩⟩
  · refine Ok.some.2 (exit _ ?_)
    unfold m_acequialaw02_CsrBack_j2
    rw [hfl]
    refine Ok.bind.2 (Ok.mono (s_Flow hc he (by omega) (by omega) (Nat.le_refl _) (by omega) (fun i hi => by have := hcaps i hi; omega) hgl) ?_)
    rintro ⟨fl, e⟩ (⟨-, h1, h2⟩ | ⟨⟨j, hj, hjr⟩, -⟩)
    rotate_left
    · exact absurd (hfo j hj).1 hjr
    simp only at h1 h2 ⊢
    subst h1
    rw [if_neg (by simp)]
    have hff : fl = f := flowK_eq hc he hf hg h2
    refine Ok.bind.2 (ok_of (s_Longs (by rw [hff]; omega)) ?_)
    rw [if_neg (by simp [hff])]
    refine Ok.ite.2 ⟨fun _ => Ok.bind.2 (ok_of p_awake02 (Ok.some.2 rfl)), fun hne => ?_⟩
    obtain ⟨p, hp⟩ : ∃ p : Nat, a.tmod (g.length : Int) = p := ⟨(a.tmod (g.length : Int)).toNat, by have := tmod_range (x := a) (n := (g.length : Int)) (by omega) (by omega); omega⟩
    have hpr := tmod_range (x := a) (n := (g.length : Int)) (by omega) (by omega)
    simp only [hp, Int.toNat_natCast]
    obtain ⟨f1, f2, f3, f4, f5⟩ := hfo p (by omega)
    obtain ⟨q1, q2, q3⟩ := f1
    rw [f2] at q2 q3
    obtain ⟨i, hi⟩ : ∃ i : Nat, c.Arc.getD p 0 = i := ⟨(c.Arc.getD p 0).toNat, by omega⟩
    simp only [hi, Int.toNat_natCast] at f3 q2 q3 ⊢
    have hcap := hcaps i f3
    refine Ok.gd.2 ⟨(by (first | omega | (constructor <;> omega) | (simp only [List.length_set, List.length_replicate]; omega) | (simp only [List.length_set, List.length_replicate]; constructor <;> omega))), Ok.gd.2 ⟨by omega, Ok.gd.2 ⟨(by (first | omega | (constructor <;> omega) | (simp only [List.length_set, List.length_replicate]; omega) | (simp only [List.length_set, List.length_replicate]; constructor <;> omega))), Ok.gd.2 ⟨(by (first | omega | (constructor <;> omega) | (simp only [List.length_set, List.length_replicate]; omega) | (simp only [List.length_set, List.length_replicate]; constructor <;> omega))), Ok.bind.2 (Ok.mono (s_ResRow hc (by omega) (by omega) (fun i hi => by have := hcaps i hi; omega)) ?_)⟩⟩⟩⟩
    rintro ⟨g2, e2⟩ hg2
    -- the arc has both places: one of them is p
    obtain ⟨i', s, hi', hne', hp', -, q2', -, q4', -⟩ := hc.ok.place (j := p) (by omega)
    obtain rfl : i' = i := by omega
    have hE : e2 = 0 ↔ (0 ≤ b ∧ b ≤ (r.Arcs.getD i' default).cap) := by
      rcases hg2 with ⟨h1, h2, -⟩ | ⟨⟨j, hj, hjr⟩, h2⟩
      · refine ⟨fun _ => ?_, fun _ => h2⟩
        have hfp := h1 (pos r.Arcs i' false) (pos_lt f3 hne' he)
        have hh := hc.ok.hat i' f3 hne' false
        obtain ⟨-, h4⟩ := hfp
        rw [hh.2.2.2.2, hh.2.2.2.1, hh.2.2.1, Int.toNat_natCast, lset_eq (by omega)] at h4
        rcases h4 with h4 | h4
        · cases h4
        · simpa using h4
      · refine ⟨fun h => ?_, fun h => absurd ?_ hjr⟩
        · injection h2 with h3 h4; omega
        · obtain ⟨i2, s2, hi2, hne2, hp2, -, -, w3, w4, w5⟩ := hc.ok.place hj
          unfold resOK
          rw [w3, w4, w5, Int.toNat_natCast, List.length_set]
          refine ⟨by omega, ?_⟩
          cases s2
          · right
            rw [lset]
            simp only [Bool.false_eq_true, if_false]
            by_cases e : i' = i2
            · rw [if_pos ⟨e, by omega⟩, ← e]; exact h
            · rw [if_neg (fun h => e h.1)]; exact ⟨(hf.2.1 i2 hi2).1, (hf.2.1 i2 hi2).2.1⟩
          · exact .inl rfl
    refine Ok.gd.2 ⟨(by (first | omega | (constructor <;> omega) | (simp only [List.length_set, List.length_replicate]; omega) | (simp only [List.length_set, List.length_replicate]; constructor <;> omega))), Ok.gd.2 ⟨by omega, Ok.gd.2 ⟨(by (first | omega | (constructor <;> omega) | (simp only [List.length_set, List.length_replicate]; omega) | (simp only [List.length_set, List.length_replicate]; constructor <;> omega))), Ok.gd.2 ⟨(by (first | omega | (constructor <;> omega) | (simp only [List.length_set, List.length_replicate]; omega) | (simp only [List.length_set, List.length_replicate]; constructor <;> omega))), Ok.gd.2 ⟨(by (first | omega | (constructor <;> omega) | (simp only [List.length_set, List.length_replicate]; omega) | (simp only [List.length_set, List.length_replicate]; constructor <;> omega))), ?_⟩⟩⟩⟩⟩
    simp only [List.length_set, hfl]
    refine Ok.bind.2 (Ok.mono (s_Flow hc he (by omega) (by omega) (Nat.le_refl _) (by omega) (fun i hi => by have := hcaps i hi; omega) (by simpa using hgl)) ?_)
    rintro ⟨fl2, e3⟩ h3
    have hbadp : ¬ flowOK c.Rev c.Cap (g.set p (g.getD p 0 + 1)) p := by
      intro hbad
      have b3 := hbad.2.2
      rw [f2] at b3
      simp only [hi, Int.toNat_natCast] at b3
      have hpq : pos r.Arcs i' (!s) ≠ p := fun e => by
        have := (pos_inj he f3 f3 hne' hne' (e.trans hp'.symm)).2
        cases s <;> cases this
      rw [q2', Int.toNat_natCast, lset_ne (fun e => hpq e.symm), lset_eq (by omega)] at b3
      rw [q2', Int.toNat_natCast] at q3
      omega
    rcases h3 with ⟨h4, -, -⟩ | ⟨-, h4⟩
    · exact absurd (h4 p (by omega)) hbadp
    injection h4 with h5 h6
    simp only [h6]
    refine Ok.ite.2 ⟨fun hb0 => Ok.gd.2 ⟨(by (first | omega | (constructor <;> omega) | (simp only [List.length_set, List.length_replicate]; omega) | (simp only [List.length_set, List.length_replicate]; constructor <;> omega))), ?_⟩, fun hb0 => ?_⟩
    · have : ((decide (e2 = 0)) == (decide (b ≤ (r.Arcs.getD i' default).cap))) = true := by
        rw [beq_iff_eq]
        by_cases h : b ≤ (r.Arcs.getD i' default).cap
        · rw [decide_eq_true h, decide_eq_true (hE.2 ⟨hb0, h⟩)]
        · rw [decide_eq_false h, decide_eq_false (fun h2 => h (hE.1 h2).2)]
      rw [if_pos this, if_pos trivial]
      exact Ok.bind.2 (ok_of p_awake02 (Ok.some.2 rfl))
    · have : ((decide (e2 = 0)) == false) = true := by
        rw [beq_iff_eq]; exact decide_eq_false (fun h2 => hb0 (hE.1 h2).1)
      rw [if_pos this, if_pos trivial]
      exact Ok.bind.2 (ok_of p_awake02 (Ok.some.2 rfl))
end Go.Acq
