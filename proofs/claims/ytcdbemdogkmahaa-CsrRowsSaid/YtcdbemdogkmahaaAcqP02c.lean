/- Plain law: CsrRows. -/
import Derived.Test.YtcdbemdogkmahaaAcqL08
import Derived.Test.YtcdbemdogkmahaaAcqL09
import Derived.Test.YtcdbemdogkmahaaAcqMLCsrRows
namespace Go.Acq
open Go
set_option linter.unusedSimpArgs false
theorem s_Repeat1 {v : Int} {n : Nat} (hn : n ≤ 16384) : Ok (m_slices_Repeat_int [v] n) (fun r => r = List.replicate n v) := by
  unfold m_slices_Repeat_int m_bits_Mul
  rw [show (([v].length : Nat) : Int) = 1 from rfl, s_Mul1 (m := m_bits_Mul64) (y := (n : Int)) (by omega) (by omega) (by funext x0 y1; rfl)]
  refine Ok.ite.2 ⟨fun h => by omega, fun _ => Ok.gd.2 ⟨by constructor <;> omega, Ok.gd.2 ⟨by constructor <;> omega, ?_⟩⟩⟩
  simp only [Option.bind]
  rw [if_neg (by omega)]
  unfold m_slices_Repeat_int_j1
  rw [if_neg (by simp; omega)]
  refine Ok.gd.2 ⟨by constructor <;> omega, Ok.gd.2 ⟨by constructor <;> omega, ?_⟩⟩
  simp only [Int.toNat_natCast]
  refine Ok.bind.2 (Ok.mono (s_double (v := v) (n := n) (step := m_slices_Repeat_int_s2) (by omega) (by funext xs k; rfl)) ?_)
  rintro r rfl
  exact Ok.some.2 rfl
/-- the forward arc of each -/
def FwdK (al : List Arc) (k : Nat) (l : List Int) : Prop := l.length = al.length ∧ ∀ i, i < al.length → l.getD i 0 = if (al.getD i default).fr ≠ (al.getD i default).to ∧ pos al i false < k then (pos al i false : Int) else -1
theorem s_Forward {n : Net} {m : Nat} {c : Csr} (hc : CsrIs n m c) (he : endsOK m n.Arcs) (hm : m ≤ 4096) (hl : n.Arcs.length ≤ 16384) : Ok (m_csr_Forward c (n.Arcs.length : Int)) (fun r => FwdK n.Arcs (begins n.Arcs m) r) := by
  have hbs := begins_small (al := n.Arcs) (v := m) hm hl
  have lh := hc.ok.lh
  have la := hc.ok.la
  have lb := hc.ok.lb
  unfold m_csr_Forward
  refine Ok.ite.2 ⟨fun h => by omega, fun _ => Ok.ite.2 ⟨fun h => by omega, fun _ => Ok.bind.2 (Ok.mono (s_Repeat1 hl) ?_)⟩⟩
  rintro _ rfl
  refine Ok.bind.2 (ok_of (s_Len c) (Ok.bind.2 ?_))
  rw [lh]
  refine Ok.lp (fun s => ∃ k : Nat, s.2 = k ∧ k ≤ begins n.Arcs m ∧ FwdK n.Arcs k s.1) (fun s => (begins n.Arcs m - s.2).toNat) ⟨0, rfl, by omega, by simp, fun i hi => ?_⟩ (by unfold FUEL; simp only; omega) ?_
  · simp only
    rw [getD_repl hi, if_neg (fun h => by omega)]
  rintro ⟨xs, x⟩ ⟨k, h1, hk, hxl, hx⟩ P next exit
  simp only at h1 hxl hx next ⊢
  subst h1
  unfold m_csr_Forward_s1
  simp only [Int.toNat_natCast]
  refine Ok.ite.2 ⟨fun h => ?_, fun h => Ok.some.2 (exit _ ?_)⟩
  · obtain ⟨i, s, hi, hne, hp, q1, q2, q3, q4, q5⟩ := hc.ok.place (j := k) (by omega)
    have skip : ∀ b : Bool, b = false → s = true → Ok (m_csr_Forward_j2 c xs k b) P := by
      rintro b rfl rfl
      unfold m_csr_Forward_j2
      rw [if_neg (by simp)]
      refine Ok.gd.2 ⟨(by (first | omega | (constructor <;> omega) | (simp only [List.length_set, List.length_replicate]; omega) | (simp only [List.length_set, List.length_replicate]; constructor <;> omega))), Ok.some.2 (next _ ⟨k + 1, by simp, by omega, hxl, fun j hj => ?_⟩ (by simp only; omega))⟩
      simp only
      rw [hx j hj]
      by_cases c1 : (n.Arcs.getD j default).fr ≠ (n.Arcs.getD j default).to
      · have : pos n.Arcs j false ≠ k := fun e => by have := (pos_inj he hi hj hne c1 (hp.trans e.symm)).2; cases this
        by_cases c2 : pos n.Arcs j false < k
        · rw [if_pos ⟨c1, c2⟩, if_pos ⟨c1, by omega⟩]
        · rw [if_neg (fun h => c2 h.2), if_neg (fun h => by have := h.2; omega)]
      · rw [if_neg (fun h => c1 h.1), if_neg (fun h => c1 h.1)]
    refine Ok.gd.2 ⟨(by (first | omega | (constructor <;> omega) | (simp only [List.length_set, List.length_replicate]; omega) | (simp only [List.length_set, List.length_replicate]; constructor <;> omega))), Ok.gd.2 ⟨(by (first | omega | (constructor <;> omega) | (simp only [List.length_set, List.length_replicate]; omega) | (simp only [List.length_set, List.length_replicate]; constructor <;> omega))), ?_⟩⟩
    simp only [q4, q5]
    cases s
    · rw [if_pos (by simp), decide_eq_true (show (i : Int) < n.Arcs.length by omega)]
      unfold m_csr_Forward_j2
      simp only [q4, Int.toNat_natCast, if_true]
      refine Ok.gd.2 ⟨(by (first | omega | (constructor <;> omega) | (simp only [List.length_set, List.length_replicate]; omega) | (simp only [List.length_set, List.length_replicate]; constructor <;> omega))), Ok.gd.2 ⟨(by (first | omega | (constructor <;> omega) | (simp only [List.length_set, List.length_replicate]; omega) | (simp only [List.length_set, List.length_replicate]; constructor <;> omega))), Ok.some.2 (next _ ⟨k + 1, by simp, by omega, by simp [hxl], fun j hj => ?_⟩ (by simp only; omega))⟩⟩
      simp only
      rw [lset]
      by_cases e : i = j
      · subst e
        rw [if_pos ⟨rfl, by omega⟩, if_pos ⟨hne, by omega⟩, hp]
      · rw [if_neg (fun h => e h.1), hx j hj]
        by_cases c1 : (n.Arcs.getD j default).fr ≠ (n.Arcs.getD j default).to
        · have : pos n.Arcs j false ≠ k := fun e2 => e (pos_inj he hi hj hne c1 (hp.trans e2.symm)).1
          by_cases c2 : pos n.Arcs j false < k
          · rw [if_pos ⟨c1, c2⟩, if_pos ⟨c1, by omega⟩]
          · rw [if_neg (fun h => c2 h.2), if_neg (fun h => by have := h.2; omega)]
        · rw [if_neg (fun h => c1 h.1), if_neg (fun h => c1 h.1)]
    · rw [if_neg (by simp)]
      exact skip _ rfl rfl
  · obtain rfl : k = begins n.Arcs m := by omega
    unfold m_csr_Forward_j3
    exact Ok.some.2 ⟨hxl, hx⟩
/-- of whom a place is -/
theorem pos_row {al : List Arc} {i v : Nat} {s : Bool} (hi : i < al.length) (hne : (al.getD i default).fr ≠ (al.getD i default).to) (h0 : 0 ≤ vtx (al.getD i default) s) (h1 : begins al v ≤ pos al i s) (h2 : pos al i s < begins al (v + 1)) : vtx (al.getD i default) s = v ∧ pos al i s = begins al v + cnt al v i := by
  obtain ⟨u, hu⟩ : ∃ u : Nat, vtx (al.getD i default) s = u := ⟨(vtx (al.getD i default) s).toNat, by omega⟩
  have hcl := cnt_lt (s := s) hi hne h0
  have hpos : pos al i s = begins al u + cnt al u i := by unfold pos; rw [hu, Int.toNat_natCast]
  rw [hu, Int.toNat_natCast] at hcl
  have hb1 : begins al (u + 1) = begins al u + cnt al u al.length := rfl
  have : u = v := by
    rcases Nat.lt_trichotomy u v with h | h | h
    · have := begins_mono (al := al) (show u + 1 ≤ v by omega); omega
    · exact h
    · have := begins_mono (al := al) (show v + 1 ≤ u by omega); omega
  subst this
  exact ⟨hu, hpos⟩
/-- how many residual arcs of each stand ahead of a place -/
def ManyK (al : List Arc) (k : Nat) (l : List Int) : Prop := l.length = al.length ∧ ∀ i, i < al.length → l.getD i 0 = if (al.getD i default).fr ≠ (al.getD i default).to then (if pos al i false < k then 1 else 0) + (if pos al i true < k then 1 else 0) else 0
theorem ManyK.put {al : List Arc} {m k i : Nat} {s : Bool} {l : List Int} (h : ManyK al k l) (he : endsOK m al) (hi : i < al.length) (hne : (al.getD i default).fr ≠ (al.getD i default).to) (hp : pos al i s = k) : ManyK al (k + 1) (l.set i (l.getD i 0 + 1)) := by
  refine ⟨by simp [h.1], fun j hj => ?_⟩
  have hl := h.1
  have hk : pos al i (!s) ≠ k := fun e => by have := (pos_inj he hi hi hne hne (e.trans hp.symm)).2; cases s <;> cases this
  rw [lset]
  by_cases e : i = j
  · subst e
    rw [if_pos ⟨rfl, by omega⟩, h.2 i hi, if_pos hne, if_pos hne]
    cases s
    · simp only [Bool.not_false] at hk
      rw [if_neg (show ¬ pos al i false < k by omega), if_pos (show pos al i false < k + 1 by omega)]
      by_cases c : pos al i true < k
      · rw [if_pos c, if_pos (by omega)]; rfl
      · rw [if_neg c, if_neg (by omega)]; rfl
    · simp only [Bool.not_true] at hk
      rw [if_neg (show ¬ pos al i true < k by omega), if_pos (show pos al i true < k + 1 by omega)]
      by_cases c : pos al i false < k
      · rw [if_pos c, if_pos (by omega)]; rfl
      · rw [if_neg c, if_neg (by omega)]; rfl
  · rw [if_neg (fun h => e h.1), h.2 j hj]
    by_cases c1 : (al.getD j default).fr ≠ (al.getD j default).to
    · rw [if_pos c1, if_pos c1]
      have hf : ∀ t, pos al j t ≠ k := fun t e2 => e (pos_inj he hi hj hne c1 (hp.trans e2.symm)).1
      have a1 := hf false
      have a2 := hf true
      congr 1
      · by_cases c : pos al j false < k
        · rw [if_pos c, if_pos (by omega)]
        · rw [if_neg c, if_neg (by omega)]
      · by_cases c : pos al j true < k
        · rw [if_pos c, if_pos (by omega)]
        · rw [if_neg c, if_neg (by omega)]
    · rw [if_neg c1, if_neg c1]
theorem p_CsrRows {n : Net} (hn : NetIn n) : m_acequialaw02_CsrRows n = some true := by
  refine ok_eq ?_
  unfold m_acequialaw02_CsrRows
  refine Ok.bind.2 (Ok.mono (s_Some hn (by omega) (by omega) (by omega) (by omega)) fun r hr => ?_)
  obtain ⟨m, hm, hso⟩ := hr.nat
  have hlen := hr.arcs
  have hv := hr.verts
  have he : endsOK m r.Arcs := endsOK_of (by rw [← hm]; exact (checkE_zero hr.check).2.2.2.1)
  refine Ok.bind.2 (Ok.mono (s_Make hm hr.check (by omega)) ?_)
  rintro ⟨c, e⟩ ⟨hc, rfl⟩
  have hc : CsrIs r m c := hc
  have hbs := begins_small (al := r.Arcs) (v := m) (by omega) (by omega)
  have lf := hc.ok.lf
  have lh := hc.ok.lh
  have la := hc.ok.la
  have lb := hc.ok.lb
  have hf := hc.ok.hf
  simp only [s_Len]
  rw [if_neg (by simp)]
  simp only [Option.bind, hm]
  have f0 := hf 0 (by omega)
  have fm := hf m (by omega)
  rw [show begins r.Arcs 0 = 0 from rfl] at f0
  simp only [Int.toNat_natCast, Int.toNat_zero, f0, fm]
  refine Ok.gd.2 ⟨(by (first | omega | (constructor <;> omega) | (simp only [List.length_set, List.length_replicate]; omega) | (simp only [List.length_set, List.length_replicate]; constructor <;> omega))), Ok.ite.2 ⟨fun h => by omega, fun _ => Ok.gd.2 ⟨(by (first | omega | (constructor <;> omega) | (simp only [List.length_set, List.length_replicate]; omega) | (simp only [List.length_set, List.length_replicate]; constructor <;> omega))), Ok.ite.2 ⟨fun h => absurd rfl h, fun _ => Ok.gd.2 ⟨(by (first | omega | (constructor <;> omega) | (simp only [List.length_set, List.length_replicate]; omega) | (simp only [List.length_set, List.length_replicate]; constructor <;> omega))), Ok.ite.2 ⟨fun h => by omega, fun _ => Ok.gd.2 ⟨(by (first | omega | (constructor <;> omega) | (simp only [List.length_set, List.length_replicate]; omega) | (simp only [List.length_set, List.length_replicate]; constructor <;> omega))), Ok.bind.2 ?_⟩⟩⟩⟩⟩⟩⟩
  refine Ok.lp (fun s => ∃ v : Nat, s.2 = v ∧ v ≤ m ∧ ManyK r.Arcs (begins r.Arcs v) s.1) (fun s => (m - s.2).toNat) ⟨0, rfl, by omega, by simp, fun i hi => ?_⟩ (by unfold FUEL; simp only; omega) ?_
  · rw [getD_replicate, show begins r.Arcs 0 = 0 from rfl]; simp
  rintro ⟨mn, x⟩ ⟨v, h1, hvm, hmn⟩ P next exit
  simp only at h1 hmn next ⊢
  subst h1
  unfold m_acequialaw02_CsrRows_s1
  have ev : ((v : Int) + 1).toNat = v + 1 := by omega
  simp only [ev, Int.toNat_natCast, hm]
  refine Ok.ite.2 ⟨fun hx => ?_, fun hx => Ok.some.2 (exit _ ?_)⟩
  · have b0 := hf v (by omega)
    have b1 := hf (v + 1) (by omega)
    have hmo := begins_mono (al := r.Arcs) (show v ≤ v + 1 by omega)
    have hmo2 := begins_mono (al := r.Arcs) (show v + 1 ≤ m by omega)
    simp only [b0, b1]
    refine Ok.gd.2 ⟨(by (first | omega | (constructor <;> omega) | (simp only [List.length_set, List.length_replicate]; omega) | (simp only [List.length_set, List.length_replicate]; constructor <;> omega))), Ok.gd.2 ⟨(by (first | omega | (constructor <;> omega) | (simp only [List.length_set, List.length_replicate]; omega) | (simp only [List.length_set, List.length_replicate]; constructor <;> omega))), Ok.gd.2 ⟨(by (first | omega | (constructor <;> omega) | (simp only [List.length_set, List.length_replicate]; omega) | (simp only [List.length_set, List.length_replicate]; constructor <;> omega))), Ok.ite.2 ⟨fun h => by omega, fun _ => Ok.gd.2 ⟨(by (first | omega | (constructor <;> omega) | (simp only [List.length_set, List.length_replicate]; omega) | (simp only [List.length_set, List.length_replicate]; constructor <;> omega))), Ok.bind.2 ?_⟩⟩⟩⟩⟩
    refine Ok.lp (fun s => ∃ k : Nat, s.2 = k ∧ begins r.Arcs v ≤ k ∧ k ≤ begins r.Arcs (v + 1) ∧ ManyK r.Arcs k s.1) (fun s => (begins r.Arcs (v + 1) - s.2).toNat) ⟨_, rfl, by omega, by omega, hmn⟩ (by unfold FUEL; simp only; omega) ?_
    rintro ⟨mk, y⟩ ⟨k, h1, hk0, hk1, hmk⟩ P2 next2 exit2
    simp only at h1 hmk next2 ⊢
    subst h1
    unfold m_acequialaw02_CsrRows_s2
    simp only [ev, Int.toNat_natCast, b0, b1]
    refine Ok.gd.2 ⟨(by (first | omega | (constructor <;> omega) | (simp only [List.length_set, List.length_replicate]; omega) | (simp only [List.length_set, List.length_replicate]; constructor <;> omega))), Ok.gd.2 ⟨(by (first | omega | (constructor <;> omega) | (simp only [List.length_set, List.length_replicate]; omega) | (simp only [List.length_set, List.length_replicate]; constructor <;> omega))), Ok.ite.2 ⟨fun hy => ?_, fun hy => Ok.some.2 (exit2 _ ?_)⟩⟩⟩
    · obtain ⟨i, s, hi, hne, hp, q1, q2, q3, q4, q5⟩ := hc.ok.place (j := k) (by omega)
      have t1 := s_Tail hc he (by omega) (by omega) (s := s) hi hne
      have hvx := he i hi s
      obtain ⟨p1, p2⟩ := pos_row (v := v) hi hne hvx.1 (by omega) (by omega)
      rw [hp, p1] at t1
      have hm1 := hmk.2 i hi
      have hml := hmk.1
      have nx : P2 (.inl (mk.set i (mk.getD i 0 + 1), (k : Int) + 1)) := next2 _ ⟨k + 1, by simp, by omega, by omega, hmk.put he hi hne hp⟩ (by simp only; omega)
      have hmi : 0 ≤ mk.getD i 0 ∧ mk.getD i 0 ≤ 2 := by rw [hm1]; split <;> (try split) <;> (try split) <;> omega
      have tl : Ok (gd (inb (i : Int) mk.length) <| gd (i64ok (mk.getD i 0 + 1)) <| gd (inb (i : Int) mk.length) <| gd (i64ok ((k : Int) + 1)) <| some (Sum.inl (mk.set i (mk.getD i 0 + 1), (k : Int) + 1))) P2 :=
        Ok.gd.2 ⟨(by (first | omega | (constructor <;> omega) | (simp only [List.length_set, List.length_replicate]; omega) | (simp only [List.length_set, List.length_replicate]; constructor <;> omega))), Ok.gd.2 ⟨(by (first | omega | (constructor <;> omega) | (simp only [List.length_set, List.length_replicate]; omega) | (simp only [List.length_set, List.length_replicate]; constructor <;> omega))), Ok.gd.2 ⟨(by (first | omega | (constructor <;> omega) | (simp only [List.length_set, List.length_replicate]; omega) | (simp only [List.length_set, List.length_replicate]; constructor <;> omega))), Ok.gd.2 ⟨(by (first | omega | (constructor <;> omega) | (simp only [List.length_set, List.length_replicate]; omega) | (simp only [List.length_set, List.length_replicate]; constructor <;> omega))), Ok.some.2 nx⟩⟩⟩⟩
      refine Ok.bind.2 (ok_of t1 ?_)
      simp only [q4, Int.toNat_natCast]
      refine Ok.ite.2 ⟨fun h => by simp at h, fun _ => Ok.ite.2 ⟨fun h => absurd rfl h, fun _ => Ok.gd.2 ⟨(by (first | omega | (constructor <;> omega) | (simp only [List.length_set, List.length_replicate]; omega) | (simp only [List.length_set, List.length_replicate]; constructor <;> omega))), Ok.ite.2 ⟨fun h => ?_, fun h => Ok.gd.2 ⟨(by (first | omega | (constructor <;> omega) | (simp only [List.length_set, List.length_replicate]; omega) | (simp only [List.length_set, List.length_replicate]; constructor <;> omega))), tl⟩⟩⟩⟩⟩
      obtain ⟨k', rfl⟩ : ∃ k', k = k' + 1 := ⟨k - 1, by omega⟩
      have ek : (((k' + 1 : Nat) : Int) - 1).toNat = k' := by omega
      obtain ⟨i', s', hi', hne', hp', r1, r2, r3, r4, r5⟩ := hc.ok.place (j := k') (by omega)
      have hvx' := he i' hi' s'
      obtain ⟨p1', p2'⟩ := pos_row (v := v) hi' hne' hvx'.1 (by omega) (by omega)
      have hlt : i' < i := by
        rcases Nat.lt_or_ge i' i with h2 | h2
        · exact h2
        · have := cnt_mono (al := r.Arcs) (v := v) h2; omega
      simp only [ek, r4]
      exact Ok.gd.2 ⟨(by (first | omega | (constructor <;> omega) | (simp only [List.length_set, List.length_replicate]; omega) | (simp only [List.length_set, List.length_replicate]; constructor <;> omega))), Ok.gd.2 ⟨(by (first | omega | (constructor <;> omega) | (simp only [List.length_set, List.length_replicate]; omega) | (simp only [List.length_set, List.length_replicate]; constructor <;> omega))), Ok.gd.2 ⟨(by (first | omega | (constructor <;> omega) | (simp only [List.length_set, List.length_replicate]; omega) | (simp only [List.length_set, List.length_replicate]; constructor <;> omega))), Ok.ite.2 ⟨fun h => by omega, fun _ => Ok.gd.2 ⟨(by (first | omega | (constructor <;> omega) | (simp only [List.length_set, List.length_replicate]; omega) | (simp only [List.length_set, List.length_replicate]; constructor <;> omega))), tl⟩⟩⟩⟩⟩
    · unfold m_acequialaw02_CsrRows_j3
      obtain rfl : k = begins r.Arcs (v + 1) := by omega
      exact Ok.gd.2 ⟨(by (first | omega | (constructor <;> omega) | (simp only [List.length_set, List.length_replicate]; omega) | (simp only [List.length_set, List.length_replicate]; constructor <;> omega))), Ok.some.2 (next _ ⟨v + 1, by simp, by omega, hmk⟩ (by simp only; omega))⟩
  obtain rfl : v = m := by omega
  unfold m_acequialaw02_CsrRows_j4
  refine Ok.bind.2 (Ok.mono (s_Forward hc he (by omega) (by omega)) fun fw hfw => Ok.ite.2 ⟨fun h => by have := hfw.1; omega, fun _ => Ok.bind.2 ?_⟩)
  refine Ok.lp (fun x => ∃ k : Nat, x = k ∧ k ≤ r.Arcs.length) (fun x => (r.Arcs.length - x).toNat) ⟨0, rfl, by omega⟩ (by unfold FUEL; omega) ?_
  rintro y ⟨k, rfl, hk⟩ P2 next2 exit2
  unfold m_acequialaw02_CsrRows_s5
  simp only [Int.toNat_natCast]
  have hml := hmn.1
  have hfl := hfw.1
  refine Ok.ite.2 ⟨fun hx => Ok.gd.2 ⟨(by (first | omega | (constructor <;> omega) | (simp only [List.length_set, List.length_replicate]; omega) | (simp only [List.length_set, List.length_replicate]; constructor <;> omega))), ?_⟩, fun hx => Ok.some.2 (exit2 _ ?_)⟩
  · have mk1 := hmn.2 k (by omega)
    have fw1 := hfw.2 k (by omega)
    have nx : P2 (.inl ((k : Int) + 1)) := next2 _ ⟨k + 1, by simp, by omega⟩ (by omega)
    refine Ok.ite.2 ⟨fun heq => ?_, fun hne => ?_⟩
    · unfold m_acequialaw02_CsrRows_j6
      simp only [Int.toNat_natCast]
      rw [if_neg (fun h => h heq)] at mk1
      rw [if_neg (fun h => h.1 heq)] at fw1
      simp only [mk1, fw1]
      exact Ok.gd.2 ⟨(by (first | omega | (constructor <;> omega) | (simp only [List.length_set, List.length_replicate]; omega) | (simp only [List.length_set, List.length_replicate]; constructor <;> omega))), Ok.ite.2 ⟨fun h => absurd rfl h, fun _ => Ok.gd.2 ⟨(by (first | omega | (constructor <;> omega) | (simp only [List.length_set, List.length_replicate]; omega) | (simp only [List.length_set, List.length_replicate]; constructor <;> omega))), Ok.ite.2 ⟨fun h => absurd h (by decide), fun _ => Ok.ite.2 ⟨fun h => absurd h (by decide), fun _ => Ok.gd.2 ⟨(by (first | omega | (constructor <;> omega) | (simp only [List.length_set, List.length_replicate]; omega) | (simp only [List.length_set, List.length_replicate]; constructor <;> omega))), Ok.some.2 nx⟩⟩⟩⟩⟩⟩
    · unfold m_acequialaw02_CsrRows_j6
      simp only [Int.toNat_natCast]
      have p0 : pos r.Arcs k false < begins r.Arcs v := pos_lt (by omega) hne he
      have p1 : pos r.Arcs k true < begins r.Arcs v := pos_lt (by omega) hne he
      rw [if_pos hne, if_pos p0, if_pos p1] at mk1
      rw [if_pos ⟨hne, p0⟩] at fw1
      obtain ⟨z1, z2, z3, z4, z5⟩ := hc.ok.hat k (by omega) hne false
      simp only [mk1, fw1, Int.toNat_natCast, z4, z5]
      have d1 : (!((decide (((pos r.Arcs k false : Nat) : Int) < 0)) == (decide ((2 : Int) = 0)))) = false := by
        rw [decide_eq_false (show ¬ ((pos r.Arcs k false : Nat) : Int) < 0 by omega)]; rfl
      simp only [d1]
      exact Ok.gd.2 ⟨(by (first | omega | (constructor <;> omega) | (simp only [List.length_set, List.length_replicate]; omega) | (simp only [List.length_set, List.length_replicate]; constructor <;> omega))), Ok.ite.2 ⟨fun h => absurd rfl h, fun _ => Ok.gd.2 ⟨(by (first | omega | (constructor <;> omega) | (simp only [List.length_set, List.length_replicate]; omega) | (simp only [List.length_set, List.length_replicate]; constructor <;> omega))), Ok.ite.2 ⟨fun h => absurd h (by decide), fun _ => Ok.ite.2 ⟨fun _ => Ok.gd.2 ⟨(by (first | omega | (constructor <;> omega) | (simp only [List.length_set, List.length_replicate]; omega) | (simp only [List.length_set, List.length_replicate]; constructor <;> omega))), Ok.gd.2 ⟨(by (first | omega | (constructor <;> omega) | (simp only [List.length_set, List.length_replicate]; omega) | (simp only [List.length_set, List.length_replicate]; constructor <;> omega))), Ok.ite.2 ⟨fun h => absurd rfl h, fun _ => Ok.gd.2 ⟨(by (first | omega | (constructor <;> omega) | (simp only [List.length_set, List.length_replicate]; omega) | (simp only [List.length_set, List.length_replicate]; constructor <;> omega))), Ok.gd.2 ⟨(by (first | omega | (constructor <;> omega) | (simp only [List.length_set, List.length_replicate]; omega) | (simp only [List.length_set, List.length_replicate]; constructor <;> omega))), Ok.ite.2 ⟨fun h => absurd h (by decide), fun _ => Ok.gd.2 ⟨(by (first | omega | (constructor <;> omega) | (simp only [List.length_set, List.length_replicate]; omega) | (simp only [List.length_set, List.length_replicate]; constructor <;> omega))), Ok.some.2 nx⟩⟩⟩⟩⟩⟩⟩, fun h => absurd trivial h⟩⟩⟩⟩⟩
  · unfold m_acequialaw02_CsrRows_j7
    exact Ok.bind.2 (ok_of p_awake02 (Ok.some.2 rfl))
end Go.Acq
