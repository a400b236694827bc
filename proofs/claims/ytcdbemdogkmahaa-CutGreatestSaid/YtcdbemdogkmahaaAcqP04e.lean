/- Plain law: CutGreatest. -/
import Derived.Test.YtcdbemdogkmahaaAcqL07
import Derived.Test.YtcdbemdogkmahaaAcqL11
import Derived.Test.YtcdbemdogkmahaaAcqL12
import Derived.Test.YtcdbemdogkmahaaAcqMLCutGreatest
namespace Go.Acq
open Go
set_option linter.unusedSimpArgs false
theorem PathP.cons {n : Net} {v w : Int} {l : List Hop} (h : PathP n v l w) {p : Hop} (hp : hok n p) (hw : hto n p = v) : PathP n (hfr n p) ([p] ++ l) w := by
  have g0 : ([p] ++ l).getD 0 default = p := rfl
  have g1 : ∀ i, ([p] ++ l).getD (i + 1) default = l.getD i default := fun i => rfl
  have gl : ([p] ++ l).length = l.length + 1 := by simp
  refine ⟨⟨fun i hi => ?_, fun i hi => ?_⟩, fun _ => by rw [g0], ?_⟩
  · cases i with
    | zero => rw [g0]; exact hp
    | succ i => rw [g1]; exact h.way.1 i (by omega)
  · cases i with
    | zero => rw [g1, g0, hw]; exact h.start (by omega)
    | succ i => rw [g1, g1]; exact h.way.2 i (by omega)
  · rw [gl, if_neg (by omega), Nat.add_sub_cancel, h.fin]
    cases hl : l.length with
    | zero => rw [if_pos rfl, g0, hw]
    | succ q => rw [if_neg (by omega), g1, Nat.add_sub_cancel]
/-- whom one has met, and over which hop -/
structure BfI (n : Net) (f : List Int) (S m : Nat) (xs : List Hop) (mt : List Bool) (row : List Int) : Prop where
  met : MetI (OpenA n f) S m mt row
  src : mt.getD S false = true
  xl : xs.length = m
  r0 : row.getD 0 0 = S
  rl : 0 < row.length
  fr : ∀ q, 0 < q → q < row.length → ∃ p, p < q ∧ hok n (xs.getD (row.getD q 0).toNat default) ∧ hto n (xs.getD (row.getD q 0).toNat default) = row.getD q 0 ∧ hfr n (xs.getD (row.getD q 0).toNat default) = row.getD p 0
theorem BfI.put {n : Net} {f : List Int} {S m k u v : Nat} {xs : List Hop} {mt : List Bool} {row : List Int} (h : BfI n f S m xs mt row) (hk : k < row.length) (hku : row.getD k 0 = u) (hv : v < m) (hf : mt.getD v false = false)
    {p : Hop} (hp : hok n p) (h1 : hto n p = v) (h2 : hfr n p = u) (ho : OpenA n f u v) : BfI n f S m (xs.set v p) (mt.set v true) (row ++ [(v : Int)]) := by
  have hml := h.met.len
  have hxl := h.xl
  have hr : Reach (OpenA n f) S v := by
    obtain ⟨w, a, b, c, d⟩ := h.met.nat k hk
    have : w = u := by omega
    subst this
    exact .step d ho
  refine ⟨h.met.put hv hf hr, ?_, by simp [hxl], ?_, by simp, fun q hq0 hq => ?_⟩
  · rw [lset]; split
    · rfl
    · exact h.src
  · rw [getD_appL h.rl]; exact h.r0
  · rw [List.length_append, List.length_singleton] at hq
    rcases Nat.lt_or_ge q row.length with h3 | h3
    · obtain ⟨w, a, b, c, d⟩ := h.met.nat q h3
      obtain ⟨i, e1, e2, e3, e4⟩ := h.fr q hq0 h3
      have hwv : v ≠ w := fun e => by rw [← e, hf] at c; cases c
      refine ⟨i, e1, ?_⟩
      rw [getD_appL h3, getD_appL (show i < row.length by omega)]
      rw [a, Int.toNat_natCast] at e2 e3 e4 ⊢
      rw [lset_ne hwv]
      exact ⟨e2, e3, e4⟩
    · refine ⟨k, by omega, ?_⟩
      rw [getD_appR h3, show q - row.length = 0 by omega, getD_appL hk]
      have e : ([(v : Int)] : List Int).getD 0 0 = v := rfl
      rw [e, Int.toNat_natCast, lset_eq (by omega)]
      exact ⟨hp, h1, h2.trans hku.symm⟩
theorem up_set {mt : List Bool} {v w : Nat} (h : mt.getD w false = true) : (mt.set v true).getD w false = true := by
  rw [lset]; split
  · rfl
  · exact h
theorem s_bfs3 {n : Net} {f : List Int} {S m k u : Nat} {xs : List Hop} {mt : List Bool} {row : List Int} (he : endsOK m n.Arcs) (hfl : f.length = n.Arcs.length) (hl : n.Arcs.length ≤ 4096) (hm : m ≤ 4096) (hu : u < m)
    (hI : BfI n f S m xs mt row) (hk : k < row.length) (hku : row.getD k 0 = u) (hcl : ∀ q, q < k → ∀ w, w < m → OpenA n f (row.getD q 0).toNat w → mt.getD w false = true) :
    Ok (loopM (fun s => m_acequialaw04_greatest_s3 n f k s.1 s.2.1 s.2.2.1 s.2.2.2) FUEL (xs, mt, row, 0)) (fun s => BfI n f S m s.1 s.2.1 s.2.2 ∧ k < s.2.2.length ∧ ∀ q, q < k + 1 → ∀ w, w < m → OpenA n f (s.2.2.getD q 0).toNat w → s.2.1.getD w false = true) := by
  refine Ok.lp (fun s => ∃ j : Nat, s.2.2.2 = j ∧ j ≤ n.Arcs.length ∧ BfI n f S m s.1 s.2.1 s.2.2.1 ∧ k < s.2.2.1.length ∧ s.2.2.1.getD k 0 = u ∧ (∀ q, q < k → ∀ w, w < m → OpenA n f (s.2.2.1.getD q 0).toNat w → s.2.1.getD w false = true) ∧
      ∀ i, i < j → ((n.Arcs.getD i default).fr = u → f.getD i 0 < (n.Arcs.getD i default).cap → s.2.1.getD (n.Arcs.getD i default).to.toNat false = true) ∧ ((n.Arcs.getD i default).to = u → 0 < f.getD i 0 → s.2.1.getD (n.Arcs.getD i default).fr.toNat false = true))
    (fun s => (n.Arcs.length - s.2.2.2).toNat) ⟨0, rfl, by omega, hI, hk, hku, hcl, fun i hi => by omega⟩ (by unfold FUEL; simp only; omega) ?_
  clear hI hk hku hcl
  rintro ⟨ys, nt, rw', x⟩ ⟨j, h1, hj, hI, hk, hku, hcl, hh⟩ P next exit
  simp only at h1 hI hk hku hcl hh next ⊢
  subst h1
  unfold m_acequialaw04_greatest_s3
  simp only [Int.toNat_natCast]
  refine Ok.ite.2 ⟨fun hx => ?_, fun hx => Ok.some.2 (exit _ ⟨hI, hk, fun q hq w hw ho => ?_⟩)⟩
  · have hjl : j < n.Arcs.length := by omega
    have e0 := he j hjl false
    have e1 := he j hjl true
    simp only [vtx, Bool.false_eq_true, if_false, if_true] at e0 e1
    obtain ⟨A, hA⟩ : ∃ A, n.Arcs.getD j default = A := ⟨_, rfl⟩
    rw [hA] at e0 e1
    obtain ⟨p, hp⟩ : ∃ p : Nat, A.fr = p := ⟨A.fr.toNat, by omega⟩
    obtain ⟨q, hq⟩ : ∃ q : Nat, A.to = q := ⟨A.to.toNat, by omega⟩
    rw [hp] at e0
    rw [hq] at e1
    -- the last part: the next arc
    have j6 : ∀ (ys : List Hop) (nt : List Bool) (rw' : List Int) (b : Bool), BfI n f S m ys nt rw' → k < rw'.length → rw'.getD k 0 = u → (∀ q, q < k → ∀ w, w < m → OpenA n f (rw'.getD q 0).toNat w → nt.getD w false = true) →
        (∀ i, i < j → ((n.Arcs.getD i default).fr = u → f.getD i 0 < (n.Arcs.getD i default).cap → nt.getD (n.Arcs.getD i default).to.toNat false = true) ∧ ((n.Arcs.getD i default).to = u → 0 < f.getD i 0 → nt.getD (n.Arcs.getD i default).fr.toNat false = true)) →
        (p = u → f.getD j 0 < A.cap → nt.getD q false = true) → (b = true → q = u ∧ nt.getD p false = false ∧ 0 < f.getD j 0) → (b = false → q = u → 0 < f.getD j 0 → nt.getD p false = true) → Ok (m_acequialaw04_greatest_j6 n j ys nt rw' b) P := by
      intro ys nt rw' b hI hk hku hcl hh hfst hb hb2
      have hml := hI.met.len
      have hxl := hI.xl
      have hle := hI.met.le
      unfold m_acequialaw04_greatest_j6
      simp only [Int.toNat_natCast, hA, hp]
      refine Ok.ite.2 ⟨fun h => ?_, fun h => Ok.gd.2 ⟨(by (first | omega | (constructor <;> omega) | (simp only [List.length_set, List.length_replicate]; omega) | (simp only [List.length_set, List.length_replicate]; constructor <;> omega))), Ok.some.2 (next _ ⟨j + 1, by simp, by omega, hI, hk, hku, hcl, fun i hi => ?_⟩ (by simp only; omega))⟩⟩
      · obtain ⟨b1, b2, b3⟩ := hb h
        have hne : A.fr ≠ A.to := fun e => by
          obtain ⟨w, c1, c2, c3, -⟩ := hI.met.nat k hk
          have hpw : p = w := by omega
          rw [hpw, c3] at b2; cases b2
        have ho : OpenA n f u p := ⟨j, hjl, by rw [hA]; exact hne, .inr ⟨by rw [hA, hq, b1], by rw [hA, hp], b3⟩⟩
        refine Ok.gd.2 ⟨(by (first | omega | (constructor <;> omega) | (simp only [List.length_set, List.length_replicate]; omega) | (simp only [List.length_set, List.length_replicate]; constructor <;> omega))), Ok.gd.2 ⟨(by (first | omega | (constructor <;> omega) | (simp only [List.length_set, List.length_replicate]; omega) | (simp only [List.length_set, List.length_replicate]; constructor <;> omega))), Ok.gd.2 ⟨?_, Ok.gd.2 ⟨(by (first | omega | (constructor <;> omega) | (simp only [List.length_set, List.length_replicate]; omega) | (simp only [List.length_set, List.length_replicate]; constructor <;> omega))), Ok.some.2 (next _ ⟨j + 1, by simp, by omega, hI.put hk hku (by omega) b2 ⟨by simp only; omega, by simp only; omega⟩ ?_ ?_ ho, by rw [List.length_append]; omega, by rw [getD_appL hk]; exact hku, fun q' hq' w hw hg => ?_, fun i hi => ?_⟩ (by simp only; omega))⟩⟩⟩⟩
        · rw [List.length_append, List.length_singleton]; constructor <;> omega
        · unfold hto; simp only [if_true, Int.toNat_natCast, hA, hp]
        · unfold hfr; simp only [if_true, Int.toNat_natCast, hA, hq, b1]
        · simp only at hg ⊢
          rw [getD_appL (by omega)] at hg
          exact up_set (hcl q' hq' w hw hg)
        · simp only
          rcases Nat.lt_or_ge i j with h3 | h3
          · exact ⟨fun a b => up_set ((hh i h3).1 a b), fun a b => up_set ((hh i h3).2 a b)⟩
          · obtain rfl : i = j := by omega
            rw [hA, hp, hq, Int.toNat_natCast, Int.toNat_natCast]
            exact ⟨fun a b => up_set (hfst (by omega) b), fun _ _ => lset_eq (by omega)⟩
      · simp only
        rcases Nat.lt_or_ge i j with h3 | h3
        · exact hh i h3
        · obtain rfl : i = j := by omega
          rw [hA, hp, hq, Int.toNat_natCast, Int.toNat_natCast]
          exact ⟨fun a b => hfst (by omega) b, fun a b => hb2 (by simpa using h) (by omega) b⟩
    have j5 : ∀ (ys : List Hop) (nt : List Bool) (rw' : List Int), BfI n f S m ys nt rw' → k < rw'.length → rw'.getD k 0 = u → (∀ q, q < k → ∀ w, w < m → OpenA n f (rw'.getD q 0).toNat w → nt.getD w false = true) →
        (∀ i, i < j → ((n.Arcs.getD i default).fr = u → f.getD i 0 < (n.Arcs.getD i default).cap → nt.getD (n.Arcs.getD i default).to.toNat false = true) ∧ ((n.Arcs.getD i default).to = u → 0 < f.getD i 0 → nt.getD (n.Arcs.getD i default).fr.toNat false = true)) →
        (p = u → f.getD j 0 < A.cap → nt.getD q false = true) → Ok (m_acequialaw04_greatest_j5 n f k j ys nt rw') P := by
      intro ys nt rw' hI hk hku hcl hh hfst
      have hml := hI.met.len
      unfold m_acequialaw04_greatest_j5
      simp only [Int.toNat_natCast, hA, hp, hq, hku]
      refine Ok.gd.2 ⟨(by (first | omega | (constructor <;> omega) | (simp only [List.length_set, List.length_replicate]; omega) | (simp only [List.length_set, List.length_replicate]; constructor <;> omega))), Ok.ite.2 ⟨fun h => Ok.gd.2 ⟨(by (first | omega | (constructor <;> omega) | (simp only [List.length_set, List.length_replicate]; omega) | (simp only [List.length_set, List.length_replicate]; constructor <;> omega))), Ok.ite.2 ⟨fun h2 => Ok.gd.2 ⟨(by (first | omega | (constructor <;> omega) | (simp only [List.length_set, List.length_replicate]; omega) | (simp only [List.length_set, List.length_replicate]; constructor <;> omega))), j6 _ _ _ _ hI hk hku hcl hh hfst ?_ ?_⟩, fun h2 => j6 _ _ _ _ hI hk hku hcl hh hfst (fun h3 => by cases h3) fun _ _ _ => by simpa using h2⟩⟩, fun h => j6 _ _ _ _ hI hk hku hcl hh hfst (fun h3 => by cases h3) fun _ h3 => absurd (by omega) h⟩⟩
      · intro h3; exact ⟨by omega, by simpa using h2, of_decide_eq_true h3⟩
      · intro h3 _ h4; exact absurd h4 (of_decide_eq_false h3)
    have hml := hI.met.len
    have hxl := hI.xl
    have hle := hI.met.le
    have j4 : ∀ b : Bool, (b = true → p = u ∧ nt.getD q false = false ∧ f.getD j 0 < A.cap) → (b = false → p = u → f.getD j 0 < A.cap → nt.getD q false = true) → Ok (m_acequialaw04_greatest_j4 n f k ys nt rw' j b) P := by
      intro b hb hb2
      unfold m_acequialaw04_greatest_j4
      simp only [Int.toNat_natCast, hA, hq]
      refine Ok.ite.2 ⟨fun h => ?_, fun h => j5 _ _ _ hI hk hku hcl hh (hb2 (by simpa using h))⟩
      obtain ⟨b1, b2, b3⟩ := hb h
      have hne : A.fr ≠ A.to := fun e => by
        obtain ⟨w, c1, c2, c3, -⟩ := hI.met.nat k hk
        have hpw : q = w := by omega
        rw [hpw, c3] at b2; cases b2
      have ho : OpenA n f u q := ⟨j, hjl, by rw [hA]; exact hne, .inl ⟨by rw [hA, hp, b1], by rw [hA, hq], by rw [hA]; exact b3⟩⟩
      refine Ok.gd.2 ⟨(by (first | omega | (constructor <;> omega) | (simp only [List.length_set, List.length_replicate]; omega) | (simp only [List.length_set, List.length_replicate]; constructor <;> omega))), Ok.gd.2 ⟨(by (first | omega | (constructor <;> omega) | (simp only [List.length_set, List.length_replicate]; omega) | (simp only [List.length_set, List.length_replicate]; constructor <;> omega))), Ok.gd.2 ⟨?_, j5 _ _ _ (hI.put hk hku (by omega) b2 ⟨by simp only; omega, by simp only; omega⟩ ?_ ?_ ho) (by rw [List.length_append]; omega) (by rw [getD_appL hk]; exact hku) (fun q' hq' w hw hg => ?_) (fun i hi => ?_) fun _ _ => lset_eq (by omega)⟩⟩⟩
      · rw [List.length_append, List.length_singleton]; constructor <;> omega
      · unfold hto; simp only [Bool.false_eq_true, if_false, Int.toNat_natCast, hA, hq]
      · unfold hfr; simp only [Bool.false_eq_true, if_false, Int.toNat_natCast, hA, hp, b1]
      · rw [getD_appL (by omega)] at hg
        exact up_set (hcl q' hq' w hw hg)
      · exact ⟨fun a b => up_set ((hh i hi).1 a b), fun a b => up_set ((hh i hi).2 a b)⟩
    simp only [hA, hp, hq, hku, Int.toNat_natCast]
    refine Ok.gd.2 ⟨(by (first | omega | (constructor <;> omega) | (simp only [List.length_set, List.length_replicate]; omega) | (simp only [List.length_set, List.length_replicate]; constructor <;> omega))), Ok.gd.2 ⟨(by (first | omega | (constructor <;> omega) | (simp only [List.length_set, List.length_replicate]; omega) | (simp only [List.length_set, List.length_replicate]; constructor <;> omega))), Ok.ite.2 ⟨fun h => Ok.gd.2 ⟨(by (first | omega | (constructor <;> omega) | (simp only [List.length_set, List.length_replicate]; omega) | (simp only [List.length_set, List.length_replicate]; constructor <;> omega))), Ok.ite.2 ⟨fun h2 => Ok.gd.2 ⟨(by (first | omega | (constructor <;> omega) | (simp only [List.length_set, List.length_replicate]; omega) | (simp only [List.length_set, List.length_replicate]; constructor <;> omega))), j4 _ ?_ ?_⟩, fun h2 => j4 _ (fun h3 => by cases h3) fun _ _ _ => by simpa using h2⟩⟩, fun h => j4 _ (fun h3 => by cases h3) fun _ h3 => absurd (by omega) h⟩⟩⟩
    · intro h3; exact ⟨by omega, by simpa using h2, of_decide_eq_true h3⟩
    · intro h3 _ h4; exact absurd h4 (of_decide_eq_false h3)
  · obtain rfl : j = n.Arcs.length := by omega
    simp only at ho ⊢
    rcases Nat.lt_or_ge q k with h4 | h4
    · exact hcl q h4 w hw ho
    · obtain rfl : q = k := by omega
      rw [hku, Int.toNat_natCast] at ho
      obtain ⟨i, hi, _, ⟨a1, a2, a3⟩ | ⟨a1, a2, a3⟩⟩ := ho
      · have := (hh i hi).1 a1 a3
        rw [a2, Int.toNat_natCast] at this; exact this
      · have := (hh i hi).2 a1 a3
        rw [a2, Int.toNat_natCast] at this; exact this
/-- the search for a way -/
theorem s_bfs2 {n : Net} {f : List Int} {S m : Nat} (he : endsOK m n.Arcs) (hfl : f.length = n.Arcs.length) (hl : n.Arcs.length ≤ 4096) (hm : m ≤ 4096) (hS : S < m) :
    Ok (loopM (fun s => m_acequialaw04_greatest_s2 n f s.1 s.2.1 s.2.2.1 s.2.2.2) FUEL (List.replicate m (default : Hop), (List.replicate m false).set S true, [(S : Int)], 0)) (fun s => (∃ row, BfI n f S m s.1 s.2 row) ∧ ∀ v, v < m → (s.2.getD v false = true ↔ Reach (OpenA n f) S v)) := by
  refine Ok.lp (fun s => ∃ k : Nat, s.2.2.2 = k ∧ k ≤ s.2.2.1.length ∧ BfI n f S m s.1 s.2.1 s.2.2.1 ∧ ∀ q, q < k → ∀ w, w < m → OpenA n f (s.2.2.1.getD q 0).toNat w → s.2.1.getD w false = true) (fun s => (m - s.2.2.2).toNat) ⟨0, rfl, by omega, ⟨⟨by simp, fun q hq => ?_, fun v hv hx => ?_, ?_⟩, by rw [lset, if_pos ⟨rfl, by simpa using hS⟩], by simp, rfl, by simp, fun q h0 hq => ?_⟩, fun q hq => by omega⟩ (by unfold FUEL; simp only; omega) ?_
  · have : q = 0 := by simp at hq; exact hq
    subst this
    exact ⟨S, rfl, hS, by rw [lset, if_pos ⟨rfl, by simpa using hS⟩], .refl⟩
  · rw [lset] at hx
    by_cases c1 : S = v
    · exact ⟨0, by simp, by rw [← c1]; rfl⟩
    · rw [if_neg (fun h => c1 h.1), getD_replicate] at hx; cases hx
  · rw [tc_set (by simpa using hS) (getD_replicate _ _ _), tc_none, if_pos hS]; rfl
  · simp at hq; omega
  rintro ⟨xs, mt, row, x⟩ ⟨k, h1, hk, hI, hcl⟩ P next exit
  simp only at h1 hk hI hcl next ⊢
  subst h1
  have hle := hI.met.le
  unfold m_acequialaw04_greatest_s2
  refine Ok.ite.2 ⟨fun hx => ?_, fun hx => Ok.some.2 (exit _ ⟨⟨row, hI⟩, fun v hv => ⟨fun hx2 => ?_, fun hr => ?_⟩⟩)⟩
  · have hkl : k < row.length := by omega
    obtain ⟨u, hu, hum, -, -⟩ := hI.met.nat k hkl
    refine Ok.bind.2 (Ok.mono (s_bfs3 he hfl hl hm hum hI hkl hu hcl) ?_)
    rintro ⟨ys, nt, rw'⟩ ⟨hI2, hk2, hcl2⟩
    simp only at hI2 hk2 hcl2
    unfold m_acequialaw04_greatest_j7
    have := hI2.met.le
    exact Ok.gd.2 ⟨(by (first | omega | (constructor <;> omega) | (simp only [List.length_set, List.length_replicate]; omega) | (simp only [List.length_set, List.length_replicate]; constructor <;> omega))), Ok.some.2 (next _ ⟨k + 1, by simp, by simp only; omega, hI2, hcl2⟩ (by simp only; omega))⟩
  · obtain ⟨q, hq, hqv⟩ := hI.met.has v hv hx2
    obtain ⟨u, h1, h2, h3, h4⟩ := hI.met.nat q hq
    have : u = v := by omega
    subst this; exact h4
  · obtain rfl : k = row.length := by omega
    clear hv
    have : v < m ∧ mt.getD v false = true := by
      induction hr with
      | refl => exact ⟨hS, hI.src⟩
      | step _ hg ih =>
        obtain ⟨h1, h2⟩ := ih
        rename_i u w _
        have hw : w < m := by
          obtain ⟨i, hi, _, h5⟩ := hg
          have h6 := he i hi false
          have h7 := he i hi true
          simp only [vtx, Bool.false_eq_true, if_false, if_true] at h6 h7
          omega
        obtain ⟨q, hq, hqv⟩ := hI.met.has u h1 h2
        refine ⟨hw, hcl q hq w hw ?_⟩
        rw [hqv, Int.toNat_natCast]; exact hg
    exact this.2
/-- the way that was found -/
theorem s_back9 {n : Net} {f : List Int} {S T m : Nat} {xs : List Hop} {mt : List Bool} {row : List Int} (he : endsOK m n.Arcs) (hm : m ≤ 4096) (hnS : n.S = S) (hT : T < m) (hI : BfI n f S m xs mt row) (ht : mt.getD T false = true) :
    Ok (loopM (fun s => m_acequialaw04_greatest_s9 n xs s.1 s.2) FUEL ([], (T : Int))) (fun way => PathP n S way T ∧ way.length ≤ m) := by
  obtain ⟨q0, hq0, hq0v⟩ := hI.met.has T hT ht
  have hle := hI.met.le
  have hxl := hI.xl
  refine Ok.lp (fun s => ∃ q : Nat, q < row.length ∧ row.getD q 0 = s.2 ∧ s.1.length + q < m ∧ PathP n s.2 s.1 T) (fun s => m - s.1.length) ⟨q0, hq0, hq0v, by simp only [List.length_nil]; omega, PathP.nil n T⟩ (by unfold FUEL; simp only [List.length_nil]; omega) ?_
  rintro ⟨way, v⟩ ⟨q, hq, hqv, hwl, hp⟩ P next exit
  simp only at hqv hwl hp next ⊢
  unfold m_acequialaw04_greatest_s9
  rw [hnS]
  refine Ok.ite.2 ⟨fun hne => ?_, fun hne => Ok.some.2 (exit _ ⟨?_, by omega⟩)⟩
  · have hq1 : 0 < q := Nat.pos_of_ne_zero fun e => by subst e; rw [hI.r0] at hqv; exact hne hqv.symm
    obtain ⟨w, w1, w2, -, -⟩ := hI.met.nat q hq
    obtain ⟨p, p1, p2, p3, p4⟩ := hI.fr q hq1 hq
    have hvw : v = w := by omega
    subst hvw
    rw [hqv, Int.toNat_natCast] at p2 p3 p4
    obtain ⟨H, hH⟩ : ∃ H, xs.getD w default = H := ⟨_, rfl⟩
    rw [hH] at p2 p3 p4
    simp only [Int.toNat_natCast, hH]
    have hlen : ([H] ++ way).length = way.length + 1 := by simp
    have nx := hp.cons p2 p3
    have a1 := p2.1
    have a2 := p2.2
    refine Ok.gd.2 ⟨(by (first | omega | (constructor <;> omega) | (simp only [List.length_set, List.length_replicate]; omega) | (simp only [List.length_set, List.length_replicate]; constructor <;> omega))), Ok.gd.2 ⟨by rw [hlen]; constructor <;> omega, Ok.gd.2 ⟨⟨a1, a2⟩, Ok.ite.2 ⟨fun hB => Ok.gd.2 ⟨⟨a1, a2⟩, Ok.some.2 (next _ ⟨p, by omega, ?_, by simp only [hlen]; omega, ?_⟩ (by simp only [hlen]; omega))⟩, fun hB => Ok.some.2 (next _ ⟨p, by omega, ?_, by simp only [hlen]; omega, ?_⟩ (by simp only [hlen]; omega))⟩⟩⟩⟩
    · rw [← p4]; unfold hfr; rw [if_pos hB]
    · simp only; have := nx; unfold hfr at this; rw [if_pos hB] at this; exact this
    · rw [← p4]; unfold hfr; rw [if_neg hB]
    · simp only; have := nx; unfold hfr at this; rw [if_neg hB] at this; exact this
  · have : v = S := Classical.not_not.1 hne
    subst this; exact hp
theorem s_greatest {n : Net} {m : Nat} (hm : n.N = m) (hc : checkE n.N n.S n.T n.Arcs = 0) (hl : n.Arcs.length ≤ 4096) : Ok (m_acequialaw04_greatest n) (fun r => r.2 = true → FwithinP n r.1 ∧ (∃ w, 0 ≤ w ∧ ∀ u : Int, ex n.Arcs r.1 u n.Arcs.length = w * (one n.T u - one n.S u)) ∧ ¬Reach (OpenA n r.1) n.S.toNat n.T.toNat) := by
  have hz := checkE_zero hc
  simp only [vertexB, decide_eq_true_eq] at hz
  have he : endsOK m n.Arcs := endsOK_of (by rw [← hm]; exact hz.2.2.2.1)
  obtain ⟨S, hS⟩ : ∃ S : Nat, n.S = S := ⟨n.S.toNat, by omega⟩
  obtain ⟨T, hT⟩ : ∃ T : Nat, n.T = T := ⟨n.T.toNat, by omega⟩
  have hcaps := check_caps hc
  have hcap : ∀ i, i < n.Arcs.length → (n.Arcs.getD i default).cap ≤ 4611686018427387904 := fun i hi => by
    have h1 := totC_le hc (i + 1) hi
    have h2 := totC_le hc i (by omega)
    simp only [totC] at h1
    omega
  have hll : lenok n.Arcs.length := by omega
  unfold m_acequialaw04_greatest
  simp only [Int.toNat_natCast]
  refine Ok.gd.2 ⟨(by (first | omega | (constructor <;> omega) | (simp only [List.length_set, List.length_replicate]; omega) | (simp only [List.length_set, List.length_replicate]; constructor <;> omega))), Ok.bind.2 ?_⟩
  refine Ok.lp (fun s => ∃ (k : Nat) (w : Int), s.2 = k ∧ k ≤ 400 ∧ FwithinP n s.1 ∧ 0 ≤ w ∧ ∀ u : Int, ex n.Arcs s.1 u n.Arcs.length = w * (one n.T u - one n.S u)) (fun s => (400 - s.2).toNat) ⟨0, 0, rfl, by omega, ⟨hc, by simp, fun i hi => ?_⟩, by omega, fun u => ?_⟩ (by unfold FUEL; simp only; omega) ?_
  · rw [getD_replicate]; exact ⟨by omega, hcaps i hi⟩
  · have : ∀ k, ex n.Arcs (List.replicate n.Arcs.length 0) u k = 0 := by
      intro k
      induction k with
      | zero => rfl
      | succ k ih => simp only [ex, ih, getD_replicate, ite_self]; rfl
    rw [this, Int.zero_mul]
  rintro ⟨f, x⟩ ⟨k, w, h1, hk, hw, hw0, hwe⟩ P next exit
  simp only at h1 hw hwe next ⊢
  subst h1
  unfold m_acequialaw04_greatest_s1
  rw [hm, hS]
  simp only [Int.toNat_natCast]
  have bad : Ok (some (f, false)) (fun r : List Int × Bool => r.2 = true → FwithinP n r.1 ∧ (∃ w, 0 ≤ w ∧ ∀ u : Int, ex n.Arcs r.1 u n.Arcs.length = w * (one n.T u - one n.S u)) ∧ ¬Reach (OpenA n r.1) n.S.toNat n.T.toNat) := Ok.some.2 fun h => (by cases h)
  refine Ok.ite.2 ⟨fun hx => Ok.gd.2 ⟨(by (first | omega | (constructor <;> omega) | (simp only [List.length_set, List.length_replicate]; omega) | (simp only [List.length_set, List.length_replicate]; constructor <;> omega))), Ok.gd.2 ⟨(by (first | omega | (constructor <;> omega) | (simp only [List.length_set, List.length_replicate]; omega) | (simp only [List.length_set, List.length_replicate]; constructor <;> omega))), Ok.gd.2 ⟨by rw [List.length_replicate]; constructor <;> omega, Ok.bind.2 (Ok.mono (s_bfs2 he hw.2.1 hl (by omega) (by omega)) ?_)⟩⟩⟩, fun hx => Ok.some.2 (exit _ (by unfold m_acequialaw04_greatest_j13; exact bad))⟩
  rintro ⟨xs, mt⟩ ⟨⟨row, hI⟩, hreach⟩
  simp only at hI hreach
  have hml := hI.met.len
  unfold m_acequialaw04_greatest_j8
  rw [hT]
  simp only [Int.toNat_natCast]
  refine Ok.gd.2 ⟨(by (first | omega | (constructor <;> omega) | (simp only [List.length_set, List.length_replicate]; omega) | (simp only [List.length_set, List.length_replicate]; constructor <;> omega))), Ok.ite.2 ⟨fun hmt => Ok.some.2 (exit _ (Ok.some.2 fun _ => ⟨hw, ⟨w, hw0, hwe⟩, fun hr => ?_⟩)), fun hmt => ?_⟩⟩
  · simp only [hS, hT, Int.toNat_natCast] at hr
    rw [(hreach T (by omega)).2 hr] at hmt; cases hmt
  have hmt' : mt.getD T false = true := by simpa using hmt
  refine Ok.bind.2 (Ok.mono (s_back9 he (by omega) hS (by omega) hI hmt') fun way ⟨hp, hwl⟩ => ?_)
  unfold m_acequialaw04_greatest_j10
  refine Ok.bind.2 (Ok.mono (s_Room hll (by omega) hcap) ?_)
  rintro ⟨R, e⟩ (⟨-, -, h0, hR⟩ | ⟨-, h, -⟩ | ⟨h, -⟩)
  rotate_left
  · exact absurd hp.way h
  · exact absurd hw h
  simp only at h0 hR
  subst h0
  obtain ⟨R0, R1, hRfit⟩ := hR
  refine Ok.bind.2 (Ok.mono (s_Send hll (by omega) hcap) ?_)
  rintro ⟨g2, e⟩ (⟨R', -, -, hR', hcase⟩ | ⟨-, h, -⟩ | ⟨h, -⟩)
  rotate_left
  · exact absurd hp.way h
  · exact absurd hw h
  have hfit := (hRfit R R0 (by omega)).1 (Int.le_refl _)
  have hdR : R ≤ R' := (hR'.2.2 R R0 (by omega)).2 hfit
  rcases hcase with ⟨-, -, h0, hs⟩ | ⟨h, -⟩
  rotate_left
  · exact absurd ⟨R0, hdR⟩ h
  simp only at h0 hs ⊢
  subst h0
  have wg : FwithinP n g2 := ⟨hc, hs.1, fun i hi => by rw [hs.2 i hi]; exact hfit i hi⟩
  rw [if_neg (by simp), if_neg (by simp)]
  unfold m_acequialaw04_greatest_j11
  refine Ok.ite.2 ⟨fun _ => Ok.some.2 (exit _ bad), fun _ => ?_⟩
  unfold m_acequialaw04_greatest_j12
  refine Ok.gd.2 ⟨(by (first | omega | (constructor <;> omega) | (simp only [List.length_set, List.length_replicate]; omega) | (simp only [List.length_set, List.length_replicate]; constructor <;> omega))), Ok.some.2 (next _ ⟨k + 1, w + R, by simp, by omega, wg, by omega, fun u => ?_⟩ (by simp only; omega))⟩
  simp only
  rw [ex_sent (c := fun i => cntH way i way.length) u hs.2 _ (Nat.le_refl _), exC_path hp, hwe u, hS, hT, Int.add_mul]
/-- a cut that is tight holds all that is reached from S, and nobody who reaches T -/
theorem tight_reach {n : Net} {f : List Int} {c : List Bool} (ht : ∀ i, i < n.Arcs.length → tightA n.Arcs f c i) {u v : Nat} (hr : Reach (OpenA n f) u v) (hu : c.getD u false = true) : c.getD v false = true := by
  induction hr with
  | refl => exact hu
  | step _ ho ih =>
    rename_i p q _
    obtain ⟨i, hi, _, ⟨a1, a2, a3⟩ | ⟨a1, a2, a3⟩⟩ := ho
    · cases hq : c.getD q false with
      | true => rfl
      | false =>
        have := (ht i hi).1 (by unfold inS; rw [a1, Int.toNat_natCast]; exact ih) (by unfold inS; rw [a2, Int.toNat_natCast]; exact hq)
        omega
    · cases hq : c.getD q false with
      | true => rfl
      | false =>
        have := (ht i hi).2 (by unfold inS; rw [a2, Int.toNat_natCast]; exact hq) (by unfold inS; rw [a1, Int.toNat_natCast]; exact ih)
        omega
theorem p_CutGreatest {n : Net} {s : List Bool} (hn : NetIn n) (hs : s.length ≤ 9223372036854775807) : m_acequialaw04_CutGreatest n s = some true := by
  refine ok_eq ?_
  unfold m_acequialaw04_CutGreatest
  refine Ok.bind.2 (Ok.mono (s_Some hn (by omega) (by omega) (by omega) (by omega)) fun r hr => ?_)
  obtain ⟨m, hm, hso⟩ := hr.nat
  have hlen := hr.arcs
  have hv := hr.verts
  have hends := hr.ends
  have he : endsOK m r.Arcs := endsOK_of (by rw [← hm]; exact (checkE_zero hr.check).2.2.2.1)
  have hll : lenok r.Arcs.length := by omega
  have aw : Ok (Option.bind m_acequialaw04_awake fun r => some r) (fun a => a = true) := Ok.bind.2 (ok_of p_awake04 (Ok.some.2 rfl))
  refine Ok.bind.2 (Ok.mono (s_greatest hm hr.check (by omega)) ?_)
  rintro ⟨f, ok⟩ hg
  simp only at hg ⊢
  refine Ok.ite.2 ⟨fun _ => aw, fun hok => ?_⟩
  obtain ⟨hw, ⟨w, hw0, hwe⟩, hnr⟩ := hg (by simpa using hok)
  have hfl := hw.2.1
  obtain ⟨S, hS⟩ : ∃ S : Nat, r.S = S := ⟨r.S.toNat, by omega⟩
  obtain ⟨T, hT⟩ : ∃ T : Nat, r.T = T := ⟨r.T.toNat, by omega⟩
  have hAll : AllP r f (fun x => x = 0) [r.S, r.T] := ⟨hw, fun v hv => by
    by_cases c : (v : Int) ∈ [r.S, r.T]
    · exact .inr c
    · simp only [List.mem_cons, List.not_mem_nil, or_false, not_or] at c
      left; rw [hwe]; unfold one; rw [if_neg (by omega), if_neg (by omega)]; omega⟩
  refine Ok.bind.2 (Ok.mono (s_Value hll) ?_)
  rintro ⟨v, e⟩ (⟨-, h⟩ | ⟨h, -⟩)
  rotate_left
  · exact absurd hAll h
  injection h with h1 h2
  subst h2
  refine Ok.bind.2 (Ok.mono (s_From hll) ?_)
  rintro ⟨a, e⟩ (⟨-, h2, la, ha⟩ | ⟨h, -⟩)
  rotate_left
  · exact absurd hw h
  refine Ok.bind.2 (Ok.mono (s_To hll) ?_)
  rintro ⟨b, e2⟩ (⟨-, h3, lb, hb⟩ | ⟨h, -⟩)
  rotate_left
  · exact absurd hw h
  simp only at h2 h3 la ha lb hb ⊢
  subst h2; subst h3
  rw [hm, Int.toNat_natCast] at la ha lb hb
  rw [hS, hT, Int.toNat_natCast, Int.toNat_natCast] at hnr
  rw [hS, Int.toNat_natCast] at ha
  rw [hT, Int.toNat_natCast] at hb
  rw [hS, hT] at hends
  have hSm : S < m := by omega
  have hTm : T < m := by omega
  have aS : a.getD S false = true := (ha S hSm).2 .refl
  have aT : a.getD T false = false := by rw [Bool.eq_false_iff]; intro h; exact hnr ((ha T hTm).1 h)
  have bS : b.getD S false = true := (hb S hSm).2 hnr
  have bT : b.getD T false = false := by rw [Bool.eq_false_iff]; intro h; exact (hb T hTm).1 h .refl
  have cutA : CutR r a := ⟨hr.check, by omega, by unfold inS; rw [hS, Int.toNat_natCast]; exact aS, by unfold inS; rw [hT, Int.toNat_natCast]; exact aT⟩
  have cutB : CutR r b := ⟨hr.check, by omega, by unfold inS; rw [hS, Int.toNat_natCast]; exact bS, by unfold inS; rw [hT, Int.toNat_natCast]; exact bT⟩
  have tA : ∀ i, i < r.Arcs.length → tightA r.Arcs f a i := fun i hi => by
    have e0 := he i hi false
    have e1 := he i hi true
    simp only [vtx, Bool.false_eq_true, if_false, if_true] at e0 e1
    obtain ⟨p, hp⟩ : ∃ p : Nat, (r.Arcs.getD i default).fr = p := ⟨(r.Arcs.getD i default).fr.toNat, by omega⟩
    obtain ⟨q, hq⟩ : ∃ q : Nat, (r.Arcs.getD i default).to = q := ⟨(r.Arcs.getD i default).to.toNat, by omega⟩
    rw [hp] at e0
    rw [hq] at e1
    unfold tightA inS
    rw [hp, hq, Int.toNat_natCast, Int.toNat_natCast]
    refine ⟨fun h4 h5 => Int.not_lt.1 fun h6 => ?_, fun h4 h5 => Int.not_lt.1 fun h6 => ?_⟩
    · have hne : (r.Arcs.getD i default).fr ≠ (r.Arcs.getD i default).to := fun e => by rw [show p = q by omega, h5] at h4; cases h4
      rw [(ha q (by omega)).2 (.step ((ha p (by omega)).1 h4) ⟨i, hi, hne, .inl ⟨hp, hq, h6⟩⟩)] at h5; cases h5
    · have hne : (r.Arcs.getD i default).fr ≠ (r.Arcs.getD i default).to := fun e => by rw [show p = q by omega, h5] at h4; cases h4
      rw [(ha p (by omega)).2 (.step ((ha q (by omega)).1 h5) ⟨i, hi, hne, .inr ⟨hq, hp, h6⟩⟩)] at h4; cases h4
  have tB : ∀ i, i < r.Arcs.length → tightA r.Arcs f b i := fun i hi => by
    have e0 := he i hi false
    have e1 := he i hi true
    simp only [vtx, Bool.false_eq_true, if_false, if_true] at e0 e1
    obtain ⟨p, hp⟩ : ∃ p : Nat, (r.Arcs.getD i default).fr = p := ⟨(r.Arcs.getD i default).fr.toNat, by omega⟩
    obtain ⟨q, hq⟩ : ∃ q : Nat, (r.Arcs.getD i default).to = q := ⟨(r.Arcs.getD i default).to.toNat, by omega⟩
    rw [hp] at e0
    rw [hq] at e1
    unfold tightA inS
    rw [hp, hq, Int.toNat_natCast, Int.toNat_natCast]
    have step : ∀ u v : Nat, u < m → v < m → OpenA r f u v → b.getD u false = true → b.getD v false = true := fun u v hu hv ho h => (hb v hv).2 fun h7 => (hb u hu).1 h (Reach.trans (.step .refl ho) h7)
    refine ⟨fun h4 h5 => Int.not_lt.1 fun h6 => ?_, fun h4 h5 => Int.not_lt.1 fun h6 => ?_⟩
    · have hne : (r.Arcs.getD i default).fr ≠ (r.Arcs.getD i default).to := fun e => by rw [show p = q by omega, h5] at h4; cases h4
      rw [step p q (by omega) (by omega) ⟨i, hi, hne, .inl ⟨hp, hq, h6⟩⟩ h4] at h5; cases h5
    · have hne : (r.Arcs.getD i default).fr ≠ (r.Arcs.getD i default).to := fun e => by rw [show p = q by omega, h5] at h4; cases h4
      rw [step q p (by omega) (by omega) ⟨i, hi, hne, .inr ⟨hq, hp, h6⟩⟩ h5] at h4; cases h4
  have acr : ∀ c, CutR r c → acK r.Arcs f c r.Arcs.length = v := fun c hc => by rw [h1]; exact flow_across hm he hAll hc
  have capt : ∀ c, CutR r c → v ≤ capK r.Arcs c r.Arcs.length ∧ (v = capK r.Arcs c r.Arcs.length ↔ ∀ i, i < r.Arcs.length → tightA r.Arcs f c i) := fun c hc => by
    have := acK_cap (c := c) hw.2.2 r.Arcs.length (Nat.le_refl _)
    rw [acr c hc] at this; exact this
  rw [if_neg (by simp)]
  unfold m_acequialaw04_CutGreatest_j1
  rw [if_neg (by simp)]
  unfold m_acequialaw04_CutGreatest_j2
  rw [if_neg (by simp)]
  refine Ok.bind.2 (Ok.mono (s_Tight hll) fun t ht => ?_)
  rw [ht.2 ⟨cutA, hw, tA⟩]
  unfold m_acequialaw04_CutGreatest_j3
  rw [if_neg (by simp)]
  refine Ok.bind.2 (Ok.mono (s_Tight hll) fun t ht => ?_)
  rw [ht.2 ⟨cutB, hw, tB⟩]
  unfold m_acequialaw04_CutGreatest_j4
  rw [if_neg (by simp)]
  refine Ok.bind.2 (Ok.mono (s_Cap hll) ?_)
  rintro ⟨x, e⟩ (⟨-, h⟩ | ⟨h, -⟩)
  rotate_left
  · exact absurd cutA h
  injection h with h3 h4
  subst h4
  simp only
  rw [if_neg (by simp), if_neg (by have := ((capt a cutA).2).2 tA; omega)]
  refine Ok.bind.2 (Ok.mono (s_Cap hll) ?_)
  rintro ⟨y, e⟩ (⟨-, h⟩ | ⟨h, -⟩)
  rotate_left
  · exact absurd cutB h
  injection h with h5 h6
  subst h6
  simp only
  rw [if_neg (by simp), if_neg (by have := ((capt b cutB).2).2 tB; omega)]
  unfold m_acequialaw04_CutGreatest_j5
  refine Ok.bind.2 (Ok.mono (s_side hr.check) fun c hc => ?_)
  refine Ok.bind.2 (Ok.mono (s_Cap hll) ?_)
  rintro ⟨z, e⟩ (⟨-, h⟩ | ⟨h, -⟩)
  rotate_left
  · exact absurd hc h
  injection h with h7 h8
  subst h8
  obtain ⟨q1, q2⟩ := capt c hc
  have hcl : c.length = m := by have := hc.2.1; omega
  simp only
  rw [if_neg (by simp), if_neg (by omega)]
  refine Ok.bind.2 (Ok.mono (s_Tight hll) fun t ht => ?_)
  have ht' : decide (z = v) = t := by
    rw [Bool.eq_iff_iff, decide_eq_true_iff, ht, h7, eq_comm, q2]
    exact ⟨fun h => ⟨hc, hw, h⟩, fun h => h.2.2⟩
  rw [ht', if_neg (by simp)]
  refine Ok.bind.2 (Ok.lp (fun x => ∃ k : Nat, x = k ∧ k ≤ m) (fun x => (m - x).toNat) ⟨0, rfl, by omega⟩ (by unfold FUEL; omega) ?_)
  rintro x ⟨k, rfl, hk⟩ P next exit
  unfold m_acequialaw04_CutGreatest_s6
  simp only [Int.toNat_natCast]
  refine Ok.ite.2 ⟨fun hx => ?_, fun hx => Ok.some.2 (exit _ (by unfold m_acequialaw04_CutGreatest_j11; exact aw))⟩
  have nx : Ok (m_acequialaw04_CutGreatest_j10 k false) P := by
    unfold m_acequialaw04_CutGreatest_j10
    rw [if_neg (by simp)]
    exact Ok.gd.2 ⟨(by (first | omega | (constructor <;> omega) | (simp only [List.length_set, List.length_replicate]; omega) | (simp only [List.length_set, List.length_replicate]; constructor <;> omega))), Ok.some.2 (next _ ⟨k + 1, by simp, by omega⟩ (by omega))⟩
  refine Ok.ite.2 ⟨fun hz => ?_, fun _ => nx⟩
  have tC := q2.1 (by omega)
  have ac : a.getD k false = true → c.getD k false = true := fun h => tight_reach tC ((ha k (by omega)).1 h) (by have := hc.2.2.1; unfold inS at this; rw [hS, Int.toNat_natCast] at this; exact this)
  have cb : c.getD k false = true → b.getD k false = true := fun h => (hb k (by omega)).2 fun h2 => by
    have h3 := tight_reach tC h2 h
    have := hc.2.2.2
    unfold inS at this
    rw [hT, Int.toNat_natCast, h3] at this; cases this
  have j8 : Ok (m_acequialaw04_CutGreatest_j8 k false) P := by unfold m_acequialaw04_CutGreatest_j8 m_acequialaw04_CutGreatest_j9; exact nx
  have j7 : Ok (m_acequialaw04_CutGreatest_j7 b c k false) P := by
    unfold m_acequialaw04_CutGreatest_j7
    rw [if_neg (by simp)]
    simp only [Int.toNat_natCast]
    refine Ok.gd.2 ⟨(by (first | omega | (constructor <;> omega) | (simp only [List.length_set, List.length_replicate]; omega) | (simp only [List.length_set, List.length_replicate]; constructor <;> omega))), Ok.ite.2 ⟨fun h => Ok.gd.2 ⟨(by (first | omega | (constructor <;> omega) | (simp only [List.length_set, List.length_replicate]; omega) | (simp only [List.length_set, List.length_replicate]; constructor <;> omega))), ?_⟩, fun _ => j8⟩⟩
    rw [cb h]; exact j8
  refine Ok.gd.2 ⟨(by (first | omega | (constructor <;> omega) | (simp only [List.length_set, List.length_replicate]; omega) | (simp only [List.length_set, List.length_replicate]; constructor <;> omega))), Ok.ite.2 ⟨fun h => Ok.gd.2 ⟨(by (first | omega | (constructor <;> omega) | (simp only [List.length_set, List.length_replicate]; omega) | (simp only [List.length_set, List.length_replicate]; constructor <;> omega))), ?_⟩, fun _ => j7⟩⟩
  rw [ac h]; exact j7
end Go.Acq
