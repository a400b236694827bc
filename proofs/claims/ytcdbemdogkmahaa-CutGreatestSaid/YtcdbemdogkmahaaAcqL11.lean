/- Plain law: whom one meets from a vertex on; who is reached by what a flow leaves. -/
import Derived.Test.YtcdbemdogkmahaaAcqL10
namespace Go.Acq
open Go
set_option linter.unusedSimpArgs false
/-- who is reached -/
inductive Reach (G : Nat → Nat → Prop) (s : Nat) : Nat → Prop
  | refl : Reach G s s
  | step {u v : Nat} : Reach G s u → G u v → Reach G s v
theorem Reach.trans {G : Nat → Nat → Prop} {a b c : Nat} (h : Reach G a b) (g : Reach G b c) : Reach G a c := by
  induction g with
  | refl => exact h
  | step _ h2 ih => exact .step ih h2
theorem Reach.flip {G : Nat → Nat → Prop} {a b : Nat} (h : Reach G a b) : Reach (fun u v => G v u) b a := by
  induction h with
  | refl => exact .refl
  | step _ h2 ih => exact Reach.trans (.step .refl h2) ih
theorem Reach.mono {G K : Nat → Nat → Prop} {a b : Nat} (h : Reach G a b) (hk : ∀ u v, G u v → K u v) : Reach K a b := by
  induction h with
  | refl => exact .refl
  | step _ h2 ih => exact .step ih (hk _ _ h2)
/-- so many are in, of the first k -/
def tc (l : List Bool) : Nat → Nat
  | 0 => 0
  | k + 1 => tc l k + if l.getD k false = true then 1 else 0
theorem tc_le (l : List Bool) : ∀ k, tc l k ≤ k
  | 0 => Nat.le_refl _
  | k + 1 => by have := tc_le l k; simp only [tc]; split <;> omega
theorem tc_set {l : List Bool} {i : Nat} (hi : i < l.length) (hf : l.getD i false = false) : ∀ k : Nat, tc (l.set i true) k = tc l k + (if i < k then 1 else 0)
  | 0 => by simp [tc]
  | k + 1 => by
    have ih := tc_set hi hf k
    simp only [tc, ih, lset]
    by_cases c : i = k
    · subst c
      rw [if_neg (show ¬ i < i by omega), if_pos (show i = i ∧ i < l.length from ⟨rfl, hi⟩), hf, if_pos rfl, if_pos (show i < i + 1 by omega)]; rfl
    · rw [if_neg (show ¬(i = k ∧ i < l.length) from fun h => c h.1)]
      by_cases c2 : i < k
      · rw [if_pos c2, if_pos (show i < k + 1 by omega)]; omega
      · rw [if_neg c2, if_neg (show ¬ i < k + 1 by omega)]; omega
theorem tc_none (n : Nat) : ∀ k, tc (List.replicate n false) k = 0
  | 0 => rfl
  | k + 1 => by simp only [tc, tc_none n k, getD_replicate]; rfl
/-! ### the walk over all, whatever may be gone -/
def g_s2 (c0 : Csr) (my : Int → Option Bool) (i25 : Int) (xs29 : List Bool) (row31 : List Int) (a41 : Int) : Option ((List Bool × List Int × Int) ⊕ (List Bool × List Int)) :=
  gd (inb i25 row31.length) <|
  gd (i64ok ((row31.getD i25.toNat 0) + 1)) <|
  gd (inb ((row31.getD i25.toNat 0) + 1) c0.First.length) <|
  if a41 < (c0.First.getD ((row31.getD i25.toNat 0) + 1).toNat 0) then
  (Option.bind (my a41) fun r46 =>
  if r46 = true then
  (gd (inb a41 c0.Head.length) <|
  Option.bind (m_cut_met_1 (c0.Head.getD a41.toNat 0) xs29 row31) fun (r50, r51) =>
  gd (i64ok (a41 + 1)) <|
  some (.inl (r50, r51, (a41 + 1))))
  else
  gd (i64ok (a41 + 1)) <|
  some (.inl (xs29, row31, (a41 + 1))))
  else
  some (.inr (xs29, row31))
def g_s1 (c0 : Csr) (my : Int → Option Bool) (xs13 : List Bool) (row15 : List Int) (i25 : Int) : Option ((List Bool × List Int × Int) ⊕ (List Bool)) :=
  if i25 < (row15.length : Int) then
  (gd (inb i25 row15.length) <|
  gd (inb (row15.getD i25.toNat 0) c0.First.length) <|
  Option.bind (loopM (fun s => g_s2 c0 my i25 s.1 s.2.1 s.2.2) FUEL (xs13, row15, (c0.First.getD (row15.getD i25.toNat 0).toNat 0))) fun (p2_0_0, p2_0_1) => gd (i64ok (i25 + 1)) <| some (.inl (p2_0_0, p2_0_1, (i25 + 1))))
  else
  some (.inr xs13)
def g_met (c0 : Csr) (from1 : Int) (my : Int → Option Bool) : Option (List Bool) :=
  gd (mkok c0.N) <|
  gd (inb from1 (List.replicate c0.N.toNat (false : Bool)).length) <|
  Option.bind (loopM (fun s => g_s1 c0 my s.1 s.2.1 s.2.2) FUEL (((List.replicate c0.N.toNat (false : Bool)).set from1.toNat true), [from1], 0)) fun p1_0_0 => some p1_0_0
theorem g_From (c : Csr) (s : Int) (r : List Int) : m_cut_met_From_1 c s r = g_met c s (fun a => m_cut_From_1 a r) := rfl
theorem g_To (c : Csr) (s : Int) (r : List Int) (d : Csr) : m_cut_met_To_1 c s r d = g_met c s (fun a => m_cut_To_1 a r d) := rfl
/-- whom one has met -/
structure MetI (G : Nat → Nat → Prop) (s m : Nat) (xs : List Bool) (row : List Int) : Prop where
  len : xs.length = m
  nat : ∀ q, q < row.length → ∃ v : Nat, row.getD q 0 = v ∧ v < m ∧ xs.getD v false = true ∧ Reach G s v
  has : ∀ v, v < m → xs.getD v false = true → ∃ q, q < row.length ∧ row.getD q 0 = (v : Int)
  cnt : row.length = tc xs m
theorem MetI.le {G : Nat → Nat → Prop} {s m : Nat} {xs : List Bool} {row : List Int} (h : MetI G s m xs row) : row.length ≤ m := by rw [h.cnt]; exact tc_le _ _
theorem MetI.put {G : Nat → Nat → Prop} {s m v : Nat} {xs : List Bool} {row : List Int} (h : MetI G s m xs row) (hv : v < m) (hf : xs.getD v false = false) (hr : Reach G s v) : MetI G s m (xs.set v true) (row ++ [(v : Int)]) := by
  have hl := h.len
  refine ⟨by simp [hl], fun q hq => ?_, fun u hu hx => ?_, ?_⟩
  · rw [List.length_append, List.length_singleton] at hq
    rcases Nat.lt_or_ge q row.length with h1 | h1
    · obtain ⟨u, h2, h3, h4, h5⟩ := h.nat q h1
      refine ⟨u, by rw [getD_appL h1]; exact h2, h3, ?_, h5⟩
      rw [lset]; split
      · rfl
      · exact h4
    · refine ⟨v, ?_, hv, by rw [lset, if_pos ⟨rfl, by omega⟩], hr⟩
      rw [getD_appR h1, show q - row.length = 0 by omega]; rfl
  · rw [lset] at hx
    by_cases c : v = u
    · refine ⟨row.length, by simp, ?_⟩
      rw [getD_appR (Nat.le_refl _), Nat.sub_self, ← c]; rfl
    · rw [if_neg (fun h => c h.1)] at hx
      obtain ⟨q, h1, h2⟩ := h.has u hu hx
      exact ⟨q, by rw [List.length_append]; omega, by rw [getD_appL h1]; exact h2⟩
  · rw [List.length_append, List.length_singleton, tc_set (by omega) hf, if_pos hv, h.cnt]
theorem s_met {n : Net} {m s : Nat} {c : Csr} {my : Int → Option Bool} {mb : Nat → Bool} (hc : CsrIs n m c) (he : endsOK m n.Arcs) (hm : m ≤ 4096) (hl : n.Arcs.length ≤ 16384) (hs : s < m) (hmy : ∀ j : Nat, j < begins n.Arcs m → my j = some (mb j)) :
    Ok (g_met c s my) (fun r => r.length = m ∧ ∀ v, v < m → (r.getD v false = true ↔ Reach (fun u w => ∃ j, begins n.Arcs u ≤ j ∧ j < begins n.Arcs (u + 1) ∧ mb j = true ∧ c.Head.getD j 0 = w) s v)) := by
  obtain ⟨G, hG⟩ : ∃ G : Nat → Nat → Prop, (fun (u w : Nat) => ∃ j, begins n.Arcs u ≤ j ∧ j < begins n.Arcs (u + 1) ∧ mb j = true ∧ c.Head.getD j 0 = (w : Int)) = G := ⟨_, rfl⟩
  rw [hG]
  have hbs := begins_small (al := n.Arcs) (v := m) hm hl
  have lf := hc.ok.lf
  have lh := hc.ok.lh
  have hf := hc.ok.hf
  unfold g_met
  rw [hc.hN]
  simp only [Int.toNat_natCast]
  refine Ok.gd.2 ⟨(by (first | omega | (constructor <;> omega) | (simp only [List.length_set, List.length_replicate]; omega) | (simp only [List.length_set, List.length_replicate]; constructor <;> omega))), Ok.gd.2 ⟨by rw [List.length_replicate]; constructor <;> omega, Ok.bind.2 ?_⟩⟩
  refine Ok.lp (fun st => ∃ k : Nat, st.2.2 = k ∧ k ≤ st.2.1.length ∧ MetI G s m st.1 st.2.1 ∧ st.1.getD s false = true ∧ ∀ q, q < k → ∀ w, w < m → G (st.2.1.getD q 0).toNat w → st.1.getD w false = true) (fun st => (m - st.2.2).toNat)
    ⟨0, rfl, by omega, ⟨by simp, fun q hq => ?_, fun v hv hx => ?_, ?_⟩, by rw [lset, if_pos ⟨rfl, by simpa using hs⟩], fun q hq => by omega⟩ (by unfold FUEL; simp only; omega) ?_
  · have : q = 0 := by simp at hq; exact hq
    subst this
    exact ⟨s, rfl, hs, by rw [lset, if_pos ⟨rfl, by simpa using hs⟩], .refl⟩
  · rw [lset] at hx
    by_cases c1 : s = v
    · exact ⟨0, by simp, by rw [← c1]; rfl⟩
    · rw [if_neg (fun h => c1 h.1), getD_replicate] at hx; cases hx
  · rw [tc_set (by simpa using hs) (getD_replicate _ _ _), tc_none, if_pos hs]; rfl
  rintro ⟨xs, row, x⟩ ⟨k, h1, hk, hI, hS, hP⟩ P next exit
  simp only at h1 hk hI hS hP next ⊢
  subst h1
  unfold g_s1
  have hle := hI.le
  simp only [Int.toNat_natCast]
  refine Ok.ite.2 ⟨fun hx => ?_, fun hx => Ok.some.2 (exit _ (Ok.some.2 ?_))⟩
  · obtain ⟨u, hu, hum, -, hur⟩ := hI.nat k (by omega)
    simp only [hu, Int.toNat_natCast, hf u (by omega)]
    refine Ok.gd.2 ⟨(by (first | omega | (constructor <;> omega) | (simp only [List.length_set, List.length_replicate]; omega) | (simp only [List.length_set, List.length_replicate]; constructor <;> omega))), Ok.gd.2 ⟨(by (first | omega | (constructor <;> omega) | (simp only [List.length_set, List.length_replicate]; omega) | (simp only [List.length_set, List.length_replicate]; constructor <;> omega))), Ok.bind.2 ?_⟩⟩
    have hmo := begins_mono (al := n.Arcs) (show u ≤ u + 1 by omega)
    have hmo2 := begins_mono (al := n.Arcs) (show u + 1 ≤ m by omega)
    refine Ok.lp (fun st => ∃ j : Nat, st.2.2 = j ∧ begins n.Arcs u ≤ j ∧ j ≤ begins n.Arcs (u + 1) ∧ MetI G s m st.1 st.2.1 ∧ st.1.getD s false = true ∧ k < st.2.1.length ∧ st.2.1.getD k 0 = u ∧ (∀ q, q < k → ∀ w, w < m → G (st.2.1.getD q 0).toNat w → st.1.getD w false = true) ∧
      ∀ i, begins n.Arcs u ≤ i → i < j → mb i = true → ∀ w : Nat, c.Head.getD i 0 = (w : Int) → st.1.getD w false = true) (fun st => (begins n.Arcs (u + 1) - st.2.2).toNat) ⟨_, rfl, Nat.le_refl _, hmo, hI, hS, by simp only; omega, hu, hP, fun i h1 h2 => by omega⟩ (by unfold FUEL; simp only; omega) ?_
    rintro ⟨ys, rw', y⟩ ⟨j, h1, hj0, hj1, hI2, hS2, hkl, hku, hP2, hA⟩ P2 next2 exit2
    simp only at h1 hI2 hS2 hkl hku hP2 hA next2 ⊢
    subst h1
    unfold g_s2
    have eu : ((u : Int) + 1).toNat = u + 1 := by omega
    have hle2 := hI2.le
    have hyl := hI2.len
    simp only [Int.toNat_natCast, hku, eu, hf (u + 1) (by omega)]
    refine Ok.gd.2 ⟨(by (first | omega | (constructor <;> omega) | (simp only [List.length_set, List.length_replicate]; omega) | (simp only [List.length_set, List.length_replicate]; constructor <;> omega))), Ok.gd.2 ⟨(by (first | omega | (constructor <;> omega) | (simp only [List.length_set, List.length_replicate]; omega) | (simp only [List.length_set, List.length_replicate]; constructor <;> omega))), Ok.gd.2 ⟨(by (first | omega | (constructor <;> omega) | (simp only [List.length_set, List.length_replicate]; omega) | (simp only [List.length_set, List.length_replicate]; constructor <;> omega))), Ok.ite.2 ⟨fun hy => ?_, fun hy => Ok.some.2 (exit2 _ ?_)⟩⟩⟩⟩
    · refine Ok.bind.2 (ok_of (hmy j (by omega)) (Ok.ite.2 ⟨fun hb => ?_, fun hb => ?_⟩))
      · obtain ⟨i, t, hi, hne, hp, q1, -, -, -, -⟩ := hc.ok.place (j := j) (by omega)
        have hv := he i hi (!t)
        obtain ⟨v, hvv⟩ : ∃ v : Nat, vtx (n.Arcs.getD i default) (!t) = v := ⟨(vtx (n.Arcs.getD i default) (!t)).toNat, by omega⟩
        rw [hvv] at q1 hv
        have hGu : G u v := by rw [← hG]; exact ⟨j, hj0, by omega, hb, q1⟩
        simp only [q1]
        refine Ok.gd.2 ⟨(by (first | omega | (constructor <;> omega) | (simp only [List.length_set, List.length_replicate]; omega) | (simp only [List.length_set, List.length_replicate]; constructor <;> omega))), Ok.bind.2 ?_⟩
        unfold m_cut_met_1
        simp only [Int.toNat_natCast]
        refine Ok.gd.2 ⟨(by (first | omega | (constructor <;> omega) | (simp only [List.length_set, List.length_replicate]; omega) | (simp only [List.length_set, List.length_replicate]; constructor <;> omega))), Ok.ite.2 ⟨fun hn => ?_, fun hn => Ok.some.2 (Ok.gd.2 ⟨(by (first | omega | (constructor <;> omega) | (simp only [List.length_set, List.length_replicate]; omega) | (simp only [List.length_set, List.length_replicate]; constructor <;> omega))), Ok.some.2 (next2 _ ⟨j + 1, by simp, by omega, by omega, hI2, hS2, hkl, hku, hP2, fun i' h1 h2 h3 w hw => ?_⟩ (by simp only; omega))⟩)⟩⟩
        · have hn' : ys.getD v false = false := by simpa using hn
          have hI3 := hI2.put (by omega) hn' (.step hur hGu)
          have up : ∀ w, ys.getD w false = true → (ys.set v true).getD w false = true := fun w hw => by
            rw [lset]; split
            · rfl
            · exact hw
          refine Ok.gd.2 ⟨(by (first | omega | (constructor <;> omega) | (simp only [List.length_set, List.length_replicate]; omega) | (simp only [List.length_set, List.length_replicate]; constructor <;> omega))), Ok.gd.2 ⟨?_, Ok.some.2 (Ok.gd.2 ⟨(by (first | omega | (constructor <;> omega) | (simp only [List.length_set, List.length_replicate]; omega) | (simp only [List.length_set, List.length_replicate]; constructor <;> omega))), Ok.some.2 (next2 _ ⟨j + 1, by simp, by omega, by omega, hI3, up _ hS2, by rw [List.length_append]; omega, by rw [getD_appL hkl]; exact hku, fun q hq w hw hg => ?_, fun i' h1 h2 h3 w hw => ?_⟩ (by simp only; omega))⟩)⟩⟩
          · rw [List.length_append, List.length_singleton]; constructor <;> omega
          · simp only at hg ⊢
            rw [getD_appL (by omega)] at hg
            exact up w (hP2 q hq w hw hg)
          · simp only
            rcases Nat.lt_or_ge i' j with h4 | h4
            · exact up w (hA i' h1 h4 h3 w hw)
            · rw [show i' = j by omega, q1] at hw
              have : v = w := by omega
              subst this
              rw [lset, if_pos ⟨rfl, by omega⟩]
        · simp only
          rcases Nat.lt_or_ge i' j with h4 | h4
          · exact hA i' h1 h4 h3 w hw
          · rw [show i' = j by omega, q1] at hw
            have : v = w := by omega
            subst this
            simpa using hn
      · refine Ok.gd.2 ⟨(by (first | omega | (constructor <;> omega) | (simp only [List.length_set, List.length_replicate]; omega) | (simp only [List.length_set, List.length_replicate]; constructor <;> omega))), Ok.some.2 (next2 _ ⟨j + 1, by simp, by omega, by omega, hI2, hS2, hkl, hku, hP2, fun i' h1 h2 h3 w hw => ?_⟩ (by simp only; omega))⟩
        rcases Nat.lt_or_ge i' j with h4 | h4
        · exact hA i' h1 h4 h3 w hw
        · rw [show i' = j by omega] at h3; exact absurd h3 hb
    · obtain rfl : j = begins n.Arcs (u + 1) := by omega
      refine Ok.gd.2 ⟨(by (first | omega | (constructor <;> omega) | (simp only [List.length_set, List.length_replicate]; omega) | (simp only [List.length_set, List.length_replicate]; constructor <;> omega))), Ok.some.2 (next _ ⟨k + 1, by simp, by simp only; omega, hI2, hS2, fun q hq w hw hg => ?_⟩ (by simp only; omega))⟩
      simp only at hg ⊢
      rcases Nat.lt_or_ge q k with h4 | h4
      · exact hP2 q h4 w hw hg
      · rw [show q = k by omega, hku, Int.toNat_natCast, ← hG] at hg
        obtain ⟨i, h5, h6, h7, h8⟩ := hg
        exact hA i h5 h6 h7 w h8
  · obtain rfl : k = row.length := by omega
    refine ⟨hI.len, fun v hv => ⟨fun hx => ?_, fun hr => ?_⟩⟩
    · obtain ⟨q, hq, hqv⟩ := hI.has v hv hx
      obtain ⟨u, h1, h2, h3, h4⟩ := hI.nat q hq
      have : u = v := by omega
      subst this; exact h4
    · clear hv
      have : v < m ∧ xs.getD v false = true := by
        induction hr with
        | refl => exact ⟨hs, hS⟩
        | step _ hg ih =>
          obtain ⟨h1, h2⟩ := ih
          rename_i u w _
          have hw : w < m := by
            rw [← hG] at hg
            obtain ⟨i, h5, h6, h7, h8⟩ := hg
            have := begins_mono (al := n.Arcs) (show u + 1 ≤ m by omega)
            obtain ⟨i', t, hi, hne, hp, q1, -, -, -, -⟩ := hc.ok.place (j := i) (by omega)
            have hv := he i' hi (!t)
            omega
          obtain ⟨q, hq, hqv⟩ := hI.has u h1 h2
          refine ⟨hw, hP q hq w hw ?_⟩
          rw [hqv, Int.toNat_natCast]; exact hg
      exact this.2
/-! ### by what a flow leaves -/
/-- one step by what a flow leaves -/
def OpenA (n : Net) (f : List Int) (u v : Nat) : Prop := ∃ i, i < n.Arcs.length ∧ (n.Arcs.getD i default).fr ≠ (n.Arcs.getD i default).to ∧
  (((n.Arcs.getD i default).fr = u ∧ (n.Arcs.getD i default).to = v ∧ f.getD i 0 < (n.Arcs.getD i default).cap) ∨ ((n.Arcs.getD i default).to = u ∧ (n.Arcs.getD i default).fr = v ∧ 0 < f.getD i 0))
theorem s_left {n : Net} {f : List Int} (hl : lenok n.Arcs.length) : Ok (m_cut_left n f) (fun r => (FwithinP n f ∧ r.2.2 = 0 ∧ CsrIs n n.N.toNat r.1 ∧ ResAt r.1.Arc r.1.Cap r.1.Back f (begins n.Arcs n.N.toNat) (begins n.Arcs n.N.toNat) r.2.1) ∨ (¬FwithinP n f ∧ r.2.2 = 20)) := by
  unfold m_cut_left
  refine Ok.bind.2 (Ok.mono (s_FWithin hl) fun b hb => Ok.ite.2 ⟨fun h => Ok.some.2 (.inr ⟨fun h2 => (by rw [hb.2 h2] at h; cases h), rfl⟩), fun h => ?_⟩)
  have hw := hb.1 (bool_of_not h)
  have hz := checkE_zero hw.1
  obtain ⟨m, hm, he⟩ := cut_ends hw.1
  refine Ok.bind.2 (Ok.mono (s_Make hm hw.1 hl) ?_)
  rintro ⟨c, e⟩ ⟨hc, rfl⟩
  have hc : CsrIs n m c := hc
  simp only
  rw [if_neg (by simp)]
  have hbs := begins_small (al := n.Arcs) (v := m) (by omega) (by omega)
  have hcaps := check_caps hw.1
  have hcapt : ∀ i, i < n.Arcs.length → (n.Arcs.getD i default).cap ≤ 4611686018427387904 := fun i hi => by
    have h1 := totC_le hw.1 (i + 1) hi
    have h2 := totC_le hw.1 i (by omega)
    simp only [totC] at h1
    omega
  refine Ok.bind.2 (Ok.mono (s_Res (L := begins n.Arcs m) hc.ok.lh hc.ok.lc hc.ok.la hc.ok.lb hbs hc.ok.aa0 fun j hj => ?_) ?_)
  · obtain ⟨i, s, hi, hne, hp, q1, q2, q3, q4, q5⟩ := hc.ok.place hj
    have := hcaps i hi
    have := hcapt i hi
    rw [q3]; split <;> omega
  · rintro ⟨r, e⟩ (⟨-, h1, h2⟩ | ⟨⟨j, hj, hbad⟩, -⟩)
    · refine Ok.some.2 (.inl ⟨hw, h1, ?_, ?_⟩)
      · rw [hm, Int.toNat_natCast]; exact hc
      · rw [hm, Int.toNat_natCast]; exact h2
    · exfalso
      obtain ⟨i, s, hi, hne, hp, q1, q2, q3, q4, q5⟩ := hc.ok.place hj
      refine hbad ?_
      unfold resOK
      rw [q3, q4, q5]
      have := hw.2.1
      refine ⟨by omega, ?_⟩
      cases s
      · right; simp only [Int.toNat_natCast, Bool.false_eq_true, if_false]; exact hw.2.2 i hi
      · exact .inl rfl
/-- what is left at a place -/
theorem res_at {n : Net} {m : Nat} {c : Csr} {f r : List Int} (hc : CsrIs n m c) (he : endsOK m n.Arcs) (hr : ResAt c.Arc c.Cap c.Back f (begins n.Arcs m) (begins n.Arcs m) r) {i : Nat} {s : Bool} (hi : i < n.Arcs.length) (hne : (n.Arcs.getD i default).fr ≠ (n.Arcs.getD i default).to) :
    r.getD (pos n.Arcs i s) 0 = if s then f.getD i 0 else (n.Arcs.getD i default).cap - f.getD i 0 := by
  obtain ⟨z1, z2, z3, z4, z5⟩ := hc.ok.hat i hi hne s
  rw [(hr.2 _ (pos_lt hi hne he)).2]
  unfold resV
  rw [z3, z4, z5]
  cases s <;> simp
theorem open_left {n : Net} {m : Nat} {c : Csr} {f r : List Int} (hc : CsrIs n m c) (he : endsOK m n.Arcs) (hr : ResAt c.Arc c.Cap c.Back f (begins n.Arcs m) (begins n.Arcs m) r) {u v : Nat} (hu : u < m) (t : Bool) :
    (∃ j, begins n.Arcs u ≤ j ∧ j < begins n.Arcs (u + 1) ∧ (decide (0 < r.getD (if t then (c.Rev.getD j 0).toNat else j) 0)) = true ∧ c.Head.getD j 0 = (v : Int)) ↔ (if t then OpenA n f v u else OpenA n f u v) := by
  have hmo := begins_mono (al := n.Arcs) (show u + 1 ≤ m by omega)
  constructor
  · rintro ⟨j, h1, h2, h3, h4⟩
    obtain ⟨i, s, hi, hne, hp, q1, q2, q3, q4, q5⟩ := hc.ok.place (j := j) (by omega)
    have hv := he i hi s
    obtain ⟨p1, p2⟩ := pos_row (v := u) hi hne hv.1 (by omega) (by omega)
    have h3 := of_decide_eq_true h3
    rw [q1] at h4
    have ha : (if t then (c.Rev.getD j 0).toNat else j) = pos n.Arcs i (if t then !s else s) := by
      cases t
      · exact hp.symm
      · show (c.Rev.getD j 0).toNat = _
        rw [q2, Int.toNat_natCast]; rfl
    rw [ha, res_at hc he hr hi hne] at h3
    cases t <;> cases s <;> simp only [Bool.not_true, Bool.not_false, if_true, if_false, Bool.false_eq_true, vtx] at h3 h4 p1 ⊢
    · exact ⟨i, hi, hne, .inl ⟨p1, h4, by omega⟩⟩
    · exact ⟨i, hi, hne, .inr ⟨p1, h4, h3⟩⟩
    · exact ⟨i, hi, hne, .inr ⟨h4, p1, h3⟩⟩
    · exact ⟨i, hi, hne, .inl ⟨h4, p1, by omega⟩⟩
  · intro h
    have key : ∀ (i : Nat) (s : Bool), i < n.Arcs.length → (n.Arcs.getD i default).fr ≠ (n.Arcs.getD i default).to → vtx (n.Arcs.getD i default) s = (u : Int) → vtx (n.Arcs.getD i default) (!s) = (v : Int) → 0 < r.getD (pos n.Arcs i (if t then !s else s)) 0 →
        ∃ j, begins n.Arcs u ≤ j ∧ j < begins n.Arcs (u + 1) ∧ (decide (0 < r.getD (if t then (c.Rev.getD j 0).toNat else j) 0)) = true ∧ c.Head.getD j 0 = (v : Int) := by
      intro i s hi hne hu' hv' h0
      have hcl := cnt_lt (s := s) hi hne (by omega)
      have hpos : pos n.Arcs i s = begins n.Arcs u + cnt n.Arcs u i := by unfold pos; rw [hu', Int.toNat_natCast]
      rw [hu', Int.toNat_natCast] at hcl
      have hb1 : begins n.Arcs (u + 1) = begins n.Arcs u + cnt n.Arcs u n.Arcs.length := rfl
      obtain ⟨z1, z2, z3, z4, z5⟩ := hc.ok.hat i hi hne s
      refine ⟨pos n.Arcs i s, by omega, by omega, decide_eq_true ?_, by rw [z1]; exact hv'⟩
      rw [z2]
      cases t
      · simpa using h0
      · simpa using h0
    cases t
    · simp only [Bool.false_eq_true, if_false] at h key ⊢
      obtain ⟨i, hi, hne, ⟨a1, a2, a3⟩ | ⟨a1, a2, a3⟩⟩ := h
      · refine key i false hi hne (by simpa [vtx] using a1) (by simpa [vtx] using a2) ?_
        rw [res_at hc he hr hi hne]; simp only [Bool.false_eq_true, if_false]; omega
      · refine key i true hi hne (by simpa [vtx] using a1) (by simpa [vtx] using a2) ?_
        rw [res_at hc he hr hi hne]; simpa using a3
    · simp only [if_true] at h key ⊢
      obtain ⟨i, hi, hne, ⟨a1, a2, a3⟩ | ⟨a1, a2, a3⟩⟩ := h
      · refine key i true hi hne (by simpa [vtx] using a2) (by simpa [vtx] using a1) ?_
        rw [res_at hc he hr hi hne]; simp only [Bool.not_true, Bool.false_eq_true, if_false]; omega
      · refine key i false hi hne (by simpa [vtx] using a2) (by simpa [vtx] using a1) ?_
        rw [res_at hc he hr hi hne]; simpa using a3
theorem reach_open {n : Net} {m : Nat} {f : List Int} (he : endsOK m n.Arcs) {G : Nat → Nat → Prop} {s : Nat} (hs : s < m) (h : ∀ u v, u < m → (G u v ↔ OpenA n f u v)) {v : Nat} : Reach G s v ↔ Reach (OpenA n f) s v := by
  have lt : ∀ {u w}, OpenA n f u w → u < m ∧ w < m := by
    rintro u w ⟨i, hi, _, h1⟩
    have h0 := he i hi false
    have h2 := he i hi true
    simp only [vtx, Bool.false_eq_true, if_false, if_true] at h0 h2
    omega
  constructor
  · intro hr
    have : v < m ∧ Reach (OpenA n f) s v := by
      induction hr with
      | refl => exact ⟨hs, .refl⟩
      | step _ hg ih => have ho := (h _ _ ih.1).1 hg; exact ⟨(lt ho).2, .step ih.2 ho⟩
    exact this.2
  · intro hr
    exact hr.mono fun u w ho => (h u w (lt ho).1).2 ho
theorem reach_openR {n : Net} {m : Nat} {f : List Int} (he : endsOK m n.Arcs) {G : Nat → Nat → Prop} {s : Nat} (hs : s < m) (h : ∀ u v, u < m → (G u v ↔ OpenA n f v u)) {v : Nat} : Reach G s v ↔ Reach (OpenA n f) v s := by
  have lt : ∀ {u w}, OpenA n f u w → u < m ∧ w < m := by
    rintro u w ⟨i, hi, _, h1⟩
    have h0 := he i hi false
    have h2 := he i hi true
    simp only [vtx, Bool.false_eq_true, if_false, if_true] at h0 h2
    omega
  constructor
  · intro hr
    have : v < m ∧ Reach (fun a b => OpenA n f b a) s v := by
      induction hr with
      | refl => exact ⟨hs, .refl⟩
      | step _ hg ih => have ho := (h _ _ ih.1).1 hg; exact ⟨(lt ho).1, .step ih.2 ho⟩
    exact this.2.flip
  · intro hr
    exact hr.flip.mono fun u w ho => (h u w (lt ho).2).2 ho
theorem s_From {n : Net} {f : List Int} (hl : lenok n.Arcs.length) : Ok (m_cut_From n f) (fun r => (FwithinP n f ∧ r.2 = 0 ∧ r.1.length = n.N.toNat ∧ ∀ v, v < n.N.toNat → (r.1.getD v false = true ↔ Reach (OpenA n f) n.S.toNat v)) ∨ (¬FwithinP n f ∧ r = ([], 20))) := by
  unfold m_cut_From
  refine Ok.bind.2 (Ok.mono (s_left hl) ?_)
  rintro ⟨c, r, e⟩ (⟨hw, h1, hc, hr⟩ | ⟨hw, h1⟩)
  rotate_left
  · simp only at h1
    subst h1
    exact Ok.ite.2 ⟨fun _ => Ok.some.2 (.inr ⟨hw, rfl⟩), fun h => absurd (by omega) h⟩
  simp only at h1 hc hr
  subst h1
  simp only
  rw [if_neg (by simp)]
  have hz := checkE_zero hw.1
  simp only [vertexB, decide_eq_true_eq] at hz
  obtain ⟨m, hm, he⟩ := cut_ends hw.1
  obtain ⟨s, hs⟩ : ∃ s : Nat, n.S = s := ⟨n.S.toNat, by omega⟩
  rw [hm, Int.toNat_natCast] at hc hr
  have hbs := begins_small (al := n.Arcs) (v := m) (by omega) (by omega)
  have hrl := hr.1
  rw [g_From, hs]
  refine Ok.bind.2 (Ok.mono (s_met (mb := fun j => decide (0 < r.getD j 0)) hc he (by omega) (by omega) (show s < m by omega) fun j hj => ?_) fun x hx => Ok.some.2 (.inl ⟨hw, rfl, ?_, fun v hv => ?_⟩))
  · unfold m_cut_From_1; rw [gd_pos (by constructor <;> omega), Int.toNat_natCast]
  · rw [hm, Int.toNat_natCast]; exact hx.1
  · rw [hm, Int.toNat_natCast] at hv
    rw [hx.2 v hv, Int.toNat_natCast]
    exact reach_open he (by omega) fun u w hu => by simpa using open_left (v := w) hc he hr hu false
theorem s_To {n : Net} {f : List Int} (hl : lenok n.Arcs.length) : Ok (m_cut_To n f) (fun r => (FwithinP n f ∧ r.2 = 0 ∧ r.1.length = n.N.toNat ∧ ∀ v, v < n.N.toNat → (r.1.getD v false = true ↔ ¬Reach (OpenA n f) v n.T.toNat)) ∨ (¬FwithinP n f ∧ r = ([], 20))) := by
  unfold m_cut_To
  refine Ok.bind.2 (Ok.mono (s_left hl) ?_)
  rintro ⟨c, r, e⟩ (⟨hw, h1, hc, hr⟩ | ⟨hw, h1⟩)
  rotate_left
  · simp only at h1
    subst h1
    exact Ok.ite.2 ⟨fun _ => Ok.some.2 (.inr ⟨hw, rfl⟩), fun h => absurd (by omega) h⟩
  simp only at h1 hc hr
  subst h1
  simp only
  rw [if_neg (by simp)]
  have hz := checkE_zero hw.1
  simp only [vertexB, decide_eq_true_eq] at hz
  obtain ⟨m, hm, he⟩ := cut_ends hw.1
  obtain ⟨t, ht⟩ : ∃ t : Nat, n.T = t := ⟨n.T.toNat, by omega⟩
  rw [hm, Int.toNat_natCast] at hc hr
  have hbs := begins_small (al := n.Arcs) (v := m) (by omega) (by omega)
  have hrl := hr.1
  have hlr := hc.ok.lr
  rw [g_To, ht]
  refine Ok.bind.2 (Ok.mono (s_met (mb := fun j => decide (0 < r.getD (c.Rev.getD j 0).toNat 0)) hc he (by omega) (by omega) (show t < m by omega) fun j hj => ?_) fun x hx => Ok.bind.2 ?_)
  · unfold m_cut_To_1
    obtain ⟨i, s, hi, hne, hp, q1, q2, q3, q4, q5⟩ := hc.ok.place hj
    have hq : pos n.Arcs i (!s) < begins n.Arcs m := pos_lt hi hne he
    simp only [Int.toNat_natCast, q2]
    rw [gd_pos (by constructor <;> omega), gd_pos (by constructor <;> omega)]
  have hxl := hx.1
  refine Ok.lp (fun s => ∃ k : Nat, s.2 = k ∧ k ≤ m ∧ s.1.length = m ∧ ∀ v, v < m → s.1.getD v false = if v < k then !x.getD v false else x.getD v false) (fun s => (m - s.2).toNat) ⟨0, rfl, by omega, hxl, fun v hv => by rw [if_neg (by omega)]⟩ (by unfold FUEL; simp only; omega) ?_
  rintro ⟨ys, y⟩ ⟨k, h1, hk, hyl, hy⟩ P next exit
  simp only at h1 hyl hy next ⊢
  subst h1
  unfold m_cut_To_s1
  simp only [Int.toNat_natCast]
  refine Ok.ite.2 ⟨fun h => Ok.gd.2 ⟨(by (first | omega | (constructor <;> omega) | (simp only [List.length_set, List.length_replicate]; omega) | (simp only [List.length_set, List.length_replicate]; constructor <;> omega))), Ok.gd.2 ⟨(by (first | omega | (constructor <;> omega) | (simp only [List.length_set, List.length_replicate]; omega) | (simp only [List.length_set, List.length_replicate]; constructor <;> omega))), Ok.gd.2 ⟨(by (first | omega | (constructor <;> omega) | (simp only [List.length_set, List.length_replicate]; omega) | (simp only [List.length_set, List.length_replicate]; constructor <;> omega))), Ok.some.2 (next _ ⟨k + 1, by simp, by omega, by simp [hyl], fun v hv => ?_⟩ (by simp only; omega))⟩⟩⟩, fun h => Ok.some.2 (exit _ ?_)⟩
  · simp only [lset]
    by_cases c1 : k = v
    · subst c1
      rw [if_pos ⟨rfl, by omega⟩, if_pos (by omega), hy k hv, if_neg (by omega)]
    · rw [if_neg (fun h => c1 h.1), hy v hv]
      by_cases c2 : v < k
      · rw [if_pos c2, if_pos (by omega)]
      · rw [if_neg c2, if_neg (by omega)]
  · obtain rfl : k = m := by omega
    unfold m_cut_To_j2
    refine Ok.some.2 (.inl ⟨hw, rfl, by simp only [hm, Int.toNat_natCast]; exact hyl, fun v hv => ?_⟩)
    rw [hm, Int.toNat_natCast] at hv
    simp only
    rw [hy v hv, if_pos hv, Int.toNat_natCast]
    have h2 := (hx.2 v hv).trans (reach_openR he (by omega) fun u w hu => by simpa using open_left (v := w) hc he hr hu true)
    rw [← h2]
    cases x.getD v false <;> simp
end Go.Acq
