/- Texts of this claim, one behind the other. -/
import Derived.Test.YtjeenmabclghoaaA4
import Derived.Test.YtjeenmabclghoaaA1
import Derived.Test.YtjeenmabclghoaaA2
set_option linter.unusedVariables false
set_option linter.unusedSimpArgs false
namespace Go.Acq
open Go
set_option linter.unusedSimpArgs false
inductive Reach (G : Nat → Nat → Prop) (s : Nat) : Nat → Prop
  | refl : Reach G s s
  | step {u v : Nat} : Reach G s u → G u v → Reach G s v
theorem Reach.trans {G : Nat → Nat → Prop} {a b c : Nat} (h : Reach G a b) (g : Reach G b c) : Reach G a c := by
 induction g with
 | refl => exact h
 | step _ h2 ih => exact .step ih h2
theorem Reach.flip {G : Nat → Nat → Prop} {a b : Nat} (h : Reach G a b) : Reach (fun u v => G v u) b a := by
 induction h with
 | refl => exact .refl
 | step _ h2 ih => exact Reach.trans (.step .refl h2) ih
theorem Reach.mono {G K : Nat → Nat → Prop} {a b : Nat} (h : Reach G a b) (hk : ∀ u v, G u v → K u v) : Reach K a b := by
 induction h with
 | refl => exact .refl
 | step _ h2 ih => exact .step ih (hk _ _ h2)
def tc (l : List Bool) : Nat → Nat
  | 0 => 0
  | k + 1 => tc l k + if l.getD k false = true then 1 else 0
theorem tc_le (l : List Bool) : ∀ k, tc l k ≤ k
 | 0 => Nat.le_refl _
 | k + 1 => by have := tc_le l k; simp only [tc]; split <;> omega
theorem Zhn {l : List Bool} {i : Nat} (hi : i < l.length) (hf : l.getD i false = false) : ∀ k : Nat, tc (l.set i true) k = tc l k + (if i < k then 1 else 0)
 | 0 => by simp [tc]
 | k + 1 => by
  have ih := Zhn hi hf k
  simp only [tc, ih, Zcf]
  by_cases c : i = k
  ·
   subst c
   rw [if_neg (show ¬ i < i by omega), if_pos (show i = i ∧ i < l.length from ⟨rfl, hi⟩), hf, if_pos rfl, if_pos (show i < i + 1 by omega)]; rfl
  ·
   rw [if_neg (show ¬(i = k ∧ i < l.length) from fun h => c h.1)]
   by_cases c2 : i < k
   · rw [if_pos c2, if_pos (show i < k + 1 by omega)]; omega
   · rw [if_neg c2, if_neg (show ¬ i < k + 1 by omega)]; omega
theorem Zj5 (n : Nat) : ∀ k, tc (List.replicate n false) k = 0
 | 0 => rfl
 | k + 1 => by simp only [tc, Zj5 n k, Z27]; rfl
def g_s2 (c0 : Csr) (my : Int → Option Bool) (i25 : Int) (xs29 : List Bool) (row31 : List Int) (a41 : Int) : Option ((List Bool × List Int × Int) ⊕ (List Bool × List Int)) :=
  gd (inb i25 row31.length) <|
  gd (i64ok ((row31.getD i25.toNat 0) + 1)) <|
  gd (inb ((row31.getD i25.toNat 0) + 1) c0.First.length) <|
  if a41 < (c0.First.getD ((row31.getD i25.toNat 0) + 1).toNat 0) then
  (Option.bind (my a41) fun r46 =>
  if r46 = true then
  (gd (inb a41 c0.Head.length) <|
  Option.bind (Z8f (c0.Head.getD a41.toNat 0) xs29 row31) fun (r50, r51) =>
  gd (i64ok (a41 + 1)) <|
  some (.inl (r50, r51, (a41 + 1))))
  else
  gd (i64ok (a41 + 1)) <|
  some (.inl (xs29, row31, (a41 + 1))))
  else
  some (.inr (xs29, row31))
def g_s1 (c0 : Csr) (my : Int → Option Bool) (xs13 : List Bool) (row15 : List Int) (i25 : Int) : Option ((List Bool × List Int × Int) ⊕ (List Bool)) :=
  if i25 < (row15.length : Int) then
  (gd (inb i25 row15.length) <|
  gd (inb (row15.getD i25.toNat 0) c0.First.length) <|
  Option.bind (Z2j (fun s => g_s2 c0 my i25 s.1 s.2.1 s.2.2) Z4w (xs13, row15, (c0.First.getD (row15.getD i25.toNat 0).toNat 0))) fun (p2_0_0, p2_0_1) => gd (i64ok (i25 + 1)) <| some (.inl (p2_0_0, p2_0_1, (i25 + 1))))
  else
  some (.inr xs13)
def g_met (c0 : Csr) (from1 : Int) (my : Int → Option Bool) : Option (List Bool) :=
  gd (mkok c0.N) <|
  gd (inb from1 (List.replicate c0.N.toNat (false : Bool)).length) <|
  Option.bind (Z2j (fun s => g_s1 c0 my s.1 s.2.1 s.2.2) Z4w (((List.replicate c0.N.toNat (false : Bool)).set from1.toNat true), [from1], 0)) fun p1_0_0 => some p1_0_0
theorem g_To (c : Csr) (s : Int) (r : List Int) (d : Csr) : Z77 c s r d = g_met c s (fun a => Z9b a r d) := rfl
structure MetI (G : Nat → Nat → Prop) (s m : Nat) (xs : List Bool) (row : List Int) : Prop where
  len : xs.length = m
  nat : ∀ q, q < row.length → ∃ v : Nat, row.getD q 0 = v ∧ v < m ∧ xs.getD v false = true ∧ Reach G s v
  has : ∀ v, v < m → xs.getD v false = true → ∃ q, q < row.length ∧ row.getD q 0 = (v : Int)
  cnt : row.length = tc xs m
theorem MetI.le {G : Nat → Nat → Prop} {s m : Nat} {xs : List Bool} {row : List Int} (h : MetI G s m xs row) : row.length ≤ m := by rw [h.cnt]; exact tc_le _ _
theorem MetI.put {G : Nat → Nat → Prop} {s m v : Nat} {xs : List Bool} {row : List Int} (h : MetI G s m xs row) (hv : v < m) (hf : xs.getD v false = false) (hr : Reach G s v) : MetI G s m (xs.set v true) (row ++ [(v : Int)]) := by
 have hl := h.len
 refine ⟨by simp [hl], fun q hq => ?_, fun u hu hx => ?_, ?_⟩
 ·
  rw [List.length_append, List.length_singleton] at hq
  rcases Nat.lt_or_ge q row.length with h1 | h1
  ·
   obtain ⟨u, h2, h3, h4, h5⟩ := h.nat q h1
   refine ⟨u, by rw [Z4d h1]; exact h2, h3, ?_, h5⟩
   rw [Zcf]; split
   · rfl
   · exact h4
  ·
   refine ⟨v, ?_, hv, by rw [Zcf, if_pos ⟨rfl, by omega⟩], hr⟩
   rw [Z8h h1, show q - row.length = 0 by omega]; rfl
 ·
  rw [Zcf] at hx
  by_cases c : v = u
  ·
   refine ⟨row.length, by simp, ?_⟩
   rw [Z8h (Nat.le_refl _), Nat.sub_self, ← c]; rfl
  ·
   rw [if_neg (fun h => c h.1)] at hx
   obtain ⟨q, h1, h2⟩ := h.has u hu hx
   exact ⟨q, by rw [List.length_append]; omega, by rw [Z4d h1]; exact h2⟩
 · rw [List.length_append, List.length_singleton, Zhn (by omega) hf, if_pos hv, h.cnt]
theorem s_met {n : Net} {m s : Nat} {c : Csr} {my : Int → Option Bool} {mb : Nat → Bool} (hc : CsrIs n m c) (he : Z57 m n.Arcs) (hm : m ≤ 4096) (hl : n.Arcs.length ≤ 16384) (hs : s < m) (hmy : ∀ j : Nat, j < Z0s n.Arcs m → my j = some (mb j)) :
    Ok (g_met c s my) (fun r => r.length = m ∧ ∀ v, v < m → (r.getD v false = true ↔ Reach (fun u w => ∃ j, Z0s n.Arcs u ≤ j ∧ j < Z0s n.Arcs (u + 1) ∧ mb j = true ∧ c.Head.getD j 0 = w) s v)) := by
  obtain ⟨G, hG⟩ : ∃ G : Nat → Nat → Prop, (fun (u w : Nat) => ∃ j, Z0s n.Arcs u ≤ j ∧ j < Z0s n.Arcs (u + 1) ∧ mb j = true ∧ c.Head.getD j 0 = (w : Int)) = G := ⟨_, rfl⟩
  rw [hG]
  have hbs := Z58 (al := n.Arcs) (v := m) hm hl
  have lf := hc.ok.lf
  have lh := hc.ok.lh
  have hf := hc.ok.hf
  unfold g_met
  rw [hc.hN]
  simp only [Int.toNat_natCast]
  refine Ok.gd.2 ⟨(by omega), Ok.gd.2 ⟨by rw [List.length_replicate]; constructor <;> omega, Ok.bind.2 ?_⟩⟩
  refine Z9r (fun st => ∃ k : Nat, st.2.2 = k ∧ k ≤ st.2.1.length ∧ MetI G s m st.1 st.2.1 ∧ st.1.getD s false = true ∧ ∀ q, q < k → ∀ w, w < m → G (st.2.1.getD q 0).toNat w → st.1.getD w false = true) (fun st => (m - st.2.2).toNat)
    ⟨0, rfl, by omega, ⟨by simp, fun q hq => ?_, fun v hv hx => ?_, ?_⟩, by rw [Zcf, if_pos ⟨rfl, by simpa using hs⟩], fun q hq => by omega⟩ (by unfold Z4w; simp only; omega) ?_
  · have : q = 0 := by simp at hq; exact hq
    subst this
    exact ⟨s, rfl, hs, by rw [Zcf, if_pos ⟨rfl, by simpa using hs⟩], .refl⟩
  · rw [Zcf] at hx
    by_cases c1 : s = v
    · exact ⟨0, by simp, by rw [← c1]; rfl⟩
    · rw [if_neg (fun h => c1 h.1), Z27] at hx; cases hx
  · rw [Zhn (by simpa using hs) (Z27 _ _ _), Zj5, if_pos hs]; rfl
  rintro ⟨xs, row, x⟩ ⟨k, h1, hk, hI, hS, hP⟩ P next exit
  simp only at h1 hk hI hS hP next ⊢
  subst h1
  unfold g_s1
  have hle := hI.le
  simp only [Int.toNat_natCast]
  refine Ok.ite.2 ⟨fun hx => ?_, fun hx => Ok.some.2 (exit _ (Ok.some.2 ?_))⟩
  · obtain ⟨u, hu, hum, -, hur⟩ := hI.nat k (by omega)
    simp only [hu, Int.toNat_natCast, hf u (by omega)]
    refine Ok.gd.2 ⟨(by omega), Ok.gd.2 ⟨(by omega), Ok.bind.2 ?_⟩⟩
    have hmo := Z3p (al := n.Arcs) (show u ≤ u + 1 by omega)
    have hmo2 := Z3p (al := n.Arcs) (show u + 1 ≤ m by omega)
    refine Z9r (fun st => ∃ j : Nat, st.2.2 = j ∧ Z0s n.Arcs u ≤ j ∧ j ≤ Z0s n.Arcs (u + 1) ∧ MetI G s m st.1 st.2.1 ∧ st.1.getD s false = true ∧ k < st.2.1.length ∧ st.2.1.getD k 0 = u ∧ (∀ q, q < k → ∀ w, w < m → G (st.2.1.getD q 0).toNat w → st.1.getD w false = true) ∧
      ∀ i, Z0s n.Arcs u ≤ i → i < j → mb i = true → ∀ w : Nat, c.Head.getD i 0 = (w : Int) → st.1.getD w false = true) (fun st => (Z0s n.Arcs (u + 1) - st.2.2).toNat) ⟨_, rfl, Nat.le_refl _, hmo, hI, hS, by simp only; omega, hu, hP, fun i h1 h2 => by omega⟩ (by unfold Z4w; simp only; omega) ?_
    rintro ⟨ys, rw', y⟩ ⟨j, h1, hj0, hj1, hI2, hS2, hkl, hku, hP2, hA⟩ P2 next2 exit2
    simp only at h1 hI2 hS2 hkl hku hP2 hA next2 ⊢
    subst h1
    unfold g_s2
    have eu : ((u : Int) + 1).toNat = u + 1 := by omega
    have hle2 := hI2.le
    have hyl := hI2.len
    simp only [Int.toNat_natCast, hku, eu, hf (u + 1) (by omega)]
    refine Ok.gd.2 ⟨(by omega), Ok.gd.2 ⟨(by omega), Ok.gd.2 ⟨(by omega), Ok.ite.2 ⟨fun hy => ?_, fun hy => Ok.some.2 (exit2 _ ?_)⟩⟩⟩⟩
    · refine Ok.bind.2 (Z7r (hmy j (by omega)) (Ok.ite.2 ⟨fun hb => ?_, fun hb => ?_⟩))
      · obtain ⟨i, t, hi, hne, hp, q1, -, -, -, -⟩ := hc.ok.place (j := j) (by omega)
        have hv := he i hi (!t)
        obtain ⟨v, hvv⟩ : ∃ v : Nat, vtx (n.Arcs.getD i default) (!t) = v := ⟨(vtx (n.Arcs.getD i default) (!t)).toNat, by omega⟩
        rw [hvv] at q1 hv
        have hGu : G u v := by rw [← hG]; exact ⟨j, hj0, by omega, hb, q1⟩
        simp only [q1]
        refine Ok.gd.2 ⟨(by omega), Ok.bind.2 ?_⟩
        unfold Z8f
        simp only [Int.toNat_natCast]
        refine Ok.gd.2 ⟨(by omega), Ok.ite.2 ⟨fun hn => ?_, fun hn => Ok.some.2 (Ok.gd.2 ⟨(by omega), Ok.some.2 (next2 _ ⟨j + 1, by simp, by omega, by omega, hI2, hS2, hkl, hku, hP2, fun i' h1 h2 h3 w hw => ?_⟩ (by simp only; omega))⟩)⟩⟩
        · have hn' : ys.getD v false = false := by simpa using hn
          have hI3 := hI2.put (by omega) hn' (.step hur hGu)
          have up : ∀ w, ys.getD w false = true → (ys.set v true).getD w false = true := fun w hw => by
            rw [Zcf]; split
            · rfl
            · exact hw
          refine Ok.gd.2 ⟨(by omega), Ok.gd.2 ⟨?_, Ok.some.2 (Ok.gd.2 ⟨(by omega), Ok.some.2 (next2 _ ⟨j + 1, by simp, by omega, by omega, hI3, up _ hS2, by rw [List.length_append]; omega, by rw [Z4d hkl]; exact hku, fun q hq w hw hg => ?_, fun i' h1 h2 h3 w hw => ?_⟩ (by simp only; omega))⟩)⟩⟩
          · rw [List.length_append, List.length_singleton]; constructor <;> omega
          · simp only at hg ⊢
            rw [Z4d (by omega)] at hg
            exact up w (hP2 q hq w hw hg)
          · simp only
            rcases Nat.lt_or_ge i' j with h4 | h4
            · exact up w (hA i' h1 h4 h3 w hw)
            · rw [show i' = j by omega, q1] at hw
              have : v = w := by omega
              subst this
              rw [Zcf, if_pos ⟨rfl, by omega⟩]
        · simp only
          rcases Nat.lt_or_ge i' j with h4 | h4
          · exact hA i' h1 h4 h3 w hw
          · rw [show i' = j by omega, q1] at hw
            have : v = w := by omega
            subst this
            simpa using hn
      · refine Ok.gd.2 ⟨(by omega), Ok.some.2 (next2 _ ⟨j + 1, by simp, by omega, by omega, hI2, hS2, hkl, hku, hP2, fun i' h1 h2 h3 w hw => ?_⟩ (by simp only; omega))⟩
        rcases Nat.lt_or_ge i' j with h4 | h4
        · exact hA i' h1 h4 h3 w hw
        · rw [show i' = j by omega] at h3; exact absurd h3 hb
    · obtain rfl : j = Z0s n.Arcs (u + 1) := by omega
      refine Ok.gd.2 ⟨(by omega), Ok.some.2 (next _ ⟨k + 1, by simp, by simp only; omega, hI2, hS2, fun q hq w hw hg => ?_⟩ (by simp only; omega))⟩
      simp only at hg ⊢
      rcases Nat.lt_or_ge q k with h4 | h4
      · exact hP2 q h4 w hw hg
      · rw [show q = k by omega, hku, Int.toNat_natCast, ← hG] at hg
        obtain ⟨i, h5, h6, h7, h8⟩ := hg
        exact hA i h5 h6 h7 w h8
  · obtain rfl : k = row.length := by omega
    refine ⟨hI.len, fun v hv => ⟨fun hx => ?_, fun hr => ?_⟩⟩
    · obtain ⟨q, hq, hqv⟩ := hI.has v hv hx
      obtain ⟨u, h1, h2, h3, h4⟩ := hI.nat q hq
      have : u = v := by omega
      subst this; exact h4
    · clear hv
      have : v < m ∧ xs.getD v false = true := by
        induction hr with
        | refl => exact ⟨hs, hS⟩
        | step _ hg ih =>
          obtain ⟨h1, h2⟩ := ih
          rename_i u w _
          have hw : w < m := by
            rw [← hG] at hg
            obtain ⟨i, h5, h6, h7, h8⟩ := hg
            have := Z3p (al := n.Arcs) (show u + 1 ≤ m by omega)
            obtain ⟨i', t, hi, hne, hp, q1, -, -, -, -⟩ := hc.ok.place (j := i) (by omega)
            have hv := he i' hi (!t)
            omega
          obtain ⟨q, hq, hqv⟩ := hI.has u h1 h2
          refine ⟨hw, hP q hq w hw ?_⟩
          rw [hqv, Int.toNat_natCast]; exact hg
      exact this.2
def Zdp (n : Net) (f : List Int) (u v : Nat) : Prop := ∃ i, i < n.Arcs.length ∧ (n.Arcs.getD i default).fr ≠ (n.Arcs.getD i default).to ∧
  (((n.Arcs.getD i default).fr = u ∧ (n.Arcs.getD i default).to = v ∧ f.getD i 0 < (n.Arcs.getD i default).cap) ∨ ((n.Arcs.getD i default).to = u ∧ (n.Arcs.getD i default).fr = v ∧ 0 < f.getD i 0))
theorem s_left {n : Net} {f : List Int} (hl : lenok n.Arcs.length) : Ok (Z9a n f) (fun r => (FwithinP n f ∧ r.2.2 = 0 ∧ CsrIs n n.N.toNat r.1 ∧ ResAt r.1.Arc r.1.Cap r.1.Back f (Z0s n.Arcs n.N.toNat) (Z0s n.Arcs n.N.toNat) r.2.1) ∨ (¬FwithinP n f ∧ r.2.2 = 20)) := by
 unfold Z9a
 refine Ok.bind.2 (Ok.mono (Zmo hl) fun b hb => Ok.ite.2 ⟨fun h => Ok.some.2 (.inr ⟨fun h2 => (by rw [hb.2 h2] at h; cases h), rfl⟩), fun h => ?_⟩)
 have hw := hb.1 (Zjg h)
 have hz := Z2r hw.1
 obtain ⟨m, hm, he⟩ := Zk5 hw.1
 refine Ok.bind.2 (Ok.mono (Zmn hm hw.1 hl) ?_)
 rintro ⟨c, e⟩ ⟨hc, rfl⟩
 have hc : CsrIs n m c := hc
 simp only
 rw [if_neg (by simp)]
 have hbs := Z58 (al := n.Arcs) (v := m) (by omega) (by omega)
 have hcaps := Zco hw.1
 have hcapt : ∀ i, i < n.Arcs.length → (n.Arcs.getD i default).cap ≤ 4611686018427387904 := fun i hi => by
  have h1 := Zgs hw.1 (i + 1) hi
  have h2 := Zgs hw.1 i (by omega)
  simp only [totC] at h1
  omega
 refine Ok.bind.2 (Ok.mono (s_Res (L := Z0s n.Arcs m) hc.ok.lh hc.ok.lc hc.ok.la hc.ok.lb hbs hc.ok.aa0 fun j hj => ?_) ?_)
 ·
  obtain ⟨i, s, hi, hne, hp, q1, q2, q3, q4, q5⟩ := hc.ok.place hj
  have := hcaps i hi
  have := hcapt i hi
  rw [q3]; split <;> omega
 ·
  rintro ⟨r, e⟩ (⟨-, h1, h2⟩ | ⟨⟨j, hj, hbad⟩, -⟩)
  ·
   refine Ok.some.2 (.inl ⟨hw, h1, ?_, ?_⟩)
   · rw [hm, Int.toNat_natCast]; exact hc
   · rw [hm, Int.toNat_natCast]; exact h2
  ·
   exfalso
   obtain ⟨i, s, hi, hne, hp, q1, q2, q3, q4, q5⟩ := hc.ok.place hj
   refine hbad ?_
   unfold Zj6
   rw [q3, q4, q5]
   have := hw.2.1
   refine ⟨by omega, ?_⟩
   cases s
   · right; simp only [Int.toNat_natCast, Bool.false_eq_true, if_false]; exact hw.2.2 i hi
   · exact .inl rfl
theorem Zhx {n : Net} {m : Nat} {c : Csr} {f r : List Int} (hc : CsrIs n m c) (he : Z57 m n.Arcs) (hr : ResAt c.Arc c.Cap c.Back f (Z0s n.Arcs m) (Z0s n.Arcs m) r) {i : Nat} {s : Bool} (hi : i < n.Arcs.length) (hne : (n.Arcs.getD i default).fr ≠ (n.Arcs.getD i default).to) :
    r.getD (pos n.Arcs i s) 0 = if s then f.getD i 0 else (n.Arcs.getD i default).cap - f.getD i 0 := by
  obtain ⟨z1, z2, z3, z4, z5⟩ := hc.ok.hat i hi hne s
  rw [(hr.2 _ (Zaj hi hne he)).2]
  unfold resV
  rw [z3, z4, z5]
  cases s <;> simp
theorem Zmt {n : Net} {m : Nat} {c : Csr} {f r : List Int} (hc : CsrIs n m c) (he : Z57 m n.Arcs) (hr : ResAt c.Arc c.Cap c.Back f (Z0s n.Arcs m) (Z0s n.Arcs m) r) {u v : Nat} (hu : u < m) (t : Bool) :
    (∃ j, Z0s n.Arcs u ≤ j ∧ j < Z0s n.Arcs (u + 1) ∧ (decide (0 < r.getD (if t then (c.Rev.getD j 0).toNat else j) 0)) = true ∧ c.Head.getD j 0 = (v : Int)) ↔ (if t then Zdp n f v u else Zdp n f u v) := by
  have hmo := Z3p (al := n.Arcs) (show u + 1 ≤ m by omega)
  constructor
  · rintro ⟨j, h1, h2, h3, h4⟩
    obtain ⟨i, s, hi, hne, hp, q1, q2, q3, q4, q5⟩ := hc.ok.place (j := j) (by omega)
    have hv := he i hi s
    obtain ⟨p1, p2⟩ := Zmr (v := u) hi hne hv.1 (by omega) (by omega)
    have h3 := of_decide_eq_true h3
    rw [q1] at h4
    have ha : (if t then (c.Rev.getD j 0).toNat else j) = pos n.Arcs i (if t then !s else s) := by
      cases t
      · exact hp.symm
      · show (c.Rev.getD j 0).toNat = _
        rw [q2, Int.toNat_natCast]; rfl
    rw [ha, Zhx hc he hr hi hne] at h3
    cases t <;> cases s <;> simp only [Bool.not_true, Bool.not_false, if_true, if_false, Bool.false_eq_true, vtx] at h3 h4 p1 ⊢
    · exact ⟨i, hi, hne, .inl ⟨p1, h4, by omega⟩⟩
    · exact ⟨i, hi, hne, .inr ⟨p1, h4, h3⟩⟩
    · exact ⟨i, hi, hne, .inr ⟨h4, p1, h3⟩⟩
    · exact ⟨i, hi, hne, .inl ⟨h4, p1, by omega⟩⟩
  · intro h
    have key : ∀ (i : Nat) (s : Bool), i < n.Arcs.length → (n.Arcs.getD i default).fr ≠ (n.Arcs.getD i default).to → vtx (n.Arcs.getD i default) s = (u : Int) → vtx (n.Arcs.getD i default) (!s) = (v : Int) → 0 < r.getD (pos n.Arcs i (if t then !s else s)) 0 →
        ∃ j, Z0s n.Arcs u ≤ j ∧ j < Z0s n.Arcs (u + 1) ∧ (decide (0 < r.getD (if t then (c.Rev.getD j 0).toNat else j) 0)) = true ∧ c.Head.getD j 0 = (v : Int) := by
      intro i s hi hne hu' hv' h0
      have hcl := Zda (s := s) hi hne (by omega)
      have hpos : pos n.Arcs i s = Z0s n.Arcs u + cnt n.Arcs u i := by unfold pos; rw [hu', Int.toNat_natCast]
      rw [hu', Int.toNat_natCast] at hcl
      have hb1 : Z0s n.Arcs (u + 1) = Z0s n.Arcs u + cnt n.Arcs u n.Arcs.length := rfl
      obtain ⟨z1, z2, z3, z4, z5⟩ := hc.ok.hat i hi hne s
      refine ⟨pos n.Arcs i s, by omega, by omega, decide_eq_true ?_, by rw [z1]; exact hv'⟩
      rw [z2]
      cases t
      · simpa using h0
      · simpa using h0
    cases t
    · simp only [Bool.false_eq_true, if_false] at h key ⊢
      obtain ⟨i, hi, hne, ⟨a1, a2, a3⟩ | ⟨a1, a2, a3⟩⟩ := h
      · refine key i false hi hne (by simpa [vtx] using a1) (by simpa [vtx] using a2) ?_
        rw [Zhx hc he hr hi hne]; simp only [Bool.false_eq_true, if_false]; omega
      · refine key i true hi hne (by simpa [vtx] using a1) (by simpa [vtx] using a2) ?_
        rw [Zhx hc he hr hi hne]; simpa using a3
    · simp only [if_true] at h key ⊢
      obtain ⟨i, hi, hne, ⟨a1, a2, a3⟩ | ⟨a1, a2, a3⟩⟩ := h
      · refine key i true hi hne (by simpa [vtx] using a2) (by simpa [vtx] using a1) ?_
        rw [Zhx hc he hr hi hne]; simp only [Bool.not_true, Bool.false_eq_true, if_false]; omega
      · refine key i false hi hne (by simpa [vtx] using a2) (by simpa [vtx] using a1) ?_
        rw [Zhx hc he hr hi hne]; simpa using a3
theorem Zj8 {n : Net} {m : Nat} {f : List Int} (he : Z57 m n.Arcs) {G : Nat → Nat → Prop} {s : Nat} (hs : s < m) (h : ∀ u v, u < m → (G u v ↔ Zdp n f v u)) {v : Nat} : Reach G s v ↔ Reach (Zdp n f) v s := by
 have lt : ∀ {u w}, Zdp n f u w → u < m ∧ w < m := by
  rintro u w ⟨i, hi, _, h1⟩
  have h0 := he i hi false
  have h2 := he i hi true
  simp only [vtx, Bool.false_eq_true, if_false, if_true] at h0 h2
  omega
 constructor
 ·
  intro hr
  have : v < m ∧ Reach (fun a b => Zdp n f b a) s v := by
   induction hr with
   | refl => exact ⟨hs, .refl⟩
   | step _ hg ih => have ho := (h _ _ ih.1).1 hg; exact ⟨(lt ho).1, .step ih.2 ho⟩
  exact this.2.flip
 ·
  intro hr
  exact hr.flip.mono fun u w ho => (h u w (lt ho).2).2 ho
theorem s_To {n : Net} {f : List Int} (hl : lenok n.Arcs.length) : Ok (Zby n f) (fun r => (FwithinP n f ∧ r.2 = 0 ∧ r.1.length = n.N.toNat ∧ ∀ v, v < n.N.toNat → (r.1.getD v false = true ↔ ¬Reach (Zdp n f) v n.T.toNat)) ∨ (¬FwithinP n f ∧ r = ([], 20))) := by
 unfold Zby
 refine Ok.bind.2 (Ok.mono (s_left hl) ?_)
 rintro ⟨c, r, e⟩ (⟨hw, h1, hc, hr⟩ | ⟨hw, h1⟩)
 rotate_left
 ·
  simp only at h1
  subst h1
  exact Ok.ite.2 ⟨fun _ => Ok.some.2 (.inr ⟨hw, rfl⟩), fun h => absurd (by omega) h⟩
 simp only at h1 hc hr
 subst h1
 simp only
 rw [if_neg (by simp)]
 have hz := Z2r hw.1
 simp only [Z3m, decide_eq_true_eq] at hz
 obtain ⟨m, hm, he⟩ := Zk5 hw.1
 obtain ⟨t, ht⟩ : ∃ t : Nat, n.T = t := ⟨n.T.toNat, by omega⟩
 rw [hm, Int.toNat_natCast] at hc hr
 have hbs := Z58 (al := n.Arcs) (v := m) (by omega) (by omega)
 have hrl := hr.1
 have hlr := hc.ok.lr
 rw [g_To, ht]
 refine Ok.bind.2 (Ok.mono (s_met (mb := fun j => decide (0 < r.getD (c.Rev.getD j 0).toNat 0)) hc he (by omega) (by omega) (show t < m by omega) fun j hj => ?_) fun x hx => Ok.bind.2 ?_)
 ·
  unfold Z9b
  obtain ⟨i, s, hi, hne, hp, q1, q2, q3, q4, q5⟩ := hc.ok.place hj
  have hq : pos n.Arcs i (!s) < Z0s n.Arcs m := Zaj hi hne he
  simp only [Int.toNat_natCast, q2]
  rw [Z8i (by constructor <;> omega), Z8i (by constructor <;> omega)]
 have hxl := hx.1
 refine Z9r (fun s => ∃ k : Nat, s.2 = k ∧ k ≤ m ∧ s.1.length = m ∧ ∀ v, v < m → s.1.getD v false = if v < k then !x.getD v false else x.getD v false) (fun s => (m - s.2).toNat) ⟨0, rfl, by omega, hxl, fun v hv => by rw [if_neg (by omega)]⟩ (by unfold Z4w; simp only; omega) ?_
 rintro ⟨ys, y⟩ ⟨k, h1, hk, hyl, hy⟩ P next exit
 simp only at h1 hyl hy next ⊢
 subst h1
 unfold Z8g
 simp only [Int.toNat_natCast]
 refine Ok.ite.2 ⟨fun h => Ok.gd.2 ⟨(by omega), Ok.gd.2 ⟨(by omega), Ok.gd.2 ⟨(by omega), Ok.some.2 (next _ ⟨k + 1, by simp, by omega, by simp [hyl], fun v hv => ?_⟩ (by simp only; omega))⟩⟩⟩, fun h => Ok.some.2 (exit _ ?_)⟩
 ·
  simp only [Zcf]
  by_cases c1 : k = v
  ·
   subst c1
   rw [if_pos ⟨rfl, by omega⟩, if_pos (by omega), hy k hv, if_neg (by omega)]
  ·
   rw [if_neg (fun h => c1 h.1), hy v hv]
   by_cases c2 : v < k
   · rw [if_pos c2, if_pos (by omega)]
   · rw [if_neg c2, if_neg (by omega)]
 ·
  obtain rfl : k = m := by omega
  unfold Z9v
  refine Ok.some.2 (.inl ⟨hw, rfl, by simp only [hm, Int.toNat_natCast]; exact hyl, fun v hv => ?_⟩)
  rw [hm, Int.toNat_natCast] at hv
  simp only
  rw [hy v hv, if_pos hv, Int.toNat_natCast]
  have h2 := (hx.2 v hv).trans (Zj8 he (by omega) fun u w hu => by simpa using Zmt (v := w) hc he hr hu true)
  rw [← h2]
  cases x.getD v false <;> simp
end Go.Acq
namespace Go.Acq
open Go
set_option linter.unusedSimpArgs false
def Zdn (al : List Arc) (f : List Int) (c : List Bool) (j : Int) : Nat → Int
  | 0 => 0
  | k + 1 => Zdn al f c j k - (if (al.getD k default).fr < j ∧ inS c (al.getD k default).fr = false then f.getD k 0 else 0) + (if (al.getD k default).to < j ∧ inS c (al.getD k default).to = false then f.getD k 0 else 0)
theorem Zck {al : List Arc} {f : List Int} {c : List Bool} (j : Int) : ∀ k, Zdn al f c (j + 1) k = Zdn al f c j k + (if inS c j = false then ex al f j k else 0)
 | 0 => by simp [Zdn, ex]
 | k + 1 => by
  have ih := Zck (al := al) (f := f) (c := c) j k
  simp only [Zdn, ex, ih]
  have e1 : ∀ x : Int, (if x < j + 1 ∧ inS c x = false then f.getD k 0 else 0) = (if x < j ∧ inS c x = false then f.getD k 0 else 0) + (if x = j ∧ inS c j = false then f.getD k 0 else 0) := fun x => by
   by_cases h1 : x < j
   ·
    by_cases h3 : inS c x = false
    · rw [if_pos ⟨by omega, h3⟩, if_pos ⟨h1, h3⟩, if_neg (fun h => by omega)]; omega
    · rw [if_neg (fun h => h3 h.2), if_neg (fun h => h3 h.2), if_neg (fun h => by omega)]; omega
   ·
    by_cases h2 : x = j
    ·
     subst h2
     by_cases h3 : inS c x = false
     · rw [if_pos ⟨by omega, h3⟩, if_neg (fun h => h1 h.1), if_pos ⟨rfl, h3⟩]; omega
     · rw [if_neg (fun h => h3 h.2), if_neg (fun h => h3 h.2), if_neg (fun h => h3 h.2)]; omega
    · rw [if_neg (fun h => by omega), if_neg (fun h => by omega), if_neg (fun h => h2 h.1)]; omega
  rw [e1, e1]
  by_cases h : inS c j = false
  ·
   simp only [h, and_true, if_true]
   omega
  ·
   simp only [h, Bool.not_eq_false, and_false, if_false, ite_false, reduceCtorEq]
   omega
theorem Zcl {al : List Arc} {f : List Int} {c : List Bool} {m : Nat} (he : Z57 m al) : ∀ k, k ≤ al.length → Zdn al f c 0 k = 0
 | 0, _ => rfl
 | k + 1, hk => by
  have h0 := he k hk false
  have h1 := he k hk true
  simp only [vtx, Bool.false_eq_true, if_false, if_true] at h0 h1
  simp only [Zdn, Zcl he k (by omega)]
  rw [if_neg (fun h => by omega), if_neg (fun h => by omega)]; rfl
theorem Ze6 {al : List Arc} {f : List Int} {c : List Bool} {m : Nat} (he : Z57 m al) : ∀ k, k ≤ al.length → Zdn al f c m k = acK al f c k
 | 0, _ => rfl
 | k + 1, hk => by
  have h0 := he k hk false
  have h1 := he k hk true
  simp only [vtx, Bool.false_eq_true, if_false, if_true] at h0 h1
  simp only [Zdn, acK, Ze6 he k (by omega)]
  obtain ⟨A, hA⟩ : ∃ A, al.getD k default = A := ⟨_, rfl⟩
  obtain ⟨F, hF⟩ : ∃ F, f.getD k 0 = F := ⟨_, rfl⟩
  rw [hA] at h0 h1 ⊢
  rw [hF]
  cases a : inS c A.fr <;> cases b : inS c A.to <;> simp [h0.2, h1.2] <;> omega
theorem Zn2 {al : List Arc} {f : List Int} {c : List Bool} (h : ∀ i, i < al.length → 0 ≤ f.getD i 0 ∧ f.getD i 0 ≤ (al.getD i default).cap) : ∀ k, k ≤ al.length → acK al f c k ≤ capK al c k ∧ (acK al f c k = capK al c k ↔ ∀ i, i < k → Zb8 al f c i)
 | 0, _ => ⟨Int.le_refl _, fun _ i hi => by omega, fun _ => rfl⟩
 | k + 1, hk => by
  obtain ⟨g1, g2⟩ := Zn2 (c := c) h k (by omega)
  have hf := h k (by omega)
  have key : (∀ i, i < k + 1 → Zb8 al f c i) ↔ (∀ i, i < k → Zb8 al f c i) ∧ Zb8 al f c k :=
   ⟨fun hh => ⟨fun i hi => hh i (by omega), hh k (by omega)⟩, fun hh i hi => by
    rcases Nat.lt_or_ge i k with h1 | h1
    · exact hh.1 i h1
    · rw [show i = k by omega]; exact hh.2⟩
  rw [key, ← g2]
  simp only [acK, capK, Zb8]
  obtain ⟨A, hA⟩ : ∃ A, al.getD k default = A := ⟨_, rfl⟩
  obtain ⟨F, hF⟩ : ∃ F, f.getD k 0 = F := ⟨_, rfl⟩
  rw [hA, hF] at hf
  rw [hA, hF]
  cases a : inS c A.fr <;> cases b : inS c A.to <;> simp <;> omega
theorem Zjc {n : Net} {f : List Int} {c : List Bool} {m : Nat} (hm : n.N = m) (he : Z57 m n.Arcs) (hA : AllP n f (fun x => x = 0) [n.S, n.T]) (hc : CutR n c) : acK n.Arcs f c n.Arcs.length = ex n.Arcs f n.T n.Arcs.length := by
 have hz := Z2r hc.1
 simp only [Z3m, decide_eq_true_eq] at hz
 have hj : ∀ j : Nat, j ≤ m → Zdn n.Arcs f c j n.Arcs.length = if n.T < j then ex n.Arcs f n.T n.Arcs.length else 0 := by
  intro j
  induction j with
  | zero => intro _; rw [show ((0 : Nat) : Int) = 0 from rfl, Zcl he _ (Nat.le_refl _), if_neg (by omega)]
  | succ j ih =>
   intro hj
   rw [Int.natCast_succ, Zck, ih (by omega)]
   by_cases c1 : n.T = j
   · rw [← c1, if_neg (by omega), if_pos hc.2.2.2, if_pos (by omega)]; omega
   ·
    have hz : (if inS c j = false then ex n.Arcs f j n.Arcs.length else 0) = 0 := by
     by_cases c2 : inS c j = false
     ·
      rw [if_pos c2]
      rcases hA.2 j (by omega) with h7 | h7
      · exact h7
      ·
       simp only [List.mem_cons, List.not_mem_nil, or_false] at h7
       rcases h7 with h7 | h7
       · rw [h7, hc.2.2.1] at c2; cases c2
       · exact absurd h7.symm c1
     · rw [if_neg c2]
    rw [hz]
    by_cases c3 : n.T < j
    · rw [if_pos c3, if_pos (by omega)]; omega
    · rw [if_neg c3, if_neg (by omega)]; rfl
 have := hj m (Nat.le_refl _)
 rw [Ze6 he _ (Nat.le_refl _), if_pos (by omega)] at this
 exact this
end Go.Acq
namespace Go.Acq
open Go
set_option linter.unusedSimpArgs false
def Z5r (g : Nat → Int) : Nat → Int
  | 0 => 0
  | k + 1 => Z5r g k + g k
theorem Zft {g h : Nat → Int} : ∀ {k : Nat}, (∀ i, i < k → g i = h i) → Z5r g k = Z5r h k
 | 0, _ => rfl
 | k + 1, e => by simp only [Z5r]; rw [Zft fun i hi => e i (by omega), e k (by omega)]
theorem Zgv (g h : Nat → Int) : ∀ k, Z5r (fun i => g i + h i) k = Z5r g k + Z5r h k
 | 0 => rfl
 | k + 1 => by simp only [Z5r, Zgv g h k]; omega
theorem Zmh {g : Nat → Int} {k : Nat} (h : ∀ i, i < k → g i = 0) : Z5r g k = 0 := by
 induction k with
 | zero => rfl
 | succ k ih => simp only [Z5r]; rw [ih fun i hi => h i (by omega), h k (by omega)]; rfl
theorem Z9t {g : Nat → Int} {i : Nat} : ∀ {k : Nat}, i < k → (∀ j, j < k → j ≠ i → g j = 0) → Z5r g k = g i
 | 0, h, _ => by omega
 | k + 1, h, e => by
  simp only [Z5r]
  by_cases c : i = k
  · subst c; rw [Zmh fun j hj => e j (by omega) (by omega)]; omega
  · rw [Z9t (show i < k by omega) fun j hj hne => e j (by omega) hne, e k (by omega) (fun h => c h.symm)]; omega
theorem Zch {g h : Nat → Int} : ∀ {k : Nat}, (∀ i, i < k → g i ≤ h i) → Z5r g k ≤ Z5r h k
 | 0, _ => Int.le_refl _
 | k + 1, e => by
  have := Zch (k := k) fun i hi => e i (by omega)
  have := e k (by omega)
  simp only [Z5r]; omega
theorem Zhp {g : Nat → Int} {k : Nat} : ∀ {l : Nat}, k ≤ l → (∀ i, i < l → 0 ≤ g i) → Z5r g k ≤ Z5r g l
 | 0, h, _ => by rw [show k = 0 by omega]; exact Int.le_refl _
 | l + 1, h, e => by
  by_cases c : k = l + 1
  · subst c; exact Int.le_refl _
  ·
   have := Zhp (show k ≤ l by omega) fun i hi => e i (by omega)
   have := e l (by omega)
   simp only [Z5r]; omega
theorem Zmi {g : Nat → Int} {k : Nat} (h : ∀ i, i < k → 0 ≤ g i) : 0 ≤ Z5r g k := Zhp (Nat.zero_le k) h
def hd (c : Csr) (j : Nat) : Nat := (c.Head.getD j 0).toNat
def rv (c : Csr) (j : Nat) : Nat := (c.Rev.getD j 0).toNat
def fs (c : Csr) (v : Nat) : Nat := (c.First.getD v 0).toNat
def tl (c : Csr) (j : Nat) : Nat := hd c (rv c j)
def bk (c : Csr) (j : Nat) : Bool := c.Back.getD j false
def cp (c : Csr) (j : Nat) : Int := max (c.Cap.getD j 0) (c.Cap.getD (rv c j) 0)
structure Row (n : Net) (m L : Nat) (c : Csr) : Prop where
  is : CsrIs n m c
  chk : Z3o n.N n.S n.T n.Arcs = 0
  hm : n.N = m
  hL : Z0s n.Arcs m = L
section row
variable {n : Net} {m L : Nat} {c : Csr}
theorem Row.he (r : Row n m L c) : Z57 m n.Arcs := Zc2 (by rw [← r.hm]; exact (Z2r r.chk).2.2.2.1)
theorem Row.bd (r : Row n m L c) : 2 ≤ m ∧ m ≤ 4096 ∧ n.Arcs.length ≤ 16384 ∧ L ≤ 67108864 := by
 have hz := Z2r r.chk
 have := r.hm
 have hb := Z58 (al := n.Arcs) (v := m) (by omega) (by omega)
 have := r.hL
 omega
theorem Row.ends (r : Row n m L c) : (∃ S : Nat, n.S = S ∧ c.S = S ∧ S < m) ∧ (∃ T : Nat, n.T = T ∧ c.T = T ∧ T < m) ∧ n.S ≠ n.T ∧ c.N = m := by
 have hz := Z2r r.chk
 simp only [Z3m, decide_eq_true_eq] at hz
 have h1 := r.hm
 have h2 := r.is.hS
 have h3 := r.is.hT
 exact ⟨⟨n.S.toNat, by omega, by omega, by omega⟩, ⟨n.T.toNat, by omega, by omega, by omega⟩, hz.2.2.1.2.2, r.is.hN⟩
theorem Row.caps (r : Row n m L c) : ∀ i, i < n.Arcs.length → 0 ≤ (n.Arcs.getD i default).cap ∧ (n.Arcs.getD i default).cap ≤ 4611686018427387904 := fun i hi => by
 have h0 := Zco r.chk i hi
 have h1 := Zgs r.chk (i + 1) hi
 have h2 := Zgs r.chk i (by omega)
 simp only [totC] at h1
 omega
theorem Row.lens (r : Row n m L c) : c.First.length = m + 1 ∧ c.Head.length = L ∧ c.Rev.length = L ∧ c.Cap.length = L ∧ c.Arc.length = L ∧ c.Back.length = L := by
 have h := r.is.ok
 rw [← r.hL]
 exact ⟨h.lf, h.lh, h.lr, h.lc, h.la, h.lb⟩
theorem Row.at (r : Row n m L c) {j : Nat} (hj : j < L) : ∃ i s, i < n.Arcs.length ∧ (n.Arcs.getD i default).fr ≠ (n.Arcs.getD i default).to ∧ pos n.Arcs i s = j ∧ c.Head.getD j 0 = (hd c j : Nat) ∧ (hd c j : Int) = vtx (n.Arcs.getD i default) (!s) ∧ (tl c j : Int) = vtx (n.Arcs.getD i default) s ∧
    c.Rev.getD j 0 = (rv c j : Nat) ∧ rv c j = pos n.Arcs i (!s) ∧ c.Cap.getD j 0 = (if s then 0 else (n.Arcs.getD i default).cap) ∧ c.Arc.getD j 0 = i ∧ bk c j = s := by
  obtain ⟨i, s, hi, hne, hp, q1, q2, q3, q4, q5⟩ := r.is.ok.place (by rw [r.hL]; exact hj)
  have hv := r.he i hi (!s)
  have hv2 := r.he i hi s
  have hr : rv c j = pos n.Arcs i (!s) := by unfold rv; rw [q2, Int.toNat_natCast]
  refine ⟨i, s, hi, hne, hp, by unfold hd; omega, by unfold hd; omega, ?_, by unfold rv; omega, hr, q3, q4, q5⟩
  unfold tl hd
  rw [hr, (r.is.ok.hat i hi hne (!s)).1, Bool.not_not]; omega
theorem Row.head (r : Row n m L c) {j : Nat} (hj : j < L) : c.Head.getD j 0 = (hd c j : Nat) ∧ hd c j < m := by
 obtain ⟨i, s, hi, hne, hp, q1, q2, q3, q4, q5, q6, q7, q8⟩ := r.at hj
 have hv := r.he i hi (!s)
 exact ⟨q1, by omega⟩
theorem Row.rev (r : Row n m L c) {j : Nat} (hj : j < L) : c.Rev.getD j 0 = (rv c j : Nat) ∧ rv c j < L ∧ rv c (rv c j) = j ∧ rv c j ≠ j := by
 obtain ⟨i, s, hi, hne, hp, q1, q2, q3, q4, q5, q6, q7, q8⟩ := r.at hj
 have hq : pos n.Arcs i (!s) < L := by rw [← r.hL]; exact Zaj hi hne r.he
 refine ⟨q4, by rw [q5]; exact hq, ?_, fun e => ?_⟩
 ·
  have := (r.is.ok.hat i hi hne (!s)).2.1
  rw [q5]; unfold rv; rw [this, Int.toNat_natCast, Bool.not_not, hp]
 ·
  have := (Z93 r.he hi hi hne hne (q5.symm.trans (e.trans hp.symm))).2
  cases s <;> cases this
theorem Row.tlh (r : Row n m L c) {j : Nat} (hj : j < L) : tl c j < m ∧ tl c (rv c j) = hd c j ∧ hd c (rv c j) = tl c j ∧ tl c j ≠ hd c j := by
 obtain ⟨i, s, hi, hne, hp, q1, q2, q3, q4, q5, q6, q7, q8⟩ := r.at hj
 have hv := r.he i hi s
 refine ⟨by omega, ?_, rfl, fun e => ?_⟩
 · unfold tl; rw [(r.rev hj).2.2.1]
 ·
  apply hne
  have : vtx (n.Arcs.getD i default) s = vtx (n.Arcs.getD i default) (!s) := by omega
  cases s <;> simpa [vtx, eq_comm] using this
theorem Row.back (r : Row n m L c) {j : Nat} (hj : j < L) : bk c (rv c j) = !bk c j := by
 obtain ⟨i, s, hi, hne, hp, q1, q2, q3, q4, q5, q6, q7, q8⟩ := r.at hj
 unfold bk at q8 ⊢
 rw [q5, (r.is.ok.hat i hi hne (!s)).2.2.2.2, q8]
theorem Row.first (r : Row n m L c) : (∀ v, v ≤ m → c.First.getD v 0 = (fs c v : Nat) ∧ fs c v = Z0s n.Arcs v) ∧ fs c 0 = 0 ∧ fs c m = L ∧ ∀ v, v < m → fs c v ≤ fs c (v + 1) ∧ fs c (v + 1) ≤ L := by
 have h : ∀ v, v ≤ m → c.First.getD v 0 = (fs c v : Nat) ∧ fs c v = Z0s n.Arcs v := fun v hv => by
  have := r.is.ok.hf v hv
  unfold fs; rw [this, Int.toNat_natCast]; exact ⟨rfl, rfl⟩
 refine ⟨h, by rw [(h 0 (by omega)).2]; rfl, by rw [(h m (Nat.le_refl _)).2]; exact r.hL, fun v hv => ?_⟩
 rw [(h v (by omega)).2, (h (v + 1) (by omega)).2, ← r.hL]
 exact ⟨Z3p (by omega), Z3p (by omega)⟩
theorem Row.range (r : Row n m L c) {j u : Nat} (hj : j < L) (hu : u < m) : (fs c u ≤ j ∧ j < fs c (u + 1)) ↔ tl c j = u := by
 obtain ⟨i, s, hi, hne, hp, q1, q2, q3, q4, q5, q6, q7, q8⟩ := r.at hj
 have hv := r.he i hi s
 have f1 := (r.first.1 u (by omega)).2
 have f2 := (r.first.1 (u + 1) (by omega)).2
 constructor
 ·
  rintro ⟨h1, h2⟩
  have := (Zmr (v := u) hi hne hv.1 (by omega) (by omega)).1
  omega
 ·
  intro h
  have hcl := Zda (s := s) hi hne hv.1
  have hpos : pos n.Arcs i s = Z0s n.Arcs (vtx (n.Arcs.getD i default) s).toNat + cnt n.Arcs (vtx (n.Arcs.getD i default) s).toNat i := rfl
  have e : (vtx (n.Arcs.getD i default) s).toNat = u := by omega
  rw [e] at hcl hpos
  have hb1 : Z0s n.Arcs (u + 1) = Z0s n.Arcs u + cnt n.Arcs u n.Arcs.length := rfl
  omega
theorem Row.cap (r : Row n m L c) {j : Nat} (hj : j < L) : 0 ≤ c.Cap.getD j 0 ∧ c.Cap.getD j 0 + c.Cap.getD (rv c j) 0 = cp c j ∧ cp c (rv c j) = cp c j ∧ 0 ≤ cp c j ∧ cp c j ≤ 4611686018427387904 ∧ (bk c j = true → c.Cap.getD j 0 = 0) := by
 obtain ⟨i, s, hi, hne, hp, q1, q2, q3, q4, q5, q6, q7, q8⟩ := r.at hj
 have hc := r.caps i hi
 have h2 : c.Cap.getD (rv c j) 0 = if (!s) then 0 else (n.Arcs.getD i default).cap := by rw [q5]; exact (r.is.ok.hat i hi hne (!s)).2.2.1
 have h3 := (r.rev hj).2.2.1
 unfold cp
 rw [h3, q6, h2, q8]
 cases s
 · simp only [Bool.not_false, if_true, Bool.false_eq_true, if_false, false_implies, and_true]; omega
 · simp only [Bool.not_true, if_true, Bool.false_eq_true, if_false, true_implies, and_true]; omega
theorem Row.cpPos (r : Row n m L c) {i : Nat} (hi : i < n.Arcs.length) (hne : (n.Arcs.getD i default).fr ≠ (n.Arcs.getD i default).to) (s : Bool) : cp c (pos n.Arcs i s) = (n.Arcs.getD i default).cap ∧ rv c (pos n.Arcs i s) = pos n.Arcs i (!s) ∧ pos n.Arcs i s < L := by
 have z := r.is.ok.hat i hi hne s
 have z2 := r.is.ok.hat i hi hne (!s)
 have hc := r.caps i hi
 have hr : rv c (pos n.Arcs i s) = pos n.Arcs i (!s) := by unfold rv; rw [z.2.1, Int.toNat_natCast]
 refine ⟨?_, hr, by rw [← r.hL]; exact Zaj hi hne r.he⟩
 unfold cp
 rw [hr, z.2.2.1, z2.2.2.1]
 cases s <;> simp only [Bool.not_true, Bool.not_false, if_true, Bool.false_eq_true, if_false] <;> omega
theorem Zmm {S X : Type} {y : S → Int → Option (S ⊕ X)} {s0 : S} {u : Nat} (r : Row n m L c) (hu : u < m) (I : Nat → S → Prop) (J : X → Prop) (h0 : I (fs c u) s0)
    (hstep : ∀ j s, fs c u ≤ j → j < fs c (u + 1) → I j s → Ok (y s (j : Nat)) (fun t => match t with | .inl s' => I (j + 1) s' | .inr x => J x)) :
    Ok (Z52 y c (u : Nat) (.inl s0)) (fun t => match t with | .inl s => I (fs c (u + 1)) s | .inr x => J x) := by
  have lf := r.lens.1
  have b := r.bd
  have f1 := (r.first.1 u (by omega)).1
  have f2 := (r.first.1 (u + 1) (by omega)).1
  have f3 := r.first.2.2.2 u hu
  have e1 : ((u : Int) + 1).toNat = u + 1 := by omega
  unfold Z52
  simp only [Int.toNat_natCast, f1]
  refine Ok.gd.2 ⟨(by omega), Ok.bind.2 (Z9r (fun s => ∃ (k : Nat) (st : S), s = ((k : Int), Sum.inl st) ∧ fs c u ≤ k ∧ k ≤ fs c (u + 1) ∧ I k st) (fun s => (fs c (u + 1) - s.1).toNat) ⟨fs c u, s0, rfl, Nat.le_refl _, f3.1, h0⟩ (by unfold Z4w; simp only; omega) ?_)⟩
  rintro s ⟨k, st, rfl, hk0, hk, hI⟩ P next exit
  unfold Z51
  simp only [Int.toNat_natCast, e1, f2]
  refine Ok.gd.2 ⟨(by omega), Ok.gd.2 ⟨(by omega), Ok.ite.2 ⟨fun hx => ?_, fun hx => Ok.some.2 (exit _ (Ok.some.2 ?_))⟩⟩⟩
  · refine Ok.bind.2 ?_
    show Ok (y st _) _
    refine Ok.mono (hstep k st hk0 (by omega) hI) ?_
    rintro (s' | x) hr
    · exact Ok.ite.2 ⟨fun h => by simp at h, fun _ => Ok.gd.2 ⟨(by omega), Ok.some.2 (next _ ⟨k + 1, s', by simp, by omega, by omega, hr⟩ (by simp only; omega))⟩⟩
    · exact Ok.ite.2 ⟨fun _ => Ok.some.2 (exit _ (Ok.some.2 hr)), fun h => by simp at h⟩
  · obtain rfl : k = fs c (u + 1) := by omega
    exact hI
def flN (al : List Arc) (R : List Int) : List Int := (List.range al.length).map fun i => if (al.getD i default).fr = (al.getD i default).to then 0 else R.getD (pos al i true) 0
theorem Zmy (al : List Arc) (R : List Int) : (flN al R).length = al.length := by simp [flN]
theorem Z9x {al : List Arc} {R : List Int} {i : Nat} (h : i < al.length) : (flN al R).getD i 0 = if (al.getD i default).fr = (al.getD i default).to then 0 else R.getD (pos al i true) 0 := by
 unfold flN
 rw [List.getD_eq_getElem?_getD, List.getElem?_map, List.getElem?_range h]; rfl
structure ResOK (n : Net) (m L : Nat) (c : Csr) (R X : List Int) : Prop where
  lr : R.length = L
  lx : X.length = m
  res : ∀ j, j < L → 0 ≤ R.getD j 0 ∧ R.getD j 0 + R.getD (rv c j) 0 = cp c j
  ex : ∀ v : Nat, v < m → X.getD v 0 = ex n.Arcs (flN n.Arcs R) v n.Arcs.length
theorem Zkt {R : List Int} (r : Row n m L c) (h : ∀ j, j < L → 0 ≤ R.getD j 0 ∧ R.getD j 0 + R.getD (rv c j) 0 = cp c j) : FwithinP n (flN n.Arcs R) := by
 refine ⟨r.chk, Zmy _ _, fun i hi => ?_⟩
 rw [Z9x hi]
 have hc := r.caps i hi
 by_cases e : (n.Arcs.getD i default).fr = (n.Arcs.getD i default).to
 · rw [if_pos e]; omega
 ·
  rw [if_neg e]
  obtain ⟨a1, a2, a3⟩ := r.cpPos hi e true
  have h1 := h _ a3
  have h2 := h _ (r.rev a3).2.1
  omega
theorem ResOK.within {R X : List Int} (h : ResOK n m L c R X) (r : Row n m L c) : FwithinP n (flN n.Arcs R) := Zkt r h.res
theorem Zma {f : List Int} (hw : FwithinP n f) (v : Int) : -4611686018427387904 ≤ ex n.Arcs f v n.Arcs.length ∧ ex n.Arcs f v n.Arcs.length ≤ 4611686018427387904 := by
 have := ex_le (al := n.Arcs) v (fun i hi => (hw.2.2 i hi).1) n.Arcs.length (Nat.le_refl _)
 have := hw.tot n.Arcs.length (Nat.le_refl _)
 omega
theorem ResOK.bnd {R X : List Int} (h : ResOK n m L c R X) (r : Row n m L c) {v : Nat} (hv : v < m) : -4611686018427387904 ≤ X.getD v 0 ∧ X.getD v 0 ≤ 4611686018427387904 := by
 rw [h.ex v hv]; exact Zma (h.within r) v
theorem ResOK.rle {R X : List Int} (h : ResOK n m L c R X) (r : Row n m L c) {j : Nat} (hj : j < L) : 0 ≤ R.getD j 0 ∧ R.getD j 0 ≤ cp c j ∧ R.getD j 0 ≤ 4611686018427387904 := by
 have h1 := h.res j hj
 have h2 := h.res _ (r.rev hj).2.1
 have h3 := r.cap hj
 omega
def mvR (c : Csr) (R : List Int) (j : Nat) (d : Int) : List Int := (R.set j (R.getD j 0 - d)).set (rv c j) (R.getD (rv c j) 0 + d)
def mvX (c : Csr) (X : List Int) (j : Nat) (d : Int) : List Int := (X.set (tl c j) (X.getD (tl c j) 0 - d)).set (hd c j) (X.getD (hd c j) 0 + d)
theorem Z8r {R : List Int} {j k : Nat} {d : Int} (r : Row n m L c) (hl : R.length = L) (hj : j < L) : (mvR c R j d).getD k 0 = if k = rv c j then R.getD (rv c j) 0 + d else if k = j then R.getD j 0 - d else R.getD k 0 := by
 have := r.rev hj
 unfold mvR
 rw [Zcf, Zcf, List.length_set]
 by_cases c1 : k = rv c j
 · rw [if_pos ⟨c1.symm, by omega⟩, if_pos c1]
 ·
  rw [if_neg fun h => c1 h.1.symm, if_neg c1]
  by_cases c2 : k = j
  · rw [if_pos ⟨c2.symm, by omega⟩, if_pos c2]
  · rw [if_neg fun h => c2 h.1.symm, if_neg c2]
theorem Zaz {X : List Int} {j k : Nat} {d : Int} (r : Row n m L c) (hl : X.length = m) (hj : j < L) : (mvX c X j d).getD k 0 = X.getD k 0 - (if tl c j = k then d else 0) + (if hd c j = k then d else 0) := by
 have h1 := r.tlh hj
 have h2 := r.head hj
 unfold mvX
 rw [Zcf, Zcf, List.length_set]
 by_cases c1 : hd c j = k
 ·
  subst c1
  rw [if_pos ⟨rfl, by omega⟩, if_neg h1.2.2.2, if_pos rfl]; omega
 ·
  rw [if_neg fun h => c1 h.1]
  by_cases c2 : tl c j = k
  ·
   subst c2
   rw [if_pos ⟨rfl, by omega⟩, if_pos rfl, if_neg c1]; omega
  · rw [if_neg fun h => c2 h.1, if_neg c2, if_neg c1]; omega
theorem ex_bump {al : List Arc} {f g : List Int} {i : Nat} {δ : Int} {K : Nat} (v : Int) (hi : i < K) (h : ∀ k, k < K → g.getD k 0 = f.getD k 0 + if k = i then δ else 0) :
    ex al g v K = ex al f v K + ((if (al.getD i default).to = v then δ else 0) - (if (al.getD i default).fr = v then δ else 0)) := by
  have key : ∀ k, k ≤ K → ex al g v k = ex al f v k + if i < k then ((if (al.getD i default).to = v then δ else 0) - (if (al.getD i default).fr = v then δ else 0)) else 0 := by
    intro k
    induction k with
    | zero => intro _; rw [if_neg (by omega)]; rfl
    | succ k ih =>
      intro hk
      simp only [ex]
      rw [ih (by omega), h k (by omega)]
      by_cases e : k = i
      · subst e
        rw [if_neg (show ¬ k < k by omega), if_pos rfl, if_pos (show k < k + 1 by omega)]
        split <;> split <;> omega
      · rw [if_neg e]
        by_cases e2 : i < k
        · rw [if_pos e2, if_pos (show i < k + 1 by omega)]; simp only [Int.add_zero]; omega
        · rw [if_neg e2, if_neg (show ¬ i < k + 1 by omega)]; simp only [Int.add_zero]
  rw [key K (Nat.le_refl _), if_pos hi]
theorem ResOK.move {R X : List Int} {j : Nat} {d : Int} (h : ResOK n m L c R X) (r : Row n m L c) (hj : j < L) (d0 : 0 ≤ d) (d1 : d ≤ R.getD j 0) : ResOK n m L c (mvR c R j d) (mvX c X j d) := by
 have hr := r.rev hj
 have hlr := h.lr
 have hlx := h.lx
 refine ⟨by simp [mvR, hlr], by simp [mvX, hlx], fun k hk => ?_, fun v hv => ?_⟩
 ·
  have hk2 := r.rev hk
  have a := h.res k hk
  have a2 := h.res _ hr.2.1
  have a3 := h.res j hj
  have a4 := r.cap hj
  rw [Z8r r hlr hj, Z8r r hlr hj]
  by_cases c1 : k = rv c j
  ·
   subst c1
   rw [if_pos rfl, hr.2.2.1, if_neg fun e => hr.2.2.2 e.symm, if_pos rfl, a4.2.2.1]; omega
  ·
   by_cases c2 : k = j
   ·
    subst c2
    rw [if_neg c1, if_pos rfl, if_pos rfl]; omega
   ·
    have c3 : rv c k ≠ rv c j := fun e => c2 (by rw [← hk2.2.2.1, e, hr.2.2.1])
    have c4 : rv c k ≠ j := fun e => c1 (by rw [← e, hk2.2.2.1])
    rw [if_neg c1, if_neg c2, if_neg c3, if_neg c4]; exact a
 ·
  obtain ⟨i, s, hi, hne, hp, q1, q2, q3, q4, q5, q6, q7, q8⟩ := r.at hj
  rw [Zaz r hlx hj, h.ex v hv, ex_bump (f := flN n.Arcs R) (g := flN n.Arcs (mvR c R j d)) (i := i) (δ := if s then -d else d) (v : Int) hi fun k hk => ?_]
  ·
   have t1 : (tl c j = v) ↔ vtx (n.Arcs.getD i default) s = (v : Int) := by rw [← q3]; omega
   have t2 : (hd c j = v) ↔ vtx (n.Arcs.getD i default) (!s) = (v : Int) := by rw [← q2]; omega
   simp only [t1, t2]
   cases s <;> simp only [vtx, Bool.not_false, Bool.not_true, if_true, if_false, Bool.false_eq_true] <;> split <;> split <;> omega
  ·
   rw [Z9x hk, Z9x hk]
   by_cases e : (n.Arcs.getD k default).fr = (n.Arcs.getD k default).to
   ·
    have : k ≠ i := fun e2 => by subst e2; exact hne e
    rw [if_pos e, if_pos e, if_neg this]; rfl
   ·
    rw [if_neg e, if_neg e, Z8r r hlr hj]
    by_cases e2 : k = i
    ·
     subst e2
     cases s
     ·
      have b1 : pos n.Arcs k true = rv c j := by rw [q5]; rfl
      rw [if_pos b1, if_pos rfl, b1]; rfl
     ·
      have b1 : pos n.Arcs k true ≠ rv c j := fun e3 => by rw [q5] at e3; have := (Z93 r.he hk hk e e e3).2; cases this
      rw [if_neg b1, if_pos hp, if_pos rfl, hp]; rfl
    ·
     have b1 : pos n.Arcs k true ≠ rv c j := fun e3 => by rw [q5] at e3; exact e2 (Z93 r.he hk hi e hne e3).1
     have b2 : pos n.Arcs k true ≠ j := fun e3 => by rw [← hp] at e3; exact e2 (Z93 r.he hk hi e hne e3).1
     rw [if_neg b1, if_neg b2, if_neg e2, Int.add_zero]
theorem s_move {p : Pre} {j : Nat} {d : Int} (r : Row n m L c) (h : ResOK n m L c p.Res p.Ex) (hj : j < L) (d0 : 0 ≤ d) (d1 : d ≤ p.Res.getD j 0) : Z98 c p (j : Nat) d = some ⟨mvR c p.Res j d, mvX c p.Ex j d, p.H⟩ := by
 refine Zfp ?_
 obtain ⟨-, lh, lr, -, -, -⟩ := r.lens
 have h1 := r.head hj
 have h2 := r.rev hj
 have h3 := r.tlh hj
 have h4 := r.head h2.2.1
 have hlr := h.lr
 have hlx := h.lx
 have hm := h.move r hj d0 d1
 have b1 := h.bnd r h3.1
 have b2 := hm.bnd r h1.2
 have b3 := h.rle r hj
 have b4 := hm.rle r h2.2.1
 have b5 := h.rle r h2.2.1
 rw [Zaz r hlx hj, if_neg h3.2.2.2, if_pos rfl] at b2
 rw [Z8r r hlr hj, if_pos rfl] at b4
 have e1 : (p.Res.set j (p.Res.getD j 0 - d)).getD (rv c j) 0 = p.Res.getD (rv c j) 0 := Z4c fun e => h2.2.2.2 e.symm
 have e2 : (p.Ex.set (tl c j) (p.Ex.getD (tl c j) 0 - d)).getD (hd c j) 0 = p.Ex.getD (hd c j) 0 := Z4c h3.2.2.2
 have e3 : c.Head.getD (rv c j) 0 = (tl c j : Nat) := h4.1
 unfold Z98
 simp only [Int.toNat_natCast, h1.1, h2.1, e3, e1, e2, List.length_set, hlr, hlx, lh, lr]
 have i1 : inb (j : Int) L := by constructor <;> omega
 have i2 : inb ((rv c j : Nat) : Int) L := by constructor <;> omega
 have i3 : inb ((tl c j : Nat) : Int) m := by constructor <;> omega
 have i4 : inb ((hd c j : Nat) : Int) m := by constructor <;> omega
 have o1 : i64ok (p.Res.getD j 0 - d) := by constructor <;> omega
 have o2 : i64ok (p.Res.getD (rv c j) 0 + d) := by constructor <;> omega
 have o3 : i64ok (p.Ex.getD (tl c j) 0 - d) := by constructor <;> omega
 have o4 : i64ok (p.Ex.getD (hd c j) 0 + d) := by constructor <;> omega
 refine Ok.gd.2 ⟨i1, Ok.gd.2 ⟨i2, Ok.gd.2 ⟨i1, Ok.gd.2 ⟨o1, Ok.gd.2 ⟨i1, Ok.gd.2 ⟨i1, Ok.gd.2 ⟨i2, Ok.gd.2 ⟨o2, Ok.gd.2 ⟨i2, Ok.gd.2 ⟨i3, Ok.gd.2 ⟨o3, Ok.gd.2 ⟨i3, Ok.gd.2 ⟨i1, Ok.gd.2 ⟨i4, Ok.gd.2 ⟨o4, Ok.gd.2 ⟨i4, Ok.some.2 rfl⟩⟩⟩⟩⟩⟩⟩⟩⟩⟩⟩⟩⟩⟩⟩⟩
theorem Zdz {xs : List Int} (h : xs.length ≤ 1000000000) : Z2a xs = some xs := by
 refine Zfp ?_
 unfold Z2a
 exact Ok.gd.2 ⟨by constructor <;> omega, Ok.some.2 rfl⟩
theorem s_CloneI {xs : List Int} (h : xs.length ≤ 1000000000) : Z2l xs = some xs := by
 refine Zfp ?_
 unfold Z2l
 exact Ok.gd.2 ⟨by constructor <;> omega, Ok.some.2 rfl⟩
end row
end Go.Acq
namespace Go.Acq
open Go
set_option linter.unusedSimpArgs false
theorem s_FlowG {n : Net} {m a : Nat} {c : Csr} {res : List Int} (h : CsrIs n m c) (he : Z57 m n.Arcs) (hm : m ≤ 4096) (hl : n.Arcs.length ≤ 16384) (hal : ∀ j, j < Z0s n.Arcs m → c.Arc.getD j 0 < a) (ha : a ≤ 16384)
    (hcap : ∀ i, i < n.Arcs.length → 0 ≤ (n.Arcs.getD i default).cap ∧ (n.Arcs.getD i default).cap ≤ 4611686018427387904) (hr : res.length = Z0s n.Arcs m) :
    Ok (Z85 c res a) (fun r => ((∀ j, j < Z0s n.Arcs m → Zba c.Rev c.Cap res j) ∧ r.2 = 0 ∧ FlowK n.Arcs a res (Z0s n.Arcs m) r.1) ∨ ((∃ j, j < Z0s n.Arcs m ∧ ¬Zba c.Rev c.Cap res j) ∧ r = ([], 20))) := by
  have hok := h.ok
  have lh := hok.lh
  have lr := hok.lr
  have lc := hok.lc
  have la := hok.la
  have lb := hok.lb
  have hbs := Z58 (al := n.Arcs) (v := m) hm hl
  unfold Z85 Z9c
  refine Ok.bind.2 (Ok.some.2 (Ok.ite.2 ⟨fun hx => by omega, fun _ => Ok.ite.2 ⟨fun hx => by omega, fun _ => Ok.ite.2 ⟨fun hx => by omega, fun _ => Ok.bind.2 (Ok.mono (s_over (by omega)) ?_)⟩⟩⟩))
  rintro b rfl
  have hno : ¬ ∃ j, j < c.Arc.length ∧ (a : Int) ≤ c.Arc.getD j 0 := by
    rintro ⟨j, hj, hja⟩
    have := hal j (by omega)
    omega
  unfold Z4n
  refine Ok.ite.2 ⟨fun hx => absurd (of_decide_eq_true hx) hno, fun _ => Ok.gd.2 ⟨(by omega), Ok.bind.2 ?_⟩⟩
  refine Z9r (fun s => ∃ k : Nat, s.2 = k ∧ k ≤ Z0s n.Arcs m ∧ FlowK n.Arcs a res k s.1 ∧ ∀ j, j < k → Zba c.Rev c.Cap res j) (fun s => (Z0s n.Arcs m - s.2).toNat) ⟨0, rfl, by omega, ⟨by simp, fun i => ?_⟩, fun j hj => by omega⟩ (by unfold Z4w; simp only; omega) ?_
  · simp only [Z27, Nat.not_lt_zero, and_false, if_false]
  rintro ⟨fl, x⟩ ⟨k, g1, g2, g3, g4⟩ P next exit
  simp only at g1 g2 g3 next ⊢
  subst g1
  unfold Z6l
  simp only [Int.toNat_natCast]
  have hfl := g3.1
  refine Ok.ite.2 ⟨fun hx => ?_, fun hx => ?_⟩
  · have hk : k < Z0s n.Arcs m := by omega
    obtain ⟨i, s, hi, hne, hp, q1, q2, q3, q4, q5⟩ := hok.place hk
    have hq : pos n.Arcs i (!s) < Z0s n.Arcs m := Zaj hi hne he
    have hp2 : pos n.Arcs i s < Z0s n.Arcs m := Zaj hi hne he
    have hci := hcap i hi
    have hia := hal k hk
    rw [q4] at hia
    have r3 : c.Cap.getD (pos n.Arcs i (!s)) 0 = (if (!s) then 0 else (n.Arcs.getD i default).cap) := (hok.hat i hi hne (!s)).2.2.1
    have bad : ¬Zba c.Rev c.Cap res k → P (.inr (.inl ([], 20))) := fun hr => exit _ (Ok.some.2 (.inr ⟨⟨k, hk, hr⟩, rfl⟩))
    have hmax : max (c.Cap.getD k 0) (c.Cap.getD (c.Rev.getD k 0).toNat 0) = (n.Arcs.getD i default).cap := by
      rw [q2, Int.toNat_natCast, q3, r3]; cases s <;> simp only [Bool.not_false, Bool.not_true, if_true, Bool.false_eq_true, if_false] <;> omega
    have j3 : ∀ t : Bool, (t = true → ¬Zba c.Rev c.Cap res k) → (t = false → Zba c.Rev c.Cap res k) → Ok (Z4m c res fl k t) P := by
      intro t t1 t2
      unfold Z4m
      simp only [Int.toNat_natCast]
      refine Ok.ite.2 ⟨fun ht => Ok.some.2 (bad (t1 ht)), fun ht => ?_⟩
      have hfk := t2 (by simpa using ht)
      have hall : ∀ j, j < k + 1 → Zba c.Rev c.Cap res j := fun j hj => by
        rcases Nat.lt_or_ge j k with h | h
        · exact g4 j h
        · rw [show j = k by omega]; exact hfk
      refine Ok.gd.2 ⟨(by omega), Ok.ite.2 ⟨fun hb => ?_, fun hb => ?_⟩⟩
      · have hs : s = true := by rw [q5] at hb; exact hb
        subst hs
        simp only [q4, Int.toNat_natCast]
        refine Ok.gd.2 ⟨(by omega), Ok.gd.2 ⟨(by omega), Ok.gd.2 ⟨(by omega), Ok.some.2 (next _ ⟨k + 1, by simp, by omega, ⟨by simp [hfl], fun i' => ?_⟩, hall⟩ (by simp only; omega))⟩⟩⟩
        simp only
        rw [Zcf]
        by_cases e : i = i'
        · subst e
          rw [if_pos ⟨rfl, by omega⟩, if_pos ⟨hi, hne, by omega⟩, hp]
        · rw [if_neg (fun h => e h.1), g3.2 i']
          by_cases c1 : i' < n.Arcs.length ∧ (n.Arcs.getD i' default).fr ≠ (n.Arcs.getD i' default).to
          · have : pos n.Arcs i' true ≠ k := fun h => e (Z93 he hi c1.1 hne c1.2 (hp.trans h.symm)).1
            by_cases c2 : pos n.Arcs i' true < k
            · rw [if_pos ⟨c1.1, c1.2, c2⟩, if_pos ⟨c1.1, c1.2, by omega⟩]
            · rw [if_neg (fun h => c2 h.2.2), if_neg (fun h => by have := h.2.2; omega)]
          · rw [if_neg (fun h => c1 ⟨h.1, h.2.1⟩), if_neg (fun h => c1 ⟨h.1, h.2.1⟩)]
      · have hs : s = false := by rw [q5] at hb; simpa using hb
        subst hs
        refine Ok.gd.2 ⟨(by omega), Ok.some.2 (next _ ⟨k + 1, by simp, by omega, ⟨hfl, fun i' => ?_⟩, hall⟩ (by simp only; omega))⟩
        rw [g3.2 i']
        by_cases c1 : i' < n.Arcs.length ∧ (n.Arcs.getD i' default).fr ≠ (n.Arcs.getD i' default).to
        · have : pos n.Arcs i' true ≠ k := fun h => by have := (Z93 he hi c1.1 hne c1.2 (hp.trans h.symm)).2; cases this
          by_cases c2 : pos n.Arcs i' true < k
          · rw [if_pos ⟨c1.1, c1.2, c2⟩, if_pos ⟨c1.1, c1.2, by omega⟩]
          · rw [if_neg (fun h => c2 h.2.2), if_neg (fun h => by have := h.2.2; omega)]
        · rw [if_neg (fun h => c1 ⟨h.1, h.2.1⟩), if_neg (fun h => c1 ⟨h.1, h.2.1⟩)]
    have hrev : inb (c.Rev.getD k 0) c.Cap.length := by rw [q2]; constructor <;> omega
    have hrev2 : inb (c.Rev.getD k 0) res.length := by rw [q2]; constructor <;> omega
    refine Ok.gd.2 ⟨(by omega), Ok.gd.2 ⟨(by omega), Ok.gd.2 ⟨(by omega), Ok.gd.2 ⟨hrev, Ok.ite.2 ⟨fun h1 => ?_, fun h1 => Ok.ite.2 ⟨fun h2 => ?_, fun h2 => ?_⟩⟩⟩⟩⟩⟩
    · exact j3 true (fun _ hf => by have := hf.1; omega) (fun h => by cases h)
    · exact j3 true (fun _ hf => by have := hf.2.1; omega) (fun h => by cases h)
    · refine Ok.gd.2 ⟨(by omega), Ok.gd.2 ⟨hrev2, Ok.gd.2 ⟨by rw [hmax]; constructor <;> omega, j3 _ (fun h hf => (of_decide_eq_true h) hf.2.2) (fun h => ⟨by omega, by omega, ?_⟩)⟩⟩⟩
      exact Classical.not_not.1 (of_decide_eq_false h)
  · refine Ok.some.2 (exit _ ?_)
    unfold Z7z
    have : k = Z0s n.Arcs m := by omega
    subst this
    exact Ok.some.2 (.inl ⟨g4, rfl, g3⟩)
section row
variable {n : Net} {m L : Nat} {c : Csr}
theorem Zkx {R : List Int} (r : Row n m L c) : (∀ j, j < L → Zba c.Rev c.Cap R j) ↔ ∀ j, j < L → 0 ≤ R.getD j 0 ∧ R.getD j 0 + R.getD (rv c j) 0 = cp c j := by
 constructor
 ·
  intro h j hj
  have := h j hj
  unfold Zba at this
  rw [(r.rev hj).1, Int.toNat_natCast] at this
  unfold cp; omega
 ·
  intro h j hj
  have h1 := h j hj
  have h2 := h _ (r.rev hj).2.1
  unfold Zba
  rw [(r.rev hj).1, Int.toNat_natCast]
  unfold cp at h1; omega
def HeightsP (n : Net) (m : Nat) (h : List Int) : Prop := h.length = m ∧ (∀ s : Nat, n.S = s → h.getD s 0 = m) ∧ (∀ t : Nat, n.T = t → h.getD t 0 = 0) ∧ ∀ v, v < m → 0 ≤ h.getD v 0 ∧ h.getD v 0 < 2 * m
structure PreOK (n : Net) (m L : Nat) (c : Csr) (p : Pre) : Prop where
  ok : ResOK n m L c p.Res p.Ex
  nn : ∀ v, v < m → (v : Int) ≠ n.S → 0 ≤ p.Ex.getD v 0
  hs : HeightsP n m p.H
  val : ∀ j, j < L → 0 < p.Res.getD j 0 → p.H.getD (tl c j) 0 ≤ p.H.getD (hd c j) 0 + 1
structure PreLen (p : Pre) : Prop where
  r : lenok p.Res.length
  x : lenok p.Ex.length
  h : lenok p.H.length
theorem PreOK.len {p : Pre} (h : PreOK n m L c p) (r : Row n m L c) : PreLen p := by
 have := r.bd
 have h1 := h.ok.lr
 have h2 := h.ok.lx
 have h3 := h.hs.1
 exact ⟨by omega, by omega, by omega⟩
end row
end Go.Acq
namespace Go.Acq
open Go
set_option linter.unusedSimpArgs false
def Zad (n : Net) (X : List Int) (u : Nat) : Prop := (u : Int) ≠ n.S ∧ (u : Int) ≠ n.T ∧ 0 < X.getD u 0
instance (n : Net) (X : List Int) (u : Nat) : Decidable (Zad n X u) := by unfold Zad; infer_instance
def Zfl (c : Csr) (p : Pre) (u j : Nat) : Prop := 0 < p.Res.getD j 0 ∧ p.H.getD u 0 = p.H.getD (hd c j) 0 + 1
instance (c : Csr) (p : Pre) (u j : Nat) : Decidable (Zfl c p u j) := by unfold Zfl; infer_instance
def Zbd (n : Net) (c : Csr) (p : Pre) (u : Nat) : Prop := Zad n p.Ex u ∧ ∀ j, fs c u ≤ j → j < fs c (u + 1) → ¬Zfl c p u j
instance (n : Net) (c : Csr) (p : Pre) (u : Nat) : Decidable (Zbd n c p u) :=
  if h : Zad n p.Ex u ∧ ∀ j, j < fs c (u + 1) → fs c u ≤ j → ¬Zfl c p u j then .isTrue ⟨h.1, fun j a b => h.2 j b a⟩ else .isFalse fun g => h ⟨g.1, fun j a b => g.2 j b a⟩
def Zhu (p : Nat → Bool) : Nat → List Int
  | 0 => []
  | k + 1 => Zhu p k ++ (if p k = true then [(k : Int)] else [])
theorem Zgx (p : Nat → Bool) : ∀ k, (Zhu p k).length ≤ k
 | 0 => Nat.le_refl _
 | k + 1 => by
  have := Zgx p k
  simp only [Zhu, List.length_append]
  split <;> simp <;> omega
section row
variable {n : Net} {m L : Nat} {c : Csr}
theorem Zjx {p : Pre} {u : Nat} (r : Row n m L c) (lx : p.Ex.length = m) (hu : u < m) : Z8t c p (u : Nat) = some (decide (Zad n p.Ex u)) := by
 have h2 := r.is.hS
 have h3 := r.is.hT
 unfold Z8t Zad
 rw [h2, h3]
 by_cases a : (u : Int) ≠ n.S
 ·
  by_cases b : (u : Int) ≠ n.T
  · rw [if_pos a, if_pos b, Z8i (by constructor <;> omega), Int.toNat_natCast]; simp [a, b]
  · rw [if_pos a, if_neg b]; simp [b]
 · rw [if_neg a]; simp [a]
def HtB (m : Nat) (h : List Int) : Prop := h.length = m ∧ ∀ v, v < m → -1000000 ≤ h.getD v 0 ∧ h.getD v 0 ≤ 1000000
theorem HeightsP.hb {h : List Int} (r : Row n m L c) (hh : HeightsP n m h) : HtB m h := ⟨hh.1, fun v hv => by have := hh.2.2.2 v hv; have := r.bd; omega⟩
theorem Zd5 {p : Pre} {u j : Nat} (r : Row n m L c) (lr : p.Res.length = L) (hb : HtB m p.H) (hu : u < m) (hj : j < L) : Z5s c p (u : Nat) (j : Nat) = some (decide (Zfl c p u j)) := by
 have g1 := r.head hj
 have g2 := hb.2 _ g1.2
 have := hb.1
 have := r.lens.2.1
 unfold Z5s Zfl
 simp only [Int.toNat_natCast, g1.1]
 rw [Z8i (by constructor <;> omega)]
 by_cases h : 0 < p.Res.getD j 0
 ·
  rw [if_pos h, Z8i (by constructor <;> omega), Z8i (by constructor <;> omega), Z8i (by constructor <;> omega), Z8i (by constructor <;> omega)]
  exact congrArg some (decide_eq_decide.2 ⟨fun e => ⟨h, e⟩, fun e => e.2⟩)
 ·
  rw [if_neg h]
  exact congrArg some (decide_eq_false fun e => h e.1).symm
theorem s_stuck {p : Pre} {u : Nat} (r : Row n m L c) (lr : p.Res.length = L) (lx : p.Ex.length = m) (hb : HtB m p.H) (hu : u < m) : Ok (Zbh c p (u : Nat)) (fun b => b = decide (Zbd n c p u)) := by
 have hfl := r.first.2.2.2 u hu
 unfold Zbh Z64
 refine Ok.bind.2 (Ok.some.2 (Ok.bind.2 (Ok.mono (Zmm r hu (fun j _ => ∀ i, fs c u ≤ i → i < j → ¬Zfl c p u i) (fun _ => ∃ j, fs c u ≤ j ∧ j < fs c (u + 1) ∧ Zfl c p u j) (fun i h1 h2 => by omega) fun j s h1 h2 h3 => ?_) ?_)))
 ·
  unfold Zb9
  refine Ok.bind.2 (Z7r (Zd5 r lr hb hu (by omega)) (Ok.ite.2 ⟨fun h => Ok.some.2 ⟨j, h1, h2, of_decide_eq_true h⟩, fun h => Ok.some.2 fun i h4 h5 => ?_⟩))
  rcases Nat.lt_or_ge i j with h6 | h6
  · exact h3 i h4 h6
  · rw [show i = j by omega]; exact fun h7 => h (decide_eq_true h7)
 ·
  rintro (s | x) h
  ·
   refine Ok.bind.2 (Z7r (Zjx r lx hu) (Ok.some.2 ?_))
   rw [Bool.eq_iff_iff, decide_eq_true_iff, decide_eq_true_iff]
   exact ⟨fun h1 => ⟨h1, h⟩, fun h1 => h1.1⟩
  ·
   obtain ⟨j, h1, h2, h3⟩ := h
   exact Ok.some.2 (decide_eq_false fun h4 => h4.2 j h1 h2 h3).symm
theorem s_all {p : Nat → Bool} {step : List Int → Int → Option ((List Int × Int) ⊕ List Int)} (hm : m ≤ 4096)
    (hs : ∀ (o : List Int) (k : Nat), k ≤ m → o.length ≤ k → step o k = if k < m then (if p k = true then some (.inl (o ++ [(k : Int)], (k : Int) + 1)) else some (.inl (o, (k : Int) + 1))) else some (.inr o)) : Ok (Z2j (fun s => step s.1 s.2) Z4w ([], 0)) (fun o => o = Zhu p m) := by
  refine Z9r (fun s => ∃ k : Nat, s.2 = k ∧ k ≤ m ∧ s.1 = Zhu p k) (fun s => (m - s.2).toNat) ⟨0, rfl, by omega, rfl⟩ (by unfold Z4w; simp only; omega) ?_
  rintro ⟨o, x⟩ ⟨k, h1, hk, ho⟩ P next exit
  simp only at h1 ho next ⊢
  subst h1; subst ho
  rw [hs _ k hk (Zgx p k)]
  refine Ok.ite.2 ⟨fun hx => Ok.ite.2 ⟨fun h => Ok.some.2 (next _ ⟨k + 1, by simp, by omega, by simp only [Zhu]; rw [if_pos h]⟩ (by simp only; omega)), fun h => Ok.some.2 (next _ ⟨k + 1, by simp, by omega, by simp only [Zhu]; rw [if_neg h, List.append_nil]⟩ (by simp only; omega))⟩, fun hx => Ok.some.2 (exit _ (by rw [show k = m by omega]))⟩
theorem s_May {p : Pre} (r : Row n m L c) (lr : p.Res.length = L) (lx : p.Ex.length = m) (hb : HtB m p.H) : Zea c p = some (Zhu (fun j => decide (Zad n p.Ex (tl c j) ∧ Zfl c p (tl c j) j)) L, Zhu (fun u => decide (Zbd n c p u)) m) := by
 have b := r.bd
 have hN := r.is.hN
 refine Zfp ?_
 unfold Zea
 refine Ok.bind.2 (Z9r (fun s => ∃ k : Nat, s.2 = k ∧ k ≤ m ∧ s.1 = Zhu (fun j => decide (Zad n p.Ex (tl c j) ∧ Zfl c p (tl c j) j)) (fs c k)) (fun s => (m - s.2).toNat) ⟨0, rfl, by omega, by rw [r.first.2.1]; rfl⟩ (by unfold Z4w; simp only; omega) ?_)
 rintro ⟨o, x⟩ ⟨k, h1, hk, ho⟩ P next exit
 simp only at h1 ho next ⊢
 subst h1
 unfold Zd7
 rw [hN]
 refine Ok.ite.2 ⟨fun hx => ?_, fun hx => Ok.some.2 (exit _ ?_)⟩
 ·
  have hkm : k < m := by omega
  have hfl := r.first.2.2.2 k hkm
  unfold Z64
  refine Ok.bind.2 (Ok.some.2 (Ok.bind.2 (Ok.mono (Zmm r hkm (fun j s => s = Zhu (fun j => decide (Zad n p.Ex (tl c j) ∧ Zfl c p (tl c j) j)) j) (fun _ => False) ho fun j s g1 g2 g3 => ?_) ?_)))
  ·
   have hjL : j < L := by omega
   have ht := (r.range hjL hkm).1 ⟨g1, g2⟩
   subst g3
   have hle := Zgx (fun j => decide (Zad n p.Ex (tl c j) ∧ Zfl c p (tl c j) j)) j
   have j3 : ∀ (b : Bool) (P : List Int ⊕ Empty → Prop), (P (.inl (Zhu (fun j => decide (Zad n p.Ex (tl c j) ∧ Zfl c p (tl c j) j)) (j + 1)))) → (b = true ↔ (Zad n p.Ex k ∧ Zfl c p k j)) → Ok (Z8u (Zhu (fun j => decide (Zad n p.Ex (tl c j) ∧ Zfl c p (tl c j) j)) j) (j : Nat) b) P := by
    intro b P hP hb
    unfold Z8u
    have e : decide (Zad n p.Ex (tl c j) ∧ Zfl c p (tl c j) j) = b := by rw [ht, Bool.eq_iff_iff, decide_eq_true_iff]; exact hb.symm
    refine Ok.ite.2 ⟨fun h => Ok.gd.2 ⟨?_, Ok.some.2 ?_⟩, fun h => Ok.some.2 ?_⟩
    · rw [List.length_append, List.length_singleton]; constructor <;> omega
    · simp only [Zhu] at hP; rw [if_pos (e.trans h)] at hP; exact hP
    · simp only [Zhu] at hP; rw [if_neg (by rw [e]; exact h), List.append_nil] at hP; exact hP
   unfold Zd6
   refine Ok.bind.2 (Z7r (Zjx r lx hkm) (Ok.ite.2 ⟨fun h => Ok.bind.2 (Z7r (Zd5 r lr hb hkm hjL) (j3 _ _ rfl ?_)), fun h => j3 false _ rfl ⟨fun h2 => (by cases h2), fun h2 => absurd (decide_eq_true h2.1) h⟩⟩))
   rw [decide_eq_true_iff]
   exact ⟨fun h2 => ⟨of_decide_eq_true h, h2⟩, fun h2 => h2.2⟩
  ·
   rintro (s | x) h
   · exact Ok.gd.2 ⟨(by omega), Ok.some.2 (next _ ⟨k + 1, by simp, by omega, h⟩ (by simp only; omega))⟩
   · exact h.elim
 ·
  obtain rfl : k = m := by omega
  unfold Zd8 Zak
  refine Ok.bind.2 (Ok.bind.2 (Ok.mono (s_all (m := k) (p := fun u => decide (Zbd n c p u)) (step := fun o x => Z6d c c p o x) (by omega) fun o q hq hol => ?_) fun o2 ho2 => ?_))
  ·
   unfold Z6d Ze9
   rw [hN]
   by_cases h : q < k
   ·
    obtain ⟨b, hb1, hb2⟩ := s_stuck r lr lx hb h
    rw [if_pos (by omega), if_pos h, hb1]
    simp only [Option.bind_some]
    rw [hb2]
    by_cases h2 : decide (Zbd n c p q) = true
    · rw [if_pos h2, if_pos h2, Z8i (by rw [List.length_append, List.length_singleton]; constructor <;> omega), Z8i (by constructor <;> omega)]
    · rw [if_neg h2, if_neg h2, Z8i (by constructor <;> omega)]
   · rw [if_neg (by omega), if_neg h]
  ·
   unfold Z8s
   refine Ok.some.2 (Ok.some.2 ?_)
   rw [ho, r.first.2.2.1, ho2]
def Zae (c : Csr) (p : Pre) (j : Nat) : Int := min (p.Ex.getD (tl c j) 0) (p.Res.getD j 0)
def Z92 (c : Csr) (p : Pre) (j : Nat) : Pre := ⟨mvR c p.Res j (Zae c p j), mvX c p.Ex j (Zae c p j), p.H⟩
theorem s_Copy {p : Pre} (h1 : p.Res.length ≤ 1000000000) (h2 : p.Ex.length ≤ 1000000000) (h3 : p.H.length ≤ 1000000000) : Z99 p = some p := by
 unfold Z99
 rw [Zdz h1, Zdz h2, s_CloneI h3]; rfl
theorem PreOK.push {p : Pre} {j : Nat} (h : PreOK n m L c p) (r : Row n m L c) (hj : j < L) (hA : Zad n p.Ex (tl c j)) (hB : Zfl c p (tl c j) j) : PreOK n m L c (Z92 c p j) := by
 have h1 := hA.2.2
 have h2 := hB.1
 have hD : Zae c p j = min (p.Ex.getD (tl c j) 0) (p.Res.getD j 0) := rfl
 have hlr := h.ok.lr
 have hlx := h.ok.lx
 have ht := r.tlh hj
 have hr := r.rev hj
 refine ⟨h.ok.move r hj (by omega) (by omega), fun v hv hvS => ?_, h.hs, fun k hk h0 => ?_⟩
 ·
  have := h.nn v hv hvS
  simp only [Z92]
  rw [Zaz r hlx hj]
  by_cases c1 : tl c j = v
  ·
   subst c1
   rw [if_pos rfl, if_neg fun e => ht.2.2.2 e.symm]; omega
  · rw [if_neg c1]; split <;> omega
 ·
  simp only [Z92] at h0 ⊢
  rw [Z8r r hlr hj] at h0
  by_cases c1 : k = rv c j
  ·
   subst c1
   rw [ht.2.1, ht.2.2.1]
   have := hB.2
   omega
  ·
   rw [if_neg c1] at h0
   by_cases c2 : k = j
   · subst c2; exact h.val k hk h2
   · rw [if_neg c2] at h0; exact h.val k hk h0
def Zk1 (c : Csr) (p : Pre) (m : Nat) (a : Nat) : Nat → Int
  | 0 => 2 * m
  | k + 1 => if 0 < p.Res.getD (a + k) 0 then min (Zk1 c p m a k) (p.H.getD (hd c (a + k)) 0) else Zk1 c p m a k
def Zfx (c : Csr) (p : Pre) (m u : Nat) : Int := Zk1 c p m (fs c u) (fs c (u + 1) - fs c u)
def Zbj (c : Csr) (p : Pre) (m u : Nat) : Pre := ⟨p.Res, p.Ex, p.H.set u (Zfx c p m u + 1)⟩
theorem Zmu {p : Pre} {a : Nat} : ∀ {k i : Nat}, i < k → 0 < p.Res.getD (a + i) 0 → Zk1 c p m a k ≤ p.H.getD (hd c (a + i)) 0
 | 0, _, h, _ => by omega
 | k + 1, i, h, h0 => by
  simp only [Zk1]
  rcases Nat.lt_or_ge i k with h1 | h1
  ·
   have := Zmu h1 h0
   split <;> omega
  ·
   have : i = k := by omega
   subst this
   rw [if_pos h0]; omega
theorem Zjb (p : Pre) (a : Nat) : ∀ k : Nat, Zk1 c p m a k ≤ 2 * m ∧ (Zk1 c p m a k = 2 * m ∨ ∃ i, i < k ∧ 0 < p.Res.getD (a + i) 0 ∧ p.H.getD (hd c (a + i)) 0 = Zk1 c p m a k)
 | 0 => ⟨Int.le_refl _, .inl rfl⟩
 | k + 1 => by
  obtain ⟨h1, h2⟩ := Zjb p a k
  simp only [Zk1]
  by_cases h : 0 < p.Res.getD (a + k) 0
  ·
   rw [if_pos h]
   refine ⟨by omega, ?_⟩
   by_cases h3 : p.H.getD (hd c (a + k)) 0 ≤ Zk1 c p m a k
   · exact .inr ⟨k, by omega, h, by omega⟩
   ·
    rcases h2 with h2 | ⟨i, g1, g2, g3⟩
    · exact .inl (by omega)
    · exact .inr ⟨i, by omega, g2, by omega⟩
  ·
   rw [if_neg h]
   refine ⟨h1, ?_⟩
   rcases h2 with h2 | ⟨i, g1, g2, g3⟩
   · exact .inl h2
   · exact .inr ⟨i, by omega, g2, g3⟩
theorem lowV_le {p : Pre} {u j : Nat} (r : Row n m L c) (hu : u < m) (hj : j < L) (ht : tl c j = u) (h0 : 0 < p.Res.getD j 0) : Zfx c p m u ≤ p.H.getD (hd c j) 0 := by
 have h1 := (r.range hj hu).2 ht
 have e : fs c u + (j - fs c u) = j := by omega
 have := Zmu (c := c) (m := m) (p := p) (a := fs c u) (k := fs c (u + 1) - fs c u) (i := j - fs c u) (by omega) (by rw [e]; exact h0)
 rw [e] at this; exact this
theorem Zja (p : Pre) {u : Nat} (r : Row n m L c) (hu : u < m) : Zfx c p m u ≤ 2 * m ∧ (Zfx c p m u = 2 * m ∨ ∃ j, j < L ∧ tl c j = u ∧ 0 < p.Res.getD j 0 ∧ p.H.getD (hd c j) 0 = Zfx c p m u) := by
 have hfl := r.first.2.2.2 u hu
 obtain ⟨h1, h2⟩ := Zjb (c := c) (m := m) p (fs c u) (fs c (u + 1) - fs c u)
 refine ⟨h1, ?_⟩
 rcases h2 with h2 | ⟨i, g1, g2, g3⟩
 · exact .inl h2
 · exact .inr ⟨fs c u + i, by omega, (r.range (by omega) hu).1 ⟨by omega, by omega⟩, g2, g3⟩
def OpenJ (c : Csr) (L : Nat) (R : List Int) (u v : Nat) : Prop := ∃ j, j < L ∧ tl c j = u ∧ hd c j = v ∧ 0 < R.getD j 0
theorem OpenJ.lt {R : List Int} (r : Row n m L c) {u v : Nat} (h : OpenJ c L R u v) : u < m ∧ v < m := by
 obtain ⟨j, h1, h2, h3, _⟩ := h
 exact ⟨by rw [← h2]; exact (r.tlh h1).1, by rw [← h3]; exact (r.head h1).2⟩
theorem Zec {H : Nat → Int} {G : Nat → Nat → Prop} (hG : ∀ u v, G u v → H u ≤ H v + 1) {u v : Nat} (hr : Reach G u v) : ∀ k : Int, H v ≤ k → k ≤ H u → ∃ w, Reach G u w ∧ H w = k := by
 induction hr with
 | refl => intro k h1 h2; exact ⟨u, .refl, by omega⟩
 | step h1 h2 ih =>
  rename_i x y
  intro k h3 h4
  by_cases c : H x ≤ k
  · exact ih k c h4
  ·
   have := hG _ _ h2
   exact ⟨y, .step h1 h2, by omega⟩
theorem pigeon : ∀ (m : Nat) (f : Nat → Nat), (∀ k, k ≤ m → f k < m) → ∃ i j, i < j ∧ j ≤ m ∧ f i = f j
 | 0, f, h => absurd (h 0 (Nat.le_refl _)) (by omega)
 | m + 1, f, h => by
  by_cases e : ∃ i, i ≤ m ∧ f i = f (m + 1)
  ·
   obtain ⟨i, h1, h2⟩ := e
   exact ⟨i, m + 1, by omega, by omega, h2⟩
  ·
   have ne : ∀ i, i ≤ m → f i ≠ f (m + 1) := fun i hi h2 => e ⟨i, hi, h2⟩
   obtain ⟨i, j, h1, h2, h3⟩ := pigeon m (fun k => if f (m + 1) < f k then f k - 1 else f k) fun k hk => by
    have a := h k (by omega)
    have a2 := h (m + 1) (by omega)
    have a3 := ne k hk
    split <;> omega
   have a1 := ne i (by omega)
   have a2 := ne j (by omega)
   refine ⟨i, j, h1, by omega, ?_⟩
   split at h3 <;> split at h3 <;> omega
theorem Zfv {H : Nat → Int} {a : Int} (h : ∀ k : Nat, k ≤ m → ∃ w, w < m ∧ H w = a + k) : False := by
 have : ∀ k : Nat, ∃ w, k ≤ m → w < m ∧ H w = a + k := fun k => by
  by_cases c : k ≤ m
  · obtain ⟨w, hw⟩ := h k c; exact ⟨w, fun _ => hw⟩
  · exact ⟨0, fun h => absurd h c⟩
 obtain ⟨f, hf⟩ := Classical.axiomOfChoice this
 obtain ⟨i, j, h1, h2, h3⟩ := pigeon m f fun k hk => (hf k hk).1
 have a1 := (hf i (by omega)).2
 have a2 := (hf j h2).2
 rw [h3] at a1
 omega
theorem Zk0 {R : List Int} (r : Row n m L c) {u v : Nat} (hu : u < m) (h : Reach (OpenJ c L R) u v) : v < m := by
 induction h with
 | refl => exact hu
 | step _ h2 _ => exact (h2.lt r).2
theorem Zfq {R X : List Int} {S u : Nat} (r : Row n m L c) (h : ResOK n m L c R X) (hS : n.S = S) (nn : ∀ v, v < m → v ≠ S → 0 ≤ X.getD v 0) (hu : u < m) (hx : 0 < X.getD u 0) : Reach (OpenJ c L R) u S := by
 refine Classical.byContradiction fun hno => ?_
 let q : Nat → Bool := fun v => @decide (¬Reach (OpenJ c L R) u v) (Classical.propDecidable _)
 have hq : ∀ v, q v = true ↔ ¬Reach (OpenJ c L R) u v := fun v => @decide_eq_true_iff _ (Classical.propDecidable _)
 obtain ⟨cl, hcl⟩ : ∃ cl : List Bool, cl = (List.range m).map q := ⟨_, rfl⟩
 have inc : ∀ v : Nat, v < m → (inS cl v = true ↔ ¬Reach (OpenJ c L R) u v) := fun v hv => by
  unfold inS
  rw [hcl, Int.toNat_natCast, List.getD_eq_getElem?_getD, List.getElem?_map, List.getElem?_range hv]
  exact hq v
 have inf : ∀ v : Nat, v < m → (inS cl v = false ↔ Reach (OpenJ c L R) u v) := fun v hv => by
  rw [Bool.eq_false_iff, ne_eq, inc v hv]; exact Classical.not_not
 have he := r.he
 have hw := h.within r
 have hac : ∀ k, k ≤ n.Arcs.length → acK n.Arcs (flN n.Arcs R) cl k ≤ 0 := by
  intro k
  induction k with
  | zero => intro _; simp [acK]
  | succ k ih =>
   intro hk
   have h0 := he k hk false
   have h1 := he k hk true
   simp only [vtx, Bool.false_eq_true, if_false, if_true] at h0 h1
   have hf := (hw.2.2 k hk).1
   have ih := ih (by omega)
   simp only [acK]
   by_cases c1 : inS cl (n.Arcs.getD k default).fr = true ∧ inS cl (n.Arcs.getD k default).to = false
   ·
    have hz : (flN n.Arcs R).getD k 0 = 0 := by
     rw [Z9x hk]
     by_cases e : (n.Arcs.getD k default).fr = (n.Arcs.getD k default).to
     · rw [if_pos e]
     ·
      rw [if_neg e]
      obtain ⟨-, a2, a3⟩ := r.cpPos hk e true
      have z := r.is.ok.hat k hk e true
      have z2 := r.is.ok.hat k hk e false
      have nnR := (h.res _ a3).1
      refine Int.le_antisymm (Int.not_lt.1 fun hpos => ?_) nnR
      obtain ⟨p, hp⟩ : ∃ p : Nat, (n.Arcs.getD k default).fr = p := ⟨(n.Arcs.getD k default).fr.toNat, by omega⟩
      obtain ⟨t, ht⟩ : ∃ t : Nat, (n.Arcs.getD k default).to = t := ⟨(n.Arcs.getD k default).to.toNat, by omega⟩
      rw [hp, ht] at c1
      have r1 := (inf t (by omega)).1 c1.2
      refine (inc p (by omega)).1 c1.1 (.step r1 ⟨_, a3, ?_, ?_, hpos⟩)
      · unfold tl hd; rw [a2]; simp only [Bool.not_true]; rw [z2.1]; simp only [vtx, Bool.not_false, if_true, ht]; omega
      · unfold hd; rw [z.1]; simp only [vtx, Bool.not_true, Bool.false_eq_true, if_false, hp]; omega
    rw [if_pos c1, hz]; split <;> omega
   · rw [if_neg c1]; split <;> omega
 have hpc : ∀ j, j ≤ m → 0 ≤ Zdn n.Arcs (flN n.Arcs R) cl j n.Arcs.length ∧ (u < j → 0 < Zdn n.Arcs (flN n.Arcs R) cl j n.Arcs.length) := by
  intro j
  induction j with
  | zero => intro _; rw [show ((0 : Nat) : Int) = 0 from rfl, Zcl he _ (Nat.le_refl _)]; exact ⟨Int.le_refl _, fun h => by omega⟩
  | succ j ih =>
   intro hj
   obtain ⟨i1, i2⟩ := ih (by omega)
   rw [Int.natCast_succ, Zck]
   by_cases c1 : inS cl j = false
   ·
    rw [if_pos c1, ← h.ex j (by omega)]
    have hjS : j ≠ S := fun e => hno (by rw [← e]; exact (inf j (by omega)).1 c1)
    have := nn j (by omega) hjS
    refine ⟨by omega, fun hlt => ?_⟩
    by_cases e : u = j
    · subst e; omega
    · have := i2 (by omega); omega
   ·
    rw [if_neg c1]
    refine ⟨by omega, fun hlt => ?_⟩
    by_cases e : u = j
    · subst e; exact absurd ((inf u hu).2 .refl) c1
    · have := i2 (by omega); omega
 have := (hpc m (Nat.le_refl _)).2 hu
 rw [Ze6 he _ (Nat.le_refl _)] at this
 have := hac _ (Nat.le_refl _)
 omega
theorem Zi1 {R : List Int} {H : Nat → Int} {S u : Nat} (r : Row n m L c) (hu : u < m) (hval : ∀ j, j < L → 0 < R.getD j 0 → H (tl c j) ≤ H (hd c j) + 1) (hHS : H S = m) (hr : Reach (OpenJ c L R) u S) : H u < 2 * m := by
 refine Int.not_le.1 fun hge => ?_
 refine Zfv (m := m) (H := H) (a := m) fun k hk => ?_
 obtain ⟨w, h1, h2⟩ := Zec (H := H) (G := OpenJ c L R) (fun a b ⟨j, g1, g2, g3, g4⟩ => by rw [← g2, ← g3]; exact hval j g1 g4) hr (m + k) (by omega) (by omega)
 exact ⟨w, Zk0 r hu h1, h2⟩
theorem PreOK.lift {p : Pre} {u : Nat} (h : PreOK n m L c p) (r : Row n m L c) (hu : u < m) (hS : Zbd n c p u) : PreOK n m L c (Zbj c p m u) ∧ p.H.getD u 0 ≤ Zfx c p m u := by
 obtain ⟨⟨S, hnS, -, hSm⟩, ⟨T, hnT, -, hTm⟩, -, -⟩ := r.ends
 have lh := h.hs.1
 obtain ⟨⟨hA1, hA2, hA3⟩, hB⟩ := hS
 have huS : u ≠ S := by omega
 have huT : u ≠ T := by omega
 have hlow : p.H.getD u 0 ≤ Zfx c p m u := by
  have h2 := h.hs.2.2.2 u hu
  rcases (Zja p r hu).2 with h1 | ⟨j, h1, h3, h4, h5⟩
  · omega
  ·
   have h6 := h.val j h1 h4
   rw [h3] at h6
   have h7 := (r.range h1 hu).2 h3
   have h8 := hB j h7.1 h7.2
   have : p.H.getD u 0 ≠ p.H.getD (hd c j) 0 + 1 := fun e => h8 ⟨h4, e⟩
   omega
 have hHu : ∀ v, (p.H.set u (Zfx c p m u + 1)).getD v 0 = if v = u then Zfx c p m u + 1 else p.H.getD v 0 := fun v => by
  rw [Zcf]
  by_cases e : v = u
  · rw [if_pos ⟨e.symm, by omega⟩, if_pos e]
  · rw [if_neg fun h => e h.1.symm, if_neg e]
 have hval : ∀ j, j < L → 0 < p.Res.getD j 0 → (p.H.set u (Zfx c p m u + 1)).getD (tl c j) 0 ≤ (p.H.set u (Zfx c p m u + 1)).getD (hd c j) 0 + 1 := fun j hj h0 => by
  have ht := r.tlh hj
  rw [hHu, hHu]
  by_cases c1 : tl c j = u
  ·
   have := lowV_le r hu hj c1 h0
   rw [if_pos c1, if_neg fun e => ht.2.2.2 (c1.trans e.symm)]; omega
  ·
   rw [if_neg c1]
   have := h.val j hj h0
   by_cases c2 : hd c j = u
   · rw [if_pos c2]; rw [c2] at this; omega
   · rw [if_neg c2]; exact this
 have hreach := Zfq r h.ok hnS (fun v hv hvS => h.nn v hv (by omega)) hu hA3
 have hbound := Zi1 (H := fun v => (p.H.set u (Zfx c p m u + 1)).getD v 0) r hu hval (by simp only [hHu]; rw [if_neg fun e => huS e.symm]; exact h.hs.2.1 S hnS) hreach
 simp only [hHu, if_true] at hbound
 refine ⟨⟨h.ok, h.nn, ⟨by simp [Zbj, lh], fun s hs => ?_, fun t ht => ?_, fun v hv => ?_⟩, hval⟩, hlow⟩
 · simp only [Zbj]; rw [hHu, if_neg (by omega)]; exact h.hs.2.1 s hs
 · simp only [Zbj]; rw [hHu, if_neg (by omega)]; exact h.hs.2.2.1 t ht
 ·
  have h1 := h.hs.2.2.2 v hv
  have h2 := h.hs.2.2.2 u hu
  simp only [Zbj]; rw [hHu]
  by_cases e : v = u
  · rw [if_pos e]; omega
  · rw [if_neg e]; exact h1
end row
end Go.Acq
namespace Go.Acq
open Go
set_option linter.unusedSimpArgs false
theorem Zi2 {α : Type} {z v : α} {k i : Int} : ∀ mp : List (Int × α), Zmw z i (putM k v mp) = if i = k then v else Zmw z i mp
 | [] => by simp only [putM, Zmw]
 | x :: mp => by
  simp only [putM]
  by_cases h : k = x.1
  ·
   rw [if_pos h]; simp only [Zmw]
   by_cases e : i = k
   · rw [if_pos e, if_pos e]
   · rw [if_neg e, if_neg e, if_neg (by omega)]
  ·
   rw [if_neg h]; simp only [Zmw]
   by_cases e : i = x.1
   · rw [if_pos e, if_pos e, if_neg (by omega)]
   · rw [if_neg e, if_neg e, Zi2 mp]
theorem Zh0 {α : Type} {v : α} {k : Int} : ∀ {mp : List (Int × α)} {x : Int × α}, x ∈ putM k v mp → x.1 = k ∨ ∃ y, y ∈ mp ∧ y.1 = x.1
 | [], x, h => by simp only [putM, List.mem_singleton] at h; left; rw [h]
 | y :: mp, x, h => by
  simp only [putM] at h
  by_cases e : k = y.1
  ·
   rw [if_pos e] at h
   rcases List.mem_cons.1 h with h | h
   · left; rw [h]
   · exact .inr ⟨x, List.mem_cons_of_mem _ h, rfl⟩
  ·
   rw [if_neg e] at h
   rcases List.mem_cons.1 h with h | h
   · exact .inr ⟨y, List.mem_cons_self, by rw [h]⟩
   ·
    rcases Zh0 h with h | ⟨z, h1, h2⟩
    · exact .inl h
    · exact .inr ⟨z, List.mem_cons_of_mem _ h1, h2⟩
def Apart {α : Type} : List (Int × α) → Prop
  | [] => True
  | x :: mp => (∀ y, y ∈ mp → y.1 ≠ x.1) ∧ Apart mp
theorem Apart.put {α : Type} {v : α} {k : Int} : ∀ {mp : List (Int × α)}, Apart mp → Apart (putM k v mp)
 | [], _ => ⟨fun y h => (by cases h), trivial⟩
 | x :: mp, h => by
  simp only [putM]
  by_cases e : k = x.1
  · rw [if_pos e]; exact ⟨fun y hy => by rw [e]; exact h.1 y hy, h.2⟩
  ·
   rw [if_neg e]
   refine ⟨fun y hy => ?_, Apart.put h.2⟩
   rcases Zh0 hy with h1 | ⟨z, h1, h2⟩
   · rw [h1]; exact e
   · rw [← h2]; exact h.1 z h1
theorem Apart.at {α : Type} {z : α} (d : Int × α) : ∀ {mp : List (Int × α)} {j : Nat}, Apart mp → j < mp.length → Zmw z (mp.getD j d).1 mp = (mp.getD j d).2
 | [], j, _, h => by simp at h
 | x :: mp, 0, _, _ => by simp [Zmw]
 | x :: mp, j + 1, h, hj => by
  have hj' : j < mp.length := by simpa using hj
  have hm := h.1 _ (Z78 hj' d)
  show Zmw z (mp.getD j d).1 (x :: mp) = (mp.getD j d).2
  simp only [Zmw]
  rw [if_neg hm]; exact Apart.at d h.2 hj'
theorem Apart.inj {α : Type} (d : Int × α) : ∀ {mp : List (Int × α)} {i j : Nat}, Apart mp → i < mp.length → j < mp.length → (mp.getD i d).1 = (mp.getD j d).1 → i = j
 | [], i, _, _, h, _, _ => by simp at h
 | x :: mp, 0, 0, _, _, _, _ => rfl
 | x :: mp, 0, j + 1, h, _, hj, e => absurd e.symm (h.1 _ (Z78 (by simpa using hj) d))
 | x :: mp, i + 1, 0, h, hi, _, e => absurd e (h.1 _ (Z78 (by simpa using hi) d))
 | x :: mp, i + 1, j + 1, h, hi, hj, e => congrArg (· + 1) (Apart.inj d h.2 (by simpa using hi) (by simpa using hj) e)
def hfr (n : Net) (h : Hop) : Int := if h.Back = true then (n.Arcs.getD h.Arc.toNat default).to else (n.Arcs.getD h.Arc.toNat default).fr
def hto (n : Net) (h : Hop) : Int := if h.Back = true then (n.Arcs.getD h.Arc.toNat default).fr else (n.Arcs.getD h.Arc.toNat default).to
def hok (n : Net) (h : Hop) : Prop := 0 ≤ h.Arc ∧ h.Arc < n.Arcs.length
def WayK (n : Net) (l : List Hop) (k : Nat) : Prop := (∀ i, i < k → hok n (l.getD i default)) ∧ ∀ i, i + 1 < k → hfr n (l.getD (i + 1) default) = hto n (l.getD i default)
def Zm6 (l : List Hop) (i : Int) : Nat → Int
  | 0 => 0
  | k + 1 => Zm6 l i k + (if (l.getD k default).Arc = i then (if (l.getD k default).Back = true then -1 else 1) else 0)
structure MapIs (n : Net) (mp : List (Int × Int)) (l : List Hop) (k : Nat) : Prop where
  val : ∀ i, Zmw 0 i mp = Zm6 l i k
  key : ∀ x, x ∈ mp → 0 ≤ x.1 ∧ x.1 < n.Arcs.length
  apart : Apart mp
theorem MapIs.put {n : Net} {mp : List (Int × Int)} {l : List Hop} {k : Nat} (h : MapIs n mp l k) (hk : hok n (l.getD k default)) {v : Int} (hv : v = Zm6 l (l.getD k default).Arc k + (if (l.getD k default).Back = true then -1 else 1)) : MapIs n (putM (l.getD k default).Arc v mp) l (k + 1) := by
 refine ⟨fun i => ?_, fun x hx => ?_, h.apart.put⟩
 ·
  rw [Zi2]
  simp only [Zm6]
  by_cases e : i = (l.getD k default).Arc
  · rw [if_pos e, if_pos e.symm, hv, e]
  · rw [if_neg e, if_neg (fun h => e h.symm), h.val, Int.add_zero]
 ·
  rcases Zh0 hx with h1 | ⟨y, h1, h2⟩
  · rw [h1]; exact hk
  · rw [← h2]; exact h.key y h1
end Go.Acq
namespace Go.Acq
open Go
set_option linter.unusedSimpArgs false
def fits (n : Net) (f : List Int) (i : Nat) (c d : Int) : Prop := 0 ≤ f.getD i 0 + d * c ∧ f.getD i 0 + d * c ≤ (n.Arcs.getD i default).cap
end Go.Acq
namespace Go.Acq
open Go
set_option linter.unusedSimpArgs false
section row
variable {n : Net} {m L : Nat} {c : Csr}
theorem Zje {al : List Arc} {f : List Int} {v : Int} : ∀ {k : Nat}, (∀ i, i < k → f.getD i 0 = 0) → ex al f v k = 0
 | 0, _ => rfl
 | k + 1, h => by simp only [ex]; rw [Zje fun i hi => h i (by omega), h k (by omega)]; simp
theorem Zmp (r : Row n m L c) : Ok (Z6v c) (fun p => PreOK n m L c p) := by
 have b := r.bd
 obtain ⟨⟨S, hS, hcS, hSm⟩, ⟨T, hT, hcT, hTm⟩, hne, hN⟩ := r.ends
 obtain ⟨-, -, -, lc, -, -⟩ := r.lens
 have hfl := r.first.2.2.2 S hSm
 unfold Z6v
 refine Ok.bind.2 (Z7r (Zdz (by omega)) ?_)
 rw [hN, hcS]
 simp only [Int.toNat_natCast]
 obtain ⟨H0, hH0⟩ : ∃ H0, (List.replicate m (0 : Int)).set S m = H0 := ⟨_, rfl⟩
 have hHl : H0.length = m := by rw [← hH0]; simp
 have hHv : ∀ v, H0.getD v 0 = if v = S then (m : Int) else 0 := fun v => by
  rw [← hH0, Zcf, List.length_replicate, Z27]
  by_cases e : v = S
  · rw [if_pos ⟨e.symm, hSm⟩, if_pos e]
  · rw [if_neg fun h => e h.1.symm, if_neg e]
 rw [hH0]
 unfold Z64
 refine Ok.gd.2 ⟨(by omega), Ok.gd.2 ⟨(by omega), Ok.gd.2 ⟨by rw [List.length_replicate]; constructor <;> omega, Ok.bind.2 (Ok.some.2 (Ok.bind.2 (Ok.mono (Zmm r hSm
  (fun k s => ResOK n m L c s.1 s.2 ∧ (∀ v, v < m → v ≠ S → 0 ≤ s.2.getD v 0) ∧ ∀ i, fs c S ≤ i → i < k → s.1.getD i 0 = 0) (fun _ => False) ⟨⟨lc, by simp, fun j hj => ?_, fun v hv => ?_⟩, fun v hv _ => by rw [Z27]; exact Int.le_refl _, fun i h1 h2 => by omega⟩ fun j s h1 h2 h3 => ?_) ?_)))⟩⟩⟩
 · have := r.cap hj; exact ⟨this.1, this.2.1⟩
 ·
  rw [Z27, Zje fun i hi => ?_]
  rw [Z9x hi]
  by_cases e : (n.Arcs.getD i default).fr = (n.Arcs.getD i default).to
  · rw [if_pos e]
  · rw [if_neg e, (r.is.ok.hat i hi e true).2.2.1]; rfl
 ·
  obtain ⟨xs, ys⟩ := s
  obtain ⟨g1, g2, g3⟩ := h3
  simp only at g1 g2 g3
  have hjL : j < L := by omega
  have ht := (r.range hjL hSm).1 ⟨h1, h2⟩
  have htl := r.tlh hjL
  have hrv := r.rev hjL
  have hle := g1.rle r hjL
  have hxl := g1.lr
  unfold Z4v
  rw [hN, hcS]
  simp only [Int.toNat_natCast, hH0]
  refine Ok.gd.2 ⟨(by omega), Ok.bind.2 (Z7r (s_move (p := ⟨xs, ys, H0⟩) r g1 hjL hle.1 (Int.le_refl _)) (Ok.some.2 ⟨g1.move r hjL hle.1 (Int.le_refl _), fun v hv hvS => ?_, fun i h4 h5 => ?_⟩))⟩
  ·
   simp only
   rw [Zaz r g1.lx hjL, ht, if_neg fun e => hvS e.symm]
   have := g2 v hv hvS
   split <;> omega
  ·
   simp only
   have hiL : i < L := by omega
   have hti := (r.range hiL hSm).1 ⟨h4, by omega⟩
   rw [Z8r r hxl hjL, if_neg fun e => by rw [e, htl.2.1] at hti; exact htl.2.2.2 (ht.trans hti.symm)]
   by_cases e : i = j
   · rw [if_pos e]; omega
   · rw [if_neg e]; exact g3 i h4 (by omega)
 ·
  rintro (⟨xs, ys⟩ | x) h
  ·
   obtain ⟨g1, g2, g3⟩ := h
   simp only at g1 g2 g3
   refine Ok.some.2 ⟨g1, fun v hv hvS => g2 v hv (by omega), ⟨hHl, fun s hs => ?_, fun t ht => ?_, fun v hv => ?_⟩, fun j hj h0 => ?_⟩
   · simp only; rw [hHv, if_pos (by omega)]
   · simp only; rw [hHv, if_neg (by omega)]
   · simp only; rw [hHv]; split <;> omega
   ·
    simp only at h0 ⊢
    rw [hHv, hHv]
    by_cases e : tl c j = S
    ·
     have := (r.range hj hSm).2 e
     rw [g3 j this.1 this.2] at h0; omega
    · rw [if_neg e]; split <;> omega
  · exact h.elim
def StepP (n : Net) (m L : Nat) (c : Csr) (was p : Pre) : Prop :=
  (∃ j, j < L ∧ Zad n was.Ex (tl c j) ∧ Zfl c was (tl c j) j ∧ p = Z92 c was j) ∨ (∃ u, u < m ∧ Zbd n c was u ∧ p = Zbj c was m u)
theorem PreOK.hb {p : Pre} (h : PreOK n m L c p) (r : Row n m L c) : HtB m p.H := h.hs.hb r
theorem PreOK.step {was p : Pre} (h : PreOK n m L c was) (r : Row n m L c) (hs : StepP n m L c was p) : PreOK n m L c p := by
 rcases hs with ⟨j, h1, h2, h3, rfl⟩ | ⟨u, h1, h2, rfl⟩
 · exact h.push r h1 h2 h3
 · exact (h.lift r h1 h2).1
def arcsOf (n : Net) (L : Nat) (c : Csr) (p : Pre) : List Int := Zhu (fun j => decide (Zad n p.Ex (tl c j) ∧ Zfl c p (tl c j) j)) L
def vertsOf (n : Net) (m : Nat) (c : Csr) (p : Pre) : List Int := Zhu (fun u => decide (Zbd n c p u)) m
theorem PreOK.may {p : Pre} (h : PreOK n m L c p) (r : Row n m L c) : Zea c p = some (arcsOf n L c p, vertsOf n m c p) := s_May r h.ok.lr h.ok.lx (h.hb r)
theorem row_of {m : Nat} (hc : CsrIs n m c) (hm : n.N = m) (hk : Z3o n.N n.S n.T n.Arcs = 0) : Row n m (Z0s n.Arcs m) c := ⟨hc, hk, hm, rfl⟩
end row
end Go.Acq
namespace Go.Acq
open Go
set_option linter.unusedSimpArgs false
set_option linter.unusedVariables false
section row
variable {n : Net} {m L : Nat} {c : Csr}
theorem open_j {R : List Int} (r : Row n m L c) (hR : ∀ j, j < L → 0 ≤ R.getD j 0 ∧ R.getD j 0 + R.getD (rv c j) 0 = cp c j) {u v : Nat} (h : Zdp n (flN n.Arcs R) u v) : OpenJ c L R u v := by
 obtain ⟨i, hi, hne, h⟩ := h
 rw [Z9x hi, if_neg hne] at h
 have ha : ∀ s, hd c (pos n.Arcs i s) = (vtx (n.Arcs.getD i default) (!s)).toNat := fun s => by unfold hd; rw [(r.is.ok.hat i hi hne s).1]
 have ht : ∀ s, tl c (pos n.Arcs i s) = (vtx (n.Arcs.getD i default) s).toNat := fun s => by unfold tl; rw [(r.cpPos hi hne s).2.1, ha, Bool.not_not]
 have e0 := r.he i hi false
 have e1 := r.he i hi true
 obtain ⟨c1, c2, c3⟩ := r.cpPos hi hne false
 obtain ⟨d1, d2, d3⟩ := r.cpPos hi hne true
 have hf := hR _ c3
 simp only [Bool.not_false, Bool.not_true] at c2 d2
 rw [c2, c1] at hf
 rcases h with ⟨a1, a2, a3⟩ | ⟨a1, a2, a3⟩
 ·
  refine ⟨pos n.Arcs i false, c3, ?_, ?_, by omega⟩
  · rw [ht]; simp only [vtx, Bool.false_eq_true, if_false]; omega
  · rw [ha]; simp only [vtx, Bool.not_false, if_true]; omega
 ·
  refine ⟨pos n.Arcs i true, d3, ?_, ?_, by omega⟩
  · rw [ht]; simp only [vtx, if_true]; omega
  · rw [ha]; simp only [vtx, Bool.not_true, Bool.false_eq_true, if_false]; omega
theorem PreOK.far {p : Pre} {S T : Nat} (h : PreOK n m L c p) (r : Row n m L c) (hS : n.S = S) (hT : n.T = T) : ¬Reach (Zdp n (flN n.Arcs p.Res)) S T := fun hr => by
 obtain ⟨⟨S', hS', -, hSm⟩, ⟨T', hT', -, hTm⟩, -, -⟩ := r.ends
 have hr2 : Reach (OpenJ c L p.Res) S T := hr.mono fun u v ho => open_j r h.ok.res ho
 have hp := Zec (H := fun v => p.H.getD v 0) (G := OpenJ c L p.Res) (fun u v ⟨j, hj, h1, h2, h3⟩ => by have := h.val j hj h3; rw [h1, h2] at this; exact this) hr2
 have h1 := h.hs.2.1 S hS
 have h2 := h.hs.2.2.1 T hT
 simp only [h1, h2] at hp
 refine Zfv (m := m) (H := fun v => p.H.getD v 0) (a := 0) fun k hk => ?_
 obtain ⟨w, hw, he⟩ := hp k (by omega) (by omega)
 exact ⟨w, Zk0 r (by omega) hw, by omega⟩
theorem PreOK.flow {p : Pre} (h : PreOK n m L c p) (r : Row n m L c) (ha : ∀ u, u < m → ¬Zad n p.Ex u) : AllP n (flN n.Arcs p.Res) (fun x => x = 0) [n.S, n.T] := by
 refine ⟨h.ok.within r, fun v hv => ?_⟩
 have hm := r.hm
 by_cases hc : (v : Int) ∈ [n.S, n.T]
 · exact .inr hc
 ·
  left
  simp only [List.mem_cons, List.not_mem_nil, or_false, not_or] at hc
  have hvm : v < m := by omega
  have h1 := h.nn v hvm hc.1
  have h2 := h.ok.ex v hvm
  have h3 : ¬0 < p.Ex.getD v 0 := fun h0 => ha v hvm ⟨hc.1, hc.2, h0⟩
  omega
theorem to_tight {f : List Int} {b : List Bool} {T : Nat} (he : Z57 m n.Arcs) (hb : ∀ v, v < m → (b.getD v false = true ↔ ¬Reach (Zdp n f) v T)) : ∀ i, i < n.Arcs.length → Zb8 n.Arcs f b i := fun i hi => by
 have e0 := he i hi false
 have e1 := he i hi true
 simp only [vtx, Bool.false_eq_true, if_false, if_true] at e0 e1
 obtain ⟨p, hp⟩ : ∃ p : Nat, (n.Arcs.getD i default).fr = p := ⟨(n.Arcs.getD i default).fr.toNat, by omega⟩
 obtain ⟨q, hq⟩ : ∃ q : Nat, (n.Arcs.getD i default).to = q := ⟨(n.Arcs.getD i default).to.toNat, by omega⟩
 rw [hp] at e0
 rw [hq] at e1
 unfold Zb8 inS
 rw [hp, hq, Int.toNat_natCast, Int.toNat_natCast]
 have step : ∀ u v : Nat, u < m → v < m → Zdp n f u v → b.getD u false = true → b.getD v false = true := fun u v hu hv ho h => (hb v hv).2 fun h7 => (hb u hu).1 h (Reach.trans (.step .refl ho) h7)
 refine ⟨fun h4 h5 => Int.not_lt.1 fun h6 => ?_, fun h4 h5 => Int.not_lt.1 fun h6 => ?_⟩
 ·
  have hne : (n.Arcs.getD i default).fr ≠ (n.Arcs.getD i default).to := fun e => by rw [show p = q by omega, h5] at h4; cases h4
  rw [step p q (by omega) (by omega) ⟨i, hi, hne, .inl ⟨hp, hq, h6⟩⟩ h4] at h5; cases h5
 ·
  have hne : (n.Arcs.getD i default).fr ≠ (n.Arcs.getD i default).to := fun e => by rw [show p = q by omega, h5] at h4; cases h4
  rw [step q p (by omega) (by omega) ⟨i, hi, hne, .inr ⟨hq, hp, h6⟩⟩ h5] at h4; cases h4
theorem s_FlowR {R : List Int} (r : Row n m L c) (hr : R.length = L) (hR : ∀ j, j < L → 0 ≤ R.getD j 0 ∧ R.getD j 0 + R.getD (rv c j) 0 = cp c j) : Ok (Z85 c R (n.Arcs.length : Int)) (fun t => t = (flN n.Arcs R, 0)) := by
 have hbd := r.bd
 refine Ok.mono (s_FlowG r.is r.he hbd.2.1 hbd.2.2.1 (fun j hj => ?_) hbd.2.2.1 r.caps (by rw [r.hL]; exact hr)) ?_
 ·
  rw [r.hL] at hj
  obtain ⟨i, s, hi, _, _, _, _, _, _, _, _, h, _⟩ := r.at hj
  omega
 rintro ⟨f, e⟩ (⟨-, h1, h2⟩ | ⟨⟨j, hj, hn⟩, -⟩)
 ·
  simp only at h1 h2
  subst h1
  rw [show f = flN n.Arcs R from Zkz 0 (by rw [h2.1, Zmy]) fun i hi => by
   rw [h2.1] at hi
   rw [h2.2 i, Z9x hi]
   by_cases hne : (n.Arcs.getD i default).fr = (n.Arcs.getD i default).to
   · rw [if_pos hne, if_neg (fun h => h.2.1 hne)]
   · rw [if_neg hne, if_pos ⟨hi, hne, Zaj hi hne r.he⟩]]
 ·
  rw [r.hL] at hj
  exact absurd ((Zkx r).2 hR j hj) hn
end row
end Go.Acq
namespace Go.Acq
open Go
set_option linter.unusedSimpArgs false
set_option linter.unusedVariables false
theorem Zgt {l : List Bool} {i : Nat} (hi : i < l.length) (hf : l.getD i false = true) : ∀ k : Nat, tc (l.set i false) k + (if i < k then 1 else 0) = tc l k
 | 0 => by simp [tc]
 | k + 1 => by
  have ih := Zgt hi hf k
  simp only [tc, Zcf]
  by_cases c : i = k
  ·
   subst c
   rw [if_neg (show ¬ i < i by omega)] at ih
   rw [if_pos (show i = i ∧ i < l.length from ⟨rfl, hi⟩), hf, if_pos (show i < i + 1 by omega)]; simp; omega
  ·
   rw [if_neg (show ¬(i = k ∧ i < l.length) from fun h => c h.1)]
   by_cases c2 : i < k
   · rw [if_pos c2] at ih; rw [if_pos (show i < k + 1 by omega)]; omega
   · rw [if_neg c2] at ih; rw [if_neg (show ¬ i < k + 1 by omega)]; omega
theorem Zjw {l : List Int} {u : Nat} {x : Int} (hu : u < l.length) : ∀ m : Nat, Z5r (fun v => (l.set u x).getD v 0) m = Z5r (fun v => l.getD v 0) m + (if u < m then x - l.getD u 0 else 0)
 | 0 => by simp [Z5r]
 | m + 1 => by
  have ih := Zjw (x := x) hu m
  simp only [Z5r]
  rw [ih, Zcf]
  by_cases c : u = m
  ·
   subst c
   rw [if_neg (show ¬ u < u by omega), if_pos ⟨rfl, hu⟩, if_pos (show u < u + 1 by omega)]; omega
  ·
   rw [if_neg (show ¬(u = m ∧ u < l.length) from fun h => c h.1)]
   by_cases c2 : u < m
   · rw [if_pos c2, if_pos (show u < m + 1 by omega)]; omega
   · rw [if_neg c2, if_neg (show ¬ u < m + 1 by omega)]; omega
theorem Zhq {f : Nat → Int} {i0 : Nat} : ∀ {k : Nat}, i0 < k → Z5r (fun i => if i = i0 then f i + 1 else f i) k = Z5r f k + 1
 | 0, h => by omega
 | k + 1, h => by
  simp only [Z5r]
  by_cases c : k = i0
  ·
   subst c
   rw [if_pos rfl, Zft (g := fun i => if i = k then f i + 1 else f i) (h := f) fun i hi => if_neg (by omega)]; omega
  · rw [if_neg c, Zhq (by omega)]; omega
theorem Z97 (a : Int) : ∀ k : Nat, Z5r (fun _ => a) k = k * a
 | 0 => by simp [Z5r]
 | k + 1 => by simp only [Z5r, Z97 a k]; rw [Int.natCast_succ, Int.add_mul, Int.one_mul]
theorem Zho (f : Nat → Int) (a : Int) : ∀ k : Nat, Z5r (fun i => a * f i) k = a * Z5r f k
 | 0 => by simp [Z5r]
 | k + 1 => by simp only [Z5r, Zho f a k]; rw [Int.mul_add]
theorem Zfw {a b A B : Int} (h0 : 0 ≤ a) (h1 : a ≤ A) (h2 : 0 ≤ b) (h3 : b ≤ B) : 0 ≤ a * b ∧ a * b ≤ A * B := ⟨Int.mul_nonneg h0 h2, Int.mul_le_mul h1 h3 h2 (by omega)⟩
theorem upset {mt : List Bool} {v w : Nat} (h : mt.getD w false = true) : (mt.set v true).getD w false = true := by
 rw [Zcf]; split
 · rfl
 · exact h
structure QOK (n : Net) (m : Nat) (buf : List Int) (ins : List Bool) : Prop where
  len : ins.length = m
  nat : ∀ q, q < buf.length → ∃ u : Nat, buf.getD q 0 = u ∧ u < m ∧ ins.getD u false = true ∧ (u : Int) ≠ n.S ∧ (u : Int) ≠ n.T
  inj : ∀ q q', q < buf.length → q' < buf.length → buf.getD q 0 = buf.getD q' 0 → q = q'
  cnt : buf.length = tc ins m
theorem QOK.none (n : Net) (m : Nat) : QOK n m [] (List.replicate m false) := ⟨List.length_replicate, fun q hq => by simp at hq, fun q q' hq => by simp at hq, by rw [Zj5]; rfl⟩
theorem QOK.le {n : Net} {m : Nat} {buf : List Int} {ins : List Bool} (h : QOK n m buf ins) : buf.length ≤ m := by rw [h.cnt]; exact tc_le _ _
theorem QOK.room {n : Net} {m : Nat} {buf : List Int} {ins : List Bool} {v : Nat} (h : QOK n m buf ins) (hv : v < m) (hf : ins.getD v false = false) : buf.length < m := by
 have h1 := Zhn (l := ins) (by rw [h.len]; exact hv) hf m
 have h2 := tc_le (ins.set v true) m
 rw [if_pos hv] at h1
 have := h.cnt
 omega
theorem QOK.put {n : Net} {m : Nat} {buf : List Int} {ins : List Bool} {v : Nat} (h : QOK n m buf ins) (hv : v < m) (hf : ins.getD v false = false) (hS : (v : Int) ≠ n.S) (hT : (v : Int) ≠ n.T) : QOK n m (buf ++ [(v : Int)]) (ins.set v true) := by
 have hl := h.len
 refine ⟨by simp [hl], fun q hq => ?_, fun q q' hq hq' he => ?_, ?_⟩
 ·
  rw [List.length_append, List.length_singleton] at hq
  rcases Nat.lt_or_ge q buf.length with h1 | h1
  ·
   obtain ⟨u, h2, h3, h4, h5⟩ := h.nat q h1
   refine ⟨u, by rw [Z4d h1]; exact h2, h3, ?_, h5⟩
   rw [Zcf]; split
   · rfl
   · exact h4
  ·
   refine ⟨v, ?_, hv, by rw [Zcf, if_pos ⟨rfl, by omega⟩], hS, hT⟩
   rw [Z8h h1, show q - buf.length = 0 by omega]; rfl
 ·
  rw [List.length_append, List.length_singleton] at hq hq'
  have key : ∀ q, q < buf.length → buf.getD q 0 ≠ (v : Int) := fun q h1 e => by
   obtain ⟨u, h2, h3, h4, -⟩ := h.nat q h1
   have : u = v := by omega
   subst this; rw [hf] at h4; cases h4
  have last : ∀ q, ¬ q < buf.length → q < buf.length + 1 → (buf ++ [(v : Int)]).getD q 0 = v := fun q h1 h2 => by
   rw [Z8h (by omega), show q - buf.length = 0 by omega]; rfl
  by_cases h1 : q < buf.length <;> by_cases h2 : q' < buf.length
  · rw [Z4d h1, Z4d h2] at he; exact h.inj q q' h1 h2 he
  · rw [Z4d h1, last q' h2 hq'] at he; exact absurd he (key q h1)
  · rw [Z4d h2, last q h1 hq] at he; exact absurd he.symm (key q' h2)
  · omega
 · rw [List.length_append, List.length_singleton, Zhn (by omega) hf, if_pos hv, h.cnt]
theorem QOK.cut {n : Net} {m : Nat} {v : Int} {buf : List Int} {ins : List Bool} (h : QOK n m (v :: buf) ins) : ∃ u : Nat, v = u ∧ u < m ∧ (u : Int) ≠ n.S ∧ (u : Int) ≠ n.T ∧ ins.getD u false = true ∧ QOK n m buf (ins.set u false) := by
 obtain ⟨u, h1, h2, h3, h4, h5⟩ := h.nat 0 (by simp)
 have h1 : v = (u : Int) := h1
 have hl := h.len
 refine ⟨u, h1, h2, h4, h5, h3, by simp [hl], fun q hq => ?_, fun q q' hq hq' he => ?_, ?_⟩
 ·
  obtain ⟨w, g1, g2, g3, g4⟩ := h.nat (q + 1) (by simpa using hq)
  refine ⟨w, g1, g2, ?_, g4⟩
  rw [Z4c fun e => ?_]
  · exact g3
  ·
   subst e
   have := h.inj 0 (q + 1) (by simp) (by simpa using hq) (by rw [g1]; exact h1)
   omega
 ·
  have := h.inj (q + 1) (q' + 1) (by simpa using hq) (by simpa using hq') he
  omega
 ·
  have e1 := Zgt (l := ins) (by rw [hl]; exact h2) h3 m
  rw [if_pos h2] at e1
  have := h.cnt
  simp only [List.length_cons] at this
  omega
section row
variable {n : Net} {m L : Nat} {c : Csr}
def Z5c (n : Net) (r : FifoRun) (v : Nat) : FifoRun := if Zad n r.p.Ex v ∧ r.ins.getD v false = false then ⟨r.c, r.p, r.row.put v, r.ins.set v true, r.work⟩ else r
theorem s_wait {x : FifoRun} {v : Nat} (r : Row n m L c) (hc : x.c = c) (lx : x.p.Ex.length = m) (hq : QOK n m x.row.buf x.ins) (hcap : x.row.cap = m) (hv : v < m) : Z4a x (v : Nat) = some (Z5c n x v) := by
 obtain ⟨⟨S, hS, hcS, hSm⟩, ⟨T, hT, hcT, hTm⟩, -, -⟩ := r.ends
 have hl := hq.len
 refine Zfp ?_
 have j3 : ∀ b : Bool, (b = true ↔ Zad n x.p.Ex v ∧ x.ins.getD v false = false) → Ok (Z39 x v b) (fun t => t = Z5c n x v) := fun b hb => by
  unfold Z39 Z5c
  simp only [Int.toNat_natCast]
  refine Ok.ite.2 ⟨fun h => ?_, fun h => ?_⟩
  ·
   have h2 := hb.1 h
   rw [if_pos h2]
   have := hq.room hv h2.2
   exact Ok.gd.2 ⟨by constructor <;> omega, Ok.gd.2 ⟨by omega, Ok.some.2 rfl⟩⟩
  · rw [if_neg fun h2 => h (hb.2 h2)]; exact Ok.some.2 rfl
 have j2 : ∀ b : Bool, (b = true ↔ Zad n x.p.Ex v) → Ok (Z3a x v b) (fun t => t = Z5c n x v) := fun b hb => by
  unfold Z3a
  simp only [Int.toNat_natCast]
  refine Ok.ite.2 ⟨fun h => Ok.gd.2 ⟨by constructor <;> omega, j3 _ ?_⟩, fun h => j3 _ ?_⟩
  ·
   have := hb.1 h
   cases x.ins.getD v false <;> simp [this]
  · exact ⟨fun h2 => (by cases h2), fun h2 => absurd (hb.2 h2.1) h⟩
 unfold Z4a Z3u
 rw [hc, hcS, hcT]
 refine Ok.ite.2 ⟨fun h1 => Ok.ite.2 ⟨fun h2 => Ok.gd.2 ⟨by constructor <;> omega, ?_⟩, fun h2 => ?_⟩, fun h1 => Ok.ite.2 ⟨fun h2 => (by cases h2), fun _ => ?_⟩⟩
 ·
  rw [Int.toNat_natCast]
  refine j2 _ ?_
  have := of_decide_eq_true h2
  unfold Zad
  rw [decide_eq_true_iff]
  exact ⟨fun h => ⟨by omega, by omega, h⟩, fun h => h.2.2⟩
 · refine j2 _ ⟨fun h => (by cases h), fun h => absurd (decide_eq_true (show (v : Int) ≠ T by have := h.2.1; omega)) h2⟩
 · exact j2 _ ⟨fun h => (by cases h), fun h => absurd (show (v : Int) ≠ S by have := h.1; omega) h1⟩
theorem Z8c (n : Net) (x : FifoRun) (v : Nat) : (Z5c n x v).p = x.p := by unfold Z5c; split <;> rfl
theorem Zmd (n : Net) (x : FifoRun) (v : Nat) : (Z5c n x v).c = x.c := by unfold Z5c; split <;> rfl
theorem Zgi (n : Net) (x : FifoRun) (v : Nat) : (Z5c n x v).work = x.work := by unfold Z5c; split <;> rfl
theorem Zhk (n : Net) (x : FifoRun) (v : Nat) : (Z5c n x v).row.cap = x.row.cap := by unfold Z5c; split <;> rfl
theorem Zmb {x : FifoRun} {v : Nat} (hq : QOK n m x.row.buf x.ins) (hv : v < m) : QOK n m (Z5c n x v).row.buf (Z5c n x v).ins := by
 unfold Z5c
 split
 · rename_i h; exact hq.put hv h.2 h.1.1 h.1.2.1
 · exact hq
theorem Zhj {x : FifoRun} {v w : Nat} (hw : x.ins.getD w false = true) : (Z5c n x v).ins.getD w false = true := by
 unfold Z5c
 split
 · exact upset hw
 · exact hw
theorem Zju {x : FifoRun} {v : Nat} (hl : x.ins.length = m) (hv : v < m) (h : Zad n x.p.Ex v) : (Z5c n x v).ins.getD v false = true := by
 unfold Z5c
 split
 · exact Zbi (by omega)
 ·
  rename_i h2
  cases e : x.ins.getD v false with
  | true => rfl
  | false => exact absurd ⟨h, e⟩ h2
theorem Zmc {x : FifoRun} {v w : Nat} (hw : w ≠ v) : (Z5c n x v).ins.getD w false = x.ins.getD w false := by
 unfold Z5c
 split
 · exact Z4c (Ne.symm hw)
 · rfl
theorem s_fpush {x : FifoRun} {j : Nat} (r : Row n m L c) (hc : x.c = c) (h : PreOK n m L c x.p) (hq : QOK n m x.row.buf x.ins) (hcap : x.row.cap = m) (hj : j < L) (h1 : 0 < x.p.Ex.getD (tl c j) 0) (h2 : 0 < x.p.Res.getD j 0) (hw : 0 ≤ x.work.Pushes ∧ x.work.Pushes ≤ 1000000000000000) :
    Z53 x (tl c j : Nat) (j : Nat) = some (Z5c n ⟨c, Z92 c x.p j, x.row, x.ins, ⟨x.work.Pushes + 1, x.work.Lifts⟩⟩ (hd c j)) := by
  refine Zfp ?_
  obtain ⟨xc, p, row, ins, work⟩ := x
  simp only at hc h hq hcap h1 h2 hw
  subst hc
  obtain ⟨-, lh, lr, -, -, -⟩ := r.lens
  have g1 := r.head hj
  have g2 := r.rev hj
  have g3 := r.tlh hj
  have hlr := h.ok.lr
  have hlx := h.ok.lx
  have hD : Zae xc p j = min (p.Ex.getD (tl xc j) 0) (p.Res.getD j 0) := rfl
  have d0 : 0 ≤ Zae xc p j := by omega
  have d1 : Zae xc p j ≤ p.Res.getD j 0 := by omega
  have hm := h.ok.move r hj d0 d1
  have b1 := h.ok.bnd r g3.1
  have b2 := hm.bnd r g1.2
  have b3 := h.ok.rle r hj
  have b4 := hm.rle r g2.2.1
  have b5 := h.ok.rle r g2.2.1
  rw [Zaz r hlx hj, if_neg g3.2.2.2, if_pos rfl] at b2
  rw [Z8r r hlr hj, if_pos rfl] at b4
  have e1 : (p.Res.set j (p.Res.getD j 0 - Zae xc p j)).getD (rv xc j) 0 = p.Res.getD (rv xc j) 0 := Z4c fun e => g2.2.2.2 e.symm
  have e2 : (p.Ex.set (tl xc j) (p.Ex.getD (tl xc j) 0 - Zae xc p j)).getD (hd xc j) 0 = p.Ex.getD (hd xc j) 0 := Z4c g3.2.2.2
  unfold Z53
  simp only [Int.toNat_natCast, g1.1, g2.1, ← hD, e1, e2, List.length_set, hlr, hlx, lh, lr]
  have i1 : inb (j : Int) L := by constructor <;> omega
  have i2 : inb ((rv xc j : Nat) : Int) L := by constructor <;> omega
  have i3 : inb ((tl xc j : Nat) : Int) m := by constructor <;> omega
  have i4 : inb ((hd xc j : Nat) : Int) m := by constructor <;> omega
  have o1 : i64ok (p.Res.getD j 0 - Zae xc p j) := by constructor <;> omega
  have o2 : i64ok (p.Res.getD (rv xc j) 0 + Zae xc p j) := by constructor <;> omega
  have o3 : i64ok (p.Ex.getD (tl xc j) 0 - Zae xc p j) := by constructor <;> omega
  have o4 : i64ok (p.Ex.getD (hd xc j) 0 + Zae xc p j) := by constructor <;> omega
  have o5 : i64ok (work.Pushes + 1) := by constructor <;> omega
  refine Ok.gd.2 ⟨i1, Ok.gd.2 ⟨i1, Ok.gd.2 ⟨i3, Ok.gd.2 ⟨i1, Ok.gd.2 ⟨i1, Ok.gd.2 ⟨o1, Ok.gd.2 ⟨i1, Ok.gd.2 ⟨i2, Ok.gd.2 ⟨o2, Ok.gd.2 ⟨i2, Ok.gd.2 ⟨i3, Ok.gd.2 ⟨o3, Ok.gd.2 ⟨i3, Ok.gd.2 ⟨i4, Ok.gd.2 ⟨o4, Ok.gd.2 ⟨i4, Ok.gd.2 ⟨o5, Ok.bind.2 ?_⟩⟩⟩⟩⟩⟩⟩⟩⟩⟩⟩⟩⟩⟩⟩⟩⟩
  refine Z7r (s_wait (x := ⟨xc, Z92 xc p j, row, ins, ⟨work.Pushes + 1, work.Lifts⟩⟩) r rfl hm.lx hq hcap g1.2) (Ok.some.2 ?_)
  unfold Z5c
  split <;> rfl
theorem s_once {x : FifoRun} {u : Nat} (r : Row n m L c) (hc : x.c = c) (h : PreOK n m L c x.p) (hq : QOK n m x.row.buf x.ins) (hcap : x.row.cap = m) (hu : u < m) (hA : Zad n x.p.Ex u) (hw : 0 ≤ x.work.Pushes ∧ x.work.Pushes ≤ 1000000000000000) (hw2 : 0 ≤ x.work.Lifts ∧ x.work.Lifts ≤ 1000000000000000) :
    Ok (Z54 x (u : Nat)) (fun y => (∃ j, j < L ∧ tl c j = u ∧ Zfl c x.p u j ∧ y = Z5c n ⟨c, Z92 c x.p j, x.row, x.ins, ⟨x.work.Pushes + 1, x.work.Lifts⟩⟩ (hd c j)) ∨ (Zbd n c x.p u ∧ y = ⟨c, Zbj c x.p m u, x.row, x.ins, ⟨x.work.Pushes, x.work.Lifts + 1⟩⟩)) := by
  have lf := r.lens.1
  have llh := r.lens.2.1
  have b := r.bd
  have hN := r.is.hN
  have f1 := (r.first.1 u (by omega)).1
  have f2 := (r.first.1 (u + 1) (by omega)).1
  have f3 := r.first.2.2.2 u hu
  have e1 : ((u : Int) + 1).toNat = u + 1 := by omega
  have hlr := h.ok.lr
  have hb := h.hb r
  have hlh := hb.1
  have hbu := hb.2 u hu
  unfold Z54
  rw [hc, hN]
  simp only [Int.toNat_natCast, f1]
  refine Ok.gd.2 ⟨by constructor <;> omega, Ok.gd.2 ⟨by constructor <;> omega, Ok.bind.2 (Z9r (fun s => ∃ k : Nat, s = (Zk1 c x.p m (fs c u) (k - fs c u), (k : Int)) ∧ fs c u ≤ k ∧ k ≤ fs c (u + 1) ∧ ∀ j, fs c u ≤ j → j < k → ¬Zfl c x.p u j) (fun s => (fs c (u + 1) - s.2).toNat) ⟨fs c u, by rw [Nat.sub_self]; rfl, Nat.le_refl _, f3.1, fun j h1 h2 => by omega⟩ (by unfold Z4w; simp only; omega) ?_)⟩⟩
  rintro s ⟨k, rfl, hk0, hk, hno⟩ P next exit
  have hlow := (Zjb (c := c) (m := m) x.p (fs c u) (k - fs c u))
  unfold Z3v
  rw [hc]
  simp only [Int.toNat_natCast, e1, f2]
  refine Ok.gd.2 ⟨by constructor <;> omega, Ok.gd.2 ⟨by constructor <;> omega, Ok.ite.2 ⟨fun hx => ?_, fun hx => Ok.some.2 (exit _ ?_)⟩⟩⟩
  · have hkL : k < L := by omega
    have htl := (r.range hkL hu).1 ⟨hk0, by omega⟩
    have g1 := r.head hkL
    have g4 := h.ok.rle r hkL
    have hbh := hb.2 _ g1.2
    have ek : k + 1 - fs c u = (k - fs c u) + 1 := by omega
    have ek2 : fs c u + (k - fs c u) = k := by omega
    refine Ok.gd.2 ⟨by constructor <;> omega, Ok.ite.2 ⟨fun h0 => Ok.gd.2 ⟨by constructor <;> omega, Ok.some.2 (next _ ⟨k + 1, ?_, by omega, by omega, fun j h1 h2 => ?_⟩ (by simp only; omega))⟩, fun h0 => ?_⟩⟩
    · rw [ek]; simp only [Zk1, ek2]; rw [if_neg (by omega)]; simp
    · by_cases e : j = k
      · subst e; exact fun hA2 => by have := hA2.1; omega
      · exact hno j h1 (by omega)
    · simp only [g1.1, Int.toNat_natCast]
      refine Ok.gd.2 ⟨by constructor <;> omega, Ok.gd.2 ⟨by constructor <;> omega, Ok.gd.2 ⟨by constructor <;> omega, Ok.gd.2 ⟨by constructor <;> omega, Ok.ite.2 ⟨fun h5 => Ok.bind.2 ?_, fun h5 => Ok.gd.2 ⟨by constructor <;> omega, Ok.some.2 (next _ ⟨k + 1, ?_, by omega, by omega, fun j h1 h2 => ?_⟩ (by simp only; omega))⟩⟩⟩⟩⟩⟩
      · have hp := s_fpush r hc h hq hcap hkL (by rw [htl]; exact hA.2.2) (by omega) hw
        rw [htl] at hp
        refine Z7r hp (Ok.some.2 (exit _ (Ok.some.2 (.inl ⟨k, hkL, htl, ⟨by omega, h5⟩, ?_⟩))))
        unfold Z5c
        split <;> rfl
      · rw [ek]; simp only [Zk1, ek2]; rw [if_pos (by omega)]; simp
      · by_cases e : j = k
        · subst e; exact fun hA2 => h5 hA2.2
        · exact hno j h1 (by omega)
  · obtain rfl : k = fs c (u + 1) := by omega
    have hge : -1000000 ≤ Zfx c x.p m u := by
      rcases (Zja x.p r hu).2 with h | ⟨j, h1, -, -, h4⟩
      · omega
      · have := hb.2 _ (r.head h1).2; omega
    have hlv : Zk1 c x.p m (fs c u) (fs c (u + 1) - fs c u) = Zfx c x.p m u := rfl
    have hle := (Zja x.p r hu).1
    simp only
    unfold Z4x
    rw [hlv]
    simp only [Int.toNat_natCast]
    exact Ok.gd.2 ⟨by constructor <;> omega, Ok.gd.2 ⟨by constructor <;> omega, Ok.gd.2 ⟨by constructor <;> omega, Ok.some.2 (.inr ⟨⟨hA, fun j h1 h2 => hno j h1 h2⟩, by rw [hc]; rfl⟩)⟩⟩⟩
end row
end Go.Acq
namespace Go.Acq
open Go
set_option linter.unusedSimpArgs false
set_option linter.unusedVariables false
def nlI (n : Net) (i : Nat) : Int := if (n.Arcs.getD i default).fr = (n.Arcs.getD i default).to then 0 else 1
def ai (c : Csr) (j : Nat) : Nat := (c.Arc.getD j 0).toNat
def hsum (p : Pre) (m : Nat) : Int := Z5r (fun v => p.H.getD v 0) m
section row
variable {n : Net} {m L : Nat} {c : Csr}
theorem Row.ai (r : Row n m L c) {j : Nat} (hj : j < L) : ai c j < n.Arcs.length ∧ nlI n (ai c j) = 1 ∧ Acq.ai c (rv c j) = Acq.ai c j ∧ ∀ k, k < L → Acq.ai c k = Acq.ai c j → k = j ∨ k = rv c j := by
 obtain ⟨i, s, hi, hne, hp, q1, q2, q3, q4, q5, q6, q7, q8⟩ := r.at hj
 have e : Acq.ai c j = i := by unfold Acq.ai; omega
 have hr := r.rev hj
 rw [e]
 refine ⟨hi, if_neg hne, ?_, fun k hk he => ?_⟩
 ·
  obtain ⟨i', s', hi', hne', hp', -, -, -, -, -, -, q7', -⟩ := r.at hr.2.1
  have e' : Acq.ai c (rv c j) = i' := by unfold Acq.ai; omega
  rw [e']
  rw [q5] at hp'
  exact (Z93 r.he hi' hi hne' hne hp').1
 ·
  obtain ⟨i', s', hi', hne', hp', -, -, -, -, -, -, q7', -⟩ := r.at hk
  have e' : Acq.ai c k = i' := by unfold Acq.ai; omega
  have : i' = i := by omega
  subst this
  cases s <;> cases s'
  · exact .inl (by rw [← hp', hp])
  · exact .inr (by rw [← hp', q5]; rfl)
  · exact .inr (by rw [← hp', q5]; rfl)
  · exact .inl (by rw [← hp', hp])
theorem PreOK.hsum {p : Pre} (h : PreOK n m L c p) (r : Row n m L c) : (m : Int) ≤ hsum p m ∧ Acq.hsum p m ≤ m + ((m : Int) - 2) * (2 * m - 1) := by
 obtain ⟨⟨S, hS, -, hSm⟩, ⟨T, hT, -, hTm⟩, hne, -⟩ := r.ends
 have h1 := h.hs.2.1 S hS
 have h2 := h.hs.2.2.1 T hT
 have h3 := h.hs.2.2.2
 have hST : S ≠ T := by omega
 constructor
 ·
  have a : Z5r (fun v => if v = S then (m : Int) else 0) m = m := by
   rw [Z9t (i := S) hSm fun j _ hj => if_neg hj, if_pos rfl]
  rw [← a]
  refine Zch fun v hv => ?_
  split
  · rename_i e; subst e; omega
  · rename_i e; exact (h3 v hv).1
 ·
  have a : Z5r (fun v => (2 * (m : Int) - 1) + ((if v = S then (1 - (m : Int)) else 0) + (if v = T then (1 - 2 * (m : Int)) else 0))) m = m + ((m : Int) - 2) * (2 * m - 1) := by
   rw [Zgv, Zgv, Z97, Z9t (i := S) hSm fun j _ hj => if_neg hj, if_pos rfl, Z9t (i := T) hTm fun j _ hj => if_neg hj, if_pos rfl, Int.sub_mul]
   omega
  rw [← a]
  refine Zch fun v hv => ?_
  have := h3 v hv
  by_cases e1 : v = S
  · subst e1; rw [if_pos rfl, if_neg hST, h1]; omega
  ·
   by_cases e2 : v = T
   · subst e2; rw [if_neg e1, if_pos rfl, h2]; omega
   · rw [if_neg e1, if_neg e2]; omega
structure SatI (n : Net) (m L : Nat) (c : Csr) (p : Pre) (f : Nat → Int) : Prop where
  nn : ∀ i, i < n.Arcs.length → 0 ≤ f i ∧ f i ≤ (2 * m - 1) * nlI n i
  op : ∀ j, j < L → 0 < p.Res.getD j 0 → f (ai c j) + 1 ≤ max (p.H.getD (tl c j) 0) (p.H.getD (hd c j) 0 + 1)
theorem SatI.zero {p : Pre} (h : PreOK n m L c p) (r : Row n m L c) : SatI n m L c p (fun _ => 0) := by
 have b := r.bd
 refine ⟨fun i hi => ⟨Int.le_refl _, ?_⟩, fun j hj _ => ?_⟩
 · unfold nlI; split <;> omega
 · have := h.hs.2.2.2 _ (r.head hj).2; omega
theorem SatI.lift {p : Pre} {f : Nat → Int} {u : Nat} (h : SatI n m L c p f) (hp : PreOK n m L c p) (r : Row n m L c) (hu : u < m) (hl : p.H.getD u 0 ≤ Zfx c p m u) : SatI n m L c (Zbj c p m u) f := by
 refine ⟨h.nn, fun j hj h0 => ?_⟩
 have h1 := h.op j hj h0
 have hlh := hp.hs.1
 have key : ∀ v, p.H.getD v 0 ≤ (Zbj c p m u).H.getD v 0 := fun v => by
  simp only [Zbj]
  rw [Zcf]; split
  · rename_i e; rw [← e.1]; omega
  · exact Int.le_refl _
 have := key (tl c j)
 have := key (hd c j)
 omega
theorem SatI.push {p : Pre} {f : Nat → Int} {j : Nat} (h : SatI n m L c p f) (hp : PreOK n m L c p) (r : Row n m L c) (hj : j < L) (hA : 0 < p.Ex.getD (tl c j) 0) (hB : Zfl c p (tl c j) j) :
    (p.Res.getD j 0 ≤ p.Ex.getD (tl c j) 0 → SatI n m L c (Z92 c p j) (fun i => if i = ai c j then f i + 1 else f i)) ∧ (¬p.Res.getD j 0 ≤ p.Ex.getD (tl c j) 0 → SatI n m L c (Z92 c p j) f) := by
  have hD : Zae c p j = min (p.Ex.getD (tl c j) 0) (p.Res.getD j 0) := rfl
  have hlr := hp.ok.lr
  have ht := r.tlh hj
  have hr := r.rev hj
  have hai := r.ai hj
  have h1 := h.op j hj hB.1
  have h2 := hB.2
  have h3 := hp.hs.2.2.2 _ ht.1
  have e0 : ∀ k, (Z92 c p j).Res.getD k 0 = if k = rv c j then p.Res.getD (rv c j) 0 + Zae c p j else if k = j then p.Res.getD j 0 - Zae c p j else p.Res.getD k 0 := fun k => Z8r r hlr hj
  have eh : (Z92 c p j).H = p.H := rfl
  have hnn := h.nn _ hai.1
  rw [hai.2.1] at hnn
  refine ⟨fun hs => ⟨fun i hi => ?_, fun k hk h0 => ?_⟩, fun hs => ⟨h.nn, fun k hk h0 => ?_⟩⟩
  · by_cases e : i = Acq.ai c j
    · subst e; rw [if_pos rfl, hai.2.1]; omega
    · rw [if_neg e]; exact h.nn i hi
  · rw [e0] at h0
    rw [eh]
    by_cases c1 : k = rv c j
    · subst c1; rw [if_pos hai.2.2.1, hai.2.2.1, ht.2.1, ht.2.2.1]; omega
    · rw [if_neg c1] at h0
      by_cases c2 : k = j
      · subst c2; rw [if_pos rfl] at h0; omega
      · rw [if_neg c2] at h0
        have : Acq.ai c k ≠ Acq.ai c j := fun e => (hai.2.2.2 k hk e).elim c2 c1
        rw [if_neg this]; exact h.op k hk h0
  · rw [e0] at h0
    rw [eh]
    by_cases c1 : k = rv c j
    · subst c1; rw [hai.2.2.1, ht.2.1, ht.2.2.1]; omega
    · rw [if_neg c1] at h0
      by_cases c2 : k = j
      · subst c2; exact h1
      · rw [if_neg c2] at h0; exact h.op k hk h0
structure FI (n : Net) (m L : Nat) (c : Csr) (h0 Hm R0 : Int) (x : FifoRun) (k : Nat) (X : Int) (f : Nat → Int) (q : Int) : Prop where
  cc : x.c = c
  ok : PreOK n m L c x.p
  qq : QOK n m x.row.buf x.ins
  cap : x.row.cap = m
  ps : ∀ v, v < m → x.ins.getD v false = true → 0 < x.p.Ex.getD v 0
  kl : k ≤ x.row.buf.length
  X0 : 0 ≤ X
  h1 : ∀ i, i < k → ∀ u : Nat, x.row.buf.getD i 0 = u → x.p.H.getD u 0 ≤ X
  h2 : ∀ i, k ≤ i → i < x.row.buf.length → ∀ u : Nat, x.row.buf.getD i 0 = u → x.p.H.getD u 0 + 1 ≤ X
  sat : SatI n m L c x.p f
  lf : 0 ≤ x.work.Lifts ∧ x.work.Lifts + h0 ≤ hsum x.p m
  pu : 0 ≤ x.work.Pushes
  hm : hsum x.p m ≤ Hm
  bud : q + m * (X + (Hm - hsum x.p m)) + k ≤ R0
  q0 : 0 ≤ q ∧ (q = 0 ∨ 3 ≤ m)
def InI (n : Net) (m L : Nat) (c : Csr) (h0 Hm R0 : Int) (u : Nat) (x : FifoRun) (k : Nat) (X : Int) (f : Nat → Int) (q : Int) : Prop :=
  FI n m L c h0 Hm R0 x k X f q ∧ x.ins.getD u false = false ∧ x.p.H.getD u 0 ≤ X ∧ (∀ v, v < m → v ≠ u → Zad n x.p.Ex v → x.ins.getD v false = true) ∧ x.work.Pushes + (if 0 < x.p.Ex.getD u 0 then 1 else 0) ≤ Z5r f n.Arcs.length + q
theorem FI.bnd {h0 Hm R0 X q : Int} {x : FifoRun} {k : Nat} {f : Nat → Int} (h : FI n m L c h0 Hm R0 x k X f q) (hP : x.work.Pushes ≤ Z5r f n.Arcs.length + q) :
    q ≤ R0 ∧ Z5r f n.Arcs.length ≤ (2 * m - 1) * Z5r (nlI n) n.Arcs.length ∧ x.work.Pushes ≤ (2 * m - 1) * Z5r (nlI n) n.Arcs.length + R0 ∧ x.work.Lifts ≤ Hm - h0 := by
  have h1 := h.hm
  have h2 := h.X0
  have h3 := h.bud
  have h4 : 0 ≤ (m : Int) * (X + (Hm - hsum x.p m)) := Int.mul_nonneg (by omega) (by omega)
  have h5 : Z5r f n.Arcs.length ≤ Z5r (fun i => (2 * (m : Int) - 1) * nlI n i) n.Arcs.length := Zch fun i hi => (h.sat.nn i hi).2
  rw [Zho] at h5
  have h6 := h.lf
  refine ⟨by omega, h5, by omega, by omega⟩
theorem Zhi {x : FifoRun} {v w : Nat} (hw : (Z5c n x v).ins.getD w false = true) : x.ins.getD w false = true ∨ (w = v ∧ Zad n x.p.Ex v) := by
 unfold Z5c at hw
 split at hw
 ·
  rename_i h
  simp only at hw
  by_cases e : w = v
  · exact .inr ⟨e, h.1⟩
  · rw [Z4c (Ne.symm e)] at hw; exact .inl hw
 · exact .inl hw
theorem Zdv (x : FifoRun) (v : Nat) : (Z5c n x v).row.buf = x.row.buf ∨ (Z5c n x v).row.buf = x.row.buf ++ [(v : Int)] := by
 unfold Z5c; split
 · exact .inr rfl
 · exact .inl rfl
theorem InI.push {h0 Hm R0 X q : Int} {x : FifoRun} {k u j : Nat} {f : Nat → Int} (h : InI n m L c h0 Hm R0 u x k X f q) (r : Row n m L c) (hj : j < L) (ht : tl c j = u) (hA : Zad n x.p.Ex u) (hB : Zfl c x.p u j) :
    ∃ f', InI n m L c h0 Hm R0 u (Z5c n ⟨c, Z92 c x.p j, x.row, x.ins, ⟨x.work.Pushes + 1, x.work.Lifts⟩⟩ (hd c j)) k X f' q := by
  subst ht
  obtain ⟨hF, hu, hX, hact, hP⟩ := h
  have htl := r.tlh hj
  have hhd := r.head hj
  have hD : Zae c x.p j = min (x.p.Ex.getD (tl c j) 0) (x.p.Res.getD j 0) := rfl
  have hE : ∀ v, (Z92 c x.p j).Ex.getD v 0 = x.p.Ex.getD v 0 - (if tl c j = v then Zae c x.p j else 0) + (if hd c j = v then Zae c x.p j else 0) := fun v => Zaz r hF.ok.ok.lx hj
  have hA2 := hA.2.2
  have hB1 := hB.1
  have hB2 := hB.2
  have hok := hF.ok.push r hj hA hB
  have hsat := hF.sat.push hF.ok r hj hA2 hB
  rw [if_pos hA2] at hP
  generalize hy : (⟨c, Z92 c x.p j, x.row, x.ins, ⟨x.work.Pushes + 1, x.work.Lifts⟩⟩ : FifoRun) = y
  have y1 : y.c = c := by rw [← hy]
  have y2 : y.p = Z92 c x.p j := by rw [← hy]
  have y3 : y.row = x.row := by rw [← hy]
  have y4 : y.ins = x.ins := by rw [← hy]
  have y5 : y.work = ⟨x.work.Pushes + 1, x.work.Lifts⟩ := by rw [← hy]
  have hq : QOK n m y.row.buf y.ins := by rw [y3, y4]; exact hF.qq
  have hlen := hF.qq.len
  have main : ∀ f', SatI n m L c (Z92 c x.p j) f' → x.work.Pushes + 1 + (if 0 < (Z92 c x.p j).Ex.getD (tl c j) 0 then 1 else 0) ≤ Z5r f' n.Arcs.length + q → InI n m L c h0 Hm R0 (tl c j) (Z5c n y (hd c j)) k X f' q := fun f' hs hp => by
    refine ⟨⟨by rw [Zmd, y1], by rw [Z8c, y2]; exact hok, Zmb hq hhd.2, by rw [Zhk, y3]; exact hF.cap, fun v hv hi => ?_, ?_, hF.X0, fun i hi w hw => ?_, fun i hi1 hi2 w hw => ?_, by rw [Z8c, y2]; exact hs, ?_, ?_, ?_, ?_, hF.q0⟩, ?_, ?_, fun v hv hvu ha => ?_, ?_⟩
    · rw [Z8c, y2]
      rcases Zhi hi with h1 | ⟨h1, h2⟩
      · rw [y4] at h1
        have := hF.ps v hv h1
        have hne : tl c j ≠ v := fun e => by rw [e, h1] at hu; cases hu
        rw [hE, if_neg hne]; split <;> omega
      · subst h1; rw [y2] at h2; exact h2.2.2
    · have := hF.kl
      rcases Zdv (n := n) y (hd c j) with e | e <;> rw [e, y3]
      · exact this
      · rw [List.length_append]; omega
    · rw [Z8c, y2]
      have hk := hF.kl
      have : (Z5c n y (hd c j)).row.buf.getD i 0 = x.row.buf.getD i 0 := by
        rcases Zdv (n := n) y (hd c j) with e | e <;> rw [e, y3]
        rw [Z4d (by omega)]
      rw [this] at hw
      exact hF.h1 i hi w hw
    · rw [Z8c, y2]
      show x.p.H.getD w 0 + 1 ≤ X
      rcases Zdv (n := n) y (hd c j) with e | e <;> rw [e, y3] at hi2 hw
      · exact hF.h2 i hi1 hi2 w hw
      · by_cases hl : i < x.row.buf.length
        · rw [Z4d hl] at hw; exact hF.h2 i hi1 hl w hw
        · rw [List.length_append, List.length_singleton] at hi2
          rw [Z8h (by omega), show i - x.row.buf.length = 0 by omega] at hw
          have hw2 : ((hd c j : Nat) : Int) = w := by simpa using hw
          have : hd c j = w := by omega
          rw [← this]; omega
    · rw [Zgi, Z8c, y2, y5]; exact hF.lf
    · rw [Zgi, y5]; have := hF.pu; simp only; omega
    · rw [Z8c, y2]; exact hF.hm
    · rw [Z8c, y2]; exact hF.bud
    · rw [Zmc (Ne.symm (fun e => htl.2.2.2 e.symm)), y4]; exact hu
    · rw [Z8c, y2]; exact hX
    · rw [Z8c, y2] at ha
      by_cases e : v = hd c j
      · subst e; exact Zju (m := m) (by rw [y4]; exact hlen) hv (by rw [y2]; exact ha)
      · refine Zhj ?_
        rw [y4]
        refine hact v hv hvu ⟨ha.1, ha.2.1, ?_⟩
        have := ha.2.2
        rw [hE, if_neg (Ne.symm hvu), if_neg (Ne.symm e)] at this; omega
    · rw [Zgi, Z8c, y2, y5]; exact hp
  by_cases hs : x.p.Res.getD j 0 ≤ x.p.Ex.getD (tl c j) 0
  · refine ⟨_, main _ (hsat.1 hs) ?_⟩
    rw [Zhq (r.ai hj).1]
    split <;> omega
  · refine ⟨f, main f (hsat.2 hs) ?_⟩
    have e0 : (Z92 c x.p j).Ex.getD (tl c j) 0 = 0 := by rw [hE, if_pos rfl, if_neg (fun e => htl.2.2.2 e.symm)]; omega
    rw [e0, if_neg (by omega)]
    omega
theorem InI.lift {h0 Hm R0 X q : Int} {x : FifoRun} {k u : Nat} {f : Nat → Int} (h : InI n m L c h0 Hm R0 u x k X f q) (r : Row n m L c) (hu : u < m) (hS : Zbd n c x.p u) (hHm : ∀ p : Pre, PreOK n m L c p → hsum p m ≤ Hm) :
    ∃ X', InI n m L c h0 Hm R0 u ⟨c, Zbj c x.p m u, x.row, x.ins, ⟨x.work.Pushes, x.work.Lifts + 1⟩⟩ k X' f q := by
  obtain ⟨hF, hui, hX, hact, hP⟩ := h
  obtain ⟨hok, hle⟩ := hF.ok.lift r hu hS
  have hlh := hF.ok.hs.1
  have hsu : hsum (Zbj c x.p m u) m = hsum x.p m + (Zfx c x.p m u + 1 - x.p.H.getD u 0) := by
    unfold hsum
    simp only [Zbj]
    rw [Zjw (by omega), if_pos hu]
  have hoff : ∀ w, w ≠ u → (Zbj c x.p m u).H.getD w 0 = x.p.H.getD w 0 := fun w hw => Z4c (Ne.symm hw)
  have hat : (Zbj c x.p m u).H.getD u 0 = Zfx c x.p m u + 1 := Zbi (by omega)
  have hnb : ∀ i, i < x.row.buf.length → ∀ w : Nat, x.row.buf.getD i 0 = w → w ≠ u := fun i hi w hw e => by
    obtain ⟨w', g1, g2, g3, -⟩ := hF.qq.nat i hi
    have : w' = u := by omega
    rw [this, hui] at g3; cases g3
  have hkl := hF.kl
  have hlf := hF.lf
  have hX0 := hF.X0
  refine ⟨X + (Zfx c x.p m u + 1 - x.p.H.getD u 0), ⟨rfl, hok, hF.qq, hF.cap, hF.ps, hF.kl, by omega, fun i hi w hw => ?_, fun i hi1 hi2 w hw => ?_, hF.sat.lift hF.ok r hu hle, ?_, hF.pu, hHm _ hok, ?_, hF.q0⟩, hui, ?_, hact, hP⟩
  · have := hF.h1 i hi w hw
    simp only
    rw [hoff w (hnb i (by omega) w hw)]; omega
  · have := hF.h2 i hi1 hi2 w hw
    simp only
    rw [hoff w (hnb i hi2 w hw)]; omega
  · simp only; rw [hsu]; omega
  · simp only
    rw [hsu, show X + (Zfx c x.p m u + 1 - x.p.H.getD u 0) + (Hm - (hsum x.p m + (Zfx c x.p m u + 1 - x.p.H.getD u 0))) = X + (Hm - hsum x.p m) by omega]
    exact hF.bud
  · simp only; rw [hat]; omega
theorem FI.take {h0 Hm R0 X q : Int} {x : FifoRun} {k : Nat} {f : Nat → Int} {v : Int} {rest : List Int} (h : FI n m L c h0 Hm R0 x k X f q) (hact : ∀ v, v < m → Zad n x.p.Ex v → x.ins.getD v false = true) (hP : x.work.Pushes ≤ Z5r f n.Arcs.length + q) (r : Row n m L c) (hb : x.row.buf = v :: rest) :
    ∃ u : Nat, v = u ∧ u < m ∧ Zad n x.p.Ex u ∧ ∃ k' X', InI n m L c h0 Hm R0 u ⟨c, x.p, x.row.cut, x.ins.set u false, x.work⟩ k' X' f (q + 1) := by
  have hq := h.qq
  rw [hb] at hq
  obtain ⟨u, rfl, hu, huS, huT, hiu, hq2⟩ := hq.cut
  have hpos := h.ps u hu hiu
  have hlen := h.qq.len
  have hcb : x.row.cut.buf = rest := by unfold Chan.cut; rw [hb]; rfl
  have h3m : 3 ≤ m := by
    obtain ⟨⟨S, hS, -, hSm⟩, ⟨T, hT, -, hTm⟩, hne, -⟩ := r.ends
    omega
  refine ⟨u, rfl, hu, ⟨huS, huT, hpos⟩, ?_⟩
  have hbl := h.qq.le
  rw [hb] at hbl
  simp only [List.length_cons] at hbl
  have hX0 := h.X0
  have hkl := h.kl
  rw [hb] at hkl
  simp only [List.length_cons] at hkl
  have hbud := h.bud
  have hq0 := h.q0
  obtain ⟨k1, X1, g1, g2, g3, g4, g5, g6⟩ : ∃ (k1 : Nat) (X1 : Int), 1 ≤ k1 ∧ k1 ≤ rest.length + 1 ∧ 0 ≤ X1 ∧ (∀ i, i < k1 → ∀ w : Nat, x.row.buf.getD i 0 = w → x.p.H.getD w 0 ≤ X1) ∧ (∀ i, k1 ≤ i → i < x.row.buf.length → ∀ w : Nat, x.row.buf.getD i 0 = w → x.p.H.getD w 0 + 1 ≤ X1) ∧ q + m * (X1 + (Hm - hsum x.p m)) + k1 ≤ R0 := by
    by_cases hk : k = 0
    · subst hk
      have h0 := h.h2 0 (Nat.le_refl _) (by rw [hb]; simp) u (by rw [hb]; rfl)
      have hh := h.ok.hs.2.2.2 u hu
      refine ⟨rest.length + 1, X - 1, by omega, Nat.le_refl _, by omega, fun i hi w hw => ?_, fun i hi1 hi2 => by rw [hb, List.length_cons] at hi2; omega, ?_⟩
      · have := h.h2 i (Nat.zero_le _) (by rw [hb, List.length_cons]; exact hi) w hw
        omega
      · rw [show X - 1 + (Hm - hsum x.p m) = X + (Hm - hsum x.p m) - 1 by omega, Int.mul_sub, Int.mul_one]
        omega
    · exact ⟨k, X, by omega, hkl, hX0, h.h1, h.h2, hbud⟩
  have hget : ∀ i, rest.getD i 0 = x.row.buf.getD (i + 1) 0 := fun i => by rw [hb]; rfl
  refine ⟨k1 - 1, X1, ⟨rfl, h.ok, by rw [hcb]; exact hq2, by rw [← h.cap]; rfl, fun w hw hi => ?_, by rw [hcb]; omega, g3, fun i hi w hw => ?_, fun i hi1 hi2 w hw => ?_, h.sat, h.lf, h.pu, h.hm, ?_, ⟨by omega, .inr h3m⟩⟩, ?_, ?_, fun w hw hwu ha => ?_, ?_⟩
  · simp only at hi ⊢
    by_cases e : u = w
    · subst e; rw [Zbi (by omega)] at hi; cases hi
    · rw [Z4c e] at hi; exact h.ps w hw hi
  · simp only [hcb] at hw; rw [hget] at hw; exact g4 (i + 1) (by omega) w hw
  · simp only [hcb] at hw hi2; rw [hget] at hw; exact g5 (i + 1) (by omega) (by rw [hb, List.length_cons]; omega) w hw
  · simp only; omega
  · exact Zbi (by omega)
  · exact g4 0 (by omega) u (by rw [hb]; rfl)
  · simp only
    rw [Z4c (Ne.symm hwu)]; exact hact w hw ha
  · simp only
    rw [if_pos hpos]; omega
end row
end Go.Acq
namespace Go.Acq
open Go
set_option linter.unusedSimpArgs false
set_option linter.unusedVariables false
section row
variable {n : Net} {m L : Nat} {c : Csr}
abbrev FS := List Int × List Int × List Int × Chan × List Bool × Int × Int
def xOf (c : Csr) (s : FS) : FifoRun := ⟨c, ⟨s.1, s.2.1, s.2.2.1⟩, s.2.2.2.1, s.2.2.2.2.1, ⟨s.2.2.2.2.2.1, s.2.2.2.2.2.2⟩⟩
theorem s_inner {h0 Hm R0 MS X q base : Int} {u k : Nat} {f : Nat → Int} {s0 : FS} (r : Row n m L c) (hu : u < m) (huS : (u : Int) ≠ n.S) (huT : (u : Int) ≠ n.T) (hHm : ∀ p : Pre, PreOK n m L c p → hsum p m ≤ Hm)
    (hMS : (2 * m - 1) * Z5r (nlI n) n.Arcs.length = MS) (hB : MS + R0 + (Hm - h0) ≤ 999999999999999) (hI : InI n m L c h0 Hm R0 u (xOf c s0) k X f q) (hb : base = s0.2.2.2.2.2.1 + s0.2.2.2.2.2.2) (hpos : 0 < s0.2.1.getD u 0)
    {Q : ((FS) ⊕ (Pre × Work)) → Prop}
    (done : ∀ s : FS, (∃ X f, InI n m L c h0 Hm R0 u (xOf c s) k X f q) → base + 1 ≤ s.2.2.2.2.2.1 + s.2.2.2.2.2.2 → ¬0 < s.2.1.getD u 0 → Q (.inl s)) :
    Ok (Option.bind (Z2j (fun s => Z5d c (u : Nat) s.1 s.2.1 s.2.2.1 s.2.2.2.1 s.2.2.2.2.1 s.2.2.2.2.2.1 s.2.2.2.2.2.2) Z4w s0) fun (p4_0_0, p4_0_1, p4_0_2, p4_0_3, p4_0_4, p4_0_5, p4_0_6) => some (Sum.inl (p4_0_0, p4_0_1, p4_0_2, p4_0_3, p4_0_4, p4_0_5, p4_0_6))) Q := by
  refine Ok.bind.2 (Z9r (fun s => (∃ X f, InI n m L c h0 Hm R0 u (xOf c s) k X f q) ∧ base ≤ s.2.2.2.2.2.1 + s.2.2.2.2.2.2 ∧ (0 < s.2.1.getD u 0 ∨ base + 1 ≤ s.2.2.2.2.2.1 + s.2.2.2.2.2.2)) (fun s => (1000000000000000 - (s.2.2.2.2.2.1 + s.2.2.2.2.2.2)).toNat) ⟨⟨X, f, hI⟩, by omega, .inl hpos⟩ ?_ ?_)
  · have h1 := hI.1.pu
    have h2 := hI.1.lf.1
    simp only [xOf] at h1 h2
    unfold Z4w; omega
  rintro ⟨R, E, H, ch, ins, P, Lf⟩ ⟨⟨X, f, hI⟩, hb1, hb2⟩ W next exit
  have hF := hI.1
  have h1 := hF.pu
  have h2 := hF.lf
  have hP := hI.2.2.2.2
  have h3 := hF.bnd (by split at hP <;> omega)
  rw [hMS] at h3
  have hlx := hF.ok.ok.lx
  simp only [xOf] at h1 h2 h3 hlx hb1 hb2 next ⊢
  unfold Z5d
  simp only [Int.toNat_natCast]
  refine Ok.gd.2 ⟨by constructor <;> omega, Ok.ite.2 ⟨fun hE => ?_, fun hE => Ok.some.2 (exit _ (Ok.some.2 (done _ ⟨X, f, hI⟩ (hb2.resolve_left hE) hE)))⟩⟩
  have hA : Zad n E u := ⟨huS, huT, hE⟩
  rw [if_pos (show 0 < (xOf c (R, E, H, ch, ins, P, Lf)).p.Ex.getD u 0 from hE)] at hP
  refine Ok.bind.2 (Ok.mono (s_once (x := xOf c (R, E, H, ch, ins, P, Lf)) r rfl hF.ok hF.qq hF.cap hu hA ⟨by simp only [xOf]; omega, by simp only [xOf]; omega⟩ ⟨by simp only [xOf]; omega, by simp only [xOf]; omega⟩) ?_)
  rintro y (⟨j, hj, ht, hAd, rfl⟩ | ⟨hS, rfl⟩)
  · obtain ⟨f', hI'⟩ := InI.push hI r hj ht hA hAd
    have hy := Zgi n ⟨c, Z92 c (xOf c (R, E, H, ch, ins, P, Lf)).p j, (xOf c (R, E, H, ch, ins, P, Lf)).row, (xOf c (R, E, H, ch, ins, P, Lf)).ins, ⟨(xOf c (R, E, H, ch, ins, P, Lf)).work.Pushes + 1, (xOf c (R, E, H, ch, ins, P, Lf)).work.Lifts⟩⟩ (hd c j)
    have hyc := Zmd n ⟨c, Z92 c (xOf c (R, E, H, ch, ins, P, Lf)).p j, (xOf c (R, E, H, ch, ins, P, Lf)).row, (xOf c (R, E, H, ch, ins, P, Lf)).ins, ⟨(xOf c (R, E, H, ch, ins, P, Lf)).work.Pushes + 1, (xOf c (R, E, H, ch, ins, P, Lf)).work.Lifts⟩⟩ (hd c j)
    generalize Z5c n ⟨c, Z92 c (xOf c (R, E, H, ch, ins, P, Lf)).p j, (xOf c (R, E, H, ch, ins, P, Lf)).row, (xOf c (R, E, H, ch, ins, P, Lf)).ins, ⟨(xOf c (R, E, H, ch, ins, P, Lf)).work.Pushes + 1, (xOf c (R, E, H, ch, ins, P, Lf)).work.Lifts⟩⟩ (hd c j) = y at hI' hy hyc
    obtain ⟨yc, ⟨yR, yE, yH⟩, yr, yi, ⟨yP, yL⟩⟩ := y
    simp only [xOf] at hyc hy
    subst hyc
    injection hy with hy1 hy2
    subst hy1; subst hy2
    exact Ok.some.2 (next _ ⟨⟨X, f', hI'⟩, by simp only; omega, .inr (by simp only; omega)⟩ (by simp only; omega))
  · obtain ⟨X', hI'⟩ := InI.lift hI r hu hS hHm
    refine Ok.some.2 (next _ ⟨⟨X', f, hI'⟩, ?_, .inr ?_⟩ ?_)
    · simp only [xOf]; omega
    · simp only [xOf]; omega
    · simp only [xOf]; omega
theorem s_fRun {p : Pre} (r : Row n m L c) (h : PreOK n m L c p) : Ok (Z84 c p) (fun t => PreOK n m L c t.1 ∧ (∀ v, v < m → ¬Zad n t.1.Ex v) ∧ 0 ≤ t.2.Lifts ∧ t.2.Lifts ≤ ((m : Int) - 2) * (2 * m - 1) ∧ 0 ≤ t.2.Pushes ∧
    t.2.Pushes ≤ (2 * m - 1) * Z5r (nlI n) n.Arcs.length + m * (2 * (((m : Int) - 2) * (2 * m - 1)) + 1) ∧ ((∀ v, v < m → ¬Zad n p.Ex v) → t = (p, ⟨0, 0⟩))) := by
  have bd := r.bd
  have hN := r.is.hN
  have lr := h.ok.lr
  have lx := h.ok.lx
  have lh := h.hs.1
  obtain ⟨hs1, hs2⟩ := h.hsum r
  have hHm : ∀ q : Pre, PreOK n m L c q → hsum q m ≤ m + ((m : Int) - 2) * (2 * m - 1) := fun q hq => (hq.hsum r).2
  have e1 := Zfw (a := (m : Int) - 2) (A := 4094) (b := 2 * m - 1) (B := 8191) (by omega) (by omega) (by omega) (by omega)
  obtain ⟨Λ, hΛ⟩ : ∃ z : Int, ((m : Int) - 2) * (2 * m - 1) = z := ⟨_, rfl⟩
  rw [hΛ] at hs2 e1 hHm ⊢
  obtain ⟨h0, hh0⟩ : ∃ z, hsum p m = z := ⟨_, rfl⟩
  rw [hh0] at hs1 hs2
  have e2 := Zfw (a := (m : Int)) (A := 4096) (b := 2 * m - 1 + (m + Λ - h0)) (B := 33550000) (by omega) (by omega) (by omega) (by omega)
  obtain ⟨R0, hR0⟩ : ∃ z, (m : Int) * (2 * m - 1 + (m + Λ - h0)) + m = z := ⟨_, rfl⟩
  have eK : 0 ≤ Z5r (nlI n) n.Arcs.length ∧ Z5r (nlI n) n.Arcs.length ≤ 16384 := by
    constructor
    · exact Zmi fun i hi => by unfold nlI; split <;> omega
    · have : Z5r (nlI n) n.Arcs.length ≤ Z5r (fun _ => 1) n.Arcs.length := Zch fun i hi => by unfold nlI; split <;> omega
      rw [Z97] at this; omega
  have e3 := Zfw (a := 2 * (m : Int) - 1) (A := 8191) (b := Z5r (nlI n) n.Arcs.length) (B := 16384) (by omega) (by omega) eK.1 eK.2
  obtain ⟨MS, hMS⟩ : ∃ z, (2 * (m : Int) - 1) * Z5r (nlI n) n.Arcs.length = z := ⟨_, rfl⟩
  rw [hMS] at e3 ⊢
  have hB : MS + R0 + (m + Λ - h0) ≤ 999999999999999 := by omega
  have hR : ∀ q : Int, q ≤ R0 → (q = 0 ∨ 3 ≤ m) → 0 ≤ q → q ≤ m * (2 * Λ + 1) := fun q h1 h2 h3 => by
    rcases h2 with h2 | h2
    · have := Int.mul_nonneg (show (0 : Int) ≤ m by omega) (show (0 : Int) ≤ 2 * Λ + 1 by omega)
      omega
    · have a1 : 1 * (2 * (m : Int) - 1) ≤ ((m : Int) - 2) * (2 * m - 1) := Int.mul_le_mul_of_nonneg_right (by omega) (by omega)
      rw [hΛ] at a1
      have a2 : (m : Int) * (2 * m - 1 + (m + Λ - h0) + 1) ≤ m * (2 * Λ + 1) := Int.mul_le_mul_of_nonneg_left (by omega) (by omega)
      rw [Int.mul_add, Int.mul_one] at a2
      omega
  unfold Z84
  refine Ok.bind.2 (Z7r (s_Copy (by omega) (by omega) (by omega)) ?_)
  rw [hN]
  simp only [Int.toNat_natCast]
  refine Ok.gd.2 ⟨by refine ⟨?_, ?_, ?_⟩ <;> omega, Ok.gd.2 ⟨by constructor <;> omega, Ok.bind.2 (Z9r (fun s => ∃ k : Nat, s.2.2 = k ∧ k ≤ m ∧ QOK n m s.1.buf s.2.1 ∧ s.1.cap = m ∧ (∀ v, v < m → s.2.1.getD v false = true → 0 < p.Ex.getD v 0) ∧ ∀ v, v < k → Zad n p.Ex v → s.2.1.getD v false = true) (fun s => (m - s.2.2).toNat)
    ⟨0, rfl, by omega, QOK.none n m, rfl, fun v hv hi => ?_, fun v hv => by omega⟩ (by unfold Z4w; simp only; omega) ?_)⟩⟩
  · simp only at hi; rw [Z27] at hi; simp at hi
  rintro ⟨ch, ins, x⟩ ⟨k, g1, g2, g3, g4, g5, g6⟩ P next exit
  simp only at g1 g3 g4 g5 g6 next ⊢
  subst g1
  unfold Z6i
  rw [hN]
  refine Ok.ite.2 ⟨fun hx => ?_, fun hx => Ok.some.2 (exit _ ?_)⟩
  · have hkm : k < m := by omega
    refine Ok.bind.2 (Z7r (s_wait (x := ⟨c, p, ch, ins, ⟨0, 0⟩⟩) r rfl lx g3 g4 hkm) (Ok.gd.2 ⟨by constructor <;> omega, Ok.some.2 (next _ ⟨k + 1, by simp, by omega, Zmb (x := ⟨c, p, ch, ins, ⟨0, 0⟩⟩) g3 hkm, by rw [Zhk]; exact g4, fun v hv hi => ?_, fun v hv ha => ?_⟩ (by simp only; omega))⟩))
    · rcases Zhi (x := ⟨c, p, ch, ins, ⟨0, 0⟩⟩) hi with h1 | ⟨h1, h2⟩
      · exact g5 v hv h1
      · subst h1; exact h2.2.2
    · by_cases e : v = k
      · subst e; exact Zju (x := ⟨c, p, ch, ins, ⟨0, 0⟩⟩) (m := m) g3.len hkm ha
      · exact Zhj (x := ⟨c, p, ch, ins, ⟨0, 0⟩⟩) (g6 v (by omega) ha)
  simp only
  obtain rfl : k = m := by omega
  have hbl := g3.le
  have hb0 : (∀ v, v < k → ¬Zad n p.Ex v) → ch.buf = [] := fun hno => by
    cases hb : ch.buf with
    | nil => rfl
    | cons v rest =>
      rw [hb] at g3
      obtain ⟨u, -, hu, huS, huT, hiu, -⟩ := g3.cut
      exact absurd ⟨huS, huT, g5 u hu hiu⟩ (hno u hu)
  unfold Z7x
  refine Ok.bind.2 (Z9r (fun s : FS => (∃ q0 X f q, FI n k L c h0 (k + Λ) R0 (xOf c s) q0 X f q ∧ (∀ v, v < k → Zad n s.2.1 v → s.2.2.2.2.1.getD v false = true) ∧ s.2.2.2.2.2.1 ≤ Z5r f n.Arcs.length + q) ∧ ((∀ v, v < k → ¬Zad n p.Ex v) → s.2.2.2.1.buf = [] ∧ Pre.mk s.1 s.2.1 s.2.2.1 = p ∧ s.2.2.2.2.2 = (0, 0)))
    (fun s => (1000000000000000 - (s.2.2.2.2.2.1 + s.2.2.2.2.2.2)).toNat) ⟨⟨ch.buf.length, 2 * k - 1, fun _ => 0, 0, ⟨rfl, h, g3, g4, g5, Nat.le_refl _, by omega, fun i hi u hu => ?_, fun i h1 h2 => absurd h2 (Nat.not_lt.2 h1), SatI.zero h r, ⟨Int.le_refl _, ?_⟩, Int.le_refl _, ?_, ?_, ⟨Int.le_refl _, .inl rfl⟩⟩, g6, ?_⟩, fun hno => ⟨hb0 hno, rfl, rfl⟩⟩ (by unfold Z4w; simp only; omega) ?_)
  · obtain ⟨w, q1, q2, -⟩ := g3.nat i hi
    have q1' : (w : Int) = u := by rw [← q1]; exact hu
    obtain rfl : w = u := by omega
    have := h.hs.2.2.2 w q2
    simp only [xOf]; omega
  · simp only [xOf]; rw [hh0]; omega
  · simp only [xOf]; rw [hh0]; omega
  · simp only [xOf]; rw [hh0]; omega
  · simp only; rw [Z97]; omega
  rintro ⟨R, E, H, ch, ins, P', Lf⟩ ⟨⟨k0, X, f, q, hF, hact, hP⟩, hno⟩ W next exit
  have b1 := hF.bnd hP
  rw [hMS] at b1
  have b2 := hF.pu
  have b3 := hF.lf
  have b4 := hF.q0
  have hqq := hF.qq
  simp only [xOf] at b1 b2 b3 hqq hact hno hP next ⊢
  unfold Z6h Z6g
  simp only
  cases hb : ch.buf with
  | nil =>
    rw [if_pos rfl]
    refine Ok.bind.2 (Ok.some.2 ?_)
    simp only
    rw [if_pos (by simp)]
    refine Ok.some.2 (exit _ (Ok.some.2 ⟨hF.ok, fun v hv ha => ?_, by simp only; omega, by simp only; omega, by simp only; omega, ?_, fun hn => ?_⟩))
    · have h1 := hact v hv ha
      have h2 := hqq.cnt
      rw [hb] at h2
      have h3 := Zgt (l := ins) (by rw [hqq.len]; exact hv) h1 k
      rw [if_pos hv] at h3
      simp only [List.length_nil] at h2
      omega
    · have := hR q b1.1 b4.2 b4.1
      simp only; omega
    · obtain ⟨-, h2, h3⟩ := hno hn
      injection h3 with h3 h4
      subst h3; subst h4
      rw [h2]
  | cons v rest =>
    rw [if_neg (by simp)]
    obtain ⟨u, rfl, hu, hA, k', X', hI⟩ := FI.take hF hact hP r hb
    have hlen := hqq.len
    have e0 : ((u : Int) :: rest).getD 0 0 = u := rfl
    simp only [e0, Int.toNat_natCast]
    refine Ok.bind.2 (Ok.gd.2 ⟨by constructor <;> omega, Ok.some.2 ?_⟩)
    simp only
    rw [if_neg (by simp)]
    refine s_inner (s0 := (R, E, H, Chan.cut ch, ins.set u false, P', Lf)) (base := P' + Lf) r hu hA.1 hA.2.1 hHm hMS hB hI rfl hA.2.2 fun s hs hb2 hE => ?_
    obtain ⟨X2, f2, hF2, h2, h3, h4, h5⟩ := hs
    have c1 := hF2.pu
    have c2 := hF2.lf
    refine next s ⟨⟨k', X2, f2, q + 1, hF2, fun w hw ha => ?_, ?_⟩, fun hn => ?_⟩ ?_
    · refine h4 w hw (fun e => ?_) ha
      subst e; exact hE ha.2.2
    · split at h5 <;> (simp only [xOf] at h5; omega)
    · have := (hno hn).1; rw [hb] at this; cases this
    · have d1 := hF2.bnd (by split at h5 <;> omega)
      rw [hMS] at d1
      simp only [xOf] at d1 c1 c2
      omega
structure SolP (n : Net) (m : Nat) (a : Answer) (w : Work) : Prop where
  all : AllP n a.Flow (fun x => x = 0) [n.S, n.T]
  cut : CutR n a.Side
  tight : ∀ i, i < n.Arcs.length → Zb8 n.Arcs a.Flow a.Side i
  val : a.Value = ex n.Arcs a.Flow n.T n.Arcs.length
  lifts : 0 ≤ w.Lifts ∧ w.Lifts ≤ ((m : Int) - 2) * (2 * m - 1)
  pushes : 0 ≤ w.Pushes ∧ w.Pushes ≤ (2 * m - 1) * Z5r (nlI n) n.Arcs.length + m * (2 * (((m : Int) - 2) * (2 * m - 1)) + 1)
theorem PreOK.sol {p : Pre} (h : PreOK n m L c p) (r : Row n m L c) (ha : ∀ v, v < m → ¬Zad n p.Ex v) {b : List Bool} (lb : b.length = m) (hb : ∀ v, v < m → (b.getD v false = true ↔ ¬Reach (Zdp n (flN n.Arcs p.Res)) v n.T.toNat)) :
    AllP n (flN n.Arcs p.Res) (fun x => x = 0) [n.S, n.T] ∧ CutR n b ∧ (∀ i, i < n.Arcs.length → Zb8 n.Arcs (flN n.Arcs p.Res) b i) ∧ p.Ex.getD n.T.toNat 0 = ex n.Arcs (flN n.Arcs p.Res) n.T n.Arcs.length := by
  obtain ⟨⟨S, hS, -, hSm⟩, ⟨T, hT, -, hTm⟩, -, -⟩ := r.ends
  have hm := r.hm
  rw [hT, Int.toNat_natCast] at hb
  have bS : b.getD S false = true := (hb S hSm).2 (h.far r hS hT)
  have bT : b.getD T false = false := by rw [Bool.eq_false_iff]; intro h; exact (hb T hTm).1 h .refl
  exact ⟨h.flow r ha, ⟨r.chk, by omega, by unfold inS; rw [hS, Int.toNat_natCast]; exact bS, by unfold inS; rw [hT, Int.toNat_natCast]; exact bT⟩, to_tight r.he hb, by rw [hT, Int.toNat_natCast]; exact h.ok.ex T hTm⟩
theorem s_Solve {n : Net} (hm : n.N = m) (hk : Z3o n.N n.S n.T n.Arcs = 0) (hl : lenok n.Arcs.length) : Ok (Z36 n) (fun t => t.2.2 = 0 ∧ SolP n m t.1 t.2.1) := by
 unfold Z36
 refine Ok.bind.2 (Ok.mono (Zmn hm hk hl) ?_)
 rintro ⟨c, e⟩ ⟨hc, h0⟩
 simp only at hc h0 ⊢
 subst h0
 have r := row_of hc hm hk
 obtain ⟨L, hL⟩ : ∃ L, Z0s n.Arcs m = L := ⟨_, rfl⟩
 rw [hL] at r
 rw [if_neg (by simp)]
 refine Ok.bind.2 (Ok.mono (Zmp r) fun p0 hp0 => Ok.bind.2 (Ok.mono (s_fRun r hp0) ?_))
 rintro ⟨p, w⟩ ⟨hp, ha, h1, h2, h3, h4, -⟩
 simp only at hp ha h1 h2 h3 h4 ⊢
 refine Ok.bind.2 (Ok.mono (s_FlowR r hp.ok.lr hp.ok.res) ?_)
 rintro _ rfl
 simp only
 rw [if_neg (by simp)]
 refine Ok.bind.2 (Ok.mono (s_To hl) ?_)
 rintro ⟨b, e2⟩ (⟨-, h5, lb, hb⟩ | ⟨h, -⟩)
 rotate_left
 · exact absurd (hp.flow r ha).1 h
 simp only at h5 lb hb ⊢
 subst h5
 rw [hm, Int.toNat_natCast] at lb hb
 obtain ⟨z1, z2, z3, z4⟩ := hp.sol r ha lb hb
 obtain ⟨⟨S, hS, -, hSm⟩, ⟨T, hT, -, hTm⟩, -, -⟩ := r.ends
 have hlx := hp.ok.lx
 rw [if_neg (by simp)]
 exact Ok.gd.2 ⟨by constructor <;> omega, Ok.some.2 ⟨rfl, z1, z2, z3, z4, ⟨h1, h2⟩, h3, h4⟩⟩
end row
end Go.Acq
namespace Go.Acq
open Go
set_option linter.unusedSimpArgs false
end Go.Acq
namespace Go.Acq
open Go
set_option linter.unusedSimpArgs false
theorem Zc0 {α : Type} {xs : List α} {y d : α} {i : Nat} (h : i < xs.length) : (xs ++ [y]).getD i d = xs.getD i d := by
 rw [List.getD_eq_getElem?_getD, List.getElem?_append_left h, List.getD_eq_getElem?_getD]
theorem Zbz {α : Type} {xs : List α} {y d : α} {i : Nat} (h : i = xs.length) : (xs ++ [y]).getD i d = y := by
 subst h
 rw [List.getD_eq_getElem?_getD, List.getElem?_append_right (Nat.le_refl _)]; simp
structure PathP (n : Net) (v : Int) (l : List Hop) (w : Int) : Prop where
  way : WayK n l l.length
  start : 0 < l.length → hfr n (l.getD 0 default) = v
  fin : w = if l.length = 0 then v else hto n (l.getD (l.length - 1) default)
theorem PathP.nil (n : Net) (v : Int) : PathP n v [] v := ⟨⟨fun i h => by simp at h, fun i h => by simp at h⟩, fun h => by simp at h, rfl⟩
theorem PathP.app {n : Net} {v w : Int} {l : List Hop} (h : PathP n v l w) {p : Hop} (hp : hok n p) (hw : hfr n p = w) : PathP n v (l ++ [p]) (hto n p) := by
 refine ⟨⟨fun i hi => ?_, fun i hi => ?_⟩, fun _ => ?_, ?_⟩
 ·
  rw [List.length_append, List.length_singleton] at hi
  rcases Nat.lt_or_ge i l.length with h1 | h1
  · rw [Zc0 h1]; exact h.way.1 i h1
  · rw [Zbz (by omega)]; exact hp
 ·
  rw [List.length_append, List.length_singleton] at hi
  rcases Nat.lt_or_ge (i + 1) l.length with h1 | h1
  · rw [Zc0 h1, Zc0 (by omega)]; exact h.way.2 i h1
  · rw [Zbz (by omega), Zc0 (by omega), hw, h.fin, if_neg (by omega), show l.length - 1 = i by omega]
 ·
  rcases Nat.lt_or_ge 0 l.length with h1 | h1
  · rw [Zc0 h1]; exact h.start h1
  · rw [Zbz (by omega), hw, h.fin, if_pos (by omega)]
 · rw [List.length_append, List.length_singleton, if_neg (by omega), Nat.add_sub_cancel, Zbz rfl]
def one (a b : Int) : Int := if a = b then 1 else 0
def Zky (h : Hop) : Hop := ⟨h.Arc, !h.Back⟩
theorem hfr_flip (n : Net) (h : Hop) : hfr n (Zky h) = hto n h := by
 unfold hfr hto Zky
 cases hB : h.Back <;> simp
theorem hto_flip (n : Net) (h : Hop) : hto n (Zky h) = hfr n h := by
 unfold hfr hto Zky
 cases hB : h.Back <;> simp
def BackIs (l b : List Hop) : Prop := b.length = l.length ∧ ∀ q, q < l.length → b.getD q default = Zky (l.getD (l.length - 1 - q) default)
theorem BackIs.way {n : Net} {l b : List Hop} (h : BackIs l b) (hw : WayK n l l.length) : WayK n b b.length := by
 rw [h.1]
 refine ⟨fun i hi => ?_, fun i hi => ?_⟩
 · rw [h.2 i hi]; exact hw.1 _ (by omega)
 ·
  rw [h.2 i (by omega), h.2 (i + 1) hi, hfr_flip, hto_flip]
  have := hw.2 (l.length - 1 - (i + 1)) (by omega)
  rw [show l.length - 1 - (i + 1) + 1 = l.length - 1 - i by omega] at this
  exact this.symm
theorem BackIs.cnt {l b : List Hop} (h : BackIs l b) (i : Int) : Zm6 b i b.length = -Zm6 l i l.length := by
 have key : ∀ q, q ≤ l.length → Zm6 b i q = Zm6 l i (l.length - q) - Zm6 l i l.length := by
  intro q
  induction q with
  | zero => intro _; simp only [Zm6, Nat.sub_zero]; omega
  | succ q ih =>
   intro hq
   have e : l.length - q = (l.length - 1 - q) + 1 := by omega
   have ih := ih (by omega)
   rw [e] at ih
   simp only [Zm6] at ih ⊢
   rw [ih, h.2 q (by omega), show l.length - (q + 1) = l.length - 1 - q by omega]
   simp only [Zky]
   by_cases c : (l.getD (l.length - 1 - q) default).Arc = i
   ·
    by_cases hB : (l.getD (l.length - 1 - q) default).Back = true
    · simp only [c, hB, if_true, Bool.not_true, Bool.false_eq_true, if_false]; omega
    · simp only [c, if_true, Bool.eq_false_iff.2 hB, Bool.not_false, Bool.false_eq_true, if_false]; omega
   · simp only [c, if_false]; omega
 rw [h.1, key _ (Nat.le_refl _), Nat.sub_self]
 simp only [Zm6]; omega
end Go.Acq
namespace Go.Acq
open Go
set_option linter.unusedSimpArgs false
theorem Zhz : Z1m = some true := by decide +kernel
theorem aw08 : Ok (Option.bind Z1m fun r => some r) (fun a => a = true) := Ok.bind.2 (Z7r Zhz (Ok.some.2 rfl))
theorem dual {n : Net} {m : Nat} {f : List Int} {c : List Bool} (hm : n.N = m) (he : Z57 m n.Arcs) (hA : AllP n f (fun x => x = 0) [n.S, n.T]) (hc : CutR n c) :
    ex n.Arcs f n.T n.Arcs.length ≤ capK n.Arcs c n.Arcs.length ∧ ((∀ i, i < n.Arcs.length → Zb8 n.Arcs f c i) → ex n.Arcs f n.T n.Arcs.length = capK n.Arcs c n.Arcs.length) := by
  have h7 := Zn2 (c := c) hA.1.2.2 n.Arcs.length (Nat.le_refl _)
  rw [Zjc hm he hA hc] at h7
  exact ⟨h7.1, h7.2.2⟩
theorem Zh3 {n : Net} {m : Nat} (hm : n.N = m) (hk : Z3o n.N n.S n.T n.Arcs = 0) : Z57 m n.Arcs := Zc2 (by rw [← hm]; exact (Z2r hk).2.2.2.1)
theorem SolP.cap {n : Net} {m : Nat} {a : Answer} {w : Work} (h : SolP n m a w) (hm : n.N = m) (hk : Z3o n.N n.S n.T n.Arcs = 0) : capK n.Arcs a.Side n.Arcs.length = a.Value := by
 rw [h.val, (dual hm (Zh3 hm hk) h.all h.cut).2 h.tight]
theorem SolP.most {n : Net} {m : Nat} {a : Answer} {w : Work} (h : SolP n m a w) (hm : n.N = m) (hk : Z3o n.N n.S n.T n.Arcs = 0) {f : List Int} (hf : AllP n f (fun x => x = 0) [n.S, n.T]) : ex n.Arcs f n.T n.Arcs.length ≤ a.Value := by
 rw [← h.cap hm hk]; exact (dual hm (Zh3 hm hk) hf h.cut).1
theorem SolP.least {n : Net} {m : Nat} {a : Answer} {w : Work} (h : SolP n m a w) (hm : n.N = m) (hk : Z3o n.N n.S n.T n.Arcs = 0) {c : List Bool} (hc : CutR n c) : a.Value ≤ capK n.Arcs c n.Arcs.length := by
 rw [h.val]; exact (dual hm (Zh3 hm hk) h.all hc).1
theorem s_Most {n : Net} {m : Nat} (hm : n.N = m) (hk : Z3o n.N n.S n.T n.Arcs = 0) (hl : lenok n.Arcs.length) : Ok (Z60 n) (fun t => t.2 = 0 ∧ t.1.Lifts = ((m : Int) - 2) * (2 * m - 1) ∧ t.1.Pushes = 2 * Z5r (nlI n) n.Arcs.length * m + m * (2 * (((m : Int) - 2) * (2 * m - 1)) + 1)) := by
 have hz := Z2r hk
 have e1 := Zfw (a := (m : Int) - 2) (A := 4094) (b := 2 * m - 1) (B := 8191) (by omega) (by omega) (by omega) (by omega)
 obtain ⟨Λ, hΛ⟩ : ∃ z : Int, ((m : Int) - 2) * (2 * m - 1) = z := ⟨_, rfl⟩
 have eK : ∀ k, k ≤ n.Arcs.length → 0 ≤ Z5r (nlI n) k ∧ Z5r (nlI n) k ≤ k := fun k hk => by
  constructor
  · exact Zmi fun i hi => by unfold nlI; split <;> omega
  ·
   have : Z5r (nlI n) k ≤ Z5r (fun _ => 1) k := Zch fun i hi => by unfold nlI; split <;> omega
   rw [Z97] at this; omega
 unfold Z60
 refine Ok.bind.2 (Z7r (Ze0 n hl) ?_)
 rw [hk, if_neg (by simp)]
 refine Ok.bind.2 (Z9r (fun s => ∃ k : Nat, s.2 = k ∧ k ≤ n.Arcs.length ∧ s.1 = 2 * Z5r (nlI n) k) (fun s => (n.Arcs.length - s.2).toNat) ⟨0, rfl, by omega, rfl⟩ (by unfold Z4w; simp only; omega) ?_)
 rintro ⟨a, x⟩ ⟨k, h1, h2, h3⟩ P next exit
 simp only at h1 h3 next ⊢
 subst h1; subst h3
 have := eK k h2
 unfold Z5o
 simp only [Int.toNat_natCast]
 refine Ok.ite.2 ⟨fun hx => Ok.gd.2 ⟨by constructor <;> omega, Ok.ite.2 ⟨fun hne => Ok.gd.2 ⟨by constructor <;> omega, Ok.gd.2 ⟨by constructor <;> omega, Ok.some.2 (next _ ⟨k + 1, by simp, by omega, ?_⟩ (by simp only; omega))⟩⟩, fun he => Ok.gd.2 ⟨by constructor <;> omega, Ok.some.2 (next _ ⟨k + 1, by simp, by omega, ?_⟩ (by simp only; omega))⟩⟩⟩, fun hx => Ok.some.2 (exit _ ?_)⟩
 · simp only [Z5r, nlI]; rw [if_neg hne]; omega
 · simp only [Z5r, nlI]; rw [if_pos (Classical.not_not.1 he)]; omega
 ·
  obtain rfl : k = n.Arcs.length := by omega
  have e2 := Zfw (a := 2 * Z5r (nlI n) n.Arcs.length) (A := 32768) (b := (m : Int)) (B := 4096) (by omega) (by omega) (by omega) (by omega)
  have e3 := Zfw (a := (m : Int)) (A := 4096) (b := 2 * Λ + 1) (B := 67068000) (by omega) (by omega) (by omega) (by omega)
  unfold Z76
  rw [hm, hΛ]
  exact Ok.gd.2 ⟨by constructor <;> omega, Ok.gd.2 ⟨by constructor <;> omega, Ok.gd.2 ⟨by constructor <;> omega, Ok.gd.2 ⟨by constructor <;> omega, Ok.gd.2 ⟨by constructor <;> omega, Ok.gd.2 ⟨by constructor <;> omega, Ok.gd.2 ⟨by constructor <;> omega, Ok.gd.2 ⟨by constructor <;> omega, Ok.gd.2 ⟨by constructor <;> omega, Ok.some.2 ⟨rfl, rfl, rfl⟩⟩⟩⟩⟩⟩⟩⟩⟩⟩
theorem s_SolveW {n : Net} {m : Nat} (hm : n.N = m) (hk : Z3o n.N n.S n.T n.Arcs = 0) (hl : lenok n.Arcs.length) : Ok (Z36 n) (fun t => t.2.2 = 0 ∧ SolP n m t.1 t.2.1 ∧ ∃ c e p q, Z66 n = some (c, e) ∧ Z6v c = some p ∧ Z84 c p = some (q, t.2.1)) := by
 obtain ⟨t, ht, h1, h2⟩ := s_Solve hm hk hl
 refine ⟨t, ht, h1, h2, ?_⟩
 unfold Z36 at ht
 obtain ⟨⟨c, e⟩, hc, ht⟩ := Option.bind_eq_some_iff.1 ht
 simp only at ht
 split at ht
 · injection ht with ht; subst ht; exact absurd h1 (by assumption)
 obtain ⟨p, hp, ht⟩ := Option.bind_eq_some_iff.1 ht
 obtain ⟨⟨q, w⟩, hq, ht⟩ := Option.bind_eq_some_iff.1 ht
 refine ⟨c, e, p, q, hc, hp, ?_⟩
 obtain ⟨⟨f, e2⟩, hf, ht⟩ := Option.bind_eq_some_iff.1 ht
 simp only at ht
 split at ht
 · injection ht with ht; subst ht; exact absurd h1 (by assumption)
 obtain ⟨⟨b, e3⟩, hb, ht⟩ := Option.bind_eq_some_iff.1 ht
 simp only at ht
 split at ht
 · injection ht with ht; subst ht; exact absurd h1 (by assumption)
 obtain ⟨-, ht⟩ := Z0e ht
 injection ht with ht
 subst ht
 exact hq
end Go.Acq
namespace Go.Acq
open Go
set_option linter.unusedSimpArgs false
structure OneArc (r : Net) (c : Int) (al : List Arc) : Prop where
  len : al.length = r.Arcs.length + 1
  zero : ∀ i, i < r.Arcs.length → (al.getD i default).fr = (r.Arcs.getD i default).fr ∧ (al.getD i default).to = (r.Arcs.getD i default).to ∧ (al.getD i default).cap = 0
  last : al.getD r.Arcs.length default = ⟨r.S, r.T, c⟩
theorem Zhr : ∀ (al : List Arc) (c : Int) (a : Arc), (∀ b, b ∈ al → b.cap = 0) → a.cap = c → ((Zfm 4611686018427387904 (al ++ [a])).isSome = true ↔ 0 ≤ c ∧ c ≤ 4611686018427387904)
 | [], c, a, _, h => by
  simp only [List.nil_append, Zfm, h]
  by_cases h1 : c < 0 ∨ 4611686018427387904 < c
  ·
   rw [if_pos h1]; constructor
   · intro h; cases h
   · intro h; omega
  ·
   rw [if_neg h1]; constructor
   · intro _; omega
   · intro _; rfl
 | b :: al, c, a, hz, h => by
  have hb := hz b (.head _)
  simp only [List.cons_append, Zfm, hb]
  rw [if_neg (by omega), show (4611686018427387904 : Int) - 0 = 4611686018427387904 by omega]
  exact Zhr al c a (fun x hx => hz x (.tail _ hx)) h
theorem Zn0 {m : Nat} {S T c : Int} {xs : List Arc} (hm : 2 ≤ m) (hm2 : m ≤ 4096) (hS : 0 ≤ S ∧ S < m) (hT : 0 ≤ T ∧ T < m) (hST : S ≠ T) (h : ∀ a, a ∈ xs → Zao m a = true ∧ a.cap = 0) (hl : xs.length ≤ 1000) : Z3o m S T (xs ++ [⟨S, T, c⟩]) = 0 ↔ 0 ≤ c ∧ c ≤ 4611686018427387904 := by
 have hs := Zhr xs c ⟨S, T, c⟩ (fun a ha => (h a ha).2) rfl
 constructor
 ·
  intro h0
  exact hs.1 (Z2r h0).2.2.2.2.2
 ·
  intro hc
  have h3 := hs.2 hc
  have h1 : (xs ++ [(⟨S, T, c⟩ : Arc)]).all (Zao m) = true := List.all_eq_true.2 fun a ha => by
   rcases List.mem_append.1 ha with ha | ha
   · exact (h a ha).1
   · simp only [List.mem_singleton] at ha; subst ha; simp [Zao, Z3m, hS, hT]
  have h2 : (xs ++ [(⟨S, T, c⟩ : Arc)]).all Zk8 = true := List.all_eq_true.2 fun a ha => by
   rcases List.mem_append.1 ha with ha | ha
   · simp [Zk8, (h a ha).2]
   · simp only [List.mem_singleton] at ha; subst ha; simp [Zk8, hc.1]
  unfold Z3o
  rw [if_neg (by omega), if_neg (by rw [List.length_append, List.length_singleton]; omega), if_neg (by simp [Z3m, hS, hT, hST]), if_neg (by simp [h1]), if_neg (by simp [h2]), if_neg (by
   cases e : Zfm 4611686018427387904 (xs ++ [⟨S, T, c⟩]) with
   | none => rw [e] at h3; cases h3
   | some x => simp)]
theorem s_SolveN {n : Net} (hl : lenok n.Arcs.length) (hk : Z3o n.N n.S n.T n.Arcs ≠ 0) : Z36 n = some (⟨[], [], 0⟩, ⟨0, 0⟩, Z3o n.N n.S n.T n.Arcs) ∧ Z60 n = some (⟨0, 0⟩, Z3o n.N n.S n.T n.Arcs) := by
 constructor
 ·
  unfold Z36 Z66
  rw [Ze0 n hl]
  simp only [Option.bind_some]
  rw [if_pos hk]
  simp only [Option.bind_some]
  rw [if_pos hk]
 ·
  unfold Z60
  rw [Ze0 n hl]
  simp only [Option.bind_some]
  rw [if_pos hk]
theorem p_FifoGreat {n : Net} {c : Int} (hn : NetIn n) (hc : i64ok c) : Z3b n c = some true := by
 refine Zfp ?_
 unfold Z3b
 refine Ok.bind.2 (Ok.mono (s_Some hn (by omega) (by omega) (by omega) (by omega)) fun r hr => ?_)
 obtain ⟨m, hm, hso⟩ := hr.nat
 have hlen := hr.arcs
 have hends := hr.ends
 have hv := hr.verts
 refine Ok.bind.2 (Z9r (fun z => ∃ k : Nat, z.2 = k ∧ k ≤ r.Arcs.length ∧ z.1.length = r.Arcs.length ∧ ∀ i, z.1.getD i default = if i < k then ⟨(r.Arcs.getD i default).fr, (r.Arcs.getD i default).to, 0⟩ else r.Arcs.getD i default) (fun z => (r.Arcs.length - z.2).toNat) ⟨0, rfl, by omega, rfl, fun i => by rw [if_neg (by omega)]⟩ (by unfold Z4w; simp only; omega) ?_)
 rintro ⟨xs, x⟩ ⟨k, g1, g2, g3, g4⟩ P next exit
 simp only at g1 g3 g4 next ⊢
 subst g1
 unfold Z20
 simp only [Int.toNat_natCast]
 refine Ok.ite.2 ⟨fun hx => ?_, fun hx => Ok.some.2 (exit _ ?_)⟩
 ·
  have hkl : k < r.Arcs.length := by omega
  have h2 := g4 k
  rw [if_neg (by omega)] at h2
  simp only [h2]
  refine Ok.gd.2 ⟨(by (first | omega | (constructor <;> omega) | (simp only [List.length_set, List.length_replicate]; omega) | (simp only [List.length_set, List.length_replicate]; constructor <;> omega))), Ok.gd.2 ⟨(by (first | omega | (constructor <;> omega) | (simp only [List.length_set, List.length_replicate]; omega) | (simp only [List.length_set, List.length_replicate]; constructor <;> omega))), Ok.some.2 (next _ ⟨k + 1, by simp, by omega, by rw [List.length_set]; exact g3, fun i => ?_⟩ (by simp only; omega))⟩⟩
  simp only
  rw [Zcf]
  by_cases e : k = i
  · subst e; rw [if_pos ⟨rfl, by omega⟩, if_pos (by omega)]
  ·
   rw [if_neg fun h => e h.1, g4 i]
   by_cases e2 : i < k
   · rw [if_pos e2, if_pos (by omega)]
   · rw [if_neg e2, if_neg (by omega)]
 obtain rfl : k = r.Arcs.length := by omega
 have hS2 : 0 ≤ r.S ∧ r.S < m := by omega
 have hT2 : 0 ≤ r.T ∧ r.T < m := by omega
 have hST := hends.2.2.2.2.2
 have hxs : ∀ a, a ∈ xs → Zao m a = true ∧ a.cap = 0 := fun a ha => by
  obtain ⟨i, hi, rfl⟩ := List.getElem_of_mem ha
  have h1 := g4 i
  rw [if_pos (by omega), List.getD_eq_getElem?_getD, List.getElem?_eq_getElem hi] at h1
  have h1 : xs[i] = _ := h1
  rw [h1]
  exact ⟨(hso _ (Z78 (show i < r.Arcs.length by omega) default)).1, rfl⟩
 have hck := Zn0 (c := c) (by omega) (by omega) hS2 hT2 hST hxs (by omega)
 rw [← hm] at hck
 obtain ⟨al, hal⟩ : ∃ al, xs ++ [(⟨r.S, r.T, c⟩ : Arc)] = al := ⟨_, rfl⟩
 rw [hal] at hck
 have hA : OneArc r c al := by
  refine ⟨by rw [← hal, List.length_append, List.length_singleton, g3], fun i hi => ?_, ?_⟩
  · rw [← hal, Z4d (by omega), g4 i, if_pos hi]; exact ⟨rfl, rfl, rfl⟩
  · rw [← hal, List.getD_eq_getElem?_getD, List.getElem?_append_right (by omega), g3, Nat.sub_self]; rfl
 have hll : lenok al.length := by have := hA.len; omega
 unfold Z2p
 rw [hal]
 have hal1 := hA.len
 refine Ok.gd.2 ⟨(by (first | omega | (constructor <;> omega) | (simp only [List.length_set, List.length_replicate]; omega) | (simp only [List.length_set, List.length_replicate]; constructor <;> omega))), Ok.bind.2 ?_⟩
 by_cases hc2 : 0 ≤ c ∧ c ≤ 4611686018427387904
 ·
  have hk := hck.2 hc2
  have he : Z57 m al := Zh3 (n := ⟨r.N, r.S, r.T, al⟩) hm hk
  have hex : ∀ f : List Int, FwithinP ⟨r.N, r.S, r.T, al⟩ f → ∀ v : Int, ex al f v al.length = (if r.T = v then f.getD r.Arcs.length 0 else 0) - (if r.S = v then f.getD r.Arcs.length 0 else 0) := fun f hf v => by
   have hz : ex al f v r.Arcs.length = 0 := Zje fun i hi => by
    have h1 := hf.2.2 i (by simp only; omega)
    simp only at h1
    rw [(hA.zero i hi).2.2] at h1
    omega
   rw [hal1]
   simp only [ex, hz, hA.last]
   omega
  refine Ok.mono (s_SolveW (n := ⟨r.N, r.S, r.T, al⟩) hm hk hll) ?_
  rintro ⟨s, w, e⟩ ⟨h0, hs, cc, e2, p, q, hmk, hbg, hrn⟩
  simp only at h0 hs hrn ⊢
  subst h0
  have hw : w = ⟨0, 0⟩ := by
   obtain ⟨⟨c', e'⟩, hc', hcs, h4⟩ := Zmn (n := ⟨r.N, r.S, r.T, al⟩) hm hk hll
   rw [hmk] at hc'
   injection hc' with hc'
   injection hc' with hc1 hc3
   subst hc1; subst hc3
   simp only at hcs
   have rr := row_of hcs hm hk
   obtain ⟨L, hL⟩ : ∃ L, Z0s (Net.mk r.N r.S r.T al).Arcs m = L := ⟨_, rfl⟩
   rw [hL] at rr
   obtain ⟨p', hp', hpo⟩ := Zmp rr
   rw [hbg] at hp'
   injection hp' with hp'
   subst hp'
   obtain ⟨t', ht', -, -, -, -, -, -, ho⟩ := s_fRun rr hpo
   rw [hrn] at ht'
   injection ht' with ht'
   subst ht'
   have hact : ∀ v, v < m → ¬Zad ⟨r.N, r.S, r.T, al⟩ p.Ex v := fun v hv h => by
    have h1 := hpo.ok.ex v hv
    simp only at h1
    rw [hex _ (hpo.ok.within rr) v, if_neg (Ne.symm h.2.1), if_neg (Ne.symm h.1)] at h1
    have := h.2.2
    omega
   have := ho hact
   injection this
  have hval : s.Value = s.Flow.getD r.Arcs.length 0 := by
   rw [hs.val]
   simp only
   rw [hex _ hs.all.1, if_pos rfl, if_neg hST]; omega
  have hle : s.Value ≤ c := by
   have h1 := hs.all.1.2.2 r.Arcs.length (by simp only; omega)
   simp only at h1
   rw [hA.last] at h1
   simp only at h1
   omega
  have hge : c ≤ s.Value := by
   have hg : AllP ⟨r.N, r.S, r.T, al⟩ ((List.replicate r.Arcs.length 0) ++ [c]) (fun x => x = 0) [r.S, r.T] := by
    have hw : FwithinP ⟨r.N, r.S, r.T, al⟩ ((List.replicate r.Arcs.length 0) ++ [c]) := by
     refine ⟨hk, by simp [hal1], fun i hi => ?_⟩
     simp only at hi ⊢
     by_cases e : i < r.Arcs.length
     · rw [Z4d (by simpa using e), Z27, (hA.zero i e).2.2]; omega
     ·
      obtain rfl : i = r.Arcs.length := by omega
      rw [Z8h (by simp), hA.last, List.length_replicate, Nat.sub_self]
      exact ⟨hc2.1, Int.le_refl _⟩
    refine ⟨hw, fun v hv => ?_⟩
    by_cases hin : (v : Int) ∈ [r.S, r.T]
    · exact .inr hin
    ·
     left
     simp only [List.mem_cons, List.not_mem_nil, or_false, not_or] at hin
     simp only
     rw [hex _ hw, if_neg (Ne.symm hin.2), if_neg (Ne.symm hin.1)]; rfl
   have h1 := hs.most hm hk hg
   simp only at h1
   rw [hex _ hg.1, if_pos rfl, if_neg hST, Z8h (by simp), List.length_replicate, Nat.sub_self] at h1
   simp only [List.getD_cons_zero] at h1
   omega
  have hfl := hs.all.1.2.1
  simp only at hfl
  refine Ok.bind.2 (Ok.mono (s_Most (n := ⟨r.N, r.S, r.T, al⟩) hm hk hll) ?_)
  rintro ⟨mo, e⟩ ⟨h1, -, -⟩
  simp only at h1 ⊢
  subst h1
  rw [if_neg (by simp), if_pos hc2.1, if_neg (by simp [hc2.2]), if_neg (by simp), if_pos (by omega)]
  unfold Z24
  rw [if_pos (by simp only [decide_eq_true_eq]; omega)]
  unfold Z23
  rw [if_pos (by rw [hw]; decide)]
  have e9 : ((s.Flow.length : Int) - 1).toNat = r.Arcs.length := by omega
  refine Ok.gd.2 ⟨(by (first | omega | (constructor <;> omega) | (simp only [List.length_set, List.length_replicate]; omega) | (simp only [List.length_set, List.length_replicate]; constructor <;> omega))), Ok.gd.2 ⟨(by (first | omega | (constructor <;> omega) | (simp only [List.length_set, List.length_replicate]; omega) | (simp only [List.length_set, List.length_replicate]; constructor <;> omega))), ?_⟩⟩
  unfold Z22
  rw [e9, if_pos (by simp only [decide_eq_true_eq]; omega)]
  exact Ok.bind.2 (Z7r Zhz (by unfold Z21; exact Ok.some.2 rfl))
 ·
  have hk : Z3o r.N r.S r.T al ≠ 0 := fun h => hc2 (hck.1 h)
  obtain ⟨h1, h2⟩ := s_SolveN (n := ⟨r.N, r.S, r.T, al⟩) hll hk
  refine Z7r h1 (Ok.bind.2 (Z7r h2 ?_))
  simp only
  rw [if_neg (by simp)]
  have tail : Ok (gd (i64ok (((([] : List Int)).length : Int) + ((([] : List Bool)).length : Int))) <| if (((([] : List Int)).length : Int) + ((([] : List Bool)).length : Int)) = 0 then (Option.bind Z1m fun r87 => some r87) else some false) (fun a => a = true) := by
   refine Ok.gd.2 ⟨by constructor <;> simp, ?_⟩
   rw [if_pos (by simp)]
   exact aw08
  refine Ok.ite.2 ⟨fun h0 => ?_, fun h0 => ?_⟩
  ·
   rw [if_neg (by
    have e1 : decide (Z3o r.N r.S r.T al = 0) = false := decide_eq_false hk
    have e2 : decide (c ≤ 4611686018427387904) = false := decide_eq_false (by omega)
    rw [e1, e2]; decide), if_pos hk]
   exact tail
  ·
   rw [if_neg (by
    have e1 : decide (Z3o r.N r.S r.T al = 0) = false := decide_eq_false hk
    rw [e1]; decide), if_pos hk]
   exact tail
end Go.Acq
