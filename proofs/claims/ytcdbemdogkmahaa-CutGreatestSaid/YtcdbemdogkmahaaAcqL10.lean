/- Plain law: cuts: which they are, their capacity, what goes across, which are tight. -/
import Derived.Test.YtcdbemdogkmahaaAcqL03
import Derived.Test.YtcdbemdogkmahaaAcqL09
import Derived.Test.YtcdbemdogkmahaaAcqMS4
namespace Go.Acq
open Go
set_option linter.unusedSimpArgs false
theorem p_awake04 : m_acequialaw04_awake = some true := by decide +kernel
/-- is it in a side? -/
def inS (c : List Bool) (v : Int) : Bool := c.getD v.toNat false
def CutR (n : Net) (c : List Bool) : Prop := checkE n.N n.S n.T n.Arcs = 0 ∧ (c.length : Int) = n.N ∧ inS c n.S = true ∧ inS c n.T = false
theorem s_CutRight {n : Net} {c : List Bool} (hl : lenok n.Arcs.length) : Ok (m_cut_Right n c) (fun b => b = true ↔ CutR n c) := by
  unfold m_cut_Right
  refine Ok.bind.2 (ok_of (s_Check n hl) (Ok.ite.2 ⟨fun h0 => Ok.ite.2 ⟨fun h1 => ?_, fun h1 => Ok.some.2 ⟨fun h => (by cases h), fun h => absurd h.2.1 h1⟩⟩, fun h0 => Ok.some.2 ⟨fun h => (by cases h), fun h => absurd h.1 h0⟩⟩))
  have hz := checkE_zero h0
  simp only [vertexB, decide_eq_true_eq] at hz
  refine Ok.gd.2 ⟨(by (first | omega | (constructor <;> omega) | (simp only [List.length_set, List.length_replicate]; omega) | (simp only [List.length_set, List.length_replicate]; constructor <;> omega))), Ok.ite.2 ⟨fun h2 => Ok.gd.2 ⟨(by (first | omega | (constructor <;> omega) | (simp only [List.length_set, List.length_replicate]; omega) | (simp only [List.length_set, List.length_replicate]; constructor <;> omega))), Ok.some.2 ⟨fun h3 => ⟨h0, h1, h2, by simpa [inS] using h3⟩, fun h3 => by have := h3.2.2.2; simpa [inS] using this⟩⟩, fun h2 => Ok.some.2 ⟨fun h => (by cases h), fun h => absurd h.2.2.1 h2⟩⟩⟩
theorem s_has {c : List Bool} {v : Int} (h0 : 0 ≤ v) (h : v < c.length) : m_cut_has c v = some (inS c v) := by
  unfold m_cut_has
  rw [if_pos h, gd_pos ⟨h0, h⟩]; rfl
/-- all arcs that go across -/
theorem s_across {S X : Type} {y : S → Int × Bool → Option (S ⊕ X)} {n : Net} {c : List Bool} {m : Nat} {s0 : S} (I : Nat → S → Prop) (J : X → Prop) (he : endsOK m n.Arcs) (hc : c.length = m) (hl : lenok n.Arcs.length) (h0 : I 0 s0)
    (hstep : ∀ k s, k < n.Arcs.length → I k s → (inS c (n.Arcs.getD k default).fr ≠ inS c (n.Arcs.getD k default).to → Ok (y s ((k : Int), inS c (n.Arcs.getD k default).fr)) (fun r => match r with | .inl s' => I (k + 1) s' | .inr x => J x)) ∧
      (inS c (n.Arcs.getD k default).fr = inS c (n.Arcs.getD k default).to → I (k + 1) s)) :
    Ok (m_cut_across_1 y n c (.inl s0)) (fun t => match t with | .inl s => I n.Arcs.length s | .inr x => J x) := by
  unfold m_cut_across_1
  refine Ok.bind.2 (Ok.lp (fun s => ∃ (k : Nat) (st : S), s = ((k : Int), Sum.inl st) ∧ k ≤ n.Arcs.length ∧ I k st) (fun s => (n.Arcs.length - s.1).toNat) ⟨0, s0, rfl, by omega, h0⟩ (by unfold FUEL; simp only; omega) ?_)
  rintro s ⟨k, st, rfl, hk, hI⟩ P next exit
  unfold m_cut_across_1_s1
  simp only [Int.toNat_natCast]
  refine Ok.ite.2 ⟨fun hx => ?_, fun hx => Ok.some.2 (exit _ (Ok.some.2 ?_))⟩
  · have hkl : k < n.Arcs.length := by omega
    have e0 := he k hkl false
    have e1 := he k hkl true
    simp only [vtx, Bool.false_eq_true, if_false, if_true] at e0 e1
    obtain ⟨g1, g2⟩ := hstep k st hkl hI
    refine Ok.gd.2 ⟨(by (first | omega | (constructor <;> omega) | (simp only [List.length_set, List.length_replicate]; omega) | (simp only [List.length_set, List.length_replicate]; constructor <;> omega))), Ok.bind.2 (ok_of (s_has e0.1 (by omega)) (Ok.bind.2 (ok_of (s_has e1.1 (by omega)) (Ok.ite.2 ⟨fun h => ?_, fun h => ?_⟩))))⟩
    · have hne : inS c (n.Arcs.getD k default).fr ≠ inS c (n.Arcs.getD k default).to := fun e => by rw [e] at h; simp at h
      refine Ok.bind.2 ?_
      show Ok (y st _) _
      refine Ok.mono (g1 hne) ?_
      rintro (s' | x) hr
      · exact Ok.ite.2 ⟨fun h => by simp at h, fun _ => Ok.gd.2 ⟨(by (first | omega | (constructor <;> omega) | (simp only [List.length_set, List.length_replicate]; omega) | (simp only [List.length_set, List.length_replicate]; constructor <;> omega))), Ok.some.2 (next _ ⟨k + 1, s', by simp, by omega, hr⟩ (by simp only; omega))⟩⟩
      · exact Ok.ite.2 ⟨fun _ => Ok.some.2 (exit _ (Ok.some.2 hr)), fun h => by simp at h⟩
    · have heq : inS c (n.Arcs.getD k default).fr = inS c (n.Arcs.getD k default).to := by simpa using h
      exact Ok.gd.2 ⟨(by (first | omega | (constructor <;> omega) | (simp only [List.length_set, List.length_replicate]; omega) | (simp only [List.length_set, List.length_replicate]; constructor <;> omega))), Ok.some.2 (next _ ⟨k + 1, st, by simp, by omega, g2 heq⟩ (by simp only; omega))⟩
  · obtain rfl : k = n.Arcs.length := by omega
    exact hI
/-- the capacity of the first k arcs that go out -/
def capK (al : List Arc) (c : List Bool) : Nat → Int
  | 0 => 0
  | k + 1 => capK al c k + (if inS c (al.getD k default).fr = true ∧ inS c (al.getD k default).to = false then (al.getD k default).cap else 0)
/-- what goes across by the first k arcs -/
def acK (al : List Arc) (f : List Int) (c : List Bool) : Nat → Int
  | 0 => 0
  | k + 1 => acK al f c k + (if inS c (al.getD k default).fr = true ∧ inS c (al.getD k default).to = false then f.getD k 0 else 0) - (if inS c (al.getD k default).fr = false ∧ inS c (al.getD k default).to = true then f.getD k 0 else 0)
/-- all capacities -/
def totC (al : List Arc) : Nat → Int
  | 0 => 0
  | k + 1 => totC al k + (al.getD k default).cap
theorem capK_le {al : List Arc} {c : List Bool} (h : ∀ i, i < al.length → 0 ≤ (al.getD i default).cap) : ∀ k, k ≤ al.length → 0 ≤ capK al c k ∧ capK al c k ≤ totC al k
  | 0, _ => by simp [capK, totC]
  | k + 1, hk => by
    have ih := capK_le (c := c) h k (by omega)
    have := h k (by omega)
    simp only [capK, totC]
    split <;> omega
theorem totC_tot (al : List Arc) : ∀ k, k ≤ al.length → totC al k = tot (al.map (·.cap)) k
  | 0, _ => rfl
  | k + 1, hk => by
    simp only [totC, tot, totC_tot al k (by omega)]
    rw [List.getD_eq_getElem?_getD, List.getD_eq_getElem?_getD, List.getElem?_map, List.getElem?_eq_getElem (show k < al.length by omega)]; rfl
theorem getD_caps {al : List Arc} {i : Nat} (hi : i < al.length) : (al.map (·.cap)).getD i 0 = (al.getD i default).cap := by
  rw [List.getD_eq_getElem?_getD, List.getD_eq_getElem?_getD, List.getElem?_map, List.getElem?_eq_getElem hi]; rfl
theorem caps_within {n : Net} (h : checkE n.N n.S n.T n.Arcs = 0) (hc : ∀ i, i < n.Arcs.length → 0 ≤ (n.Arcs.getD i default).cap) : FwithinP n (n.Arcs.map (·.cap)) :=
  ⟨h, by simp, fun i hi => by rw [getD_caps hi]; exact ⟨hc i hi, Int.le_refl _⟩⟩
theorem check_caps {n : Net} (h : checkE n.N n.S n.T n.Arcs = 0) : ∀ i, i < n.Arcs.length → 0 ≤ (n.Arcs.getD i default).cap := fun i hi => by
  have := List.all_eq_true.1 (checkE_zero h).2.2.2.2.1 _ (getD_mem hi default)
  simpa [capB] using this
theorem totC_le {n : Net} (h : checkE n.N n.S n.T n.Arcs = 0) : ∀ k, k ≤ n.Arcs.length → 0 ≤ totC n.Arcs k ∧ totC n.Arcs k ≤ 4611686018427387904 := fun k hk => by
  rw [totC_tot _ k hk]
  have := (caps_within h (check_caps h)).tot k (by simpa using hk)
  exact this
theorem cut_ends {n : Net} (h : checkE n.N n.S n.T n.Arcs = 0) : ∃ m : Nat, n.N = m ∧ endsOK m n.Arcs := by
  have hz := checkE_zero h
  obtain ⟨m, hm⟩ : ∃ m : Nat, n.N = m := ⟨n.N.toNat, by omega⟩
  exact ⟨m, hm, endsOK_of (by rw [← hm]; exact hz.2.2.2.1)⟩
theorem s_Cap {n : Net} {c : List Bool} (hl : lenok n.Arcs.length) : Ok (m_cut_Cap n c) (fun r => (CutR n c ∧ r = (capK n.Arcs c n.Arcs.length, 0)) ∨ (¬CutR n c ∧ r = (0, 2))) := by
  unfold m_cut_Cap
  refine Ok.bind.2 (Ok.mono (s_CutRight hl) fun b hb => Ok.ite.2 ⟨fun h => Ok.some.2 (.inr ⟨fun h2 => (by rw [hb.2 h2] at h; cases h), rfl⟩), fun h => ?_⟩)
  have hR := hb.1 (bool_of_not h)
  obtain ⟨m, hm, he⟩ := cut_ends hR.1
  refine Ok.bind.2 (Ok.some.2 (Ok.bind.2 (Ok.mono (s_across (m := m) (fun k s => s = capK n.Arcs c k) (fun _ => True) he (by have := hR.2.1; omega) hl rfl ?_) ?_)))
  · rintro k s hk rfl
    refine ⟨fun hne => ?_, fun heq => ?_⟩
    · unfold m_cut_Cap_y1
      have b1 := capK_le (c := c) (check_caps hR.1) (k + 1) hk
      have b2 := totC_le hR.1 (k + 1) hk
      simp only [Int.toNat_natCast]
      refine Ok.ite.2 ⟨fun h => ?_, fun h => Ok.some.2 ?_⟩
      · have h' : inS c (n.Arcs.getD k default).to = false := by cases hq : inS c (n.Arcs.getD k default).to; rfl; rw [h, hq] at hne; exact absurd rfl hne
        simp only [capK] at b1 ⊢
        rw [if_pos ⟨h, h'⟩] at b1 ⊢
        exact Ok.gd.2 ⟨(by (first | omega | (constructor <;> omega) | (simp only [List.length_set, List.length_replicate]; omega) | (simp only [List.length_set, List.length_replicate]; constructor <;> omega))), Ok.gd.2 ⟨(by (first | omega | (constructor <;> omega) | (simp only [List.length_set, List.length_replicate]; omega) | (simp only [List.length_set, List.length_replicate]; constructor <;> omega))), Ok.some.2 rfl⟩⟩
      · simp only [capK]
        rw [if_neg (fun h2 => h h2.1), Int.add_zero]
    · simp only [capK]
      rw [if_neg (fun h2 => (by rw [heq, h2.2] at h2; cases h2.1)), Int.add_zero]
  · rintro (s | x) hs
    · exact Ok.some.2 (.inl ⟨hR, by rw [hs]⟩)
    · exact nomatch x
/-- is an arc as tight as it may be? -/
def tightA (al : List Arc) (f : List Int) (c : List Bool) (i : Nat) : Prop :=
  (inS c (al.getD i default).fr = true → inS c (al.getD i default).to = false → (al.getD i default).cap ≤ f.getD i 0) ∧ (inS c (al.getD i default).fr = false → inS c (al.getD i default).to = true → f.getD i 0 ≤ 0)
theorem s_Tight {n : Net} {f : List Int} {c : List Bool} (hl : lenok n.Arcs.length) : Ok (m_cut_Tight n f c) (fun b => b = true ↔ CutR n c ∧ FwithinP n f ∧ ∀ i, i < n.Arcs.length → tightA n.Arcs f c i) := by
  unfold m_cut_Tight
  refine Ok.bind.2 (Ok.mono (s_CutRight hl) fun b hb => Ok.ite.2 ⟨fun h => Ok.some.2 ⟨fun h2 => (by cases h2), fun h2 => (by rw [hb.2 h2.1] at h; cases h)⟩, fun h => ?_⟩)
  have hR := hb.1 (bool_of_not h)
  refine Ok.bind.2 (Ok.mono (s_FWithin hl) fun b hb => Ok.ite.2 ⟨fun h => Ok.some.2 ⟨fun h2 => (by cases h2), fun h2 => (by rw [hb.2 h2.2.1] at h; cases h)⟩, fun h => ?_⟩)
  have hw := hb.1 (bool_of_not h)
  have hfl := hw.2.1
  obtain ⟨m, hm, he⟩ := cut_ends hR.1
  refine Ok.bind.2 (Ok.some.2 (Ok.bind.2 (Ok.mono (s_across (m := m) (fun k _ => ∀ i, i < k → tightA n.Arcs f c i) (fun _ => ¬∀ i, i < n.Arcs.length → tightA n.Arcs f c i) he (by have := hR.2.1; omega) hl (fun i hi => by omega) ?_) ?_)))
  · rintro k ⟨⟩ hk hI
    have more : tightA n.Arcs f c k → ∀ i, i < k + 1 → tightA n.Arcs f c i := fun ht i hi => by
      rcases Nat.lt_or_ge i k with h | h
      · exact hI i h
      · rw [show i = k by omega]; exact ht
    refine ⟨fun hne => ?_, fun heq => more ⟨fun h1 h2 => (by rw [heq, h2] at h1; cases h1), fun h1 h2 => (by rw [heq, h2] at h1; cases h1)⟩⟩
    unfold m_cut_Tight_y1
    simp only [Int.toNat_natCast]
    refine Ok.ite.2 ⟨fun h => ?_, fun h => ?_⟩
    · have h' : inS c (n.Arcs.getD k default).to = false := by cases hq : inS c (n.Arcs.getD k default).to; rfl; rw [h, hq] at hne; exact absurd rfl hne
      refine Ok.gd.2 ⟨(by (first | omega | (constructor <;> omega) | (simp only [List.length_set, List.length_replicate]; omega) | (simp only [List.length_set, List.length_replicate]; constructor <;> omega))), Ok.gd.2 ⟨(by (first | omega | (constructor <;> omega) | (simp only [List.length_set, List.length_replicate]; omega) | (simp only [List.length_set, List.length_replicate]; constructor <;> omega))), Ok.ite.2 ⟨fun h1 => Ok.some.2 fun hall => ?_, fun h1 => Ok.ite.2 ⟨fun h2 => (by rw [h] at h2; cases h2), fun _ => Ok.some.2 (more ⟨fun _ _ => by omega, fun h2 => (by rw [h] at h2; cases h2)⟩)⟩⟩⟩⟩
      have := (hall k hk).1 h h'; omega
    · have h2 : inS c (n.Arcs.getD k default).fr = false := by simpa using h
      have h' : inS c (n.Arcs.getD k default).to = true := by cases hq : inS c (n.Arcs.getD k default).to; rw [h2, hq] at hne; exact absurd rfl hne; rfl
      refine Ok.ite.2 ⟨fun _ => Ok.gd.2 ⟨(by (first | omega | (constructor <;> omega) | (simp only [List.length_set, List.length_replicate]; omega) | (simp only [List.length_set, List.length_replicate]; constructor <;> omega))), Ok.ite.2 ⟨fun h1 => Ok.some.2 fun hall => ?_, fun h1 => Ok.some.2 (more ⟨fun h3 => (by rw [h2] at h3; cases h3), fun _ _ => by omega⟩)⟩⟩, fun h3 => (by rw [h2] at h3; exact absurd rfl h3)⟩
      have := (hall k hk).2 h2 h'; omega
  · rintro (s | x) hs
    · exact Ok.some.2 ⟨fun _ => ⟨hR, hw, hs⟩, fun _ => rfl⟩
    · exact Ok.some.2 ⟨fun h => (by cases h), fun h => absurd h.2.2 hs⟩
/-- a cut out of any row -/
theorem s_side {n : Net} {s : List Bool} (hc : checkE n.N n.S n.T n.Arcs = 0) : Ok (m_acequialaw04_side n s) (fun r => CutR n r) := by
  have hz := checkE_zero hc
  simp only [vertexB, decide_eq_true_eq] at hz
  obtain ⟨m, hm⟩ : ∃ m : Nat, n.N = m := ⟨n.N.toNat, by omega⟩
  unfold m_acequialaw04_side
  have hl : (cpy (List.replicate n.N.toNat false) s).length = m := cpy_len (by simp; omega)
  refine Ok.gd.2 ⟨(by (first | omega | (constructor <;> omega) | (simp only [List.length_set, List.length_replicate]; omega) | (simp only [List.length_set, List.length_replicate]; constructor <;> omega))), Ok.gd.2 ⟨by rw [hl]; constructor <;> omega, Ok.gd.2 ⟨by rw [List.length_set, hl]; constructor <;> omega, Ok.some.2 ⟨hc, by rw [List.length_set, List.length_set, hl, hm], ?_, ?_⟩⟩⟩⟩
  · unfold inS
    rw [lset, if_neg (by omega), lset, if_pos ⟨rfl, by omega⟩]
  · unfold inS
    rw [lset, List.length_set, if_pos ⟨rfl, by omega⟩]
end Go.Acq
