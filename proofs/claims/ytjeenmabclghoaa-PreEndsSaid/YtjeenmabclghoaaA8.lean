/- Texts of this claim, one behind the other. -/
import Derived.Test.YtjeenmabclghoaaA7
import Derived.Test.YtjeenmabclghoaaA2
namespace Go.Acq
open Go
set_option linter.unusedSimpArgs false
theorem s_FlowG {n : Net} {m a : Nat} {c : Csr} {res : List Int} (h : CsrIs n m c) (he : Z7c m n.Arcs) (hm : m ≤ 4096) (hl : n.Arcs.length ≤ 16384) (hal : ∀ j, j < Z18 n.Arcs m → c.Arc.getD j 0 < a) (ha : a ≤ 16384)
    (hcap : ∀ i, i < n.Arcs.length → 0 ≤ (n.Arcs.getD i default).cap ∧ (n.Arcs.getD i default).cap ≤ 4611686018427387904) (hr : res.length = Z18 n.Arcs m) :
    Ok (Z9y c res a) (fun r => ((∀ j, j < Z18 n.Arcs m → Zer c.Rev c.Cap res j) ∧ r.2 = 0 ∧ FlowK n.Arcs a res (Z18 n.Arcs m) r.1) ∨ ((∃ j, j < Z18 n.Arcs m ∧ ¬Zer c.Rev c.Cap res j) ∧ r = ([], 20))) := by
  have hok := h.ok
  have lh := hok.lh
  have lr := hok.lr
  have lc := hok.lc
  have la := hok.la
  have lb := hok.lb
  have hbs := Z65 (al := n.Arcs) (v := m) hm hl
  unfold Z9y Zaj
  refine Ok.bind.2 (Ok.some.2 (Ok.ite.2 ⟨fun hx => by omega, fun _ => Ok.ite.2 ⟨fun hx => by omega, fun _ => Ok.ite.2 ⟨fun hx => by omega, fun _ => Ok.bind.2 (Ok.mono (s_over (by omega)) ?_)⟩⟩⟩))
  rintro b rfl
  have hno : ¬ ∃ j, j < c.Arc.length ∧ (a : Int) ≤ c.Arc.getD j 0 := by
    rintro ⟨j, hj, hja⟩
    have := hal j (by omega)
    omega
  unfold Z6e
  refine Ok.ite.2 ⟨fun hx => absurd (of_decide_eq_true hx) hno, fun _ => Ok.gd.2 ⟨(by omega), Ok.bind.2 ?_⟩⟩
  refine Zcz (fun s => ∃ k : Nat, s.2 = k ∧ k ≤ Z18 n.Arcs m ∧ FlowK n.Arcs a res k s.1 ∧ ∀ j, j < k → Zer c.Rev c.Cap res j) (fun s => (Z18 n.Arcs m - s.2).toNat) ⟨0, rfl, by omega, ⟨by simp, fun i => ?_⟩, fun j hj => by omega⟩ (by unfold Z4m; simp only; omega) ?_
  · simp only [Z37, Nat.not_lt_zero, and_false, if_false]
  rintro ⟨fl, x⟩ ⟨k, g1, g2, g3, g4⟩ P next exit
  simp only at g1 g2 g3 next ⊢
  subst g1
  unfold Z9e
  simp only [Int.toNat_natCast]
  have hfl := g3.1
  refine Ok.ite.2 ⟨fun hx => ?_, fun hx => ?_⟩
  · have hk : k < Z18 n.Arcs m := by omega
    obtain ⟨i, s, hi, hne, hp, q1, q2, q3, q4, q5⟩ := hok.place hk
    have hq : pos n.Arcs i (!s) < Z18 n.Arcs m := Zdh hi hne he
    have hp2 : pos n.Arcs i s < Z18 n.Arcs m := Zdh hi hne he
    have hci := hcap i hi
    have hia := hal k hk
    rw [q4] at hia
    have r3 : c.Cap.getD (pos n.Arcs i (!s)) 0 = (if (!s) then 0 else (n.Arcs.getD i default).cap) := (hok.hat i hi hne (!s)).2.2.1
    have bad : ¬Zer c.Rev c.Cap res k → P (.inr (.inl ([], 20))) := fun hr => exit _ (Ok.some.2 (.inr ⟨⟨k, hk, hr⟩, rfl⟩))
    have hmax : max (c.Cap.getD k 0) (c.Cap.getD (c.Rev.getD k 0).toNat 0) = (n.Arcs.getD i default).cap := by
      rw [q2, Int.toNat_natCast, q3, r3]; cases s <;> simp only [Bool.not_false, Bool.not_true, if_true, Bool.false_eq_true, if_false] <;> omega
    have j3 : ∀ t : Bool, (t = true → ¬Zer c.Rev c.Cap res k) → (t = false → Zer c.Rev c.Cap res k) → Ok (Z6d c res fl k t) P := by
      intro t t1 t2
      unfold Z6d
      simp only [Int.toNat_natCast]
      refine Ok.ite.2 ⟨fun ht => Ok.some.2 (bad (t1 ht)), fun ht => ?_⟩
      have hfk := t2 (by simpa using ht)
      have hall : ∀ j, j < k + 1 → Zer c.Rev c.Cap res j := fun j hj => by
        rcases Nat.lt_or_ge j k with h | h
        · exact g4 j h
        · rw [show j = k by omega]; exact hfk
      refine Ok.gd.2 ⟨(by omega), Ok.ite.2 ⟨fun hb => ?_, fun hb => ?_⟩⟩
      · have hs : s = true := by rw [q5] at hb; exact hb
        subst hs
        simp only [q4, Int.toNat_natCast]
        refine Ok.gd.2 ⟨(by omega), Ok.gd.2 ⟨(by omega), Ok.gd.2 ⟨(by omega), Ok.some.2 (next _ ⟨k + 1, by simp, by omega, ⟨by simp [hfl], fun i' => ?_⟩, hall⟩ (by simp only; omega))⟩⟩⟩
        simp only
        rw [Zi4]
        by_cases e : i = i'
        · subst e
          rw [if_pos ⟨rfl, by omega⟩, if_pos ⟨hi, hne, by omega⟩, hp]
        · rw [if_neg (fun h => e h.1), g3.2 i']
          by_cases c1 : i' < n.Arcs.length ∧ (n.Arcs.getD i' default).fr ≠ (n.Arcs.getD i' default).to
          · have : pos n.Arcs i' true ≠ k := fun h => e (Zd2 he hi c1.1 hne c1.2 (hp.trans h.symm)).1
            by_cases c2 : pos n.Arcs i' true < k
            · rw [if_pos ⟨c1.1, c1.2, c2⟩, if_pos ⟨c1.1, c1.2, by omega⟩]
            · rw [if_neg (fun h => c2 h.2.2), if_neg (fun h => by have := h.2.2; omega)]
          · rw [if_neg (fun h => c1 ⟨h.1, h.2.1⟩), if_neg (fun h => c1 ⟨h.1, h.2.1⟩)]
      · have hs : s = false := by rw [q5] at hb; simpa using hb
        subst hs
        refine Ok.gd.2 ⟨(by omega), Ok.some.2 (next _ ⟨k + 1, by simp, by omega, ⟨hfl, fun i' => ?_⟩, hall⟩ (by simp only; omega))⟩
        rw [g3.2 i']
        by_cases c1 : i' < n.Arcs.length ∧ (n.Arcs.getD i' default).fr ≠ (n.Arcs.getD i' default).to
        · have : pos n.Arcs i' true ≠ k := fun h => by have := (Zd2 he hi c1.1 hne c1.2 (hp.trans h.symm)).2; cases this
          by_cases c2 : pos n.Arcs i' true < k
          · rw [if_pos ⟨c1.1, c1.2, c2⟩, if_pos ⟨c1.1, c1.2, by omega⟩]
          · rw [if_neg (fun h => c2 h.2.2), if_neg (fun h => by have := h.2.2; omega)]
        · rw [if_neg (fun h => c1 ⟨h.1, h.2.1⟩), if_neg (fun h => c1 ⟨h.1, h.2.1⟩)]
    have hrev : inb (c.Rev.getD k 0) c.Cap.length := by rw [q2]; constructor <;> omega
    have hrev2 : inb (c.Rev.getD k 0) res.length := by rw [q2]; constructor <;> omega
    refine Ok.gd.2 ⟨(by omega), Ok.gd.2 ⟨(by omega), Ok.gd.2 ⟨(by omega), Ok.gd.2 ⟨hrev, Ok.ite.2 ⟨fun h1 => ?_, fun h1 => Ok.ite.2 ⟨fun h2 => ?_, fun h2 => ?_⟩⟩⟩⟩⟩⟩
    · exact j3 true (fun _ hf => by have := hf.1; omega) (fun h => by cases h)
    · exact j3 true (fun _ hf => by have := hf.2.1; omega) (fun h => by cases h)
    · refine Ok.gd.2 ⟨(by omega), Ok.gd.2 ⟨hrev2, Ok.gd.2 ⟨by rw [hmax]; constructor <;> omega, j3 _ (fun h hf => (of_decide_eq_true h) hf.2.2) (fun h => ⟨by omega, by omega, ?_⟩)⟩⟩⟩
      exact Classical.not_not.1 (of_decide_eq_false h)
  · refine Ok.some.2 (exit _ ?_)
    unfold Zba
    have : k = Z18 n.Arcs m := by omega
    subst this
    exact Ok.some.2 (.inl ⟨g4, rfl, g3⟩)
section row
variable {n : Net} {m L : Nat} {c : Csr}
theorem Zox {R : List Int} (r : Row n m L c) : (∀ j, j < L → Zer c.Rev c.Cap R j) ↔ ∀ j, j < L → 0 ≤ R.getD j 0 ∧ R.getD j 0 + R.getD (rv c j) 0 = cp c j := by
 constructor
 ·
  intro h j hj
  have := h j hj
  unfold Zer at this
  rw [(r.rev hj).1, Int.toNat_natCast] at this
  unfold cp; omega
 ·
  intro h j hj
  have h1 := h j hj
  have h2 := h _ (r.rev hj).2.1
  unfold Zer
  rw [(r.rev hj).1, Int.toNat_natCast]
  unfold cp at h1; omega
def HeightsP (n : Net) (m : Nat) (h : List Int) : Prop := h.length = m ∧ (∀ s : Nat, n.S = s → h.getD s 0 = m) ∧ (∀ t : Nat, n.T = t → h.getD t 0 = 0) ∧ ∀ v, v < m → 0 ≤ h.getD v 0 ∧ h.getD v 0 < 2 * m
structure PreOK (n : Net) (m L : Nat) (c : Csr) (p : Pre) : Prop where
  ok : ResOK n m L c p.Res p.Ex
  nn : ∀ v, v < m → (v : Int) ≠ n.S → 0 ≤ p.Ex.getD v 0
  hs : HeightsP n m p.H
  val : ∀ j, j < L → 0 < p.Res.getD j 0 → p.H.getD (tl c j) 0 ≤ p.H.getD (hd c j) 0 + 1
structure PreLen (p : Pre) : Prop where
  r : lenok p.Res.length
  x : lenok p.Ex.length
  h : lenok p.H.length
theorem PreOK.len {p : Pre} (h : PreOK n m L c p) (r : Row n m L c) : PreLen p := by
 have := r.bd
 have h1 := h.ok.lr
 have h2 := h.ok.lx
 have h3 := h.hs.1
 exact ⟨by omega, by omega, by omega⟩
end row
end Go.Acq
namespace Go.Acq
open Go
set_option linter.unusedSimpArgs false
def Zgu (n : Net) (X : List Int) (u : Nat) : Prop := (u : Int) ≠ n.S ∧ (u : Int) ≠ n.T ∧ 0 < X.getD u 0
instance (n : Net) (X : List Int) (u : Nat) : Decidable (Zgu n X u) := by unfold Zgu; infer_instance
def Zjd (c : Csr) (p : Pre) (u j : Nat) : Prop := 0 < p.Res.getD j 0 ∧ p.H.getD u 0 = p.H.getD (hd c j) 0 + 1
instance (c : Csr) (p : Pre) (u j : Nat) : Decidable (Zjd c p u j) := by unfold Zjd; infer_instance
def Ze7 (n : Net) (c : Csr) (p : Pre) (u : Nat) : Prop := Zgu n p.Ex u ∧ ∀ j, fs c u ≤ j → j < fs c (u + 1) → ¬Zjd c p u j
instance (n : Net) (c : Csr) (p : Pre) (u : Nat) : Decidable (Ze7 n c p u) :=
  if h : Zgu n p.Ex u ∧ ∀ j, j < fs c (u + 1) → fs c u ≤ j → ¬Zjd c p u j then .isTrue ⟨h.1, fun j a b => h.2 j b a⟩ else .isFalse fun g => h ⟨g.1, fun j a b => g.2 j b a⟩
def Zje (p : Nat → Bool) : Nat → List Int
  | 0 => []
  | k + 1 => Zje p k ++ (if p k = true then [(k : Int)] else [])
theorem Zl5 (p : Nat → Bool) : ∀ k, (Zje p k).length ≤ k
 | 0 => Nat.le_refl _
 | k + 1 => by
  have := Zl5 p k
  simp only [Zje, List.length_append]
  split <;> simp <;> omega
theorem mem_selN {p : Nat → Bool} {a : Int} : ∀ {k : Nat}, a ∈ Zje p k ↔ ∃ i : Nat, i < k ∧ p i = true ∧ a = i
 | 0 => by simp [Zje]
 | k + 1 => by
  simp only [Zje, List.mem_append, mem_selN (k := k)]
  constructor
  ·
   rintro (⟨i, h1, h2, h3⟩ | h)
   · exact ⟨i, by omega, h2, h3⟩
   ·
    by_cases c : p k = true
    · rw [if_pos c] at h; exact ⟨k, by omega, c, List.mem_singleton.1 h⟩
    · rw [if_neg c] at h; cases h
  ·
   rintro ⟨i, h1, h2, h3⟩
   rcases Nat.lt_or_ge i k with h | h
   · exact .inl ⟨i, h, h2, h3⟩
   ·
    have : i = k := by omega
    subst this
    right; rw [if_pos h2]; exact List.mem_singleton.2 h3
section row
variable {n : Net} {m L : Nat} {c : Csr}
theorem Zhi {p : Pre} {u : Nat} (r : Row n m L c) (lx : p.Ex.length = m) (hu : u < m) : Z5c c p (u : Nat) = some (decide (Zgu n p.Ex u)) := by
 have h2 := r.is.hS
 have h3 := r.is.hT
 unfold Z5c Zgu
 rw [h2, h3]
 by_cases a : (u : Int) ≠ n.S
 ·
  by_cases b : (u : Int) ≠ n.T
  · rw [if_pos a, if_pos b, Z81 (by constructor <;> omega), Int.toNat_natCast]; simp [a, b]
  · rw [if_pos a, if_neg b]; simp [b]
 · rw [if_neg a]; simp [a]
def HtB (m : Nat) (h : List Int) : Prop := h.length = m ∧ ∀ v, v < m → -1000000 ≤ h.getD v 0 ∧ h.getD v 0 ≤ 1000000
theorem HeightsP.hb {h : List Int} (r : Row n m L c) (hh : HeightsP n m h) : HtB m h := ⟨hh.1, fun v hv => by have := hh.2.2.2 v hv; have := r.bd; omega⟩
theorem Zdl {p : Pre} {u j : Nat} (r : Row n m L c) (lr : p.Res.length = L) (hb : HtB m p.H) (hu : u < m) (hj : j < L) : Z4j c p (u : Nat) (j : Nat) = some (decide (Zjd c p u j)) := by
 have g1 := r.head hj
 have g2 := hb.2 _ g1.2
 have := hb.1
 have := r.lens.2.1
 unfold Z4j Zjd
 simp only [Int.toNat_natCast, g1.1]
 rw [Z81 (by constructor <;> omega)]
 by_cases h : 0 < p.Res.getD j 0
 ·
  rw [if_pos h, Z81 (by constructor <;> omega), Z81 (by constructor <;> omega), Z81 (by constructor <;> omega), Z81 (by constructor <;> omega)]
  exact congrArg some (decide_eq_decide.2 ⟨fun e => ⟨h, e⟩, fun e => e.2⟩)
 ·
  rw [if_neg h]
  exact congrArg some (decide_eq_false fun e => h e.1).symm
theorem Zr2 {p : Pre} {u : Nat} (r : Row n m L c) (lr : p.Res.length = L) (lx : p.Ex.length = m) (hb : HtB m p.H) (hu : u < m) : Ok (Z9s c p (u : Nat)) (fun b => b = decide (Ze7 n c p u)) := by
 have hfl := r.first.2.2.2 u hu
 unfold Z9s Z57
 refine Ok.bind.2 (Ok.some.2 (Ok.bind.2 (Ok.mono (Zo0 r hu (fun j _ => ∀ i, fs c u ≤ i → i < j → ¬Zjd c p u i) (fun _ => ∃ j, fs c u ≤ j ∧ j < fs c (u + 1) ∧ Zjd c p u j) (fun i h1 h2 => by omega) fun j s h1 h2 h3 => ?_) ?_)))
 ·
  unfold Z6q
  refine Ok.bind.2 (Zav (Zdl r lr hb hu (by omega)) (Ok.ite.2 ⟨fun h => Ok.some.2 ⟨j, h1, h2, of_decide_eq_true h⟩, fun h => Ok.some.2 fun i h4 h5 => ?_⟩))
  rcases Nat.lt_or_ge i j with h6 | h6
  · exact h3 i h4 h6
  · rw [show i = j by omega]; exact fun h7 => h (decide_eq_true h7)
 ·
  rintro (s | x) h
  ·
   refine Ok.bind.2 (Zav (Zhi r lx hu) (Ok.some.2 ?_))
   rw [Bool.eq_iff_iff, decide_eq_true_iff, decide_eq_true_iff]
   exact ⟨fun h1 => ⟨h1, h⟩, fun h1 => h1.1⟩
  ·
   obtain ⟨j, h1, h2, h3⟩ := h
   exact Ok.some.2 (decide_eq_false fun h4 => h4.2 j h1 h2 h3).symm
theorem s_all {p : Nat → Bool} {step : List Int → Int → Option ((List Int × Int) ⊕ List Int)} (hm : m ≤ 4096)
    (hs : ∀ (o : List Int) (k : Nat), k ≤ m → o.length ≤ k → step o k = if k < m then (if p k = true then some (.inl (o ++ [(k : Int)], (k : Int) + 1)) else some (.inl (o, (k : Int) + 1))) else some (.inr o)) : Ok (Z29 (fun s => step s.1 s.2) Z4m ([], 0)) (fun o => o = Zje p m) := by
  refine Zcz (fun s => ∃ k : Nat, s.2 = k ∧ k ≤ m ∧ s.1 = Zje p k) (fun s => (m - s.2).toNat) ⟨0, rfl, by omega, rfl⟩ (by unfold Z4m; simp only; omega) ?_
  rintro ⟨o, x⟩ ⟨k, h1, hk, ho⟩ P next exit
  simp only at h1 ho next ⊢
  subst h1; subst ho
  rw [hs _ k hk (Zl5 p k)]
  refine Ok.ite.2 ⟨fun hx => Ok.ite.2 ⟨fun h => Ok.some.2 (next _ ⟨k + 1, by simp, by omega, by simp only [Zje]; rw [if_pos h]⟩ (by simp only; omega)), fun h => Ok.some.2 (next _ ⟨k + 1, by simp, by omega, by simp only [Zje]; rw [if_neg h, List.append_nil]⟩ (by simp only; omega))⟩, fun hx => Ok.some.2 (exit _ (by rw [show k = m by omega]))⟩
theorem s_Active {p : Pre} (r : Row n m L c) (lx : p.Ex.length = m) : Z8q c p = some (Zje (fun u => decide (Zgu n p.Ex u)) m) := by
 have b := r.bd
 have hN := r.is.hN
 refine Zhd ?_
 unfold Z8q Z71
 refine Ok.bind.2 (Ok.bind.2 (Ok.mono (s_all (m := m) (p := fun u => decide (Zgu n p.Ex u)) (step := fun o x => Z3g c c p o x) (by omega) fun o k hk ho => ?_) fun o ho => ?_))
 ·
  unfold Z3g Za3
  rw [hN]
  by_cases h : k < m
  ·
   rw [if_pos (by omega), if_pos h, Zhi r lx h]
   simp only [Option.bind_some]
   by_cases h2 : decide (Zgu n p.Ex k) = true
   · rw [if_pos h2, if_pos h2, Z81 (by rw [List.length_append, List.length_singleton]; constructor <;> omega), Z81 (by constructor <;> omega)]
   · rw [if_neg h2, if_neg h2, Z81 (by constructor <;> omega)]
  · rw [if_neg (by omega), if_neg h]
 ·
  unfold Z5b
  exact Ok.some.2 (Ok.some.2 ho)
theorem s_May {p : Pre} (r : Row n m L c) (lr : p.Res.length = L) (lx : p.Ex.length = m) (hb : HtB m p.H) : Z98 c p = some (Zje (fun j => decide (Zgu n p.Ex (tl c j) ∧ Zjd c p (tl c j) j)) L, Zje (fun u => decide (Ze7 n c p u)) m) := by
 have b := r.bd
 have hN := r.is.hN
 refine Zhd ?_
 unfold Z98
 refine Ok.bind.2 (Zcz (fun s => ∃ k : Nat, s.2 = k ∧ k ≤ m ∧ s.1 = Zje (fun j => decide (Zgu n p.Ex (tl c j) ∧ Zjd c p (tl c j) j)) (fs c k)) (fun s => (m - s.2).toNat) ⟨0, rfl, by omega, by rw [r.first.2.1]; rfl⟩ (by unfold Z4m; simp only; omega) ?_)
 rintro ⟨o, x⟩ ⟨k, h1, hk, ho⟩ P next exit
 simp only at h1 ho next ⊢
 subst h1
 unfold Zac
 rw [hN]
 refine Ok.ite.2 ⟨fun hx => ?_, fun hx => Ok.some.2 (exit _ ?_)⟩
 ·
  have hkm : k < m := by omega
  have hfl := r.first.2.2.2 k hkm
  unfold Z57
  refine Ok.bind.2 (Ok.some.2 (Ok.bind.2 (Ok.mono (Zo0 r hkm (fun j s => s = Zje (fun j => decide (Zgu n p.Ex (tl c j) ∧ Zjd c p (tl c j) j)) j) (fun _ => False) ho fun j s g1 g2 g3 => ?_) ?_)))
  ·
   have hjL : j < L := by omega
   have ht := (r.range hjL hkm).1 ⟨g1, g2⟩
   subst g3
   have hle := Zl5 (fun j => decide (Zgu n p.Ex (tl c j) ∧ Zjd c p (tl c j) j)) j
   have j3 : ∀ (b : Bool) (P : List Int ⊕ Empty → Prop), (P (.inl (Zje (fun j => decide (Zgu n p.Ex (tl c j) ∧ Zjd c p (tl c j) j)) (j + 1)))) → (b = true ↔ (Zgu n p.Ex k ∧ Zjd c p k j)) → Ok (Z8o (Zje (fun j => decide (Zgu n p.Ex (tl c j) ∧ Zjd c p (tl c j) j)) j) (j : Nat) b) P := by
    intro b P hP hb
    unfold Z8o
    have e : decide (Zgu n p.Ex (tl c j) ∧ Zjd c p (tl c j) j) = b := by rw [ht, Bool.eq_iff_iff, decide_eq_true_iff]; exact hb.symm
    refine Ok.ite.2 ⟨fun h => Ok.gd.2 ⟨?_, Ok.some.2 ?_⟩, fun h => Ok.some.2 ?_⟩
    · rw [List.length_append, List.length_singleton]; constructor <;> omega
    · simp only [Zje] at hP; rw [if_pos (e.trans h)] at hP; exact hP
    · simp only [Zje] at hP; rw [if_neg (by rw [e]; exact h), List.append_nil] at hP; exact hP
   unfold Z8n
   refine Ok.bind.2 (Zav (Zhi r lx hkm) (Ok.ite.2 ⟨fun h => Ok.bind.2 (Zav (Zdl r lr hb hkm hjL) (j3 _ _ rfl ?_)), fun h => j3 false _ rfl ⟨fun h2 => (by cases h2), fun h2 => absurd (decide_eq_true h2.1) h⟩⟩))
   rw [decide_eq_true_iff]
   exact ⟨fun h2 => ⟨of_decide_eq_true h, h2⟩, fun h2 => h2.2⟩
  ·
   rintro (s | x) h
   · exact Ok.gd.2 ⟨(by omega), Ok.some.2 (next _ ⟨k + 1, by simp, by omega, h⟩ (by simp only; omega))⟩
   · exact h.elim
 ·
  obtain rfl : k = m := by omega
  unfold Zc2 Z97
  refine Ok.bind.2 (Ok.bind.2 (Ok.mono (s_all (m := k) (p := fun u => decide (Ze7 n c p u)) (step := fun o x => Z4i c c p o x) (by omega) fun o q hq hol => ?_) fun o2 ho2 => ?_))
  ·
   unfold Z4i Zd7
   rw [hN]
   by_cases h : q < k
   ·
    obtain ⟨b, hb1, hb2⟩ := Zr2 r lr lx hb h
    rw [if_pos (by omega), if_pos h, hb1]
    simp only [Option.bind_some]
    rw [hb2]
    by_cases h2 : decide (Ze7 n c p q) = true
    · rw [if_pos h2, if_pos h2, Z81 (by rw [List.length_append, List.length_singleton]; constructor <;> omega), Z81 (by constructor <;> omega)]
    · rw [if_neg h2, if_neg h2, Z81 (by constructor <;> omega)]
   · rw [if_neg (by omega), if_neg h]
  ·
   unfold Z70
   refine Ok.some.2 (Ok.some.2 ?_)
   rw [ho, r.first.2.2.1, ho2]
def Zou (c : Csr) (p : Pre) (j : Nat) : Int := min (p.Ex.getD (tl c j) 0) (p.Res.getD j 0)
def Znc (c : Csr) (p : Pre) (j : Nat) : Pre := ⟨mvR c p.Res j (Zou c p j), mvX c p.Ex j (Zou c p j), p.H⟩
theorem s_Copy {p : Pre} (h1 : p.Res.length ≤ 1000000000) (h2 : p.Ex.length ≤ 1000000000) (h3 : p.H.length ≤ 1000000000) : Z9t p = some p := by
 unfold Z9t
 rw [Zhx h1, Zhx h2, s_CloneI h3]; rfl
theorem s_Push {p : Pre} {j : Nat} (r : Row n m L c) (h : ResOK n m L c p.Res p.Ex) (hb : HtB m p.H) (hj : j < L) :
    Z7m c p (j : Nat) = some (if Zgu n p.Ex (tl c j) ∧ Zjd c p (tl c j) j then (Znc c p j, Zou c p j, 0) else (⟨[], [], []⟩, 0, 30)) := by
  have b := r.bd
  have lr := h.lr
  have lx := h.lx
  have lh := hb.1
  have ht := (r.tlh hj).1
  unfold Z7m
  rw [r.tailM hj]
  simp only [Option.bind_some]
  rw [if_neg (by simp), Zhi r lx ht]
  simp only [Option.bind_some]
  have j1 : Zgu n p.Ex (tl c j) ∧ Zjd c p (tl c j) j → Z5d c p (j : Nat) (tl c j : Nat) false = some (Znc c p j, Zou c p j, 0) := fun hA => by
    unfold Z5d
    rw [if_neg (by simp), s_Copy (by omega) (by omega) (by omega)]
    simp only [Option.bind_some, Int.toNat_natCast]
    have h1 := hA.1.2.2
    have h2 := hA.2.1
    rw [Z81 (by constructor <;> omega), Z81 (by constructor <;> omega), s_move r h hj (by omega) (by omega)]
    rfl
  by_cases hA : Zgu n p.Ex (tl c j)
  · rw [if_neg (by simp [hA]), Zdl r lr hb ht hj]
    simp only [Option.bind_some]
    by_cases hB : Zjd c p (tl c j) j
    · rw [if_pos ⟨hA, hB⟩, decide_eq_true hB]; exact j1 ⟨hA, hB⟩
    · rw [if_neg fun h => hB h.2, decide_eq_false hB]
      unfold Z5d; rw [if_pos (by decide)]
  · rw [if_pos (by simp [hA]), if_neg fun h => hA h.1]
    unfold Z5d; rw [if_pos rfl]
theorem PreOK.push {p : Pre} {j : Nat} (h : PreOK n m L c p) (r : Row n m L c) (hj : j < L) (hA : Zgu n p.Ex (tl c j)) (hB : Zjd c p (tl c j) j) : PreOK n m L c (Znc c p j) := by
 have h1 := hA.2.2
 have h2 := hB.1
 have hD : Zou c p j = min (p.Ex.getD (tl c j) 0) (p.Res.getD j 0) := rfl
 have hlr := h.ok.lr
 have hlx := h.ok.lx
 have ht := r.tlh hj
 have hr := r.rev hj
 refine ⟨h.ok.move r hj (by omega) (by omega), fun v hv hvS => ?_, h.hs, fun k hk h0 => ?_⟩
 ·
  have := h.nn v hv hvS
  simp only [Znc]
  rw [Zhj r hlx hj]
  by_cases c1 : tl c j = v
  ·
   subst c1
   rw [if_pos rfl, if_neg fun e => ht.2.2.2 e.symm]; omega
  · rw [if_neg c1]; split <;> omega
 ·
  simp only [Znc] at h0 ⊢
  rw [Ze9 r hlr hj] at h0
  by_cases c1 : k = rv c j
  ·
   subst c1
   rw [ht.2.1, ht.2.2.1]
   have := hB.2
   omega
  ·
   rw [if_neg c1] at h0
   by_cases c2 : k = j
   · subst c2; exact h.val k hk h2
   · rw [if_neg c2] at h0; exact h.val k hk h0
def Zow (c : Csr) (p : Pre) (m : Nat) (a : Nat) : Nat → Int
  | 0 => 2 * m
  | k + 1 => if 0 < p.Res.getD (a + k) 0 then min (Zow c p m a k) (p.H.getD (hd c (a + k)) 0) else Zow c p m a k
def Zo5 (c : Csr) (p : Pre) (m u : Nat) : Int := Zow c p m (fs c u) (fs c (u + 1) - fs c u)
def Zm1 (c : Csr) (p : Pre) (m u : Nat) : Pre := ⟨p.Res, p.Ex, p.H.set u (Zo5 c p m u + 1)⟩
theorem Zrc {p : Pre} {a : Nat} : ∀ {k i : Nat}, i < k → 0 < p.Res.getD (a + i) 0 → Zow c p m a k ≤ p.H.getD (hd c (a + i)) 0
 | 0, _, h, _ => by omega
 | k + 1, i, h, h0 => by
  simp only [Zow]
  rcases Nat.lt_or_ge i k with h1 | h1
  ·
   have := Zrc h1 h0
   split <;> omega
  ·
   have : i = k := by omega
   subst this
   rw [if_pos h0]; omega
theorem Zrd (p : Pre) (a : Nat) : ∀ k : Nat, Zow c p m a k ≤ 2 * m ∧ (Zow c p m a k = 2 * m ∨ ∃ i, i < k ∧ 0 < p.Res.getD (a + i) 0 ∧ p.H.getD (hd c (a + i)) 0 = Zow c p m a k)
 | 0 => ⟨Int.le_refl _, .inl rfl⟩
 | k + 1 => by
  obtain ⟨h1, h2⟩ := Zrd p a k
  simp only [Zow]
  by_cases h : 0 < p.Res.getD (a + k) 0
  ·
   rw [if_pos h]
   refine ⟨by omega, ?_⟩
   by_cases h3 : p.H.getD (hd c (a + k)) 0 ≤ Zow c p m a k
   · exact .inr ⟨k, by omega, h, by omega⟩
   ·
    rcases h2 with h2 | ⟨i, g1, g2, g3⟩
    · exact .inl (by omega)
    · exact .inr ⟨i, by omega, g2, by omega⟩
  ·
   rw [if_neg h]
   refine ⟨h1, ?_⟩
   rcases h2 with h2 | ⟨i, g1, g2, g3⟩
   · exact .inl h2
   · exact .inr ⟨i, by omega, g2, g3⟩
theorem lowV_le {p : Pre} {u j : Nat} (r : Row n m L c) (hu : u < m) (hj : j < L) (ht : tl c j = u) (h0 : 0 < p.Res.getD j 0) : Zo5 c p m u ≤ p.H.getD (hd c j) 0 := by
 have h1 := (r.range hj hu).2 ht
 have e : fs c u + (j - fs c u) = j := by omega
 have := Zrc (c := c) (m := m) (p := p) (a := fs c u) (k := fs c (u + 1) - fs c u) (i := j - fs c u) (by omega) (by rw [e]; exact h0)
 rw [e] at this; exact this
theorem Zne (p : Pre) {u : Nat} (r : Row n m L c) (hu : u < m) : Zo5 c p m u ≤ 2 * m ∧ (Zo5 c p m u = 2 * m ∨ ∃ j, j < L ∧ tl c j = u ∧ 0 < p.Res.getD j 0 ∧ p.H.getD (hd c j) 0 = Zo5 c p m u) := by
 have hfl := r.first.2.2.2 u hu
 obtain ⟨h1, h2⟩ := Zrd (c := c) (m := m) p (fs c u) (fs c (u + 1) - fs c u)
 refine ⟨h1, ?_⟩
 rcases h2 with h2 | ⟨i, g1, g2, g3⟩
 · exact .inl h2
 · exact .inr ⟨fs c u + i, by omega, (r.range (by omega) hu).1 ⟨by omega, by omega⟩, g2, g3⟩
theorem s_Lift {p : Pre} {u : Nat} (r : Row n m L c) (lr : p.Res.length = L) (lx : p.Ex.length = m) (hb : HtB m p.H) (hu : u < m) :
    Z8p c p (u : Nat) = some (if Ze7 n c p u then (Zm1 c p m u, 0) else (⟨[], [], []⟩, 30)) := by
  have b := r.bd
  have hN := r.is.hN
  have lh := hb.1
  have llh := r.lens.2.1
  have hfl := r.first.2.2.2 u hu
  refine Zhd ?_
  unfold Z8p
  rw [if_neg (by omega), hN]
  unfold Z99
  rw [if_neg (by simp; omega), hN]
  refine Ok.bind.2 (Ok.mono (Zr2 r lr lx hb hu) ?_)
  rintro q rfl
  by_cases hS : Ze7 n c p u
  · rw [if_neg (by simp [hS]), if_pos hS]
    unfold Z57
    refine Ok.gd.2 ⟨by constructor <;> omega, Ok.bind.2 (Ok.some.2 (Ok.bind.2 (Ok.mono (Zo0 r hu (fun j s => s = Zow c p m (fs c u) (j - fs c u)) (fun _ => False) (by rw [Nat.sub_self]; rfl) fun j s h1 h2 h3 => ?_) ?_)))⟩
    · have hjL : j < L := by omega
      have g1 := r.head hjL
      have e1 : j + 1 - fs c u = (j - fs c u) + 1 := by omega
      have e2 : fs c u + (j - fs c u) = j := by omega
      subst h3
      unfold Z7n
      simp only [Int.toNat_natCast, g1.1]
      refine Ok.gd.2 ⟨by constructor <;> omega, Ok.ite.2 ⟨fun h0 => Ok.gd.2 ⟨by constructor <;> omega, Ok.gd.2 ⟨by constructor <;> omega, Ok.some.2 ?_⟩⟩, fun h0 => Ok.some.2 ?_⟩⟩
      · rw [e1]; simp only [Zow, e2]; rw [if_pos h0]
      · rw [e1]; simp only [Zow, e2]; rw [if_neg h0]
    · rintro (s | x) h
      · simp only at h
        subst h
        have hv := (Zne p r hu).1
        have hlow : -1000000 ≤ Zo5 c p m u := by
          rcases (Zne p r hu).2 with h | ⟨j, h1, -, -, h4⟩
          · omega
          · have := hb.2 _ (r.head h1).2; omega
        unfold Zo5 at hv hlow
        refine Ok.bind.2 (Zav (s_Copy (by omega) (by omega) (by omega)) (Ok.gd.2 ⟨by constructor <;> omega, Ok.gd.2 ⟨by constructor <;> omega, Ok.some.2 ?_⟩⟩))
        rw [Int.toNat_natCast]; rfl
      · exact h.elim
  · rw [if_pos (by simp [hS]), if_neg hS]; exact Ok.some.2 rfl
def OpenJ (c : Csr) (L : Nat) (R : List Int) (u v : Nat) : Prop := ∃ j, j < L ∧ tl c j = u ∧ hd c j = v ∧ 0 < R.getD j 0
theorem OpenJ.lt {R : List Int} (r : Row n m L c) {u v : Nat} (h : OpenJ c L R u v) : u < m ∧ v < m := by
 obtain ⟨j, h1, h2, h3, _⟩ := h
 exact ⟨by rw [← h2]; exact (r.tlh h1).1, by rw [← h3]; exact (r.head h1).2⟩
theorem Zi5 {H : Nat → Int} {G : Nat → Nat → Prop} (hG : ∀ u v, G u v → H u ≤ H v + 1) {u v : Nat} (hr : Reach G u v) : ∀ k : Int, H v ≤ k → k ≤ H u → ∃ w, Reach G u w ∧ H w = k := by
 induction hr with
 | refl => intro k h1 h2; exact ⟨u, .refl, by omega⟩
 | step h1 h2 ih =>
  rename_i x y
  intro k h3 h4
  by_cases c : H x ≤ k
  · exact ih k c h4
  ·
   have := hG _ _ h2
   exact ⟨y, .step h1 h2, by omega⟩
theorem pigeon : ∀ (m : Nat) (f : Nat → Nat), (∀ k, k ≤ m → f k < m) → ∃ i j, i < j ∧ j ≤ m ∧ f i = f j
 | 0, f, h => absurd (h 0 (Nat.le_refl _)) (by omega)
 | m + 1, f, h => by
  by_cases e : ∃ i, i ≤ m ∧ f i = f (m + 1)
  ·
   obtain ⟨i, h1, h2⟩ := e
   exact ⟨i, m + 1, by omega, by omega, h2⟩
  ·
   have ne : ∀ i, i ≤ m → f i ≠ f (m + 1) := fun i hi h2 => e ⟨i, hi, h2⟩
   obtain ⟨i, j, h1, h2, h3⟩ := pigeon m (fun k => if f (m + 1) < f k then f k - 1 else f k) fun k hk => by
    have a := h k (by omega)
    have a2 := h (m + 1) (by omega)
    have a3 := ne k hk
    split <;> omega
   have a1 := ne i (by omega)
   have a2 := ne j (by omega)
   refine ⟨i, j, h1, by omega, ?_⟩
   split at h3 <;> split at h3 <;> omega
theorem Zjz {H : Nat → Int} {a : Int} (h : ∀ k : Nat, k ≤ m → ∃ w, w < m ∧ H w = a + k) : False := by
 have : ∀ k : Nat, ∃ w, k ≤ m → w < m ∧ H w = a + k := fun k => by
  by_cases c : k ≤ m
  · obtain ⟨w, hw⟩ := h k c; exact ⟨w, fun _ => hw⟩
  · exact ⟨0, fun h => absurd h c⟩
 obtain ⟨f, hf⟩ := Classical.axiomOfChoice this
 obtain ⟨i, j, h1, h2, h3⟩ := pigeon m f fun k hk => (hf k hk).1
 have a1 := (hf i (by omega)).2
 have a2 := (hf j h2).2
 rw [h3] at a1
 omega
theorem Zo4 {R : List Int} (r : Row n m L c) {u v : Nat} (hu : u < m) (h : Reach (OpenJ c L R) u v) : v < m := by
 induction h with
 | refl => exact hu
 | step _ h2 _ => exact (h2.lt r).2
theorem Zji {R X : List Int} {S u : Nat} (r : Row n m L c) (h : ResOK n m L c R X) (hS : n.S = S) (nn : ∀ v, v < m → v ≠ S → 0 ≤ X.getD v 0) (hu : u < m) (hx : 0 < X.getD u 0) : Reach (OpenJ c L R) u S := by
 refine Classical.byContradiction fun hno => ?_
 let q : Nat → Bool := fun v => @decide (¬Reach (OpenJ c L R) u v) (Classical.propDecidable _)
 have hq : ∀ v, q v = true ↔ ¬Reach (OpenJ c L R) u v := fun v => @decide_eq_true_iff _ (Classical.propDecidable _)
 obtain ⟨cl, hcl⟩ : ∃ cl : List Bool, cl = (List.range m).map q := ⟨_, rfl⟩
 have inc : ∀ v : Nat, v < m → (inS cl v = true ↔ ¬Reach (OpenJ c L R) u v) := fun v hv => by
  unfold inS
  rw [hcl, Int.toNat_natCast, List.getD_eq_getElem?_getD, List.getElem?_map, List.getElem?_range hv]
  exact hq v
 have inf : ∀ v : Nat, v < m → (inS cl v = false ↔ Reach (OpenJ c L R) u v) := fun v hv => by
  rw [Bool.eq_false_iff, ne_eq, inc v hv]; exact Classical.not_not
 have he := r.he
 have hw := h.within r
 have hac : ∀ k, k ≤ n.Arcs.length → acK n.Arcs (flN n.Arcs R) cl k ≤ 0 := by
  intro k
  induction k with
  | zero => intro _; simp [acK]
  | succ k ih =>
   intro hk
   have h0 := he k hk false
   have h1 := he k hk true
   simp only [vtx, Bool.false_eq_true, if_false, if_true] at h0 h1
   have hf := (hw.2.2 k hk).1
   have ih := ih (by omega)
   simp only [acK]
   by_cases c1 : inS cl (n.Arcs.getD k default).fr = true ∧ inS cl (n.Arcs.getD k default).to = false
   ·
    have hz : (flN n.Arcs R).getD k 0 = 0 := by
     rw [Zdb hk]
     by_cases e : (n.Arcs.getD k default).fr = (n.Arcs.getD k default).to
     · rw [if_pos e]
     ·
      rw [if_neg e]
      obtain ⟨-, a2, a3⟩ := r.cpPos hk e true
      have z := r.is.ok.hat k hk e true
      have z2 := r.is.ok.hat k hk e false
      have nnR := (h.res _ a3).1
      refine Int.le_antisymm (Int.not_lt.1 fun hpos => ?_) nnR
      obtain ⟨p, hp⟩ : ∃ p : Nat, (n.Arcs.getD k default).fr = p := ⟨(n.Arcs.getD k default).fr.toNat, by omega⟩
      obtain ⟨t, ht⟩ : ∃ t : Nat, (n.Arcs.getD k default).to = t := ⟨(n.Arcs.getD k default).to.toNat, by omega⟩
      rw [hp, ht] at c1
      have r1 := (inf t (by omega)).1 c1.2
      refine (inc p (by omega)).1 c1.1 (.step r1 ⟨_, a3, ?_, ?_, hpos⟩)
      · unfold tl hd; rw [a2]; simp only [Bool.not_true]; rw [z2.1]; simp only [vtx, Bool.not_false, if_true, ht]; omega
      · unfold hd; rw [z.1]; simp only [vtx, Bool.not_true, Bool.false_eq_true, if_false, hp]; omega
    rw [if_pos c1, hz]; split <;> omega
   · rw [if_neg c1]; split <;> omega
 have hpc : ∀ j, j ≤ m → 0 ≤ Zhc n.Arcs (flN n.Arcs R) cl j n.Arcs.length ∧ (u < j → 0 < Zhc n.Arcs (flN n.Arcs R) cl j n.Arcs.length) := by
  intro j
  induction j with
  | zero => intro _; rw [show ((0 : Nat) : Int) = 0 from rfl, Zg8 he _ (Nat.le_refl _)]; exact ⟨Int.le_refl _, fun h => by omega⟩
  | succ j ih =>
   intro hj
   obtain ⟨i1, i2⟩ := ih (by omega)
   rw [Int.natCast_succ, Zg7]
   by_cases c1 : inS cl j = false
   ·
    rw [if_pos c1, ← h.ex j (by omega)]
    have hjS : j ≠ S := fun e => hno (by rw [← e]; exact (inf j (by omega)).1 c1)
    have := nn j (by omega) hjS
    refine ⟨by omega, fun hlt => ?_⟩
    by_cases e : u = j
    · subst e; omega
    · have := i2 (by omega); omega
   ·
    rw [if_neg c1]
    refine ⟨by omega, fun hlt => ?_⟩
    by_cases e : u = j
    · subst e; exact absurd ((inf u hu).2 .refl) c1
    · have := i2 (by omega); omega
 have := (hpc m (Nat.le_refl _)).2 hu
 rw [Zi2 he _ (Nat.le_refl _)] at this
 have := hac _ (Nat.le_refl _)
 omega
theorem Zm2 {R : List Int} {H : Nat → Int} {S u : Nat} (r : Row n m L c) (hu : u < m) (hval : ∀ j, j < L → 0 < R.getD j 0 → H (tl c j) ≤ H (hd c j) + 1) (hHS : H S = m) (hr : Reach (OpenJ c L R) u S) : H u < 2 * m := by
 refine Int.not_le.1 fun hge => ?_
 refine Zjz (m := m) (H := H) (a := m) fun k hk => ?_
 obtain ⟨w, h1, h2⟩ := Zi5 (H := H) (G := OpenJ c L R) (fun a b ⟨j, g1, g2, g3, g4⟩ => by rw [← g2, ← g3]; exact hval j g1 g4) hr (m + k) (by omega) (by omega)
 exact ⟨w, Zo4 r hu h1, h2⟩
theorem PreOK.lift {p : Pre} {u : Nat} (h : PreOK n m L c p) (r : Row n m L c) (hu : u < m) (hS : Ze7 n c p u) : PreOK n m L c (Zm1 c p m u) ∧ p.H.getD u 0 ≤ Zo5 c p m u := by
 obtain ⟨⟨S, hnS, -, hSm⟩, ⟨T, hnT, -, hTm⟩, -, -⟩ := r.ends
 have lh := h.hs.1
 obtain ⟨⟨hA1, hA2, hA3⟩, hB⟩ := hS
 have huS : u ≠ S := by omega
 have huT : u ≠ T := by omega
 have hlow : p.H.getD u 0 ≤ Zo5 c p m u := by
  have h2 := h.hs.2.2.2 u hu
  rcases (Zne p r hu).2 with h1 | ⟨j, h1, h3, h4, h5⟩
  · omega
  ·
   have h6 := h.val j h1 h4
   rw [h3] at h6
   have h7 := (r.range h1 hu).2 h3
   have h8 := hB j h7.1 h7.2
   have : p.H.getD u 0 ≠ p.H.getD (hd c j) 0 + 1 := fun e => h8 ⟨h4, e⟩
   omega
 have hHu : ∀ v, (p.H.set u (Zo5 c p m u + 1)).getD v 0 = if v = u then Zo5 c p m u + 1 else p.H.getD v 0 := fun v => by
  rw [Zi4]
  by_cases e : v = u
  · rw [if_pos ⟨e.symm, by omega⟩, if_pos e]
  · rw [if_neg fun h => e h.1.symm, if_neg e]
 have hval : ∀ j, j < L → 0 < p.Res.getD j 0 → (p.H.set u (Zo5 c p m u + 1)).getD (tl c j) 0 ≤ (p.H.set u (Zo5 c p m u + 1)).getD (hd c j) 0 + 1 := fun j hj h0 => by
  have ht := r.tlh hj
  rw [hHu, hHu]
  by_cases c1 : tl c j = u
  ·
   have := lowV_le r hu hj c1 h0
   rw [if_pos c1, if_neg fun e => ht.2.2.2 (c1.trans e.symm)]; omega
  ·
   rw [if_neg c1]
   have := h.val j hj h0
   by_cases c2 : hd c j = u
   · rw [if_pos c2]; rw [c2] at this; omega
   · rw [if_neg c2]; exact this
 have hreach := Zji r h.ok hnS (fun v hv hvS => h.nn v hv (by omega)) hu hA3
 have hbound := Zm2 (H := fun v => (p.H.set u (Zo5 c p m u + 1)).getD v 0) r hu hval (by simp only [hHu]; rw [if_neg fun e => huS e.symm]; exact h.hs.2.1 S hnS) hreach
 simp only [hHu, if_true] at hbound
 refine ⟨⟨h.ok, h.nn, ⟨by simp [Zm1, lh], fun s hs => ?_, fun t ht => ?_, fun v hv => ?_⟩, hval⟩, hlow⟩
 · simp only [Zm1]; rw [hHu, if_neg (by omega)]; exact h.hs.2.1 s hs
 · simp only [Zm1]; rw [hHu, if_neg (by omega)]; exact h.hs.2.2.1 t ht
 ·
  have h1 := h.hs.2.2.2 v hv
  have h2 := h.hs.2.2.2 u hu
  simp only [Zm1]; rw [hHu]
  by_cases e : v = u
  · rw [if_pos e]; omega
  · rw [if_neg e]; exact h1
end row
end Go.Acq
namespace Go.Acq
open Go
set_option linter.unusedSimpArgs false
theorem Zm3 {α : Type} {z v : α} {k i : Int} : ∀ mp : List (Int × α), Zrf z i (putM k v mp) = if i = k then v else Zrf z i mp
 | [] => by simp only [putM, Zrf]
 | x :: mp => by
  simp only [putM]
  by_cases h : k = x.1
  ·
   rw [if_pos h]; simp only [Zrf]
   by_cases e : i = k
   · rw [if_pos e, if_pos e]
   · rw [if_neg e, if_neg e, if_neg (by omega)]
  ·
   rw [if_neg h]; simp only [Zrf]
   by_cases e : i = x.1
   · rw [if_pos e, if_pos e, if_neg (by omega)]
   · rw [if_neg e, if_neg e, Zm3 mp]
theorem Zl8 {α : Type} {v : α} {k : Int} : ∀ {mp : List (Int × α)} {x : Int × α}, x ∈ putM k v mp → x.1 = k ∨ ∃ y, y ∈ mp ∧ y.1 = x.1
 | [], x, h => by simp only [putM, List.mem_singleton] at h; left; rw [h]
 | y :: mp, x, h => by
  simp only [putM] at h
  by_cases e : k = y.1
  ·
   rw [if_pos e] at h
   rcases List.mem_cons.1 h with h | h
   · left; rw [h]
   · exact .inr ⟨x, List.mem_cons_of_mem _ h, rfl⟩
  ·
   rw [if_neg e] at h
   rcases List.mem_cons.1 h with h | h
   · exact .inr ⟨y, List.mem_cons_self, by rw [h]⟩
   ·
    rcases Zl8 h with h | ⟨z, h1, h2⟩
    · exact .inl h
    · exact .inr ⟨z, List.mem_cons_of_mem _ h1, h2⟩
def Apart {α : Type} : List (Int × α) → Prop
  | [] => True
  | x :: mp => (∀ y, y ∈ mp → y.1 ≠ x.1) ∧ Apart mp
theorem Apart.put {α : Type} {v : α} {k : Int} : ∀ {mp : List (Int × α)}, Apart mp → Apart (putM k v mp)
 | [], _ => ⟨fun y h => (by cases h), trivial⟩
 | x :: mp, h => by
  simp only [putM]
  by_cases e : k = x.1
  · rw [if_pos e]; exact ⟨fun y hy => by rw [e]; exact h.1 y hy, h.2⟩
  ·
   rw [if_neg e]
   refine ⟨fun y hy => ?_, Apart.put h.2⟩
   rcases Zl8 hy with h1 | ⟨z, h1, h2⟩
   · rw [h1]; exact e
   · rw [← h2]; exact h.1 z h1
theorem Apart.at {α : Type} {z : α} (d : Int × α) : ∀ {mp : List (Int × α)} {j : Nat}, Apart mp → j < mp.length → Zrf z (mp.getD j d).1 mp = (mp.getD j d).2
 | [], j, _, h => by simp at h
 | x :: mp, 0, _, _ => by simp [Zrf]
 | x :: mp, j + 1, h, hj => by
  have hj' : j < mp.length := by simpa using hj
  have hm := h.1 _ (Z9h hj' d)
  show Zrf z (mp.getD j d).1 (x :: mp) = (mp.getD j d).2
  simp only [Zrf]
  rw [if_neg hm]; exact Apart.at d h.2 hj'
def hfr (n : Net) (h : Hop) : Int := if h.Back = true then (n.Arcs.getD h.Arc.toNat default).to else (n.Arcs.getD h.Arc.toNat default).fr
def hto (n : Net) (h : Hop) : Int := if h.Back = true then (n.Arcs.getD h.Arc.toNat default).fr else (n.Arcs.getD h.Arc.toNat default).to
def hok (n : Net) (h : Hop) : Prop := 0 ≤ h.Arc ∧ h.Arc < n.Arcs.length
def WayK (n : Net) (l : List Hop) (k : Nat) : Prop := (∀ i, i < k → hok n (l.getD i default)) ∧ ∀ i, i + 1 < k → hfr n (l.getD (i + 1) default) = hto n (l.getD i default)
def Zqq (l : List Hop) (i : Int) : Nat → Int
  | 0 => 0
  | k + 1 => Zqq l i k + (if (l.getD k default).Arc = i then (if (l.getD k default).Back = true then -1 else 1) else 0)
structure MapIs (n : Net) (mp : List (Int × Int)) (l : List Hop) (k : Nat) : Prop where
  val : ∀ i, Zrf 0 i mp = Zqq l i k
  key : ∀ x, x ∈ mp → 0 ≤ x.1 ∧ x.1 < n.Arcs.length
  apart : Apart mp
theorem MapIs.put {n : Net} {mp : List (Int × Int)} {l : List Hop} {k : Nat} (h : MapIs n mp l k) (hk : hok n (l.getD k default)) {v : Int} (hv : v = Zqq l (l.getD k default).Arc k + (if (l.getD k default).Back = true then -1 else 1)) : MapIs n (putM (l.getD k default).Arc v mp) l (k + 1) := by
 refine ⟨fun i => ?_, fun x hx => ?_, h.apart.put⟩
 ·
  rw [Zm3]
  simp only [Zqq]
  by_cases e : i = (l.getD k default).Arc
  · rw [if_pos e, if_pos e.symm, hv, e]
  · rw [if_neg e, if_neg (fun h => e h.symm), h.val, Int.add_zero]
 ·
  rcases Zl8 hx with h1 | ⟨y, h1, h2⟩
  · rw [h1]; exact hk
  · rw [← h2]; exact h.key y h1
end Go.Acq
namespace Go.Acq
open Go
set_option linter.unusedSimpArgs false
def fits (n : Net) (f : List Int) (i : Nat) (c d : Int) : Prop := 0 ≤ f.getD i 0 + d * c ∧ f.getD i 0 + d * c ≤ (n.Arcs.getD i default).cap
theorem Zqx {a b : Int} (ha : 0 ≤ a) (hb : 0 < b) : 0 ≤ a.tdiv b ∧ a.tdiv b ≤ a := by
 rw [Int.tdiv_eq_ediv_of_nonneg ha]
 exact ⟨Int.ediv_nonneg ha (by omega), Int.ediv_le_self b ha⟩
end Go.Acq
namespace Go.Acq
open Go
set_option linter.unusedSimpArgs false
section row
variable {n : Net} {m L : Nat} {c : Csr}
theorem Zri {al : List Arc} {f : List Int} {v : Int} : ∀ {k : Nat}, (∀ i, i < k → f.getD i 0 = 0) → ex al f v k = 0
 | 0, _ => rfl
 | k + 1, h => by simp only [ex]; rw [Zri fun i hi => h i (by omega), h k (by omega)]; simp
theorem s_Begin (r : Row n m L c) : Ok (Z8f c) (fun p => PreOK n m L c p) := by
 have b := r.bd
 obtain ⟨⟨S, hS, hcS, hSm⟩, ⟨T, hT, hcT, hTm⟩, hne, hN⟩ := r.ends
 obtain ⟨-, -, -, lc, -, -⟩ := r.lens
 have hfl := r.first.2.2.2 S hSm
 unfold Z8f
 refine Ok.bind.2 (Zav (Zhx (by omega)) ?_)
 rw [hN, hcS]
 simp only [Int.toNat_natCast]
 obtain ⟨H0, hH0⟩ : ∃ H0, (List.replicate m (0 : Int)).set S m = H0 := ⟨_, rfl⟩
 have hHl : H0.length = m := by rw [← hH0]; simp
 have hHv : ∀ v, H0.getD v 0 = if v = S then (m : Int) else 0 := fun v => by
  rw [← hH0, Zi4, List.length_replicate, Z37]
  by_cases e : v = S
  · rw [if_pos ⟨e.symm, hSm⟩, if_pos e]
  · rw [if_neg fun h => e h.1.symm, if_neg e]
 rw [hH0]
 unfold Z57
 refine Ok.gd.2 ⟨(by omega), Ok.gd.2 ⟨(by omega), Ok.gd.2 ⟨by rw [List.length_replicate]; constructor <;> omega, Ok.bind.2 (Ok.some.2 (Ok.bind.2 (Ok.mono (Zo0 r hSm
  (fun k s => ResOK n m L c s.1 s.2 ∧ (∀ v, v < m → v ≠ S → 0 ≤ s.2.getD v 0) ∧ ∀ i, fs c S ≤ i → i < k → s.1.getD i 0 = 0) (fun _ => False) ⟨⟨lc, by simp, fun j hj => ?_, fun v hv => ?_⟩, fun v hv _ => by rw [Z37]; exact Int.le_refl _, fun i h1 h2 => by omega⟩ fun j s h1 h2 h3 => ?_) ?_)))⟩⟩⟩
 · have := r.cap hj; exact ⟨this.1, this.2.1⟩
 ·
  rw [Z37, Zri fun i hi => ?_]
  rw [Zdb hi]
  by_cases e : (n.Arcs.getD i default).fr = (n.Arcs.getD i default).to
  · rw [if_pos e]
  · rw [if_neg e, (r.is.ok.hat i hi e true).2.2.1]; rfl
 ·
  obtain ⟨xs, ys⟩ := s
  obtain ⟨g1, g2, g3⟩ := h3
  simp only at g1 g2 g3
  have hjL : j < L := by omega
  have ht := (r.range hjL hSm).1 ⟨h1, h2⟩
  have htl := r.tlh hjL
  have hrv := r.rev hjL
  have hle := g1.rle r hjL
  have hxl := g1.lr
  unfold Z6r
  rw [hN, hcS]
  simp only [Int.toNat_natCast, hH0]
  refine Ok.gd.2 ⟨(by omega), Ok.bind.2 (Zav (s_move (p := ⟨xs, ys, H0⟩) r g1 hjL hle.1 (Int.le_refl _)) (Ok.some.2 ⟨g1.move r hjL hle.1 (Int.le_refl _), fun v hv hvS => ?_, fun i h4 h5 => ?_⟩))⟩
  ·
   simp only
   rw [Zhj r g1.lx hjL, ht, if_neg fun e => hvS e.symm]
   have := g2 v hv hvS
   split <;> omega
  ·
   simp only
   have hiL : i < L := by omega
   have hti := (r.range hiL hSm).1 ⟨h4, by omega⟩
   rw [Ze9 r hxl hjL, if_neg fun e => by rw [e, htl.2.1] at hti; exact htl.2.2.2 (ht.trans hti.symm)]
   by_cases e : i = j
   · rw [if_pos e]; omega
   · rw [if_neg e]; exact g3 i h4 (by omega)
 ·
  rintro (⟨xs, ys⟩ | x) h
  ·
   obtain ⟨g1, g2, g3⟩ := h
   simp only at g1 g2 g3
   refine Ok.some.2 ⟨g1, fun v hv hvS => g2 v hv (by omega), ⟨hHl, fun s hs => ?_, fun t ht => ?_, fun v hv => ?_⟩, fun j hj h0 => ?_⟩
   · simp only; rw [hHv, if_pos (by omega)]
   · simp only; rw [hHv, if_neg (by omega)]
   · simp only; rw [hHv]; split <;> omega
   ·
    simp only at h0 ⊢
    rw [hHv, hHv]
    by_cases e : tl c j = S
    ·
     have := (r.range hj hSm).2 e
     rw [g3 j this.1 this.2] at h0; omega
    · rw [if_neg e]; split <;> omega
  · exact h.elim
def StepP (n : Net) (m L : Nat) (c : Csr) (was p : Pre) : Prop :=
  (∃ j, j < L ∧ Zgu n was.Ex (tl c j) ∧ Zjd c was (tl c j) j ∧ p = Znc c was j) ∨ (∃ u, u < m ∧ Ze7 n c was u ∧ p = Zm1 c was m u)
theorem PreOK.hb {p : Pre} (h : PreOK n m L c p) (r : Row n m L c) : HtB m p.H := h.hs.hb r
theorem PreOK.step {was p : Pre} (h : PreOK n m L c was) (r : Row n m L c) (hs : StepP n m L c was p) : PreOK n m L c p := by
 rcases hs with ⟨j, h1, h2, h3, rfl⟩ | ⟨u, h1, h2, rfl⟩
 · exact h.push r h1 h2 h3
 · exact (h.lift r h1 h2).1
def Zes (n : Net) (L : Nat) (c : Csr) (p : Pre) : List Int := Zje (fun j => decide (Zgu n p.Ex (tl c j) ∧ Zjd c p (tl c j) j)) L
def Zd1 (n : Net) (m : Nat) (c : Csr) (p : Pre) : List Int := Zje (fun u => decide (Ze7 n c p u)) m
theorem PreOK.may {p : Pre} (h : PreOK n m L c p) (r : Row n m L c) : Z98 c p = some (Zes n L c p, Zd1 n m c p) := s_May r h.ok.lr h.ok.lx (h.hb r)
theorem idx_lt {k : Int} {l : List Int} (hk : 0 ≤ k) (hl : 0 < l.length) : inb ((k.tdiv 2).tmod (l.length : Int)) l.length := by
 have h1 : 0 ≤ k.tdiv 2 := (Zqx hk (by omega)).1
 have := Zjv h1 (show (0 : Int) < l.length by omega)
 exact ⟨this.1, this.2⟩
theorem push_at {p : Pre} {i : Nat} (h : PreOK n m L c p) (r : Row n m L c) (hi : i < (Zes n L c p).length) : ∃ j, j < L ∧ Zgu n p.Ex (tl c j) ∧ Zjd c p (tl c j) j ∧ (Zes n L c p).getD i 0 = (j : Nat) ∧ Z7m c p ((Zes n L c p).getD i 0) = some (Znc c p j, Zou c p j, 0) := by
 obtain ⟨j, h1, h2, h3⟩ := mem_selN.1 (Z9h hi 0)
 have h2 := of_decide_eq_true h2
 refine ⟨j, h1, h2.1, h2.2, h3, ?_⟩
 have h3' : (Zes n L c p).getD i 0 = (j : Nat) := h3
 rw [h3', s_Push r h.ok (h.hb r) h1, if_pos h2]
theorem lift_at {p : Pre} {i : Nat} (h : PreOK n m L c p) (r : Row n m L c) (hi : i < (Zd1 n m c p).length) : ∃ u, u < m ∧ Ze7 n c p u ∧ (Zd1 n m c p).getD i 0 = (u : Nat) ∧ Z8p c p ((Zd1 n m c p).getD i 0) = some (Zm1 c p m u, 0) := by
 obtain ⟨u, h1, h2, h3⟩ := mem_selN.1 (Z9h hi 0)
 have h2 := of_decide_eq_true h2
 have h3' : (Zd1 n m c p).getD i 0 = (u : Nat) := h3
 refine ⟨u, h1, h2, h3', ?_⟩
 rw [h3', s_Lift r h.ok.lr h.ok.lx (h.hb r) h1, if_pos h2]
theorem row_of {m : Nat} (hc : CsrIs n m c) (hm : n.N = m) (hk : Zal n.N n.S n.T n.Arcs = 0) : Row n m (Z18 n.Arcs m) c := ⟨hc, hk, hm, rfl⟩
end row
end Go.Acq
namespace Go.Acq
open Go
set_option linter.unusedSimpArgs false
set_option linter.unusedVariables false
def Zeb (r5 : Csr) (N101 : Int) (S102 : Int) (T103 : Int) (Res104 : List Int) (Ex114 : List Int) (H124 : List Int) (x134 : Int) (Res233 : List Int) (Ex243 : List Int) (H253 : List Int) (f263 : Int) : Option ((Int × Int × Int × List Int × List Int × List Int × Int) ⊕ ((Bool × Csr × Pre) ⊕ (Int × Int × Int × List Int × List Int × List Int))) :=
  if f263 ≠ 0 then
  (some (.inr (.inl (false, (Csr.mk N101 S102 T103 r5.First r5.Head r5.Rev r5.Cap r5.Arc r5.Back), (Pre.mk Res104 Ex114 H124)))))
  else
  Option.bind (some (true, r5, Pre.mk Res233 Ex243 H253)) fun (r265, r266, r267) =>
  if (!r265) = true then
  (some (.inr (.inl (false, (Csr.mk r266.N r266.S r266.T r5.First r5.Head r5.Rev r5.Cap r5.Arc r5.Back), (Pre.mk Res233 Ex243 H253)))))
  else
  gd (i64ok (x134 + 1)) <|
  some (.inl (r266.N, r266.S, r266.T, Res233, Ex243, H253, (x134 + 1)))
def Zcr (moves1 : List Int) (r5 : Csr) (N101 : Int) (S102 : Int) (T103 : Int) (Res104 : List Int) (Ex114 : List Int) (H124 : List Int) (x134 : Int) (r137 : List Int) (r138 : List Int) (x163 : Bool) : Option ((Int × Int × Int × List Int × List Int × List Int × Int) ⊕ ((Bool × Csr × Pre) ⊕ (Int × Int × Int × List Int × List Int × List Int))) :=
  if x163 = true then
  (gd ((2 : Int) ≠ 0 ∧ i64ok ((moves1.getD x134.toNat 0).tdiv 2)) <|
  gd ((r137.length : Int) ≠ 0) <|
  gd (inb (((moves1.getD x134.toNat 0).tdiv 2).tmod (r137.length : Int)) r137.length) <|
  Option.bind (Z7m r5 (Pre.mk Res104 Ex114 H124) (r137.getD (((moves1.getD x134.toNat 0).tdiv 2).tmod (r137.length : Int)).toNat 0)) fun (r168, r169, r170) =>
  Zeb r5 N101 S102 T103 Res104 Ex114 H124 x134 r168.Res r168.Ex r168.H r170)
  else
  if 0 < (r138.length : Int) then
  (gd ((2 : Int) ≠ 0 ∧ i64ok ((moves1.getD x134.toNat 0).tdiv 2)) <|
  gd ((r138.length : Int) ≠ 0) <|
  gd (inb (((moves1.getD x134.toNat 0).tdiv 2).tmod (r138.length : Int)) r138.length) <|
  Option.bind (Z8p r5 (Pre.mk Res104 Ex114 H124) (r138.getD (((moves1.getD x134.toNat 0).tdiv 2).tmod (r138.length : Int)).toNat 0)) fun (r203, r204) =>
  Zeb r5 N101 S102 T103 Res104 Ex114 H124 x134 r203.Res r203.Ex r203.H r204)
  else
  some (.inr (.inl (true, (Csr.mk N101 S102 T103 r5.First r5.Head r5.Rev r5.Cap r5.Arc r5.Back), (Pre.mk Res104 Ex114 H124))))
def Zk3 (moves1 : List Int) (r5 : Csr) (N101 : Int) (S102 : Int) (T103 : Int) (Res104 : List Int) (Ex114 : List Int) (H124 : List Int) (x134 : Int) : Option ((Int × Int × Int × List Int × List Int × List Int × Int) ⊕ ((Bool × Csr × Pre) ⊕ (Int × Int × Int × List Int × List Int × List Int))) :=
  if x134 < (moves1.length : Int) then
  (gd (inb x134 moves1.length) <|
  Option.bind (Z98 r5 (Pre.mk Res104 Ex114 H124)) fun (r137, r138) =>
  gd (i64ok (moves1.getD x134.toNat 0)) <|
  if 0 < (r137.length : Int) then
  (if ((moves1.getD x134.toNat 0).tmod 2) = 0 then
  (Zcr moves1 r5 N101 S102 T103 Res104 Ex114 H124 x134 r137 r138 true)
  else
  Zcr moves1 r5 N101 S102 T103 Res104 Ex114 H124 x134 r137 r138 (decide ((r138.length : Int) = 0)))
  else
  Zcr moves1 r5 N101 S102 T103 Res104 Ex114 H124 x134 r137 r138 false)
  else
  some (.inr (.inr (N101, S102, T103, Res104, Ex114, H124)))
def Zk4 (r5 : Csr) (N271 : Int) (S272 : Int) (T273 : Int) (Res274 : List Int) (Ex284 : List Int) (H294 : List Int) : Option (Bool × Csr × Pre) :=
  some (true, (Csr.mk N271 S272 T273 r5.First r5.Head r5.Rev r5.Cap r5.Arc r5.Back), (Pre.mk Res274 Ex284 H294))
def Znf (n0 : Net) (moves1 : List Int) : Option (Bool × Csr × Pre) :=
  Option.bind (Z9x n0) fun (r5, r6) =>
  if r6 ≠ 0 then
  (some (false, (Csr.mk 0 0 0 ([]) ([]) ([]) ([]) ([]) ([])), (Pre.mk ([]) ([]) ([]))))
  else
  Option.bind (Z8f r5) fun r65 =>
  Option.bind (some (true, r5, r65)) fun (r96, r97, r98) =>
  if (!r96) = true then
  (some (false, (Csr.mk r97.N r97.S r97.T r5.First r5.Head r5.Rev r5.Cap r5.Arc r5.Back), r65))
  else
  Option.bind (Z29 (fun s => Zk3 moves1 r5 s.1 s.2.1 s.2.2.1 s.2.2.2.1 s.2.2.2.2.1 s.2.2.2.2.2.1 s.2.2.2.2.2.2) Z4m (r97.N, r97.S, r97.T, r65.Res, r65.Ex, r65.H, 0)) fun o => match o with | .inl (p1_0_0, p1_0_1, p1_0_2) => (some (p1_0_0, p1_0_1, p1_0_2)) | .inr (p1_1_0, p1_1_1, p1_1_2, p1_1_3, p1_1_4, p1_1_5) => (Zk4 r5 p1_1_0 p1_1_1 p1_1_2 p1_1_3 p1_1_4 p1_1_5)
section row
variable {n : Net} {m L : Nat} {c : Csr}
theorem s_gPlayC {mv : List Int} (hm : n.N = m) (hk : Zal n.N n.S n.T n.Arcs = 0) (hl : lenok n.Arcs.length) (hmv : mv.length ≤ 1000000) (hb : ∀ x, x ∈ mv → u8ok x) :
    Ok (Znf n mv) (fun t => t.1 = true ∧ ∃ L, Row n m L t.2.1 ∧ PreOK n m L t.2.1 t.2.2) := by
  unfold Znf
  refine Ok.bind.2 (Ok.mono (s_Make hm hk hl) ?_)
  rintro ⟨c, e⟩ ⟨hc, h0⟩
  simp only at hc h0 ⊢
  subst h0
  have r := row_of hc hm hk
  obtain ⟨L, hL⟩ : ∃ L, Z18 n.Arcs m = L := ⟨_, rfl⟩
  rw [hL] at r
  rw [if_neg (by simp)]
  refine Ok.bind.2 (Ok.mono (s_Begin r) fun p0 hp0 => Ok.bind.2 (Ok.some.2 ?_))
  simp only
  rw [if_neg (by simp)]
  refine Ok.bind.2 (Zcz (fun s => ∃ k : Nat, s.2.2.2.2.2.2 = k ∧ k ≤ mv.length ∧ s.1 = c.N ∧ s.2.1 = c.S ∧ s.2.2.1 = c.T ∧ PreOK n m L c ⟨s.2.2.2.1, s.2.2.2.2.1, s.2.2.2.2.2.1⟩) (fun s => (mv.length - s.2.2.2.2.2.2).toNat) ⟨0, rfl, by omega, rfl, rfl, rfl, hp0⟩ (by unfold Z4m; simp only; omega) ?_)
  rintro ⟨N, S, T, R, X, H, x⟩ ⟨k, h1, hk1, hN, hS, hT, hp⟩ P next exit
  simp only at h1 hN hS hT hp next ⊢
  subst h1; subst hN; subst hS; subst hT
  have done : P (.inr (.inr (c.N, c.S, c.T, R, X, H))) := exit _ (by unfold Zk4; exact Ok.some.2 ⟨rfl, L, r, hp⟩)
  have done2 : P (.inr (.inl (true, c, ⟨R, X, H⟩))) := exit _ (Ok.some.2 ⟨rfl, L, r, hp⟩)
  unfold Zk3
  refine Ok.ite.2 ⟨fun hx => ?_, fun hx => Ok.some.2 done⟩
  have hbk := hb _ (Z9h (show k < mv.length by omega) 0)
  simp only [Int.toNat_natCast]
  refine Ok.gd.2 ⟨(by omega), Ok.bind.2 (Zav (hp.may r) (Ok.gd.2 ⟨(by omega), ?_⟩))⟩
  have hdv := Zqx (show 0 ≤ mv.getD k 0 by omega) (show (0 : Int) < 2 by omega)
  have j3 : ∀ q : Pre, StepP n m L c ⟨R, X, H⟩ q → Ok (Zeb c c.N c.S c.T R X H k q.Res q.Ex q.H 0) P := fun q hq => by
    have hq2 := hp.step r hq
    unfold Zeb
    rw [if_neg (by simp)]
    refine Ok.bind.2 (Ok.some.2 ?_)
    simp only
    rw [if_neg (by simp)]
    exact Ok.gd.2 ⟨(by omega), Ok.some.2 (next _ ⟨k + 1, by simp, by omega, rfl, rfl, rfl, hq2⟩ (by simp only; omega))⟩
  have j2 : ∀ b : Bool, (b = true → 0 < (Zes n L c ⟨R, X, H⟩).length) → Ok (Zcr mv c c.N c.S c.T R X H k (Zes n L c ⟨R, X, H⟩) (Zd1 n m c ⟨R, X, H⟩) b) P := by
    intro b hb
    unfold Zcr
    simp only [Int.toNat_natCast]
    refine Ok.ite.2 ⟨fun h => ?_, fun h => Ok.ite.2 ⟨fun h2 => ?_, fun h2 => Ok.some.2 done2⟩⟩
    · have hlen := hb h
      have hi := idx_lt (k := mv.getD k 0) (by omega) hlen
      obtain ⟨i, hie⟩ : ∃ i : Nat, ((mv.getD k 0).tdiv 2).tmod ((Zes n L c ⟨R, X, H⟩).length : Int) = i := ⟨_, (Int.toNat_of_nonneg hi.1).symm⟩
      rw [hie] at hi
      simp only [hie]
      obtain ⟨j, g1, g2, g3, -, g4⟩ := push_at hp r (show i < (Zes n L c ⟨R, X, H⟩).length by have := hi.2; omega)
      refine Ok.gd.2 ⟨⟨by omega, by constructor <;> omega⟩, Ok.gd.2 ⟨(by omega), Ok.gd.2 ⟨hi, ?_⟩⟩⟩
      rw [Int.toNat_natCast, g4]
      refine Ok.bind.2 (Ok.some.2 ?_)
      exact j3 _ (.inl ⟨j, g1, g2, g3, rfl⟩)
    · have hi := idx_lt (k := mv.getD k 0) (by omega) (show 0 < (Zd1 n m c ⟨R, X, H⟩).length by omega)
      obtain ⟨i, hie⟩ : ∃ i : Nat, ((mv.getD k 0).tdiv 2).tmod ((Zd1 n m c ⟨R, X, H⟩).length : Int) = i := ⟨_, (Int.toNat_of_nonneg hi.1).symm⟩
      rw [hie] at hi
      simp only [hie]
      obtain ⟨u, g1, g2, -, g4⟩ := lift_at hp r (show i < (Zd1 n m c ⟨R, X, H⟩).length by have := hi.2; omega)
      refine Ok.gd.2 ⟨⟨by omega, by constructor <;> omega⟩, Ok.gd.2 ⟨(by omega), Ok.gd.2 ⟨hi, ?_⟩⟩⟩
      rw [Int.toNat_natCast, g4]
      refine Ok.bind.2 (Ok.some.2 ?_)
      exact j3 _ (.inr ⟨u, g1, g2, rfl⟩)
  refine Ok.ite.2 ⟨fun h => (have h' : 0 < ((Zes n L c ⟨R, X, H⟩).length : Int) := h; Ok.ite.2 ⟨fun _ => j2 true fun _ => by omega, fun _ => j2 _ fun _ => by omega⟩), fun h => j2 false fun h2 => by cases h2⟩
theorem open_j {R : List Int} (r : Row n m L c) (hR : ∀ j, j < L → 0 ≤ R.getD j 0 ∧ R.getD j 0 + R.getD (rv c j) 0 = cp c j) {u v : Nat} (h : Zjb n (flN n.Arcs R) u v) : OpenJ c L R u v := by
 obtain ⟨i, hi, hne, h⟩ := h
 rw [Zdb hi, if_neg hne] at h
 have ha : ∀ s, hd c (pos n.Arcs i s) = (vtx (n.Arcs.getD i default) (!s)).toNat := fun s => by unfold hd; rw [(r.is.ok.hat i hi hne s).1]
 have ht : ∀ s, tl c (pos n.Arcs i s) = (vtx (n.Arcs.getD i default) s).toNat := fun s => by unfold tl; rw [(r.cpPos hi hne s).2.1, ha, Bool.not_not]
 have e0 := r.he i hi false
 have e1 := r.he i hi true
 obtain ⟨c1, c2, c3⟩ := r.cpPos hi hne false
 obtain ⟨d1, d2, d3⟩ := r.cpPos hi hne true
 have hf := hR _ c3
 simp only [Bool.not_false, Bool.not_true] at c2 d2
 rw [c2, c1] at hf
 rcases h with ⟨a1, a2, a3⟩ | ⟨a1, a2, a3⟩
 ·
  refine ⟨pos n.Arcs i false, c3, ?_, ?_, by omega⟩
  · rw [ht]; simp only [vtx, Bool.false_eq_true, if_false]; omega
  · rw [ha]; simp only [vtx, Bool.not_false, if_true]; omega
 ·
  refine ⟨pos n.Arcs i true, d3, ?_, ?_, by omega⟩
  · rw [ht]; simp only [vtx, if_true]; omega
  · rw [ha]; simp only [vtx, Bool.not_true, Bool.false_eq_true, if_false]; omega
theorem PreOK.far {p : Pre} {S T : Nat} (h : PreOK n m L c p) (r : Row n m L c) (hS : n.S = S) (hT : n.T = T) : ¬Reach (Zjb n (flN n.Arcs p.Res)) S T := fun hr => by
 obtain ⟨⟨S', hS', -, hSm⟩, ⟨T', hT', -, hTm⟩, -, -⟩ := r.ends
 have hr2 : Reach (OpenJ c L p.Res) S T := hr.mono fun u v ho => open_j r h.ok.res ho
 have hp := Zi5 (H := fun v => p.H.getD v 0) (G := OpenJ c L p.Res) (fun u v ⟨j, hj, h1, h2, h3⟩ => by have := h.val j hj h3; rw [h1, h2] at this; exact this) hr2
 have h1 := h.hs.2.1 S hS
 have h2 := h.hs.2.2.1 T hT
 simp only [h1, h2] at hp
 refine Zjz (m := m) (H := fun v => p.H.getD v 0) (a := 0) fun k hk => ?_
 obtain ⟨w, hw, he⟩ := hp k (by omega) (by omega)
 exact ⟨w, Zo4 r (by omega) hw, by omega⟩
theorem PreOK.flow {p : Pre} (h : PreOK n m L c p) (r : Row n m L c) (ha : ∀ u, u < m → ¬Zgu n p.Ex u) : AllP n (flN n.Arcs p.Res) (fun x => x = 0) [n.S, n.T] := by
 refine ⟨h.ok.within r, fun v hv => ?_⟩
 have hm := r.hm
 by_cases hc : (v : Int) ∈ [n.S, n.T]
 · exact .inr hc
 ·
  left
  simp only [List.mem_cons, List.not_mem_nil, or_false, not_or] at hc
  have hvm : v < m := by omega
  have h1 := h.nn v hvm hc.1
  have h2 := h.ok.ex v hvm
  have h3 : ¬0 < p.Ex.getD v 0 := fun h0 => ha v hvm ⟨hc.1, hc.2, h0⟩
  omega
theorem to_tight {f : List Int} {b : List Bool} {T : Nat} (he : Z7c m n.Arcs) (hb : ∀ v, v < m → (b.getD v false = true ↔ ¬Reach (Zjb n f) v T)) : ∀ i, i < n.Arcs.length → Zdg n.Arcs f b i := fun i hi => by
 have e0 := he i hi false
 have e1 := he i hi true
 simp only [vtx, Bool.false_eq_true, if_false, if_true] at e0 e1
 obtain ⟨p, hp⟩ : ∃ p : Nat, (n.Arcs.getD i default).fr = p := ⟨(n.Arcs.getD i default).fr.toNat, by omega⟩
 obtain ⟨q, hq⟩ : ∃ q : Nat, (n.Arcs.getD i default).to = q := ⟨(n.Arcs.getD i default).to.toNat, by omega⟩
 rw [hp] at e0
 rw [hq] at e1
 unfold Zdg inS
 rw [hp, hq, Int.toNat_natCast, Int.toNat_natCast]
 have step : ∀ u v : Nat, u < m → v < m → Zjb n f u v → b.getD u false = true → b.getD v false = true := fun u v hu hv ho h => (hb v hv).2 fun h7 => (hb u hu).1 h (Reach.trans (.step .refl ho) h7)
 refine ⟨fun h4 h5 => Int.not_lt.1 fun h6 => ?_, fun h4 h5 => Int.not_lt.1 fun h6 => ?_⟩
 ·
  have hne : (n.Arcs.getD i default).fr ≠ (n.Arcs.getD i default).to := fun e => by rw [show p = q by omega, h5] at h4; cases h4
  rw [step p q (by omega) (by omega) ⟨i, hi, hne, .inl ⟨hp, hq, h6⟩⟩ h4] at h5; cases h5
 ·
  have hne : (n.Arcs.getD i default).fr ≠ (n.Arcs.getD i default).to := fun e => by rw [show p = q by omega, h5] at h4; cases h4
  rw [step q p (by omega) (by omega) ⟨i, hi, hne, .inr ⟨hq, hp, h6⟩⟩ h5] at h4; cases h4
theorem s_FlowR {R : List Int} (r : Row n m L c) (hr : R.length = L) (hR : ∀ j, j < L → 0 ≤ R.getD j 0 ∧ R.getD j 0 + R.getD (rv c j) 0 = cp c j) : Ok (Z9y c R (n.Arcs.length : Int)) (fun t => t = (flN n.Arcs R, 0)) := by
 have hbd := r.bd
 refine Ok.mono (s_FlowG r.is r.he hbd.2.1 hbd.2.2.1 (fun j hj => ?_) hbd.2.2.1 r.caps (by rw [r.hL]; exact hr)) ?_
 ·
  rw [r.hL] at hj
  obtain ⟨i, s, hi, _, _, _, _, _, _, _, _, h, _⟩ := r.at hj
  omega
 rintro ⟨f, e⟩ (⟨-, h1, h2⟩ | ⟨⟨j, hj, hn⟩, -⟩)
 ·
  simp only at h1 h2
  subst h1
  rw [show f = flN n.Arcs R from Zoz 0 (by rw [h2.1, Zrh]) fun i hi => by
   rw [h2.1] at hi
   rw [h2.2 i, Zdb hi]
   by_cases hne : (n.Arcs.getD i default).fr = (n.Arcs.getD i default).to
   · rw [if_pos hne, if_neg (fun h => h.2.1 hne)]
   · rw [if_neg hne, if_pos ⟨hi, hne, Zdh hi hne r.he⟩]]
 ·
  rw [r.hL] at hj
  exact absurd ((Zox r).2 hR j hj) hn
end row
end Go.Acq
namespace Go.Acq
open Go
set_option linter.unusedSimpArgs false
end Go.Acq
namespace Go.Acq
open Go
set_option linter.unusedSimpArgs false
structure ByteRow (l : List Int) : Prop where
  row : ∀ x, x ∈ l → u8ok x
  len : l.length ≤ 9223372036854775807
theorem Zfp {α : Type} {xs : List α} {y d : α} {i : Nat} (h : i < xs.length) : (xs ++ [y]).getD i d = xs.getD i d := by
 rw [List.getD_eq_getElem?_getD, List.getElem?_append_left h, List.getD_eq_getElem?_getD]
theorem Zfn {α : Type} {xs : List α} {y d : α} {i : Nat} (h : i = xs.length) : (xs ++ [y]).getD i d = y := by
 subst h
 rw [List.getD_eq_getElem?_getD, List.getElem?_append_right (Nat.le_refl _)]; simp
structure PathP (n : Net) (v : Int) (l : List Hop) (w : Int) : Prop where
  way : WayK n l l.length
  start : 0 < l.length → hfr n (l.getD 0 default) = v
  fin : w = if l.length = 0 then v else hto n (l.getD (l.length - 1) default)
theorem PathP.nil (n : Net) (v : Int) : PathP n v [] v := ⟨⟨fun i h => by simp at h, fun i h => by simp at h⟩, fun h => by simp at h, rfl⟩
theorem PathP.app {n : Net} {v w : Int} {l : List Hop} (h : PathP n v l w) {p : Hop} (hp : hok n p) (hw : hfr n p = w) : PathP n v (l ++ [p]) (hto n p) := by
 refine ⟨⟨fun i hi => ?_, fun i hi => ?_⟩, fun _ => ?_, ?_⟩
 ·
  rw [List.length_append, List.length_singleton] at hi
  rcases Nat.lt_or_ge i l.length with h1 | h1
  · rw [Zfp h1]; exact h.way.1 i h1
  · rw [Zfn (by omega)]; exact hp
 ·
  rw [List.length_append, List.length_singleton] at hi
  rcases Nat.lt_or_ge (i + 1) l.length with h1 | h1
  · rw [Zfp h1, Zfp (by omega)]; exact h.way.2 i h1
  · rw [Zfn (by omega), Zfp (by omega), hw, h.fin, if_neg (by omega), show l.length - 1 = i by omega]
 ·
  rcases Nat.lt_or_ge 0 l.length with h1 | h1
  · rw [Zfp h1]; exact h.start h1
  · rw [Zfn (by omega), hw, h.fin, if_pos (by omega)]
 · rw [List.length_append, List.length_singleton, if_neg (by omega), Nat.add_sub_cancel, Zfn rfl]
def one (a b : Int) : Int := if a = b then 1 else 0
def Zoy (h : Hop) : Hop := ⟨h.Arc, !h.Back⟩
theorem hfr_flip (n : Net) (h : Hop) : hfr n (Zoy h) = hto n h := by
 unfold hfr hto Zoy
 cases hB : h.Back <;> simp
theorem hto_flip (n : Net) (h : Hop) : hto n (Zoy h) = hfr n h := by
 unfold hfr hto Zoy
 cases hB : h.Back <;> simp
def BackIs (l b : List Hop) : Prop := b.length = l.length ∧ ∀ q, q < l.length → b.getD q default = Zoy (l.getD (l.length - 1 - q) default)
theorem BackIs.way {n : Net} {l b : List Hop} (h : BackIs l b) (hw : WayK n l l.length) : WayK n b b.length := by
 rw [h.1]
 refine ⟨fun i hi => ?_, fun i hi => ?_⟩
 · rw [h.2 i hi]; exact hw.1 _ (by omega)
 ·
  rw [h.2 i (by omega), h.2 (i + 1) hi, hfr_flip, hto_flip]
  have := hw.2 (l.length - 1 - (i + 1)) (by omega)
  rw [show l.length - 1 - (i + 1) + 1 = l.length - 1 - i by omega] at this
  exact this.symm
theorem BackIs.cnt {l b : List Hop} (h : BackIs l b) (i : Int) : Zqq b i b.length = -Zqq l i l.length := by
 have key : ∀ q, q ≤ l.length → Zqq b i q = Zqq l i (l.length - q) - Zqq l i l.length := by
  intro q
  induction q with
  | zero => intro _; simp only [Zqq, Nat.sub_zero]; omega
  | succ q ih =>
   intro hq
   have e : l.length - q = (l.length - 1 - q) + 1 := by omega
   have ih := ih (by omega)
   rw [e] at ih
   simp only [Zqq] at ih ⊢
   rw [ih, h.2 q (by omega), show l.length - (q + 1) = l.length - 1 - q by omega]
   simp only [Zoy]
   by_cases c : (l.getD (l.length - 1 - q) default).Arc = i
   ·
    by_cases hB : (l.getD (l.length - 1 - q) default).Back = true
    · simp only [c, hB, if_true, Bool.not_true, Bool.false_eq_true, if_false]; omega
    · simp only [c, if_true, Bool.eq_false_iff.2 hB, Bool.not_false, Bool.false_eq_true, if_false]; omega
   · simp only [c, if_false]; omega
 rw [h.1, key _ (Nat.le_refl _), Nat.sub_self]
 simp only [Zqq]; omega
end Go.Acq
namespace Go.Acq
open Go
set_option linter.unusedSimpArgs false
theorem Zlz : Z3x = some true := by decide +kernel
theorem Zrm {k : Nat} {mv : List Int} (h : ∀ x, x ∈ mv → u8ok x) : ∀ x, x ∈ cpy (List.replicate k (0 : Int)) mv → u8ok x := by
 intro x hx
 unfold cpy at hx
 rcases List.mem_append.1 hx with hx | hx
 · exact h x (List.mem_of_mem_take hx)
 ·
  have := List.mem_of_mem_drop hx
  rw [List.eq_of_mem_replicate this]; constructor <;> omega
theorem p_PreEnds {n : Net} {mv : List Int} (hn : NetIn n) (hmv : ByteRow mv) : Z55 n mv = some true := by
 refine Zhd ?_
 unfold Z55
 refine Ok.bind.2 (Ok.mono (s_Some hn (by omega) (by omega) (by omega) (by omega)) fun q hr => ?_)
 obtain ⟨m, hm, hso⟩ := hr.nat
 have hlen := hr.arcs
 have hll : lenok q.Arcs.length := by omega
 have aw : Ok (Option.bind Z3x fun r => some r) (fun a => a = true) := Ok.bind.2 (Zav Zlz (Ok.some.2 rfl))
 refine Ok.gd.2 ⟨(by omega), Ok.bind.2 ?_⟩
 rw [show ∀ a b, Z2o a b = Znf a b from fun _ _ => rfl]
 refine Ok.mono (s_gPlayC hm hr.check (by omega) (by rw [Zrj List.length_replicate]; omega) (Zrm hmv.row)) ?_
 rintro ⟨b, c, p⟩ ⟨h1, L, r, hp⟩
 simp only at h1 r hp ⊢
 subst h1
 rw [if_neg (by simp), if_neg (by have := hp.ok.lx; omega)]
 refine Ok.bind.2 (Zav (s_Active r hp.ok.lx) (Ok.ite.2 ⟨fun _ => aw, fun h0 => ?_⟩))
 have ha : ∀ u, u < m → ¬Zgu q p.Ex u := fun u hu h => by
  have : ((u : Nat) : Int) ∈ Zje (fun u => decide (Zgu q p.Ex u)) m := mem_selN.2 ⟨u, hu, decide_eq_true h, rfl⟩
  have := List.length_pos_of_mem this
  omega
 obtain ⟨⟨S, hS, -, hSm⟩, ⟨T, hT, -, hTm⟩, -, -⟩ := r.ends
 have hAll := hp.flow r ha
 have hw := hAll.1
 have hnr := hp.far r hS hT
 have hx := hp.ok.ex T hTm
 refine Ok.bind.2 (Ok.mono (s_FlowR r hp.ok.lr hp.ok.res) ?_)
 rintro _ rfl
 simp only
 refine Ok.bind.2 (Ok.mono (s_Value hll) ?_)
 rintro ⟨v, e⟩ (⟨-, h⟩ | ⟨h, -⟩)
 rotate_left
 · exact absurd hAll h
 injection h with h1 h2
 subst h2
 refine Ok.bind.2 (Ok.mono (s_To hll) ?_)
 rintro ⟨b, e2⟩ (⟨-, h3, lb, hb⟩ | ⟨h, -⟩)
 rotate_left
 · exact absurd hw h
 simp only at h3 lb hb ⊢
 subst h3
 rw [hm, Int.toNat_natCast] at lb hb
 rw [hT, Int.toNat_natCast] at hb
 have bS : b.getD S false = true := (hb S hSm).2 hnr
 have bT : b.getD T false = false := by rw [Bool.eq_false_iff]; intro h; exact (hb T hTm).1 h .refl
 have cutB : CutR q b := ⟨hr.check, by omega, by unfold inS; rw [hS, Int.toNat_natCast]; exact bS, by unfold inS; rw [hT, Int.toNat_natCast]; exact bT⟩
 have tB := to_tight r.he hb
 refine Ok.bind.2 (Ok.mono (s_Cap hll) ?_)
 rintro ⟨y, e⟩ (⟨-, h⟩ | ⟨h, -⟩)
 rotate_left
 · exact absurd cutB h
 injection h with h5 h6
 subst h6
 have h7 := Zro (c := b) hw.2.2 q.Arcs.length (Nat.le_refl _)
 rw [Zng hm r.he hAll cutB] at h7
 have h8 := h7.2.2 tB
 simp only
 rw [if_pos trivial]
 unfold Z35
 rw [if_pos (by simp)]
 unfold Z34
 rw [if_pos (by simp)]
 unfold Z33
 rw [if_pos (by simp)]
 unfold Z32
 rw [if_pos (by simp only [decide_eq_true_eq]; omega)]
 have hlx := hp.ok.lx
 refine Ok.gd.2 ⟨(by omega), ?_⟩
 unfold Z31
 rw [if_pos (by rw [hT, Int.toNat_natCast, decide_eq_true_eq, hx, h1, hT])]
 refine Ok.bind.2 (Ok.mono (s_Tight hll) fun t ht => ?_)
 rw [ht.2 ⟨cutB, hw, tB⟩]
 unfold Z30
 rw [if_pos rfl]
 exact Ok.bind.2 (Zav Zlz (by unfold Z2z; exact Ok.some.2 rfl))
end Go.Acq
