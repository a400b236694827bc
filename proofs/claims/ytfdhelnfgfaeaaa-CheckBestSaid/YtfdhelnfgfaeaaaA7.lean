/- Texts of this claim, one behind the other. -/
import Derived.Test.YtfdhelnfgfaeaaaA6
import Derived.Test.YtfdhelnfgfaeaaaA1
import Derived.Test.YtfdhelnfgfaeaaaA2
set_option linter.unusedVariables false
set_option linter.unusedSimpArgs false
namespace Go.Acq
open Go
set_option linter.unusedSimpArgs false
def Zeq (g : Nat → Int) : Nat → Int
  | 0 => 0
  | k + 1 => Zeq g k + g k
theorem Ze0 {g h : Nat → Int} : ∀ {k : Nat}, (∀ i, i < k → g i = h i) → Zeq g k = Zeq h k
 | 0, _ => rfl
 | k + 1, e => by simp only [Zeq]; rw [Ze0 fun i hi => e i (by omega), e k (by omega)]
theorem Zhc (g h : Nat → Int) : ∀ k, Zeq (fun i => g i + h i) k = Zeq g k + Zeq h k
 | 0 => rfl
 | k + 1 => by simp only [Zeq, Zhc g h k]; omega
theorem Zhl {g : Nat → Int} {k : Nat} (h : ∀ i, i < k → g i = 0) : Zeq g k = 0 := by
 induction k with
 | zero => rfl
 | succ k ih => simp only [Zeq]; rw [ih fun i hi => h i (by omega), h k (by omega)]; rfl
theorem Zcp {g : Nat → Int} {i : Nat} : ∀ {k : Nat}, i < k → (∀ j, j < k → j ≠ i → g j = 0) → Zeq g k = g i
 | 0, h, _ => by omega
 | k + 1, h, e => by
  simp only [Zeq]
  by_cases c : i = k
  · subst c; rw [Zhl fun j hj => e j (by omega) (by omega)]; omega
  · rw [Zcp (show i < k by omega) fun j hj hne => e j (by omega) hne, e k (by omega) (fun h => c h.symm)]; omega
theorem Zkw (F : Nat → Nat → Int) (K : Nat) : ∀ L, Zeq (fun j => Zeq (fun i => F i j) K) L = Zeq (fun i => Zeq (fun j => F i j) L) K
 | 0 => (Zhl fun _ _ => rfl).symm
 | L + 1 => by
  simp only [Zeq]
  rw [Zkw F K L, ← Zhc]
theorem Zqj {g h : Nat → Int} : ∀ {k : Nat}, (∀ i, i < k → g i ≤ h i) → Zeq g k ≤ Zeq h k
 | 0, _ => Int.le_refl _
 | k + 1, e => by
  have := Zqj (k := k) fun i hi => e i (by omega)
  have := e k (by omega)
  simp only [Zeq]; omega
theorem posSum {al : List Arc} {m : Nat} (he : Z52 m al) (g : Nat → Int) : Zeq g (Z11 al m) = Zeq (fun i => if (al.getD i default).fr = (al.getD i default).to then 0 else g (pos al i false) + g (pos al i true)) al.length := by
 let F : Nat → Nat → Int := fun i j => if (al.getD i default).fr = (al.getD i default).to then 0 else (if pos al i false = j then g j else 0) + (if pos al i true = j then g j else 0)
 have e1 : Zeq g (Z11 al m) = Zeq (fun j => Zeq (fun i => F i j) al.length) (Z11 al m) := by
  refine Ze0 fun j hj => ?_
  obtain ⟨i, s, hi, hne, hp, _⟩ := Zhf (al := al) hj
  rw [Zcp (i := i) hi]
  ·
   simp only [F]
   rw [if_neg hne]
   cases s
   ·
    have h2 : pos al i true ≠ j := fun e => by have := (Z8r he hi hi hne hne (hp.trans e.symm)).2; cases this
    rw [if_pos hp, if_neg h2]; omega
   ·
    have h2 : pos al i false ≠ j := fun e => by have := (Z8r he hi hi hne hne (hp.trans e.symm)).2; cases this
    rw [if_neg h2, if_pos hp]; omega
  ·
   intro i' hi' hii
   simp only [F]
   by_cases c : (al.getD i' default).fr = (al.getD i' default).to
   · rw [if_pos c]
   · rw [if_neg c, if_neg fun e => hii (Z8r he hi' hi c hne (e.trans hp.symm)).1, if_neg fun e => hii (Z8r he hi' hi c hne (e.trans hp.symm)).1]; rfl
 rw [e1, Zkw]
 refine Ze0 fun i hi => ?_
 by_cases c : (al.getD i default).fr = (al.getD i default).to
 ·
  rw [if_pos c]
  exact Zhl fun j _ => by simp only [F]; rw [if_pos c]
 ·
  rw [if_neg c]
  have e2 : Zeq (fun j => F i j) (Z11 al m) = Zeq (fun j => (if pos al i false = j then g j else 0) + (if pos al i true = j then g j else 0)) (Z11 al m) := Ze0 fun j _ => by simp only [F]; rw [if_neg c]
  rw [e2, Zhc, Zcp (i := pos al i false) (Zdi hi c he) fun j _ hj => if_neg fun e => hj e.symm, Zcp (i := pos al i true) (Zdi hi c he) fun j _ hj => if_neg fun e => hj e.symm, if_pos rfl, if_pos rfl]
def hd (c : Csr) (j : Nat) : Nat := (c.Head.getD j 0).toNat
def rv (c : Csr) (j : Nat) : Nat := (c.Rev.getD j 0).toNat
def fs (c : Csr) (v : Nat) : Nat := (c.First.getD v 0).toNat
def tl (c : Csr) (j : Nat) : Nat := hd c (rv c j)
def bk (c : Csr) (j : Nat) : Bool := c.Back.getD j false
def cp (c : Csr) (j : Nat) : Int := max (c.Cap.getD j 0) (c.Cap.getD (rv c j) 0)
structure Row (n : Net) (m L : Nat) (c : Csr) : Prop where
  is : CsrIs n m c
  chk : Z7t n.N n.S n.T n.Arcs = 0
  hm : n.N = m
  hL : Z11 n.Arcs m = L
section row
variable {n : Net} {m L : Nat} {c : Csr}
theorem Row.he (r : Row n m L c) : Z52 m n.Arcs := Z7f (by rw [← r.hm]; exact (Z1t r.chk).2.2.2.1)
theorem Row.bd (r : Row n m L c) : 2 ≤ m ∧ m ≤ 4096 ∧ n.Arcs.length ≤ 16384 ∧ L ≤ 67108864 := by
 have hz := Z1t r.chk
 have := r.hm
 have hb := Z7u (al := n.Arcs) (v := m) (by omega) (by omega)
 have := r.hL
 omega
theorem Row.ends (r : Row n m L c) : (∃ S : Nat, n.S = S ∧ c.S = S ∧ S < m) ∧ (∃ T : Nat, n.T = T ∧ c.T = T ∧ T < m) ∧ n.S ≠ n.T ∧ c.N = m := by
 have hz := Z1t r.chk
 simp only [Z3q, decide_eq_true_eq] at hz
 have h1 := r.hm
 have h2 := r.is.hS
 have h3 := r.is.hT
 exact ⟨⟨n.S.toNat, by omega, by omega, by omega⟩, ⟨n.T.toNat, by omega, by omega, by omega⟩, hz.2.2.1.2.2, r.is.hN⟩
theorem Row.caps (r : Row n m L c) : ∀ i, i < n.Arcs.length → 0 ≤ (n.Arcs.getD i default).cap ∧ (n.Arcs.getD i default).cap ≤ 4611686018427387904 := fun i hi => by
 have h0 := Z9t r.chk i hi
 have h1 := Zdd r.chk (i + 1) hi
 have h2 := Zdd r.chk i (by omega)
 simp only [Znw] at h1
 omega
theorem Row.lens (r : Row n m L c) : c.First.length = m + 1 ∧ c.Head.length = L ∧ c.Rev.length = L ∧ c.Cap.length = L ∧ c.Arc.length = L ∧ c.Back.length = L := by
 have h := r.is.ok
 rw [← r.hL]
 exact ⟨h.lf, h.lh, h.lr, h.lc, h.la, h.lb⟩
theorem Row.at (r : Row n m L c) {j : Nat} (hj : j < L) : ∃ i s, i < n.Arcs.length ∧ (n.Arcs.getD i default).fr ≠ (n.Arcs.getD i default).to ∧ pos n.Arcs i s = j ∧ c.Head.getD j 0 = (hd c j : Nat) ∧ (hd c j : Int) = vtx (n.Arcs.getD i default) (!s) ∧ (tl c j : Int) = vtx (n.Arcs.getD i default) s ∧
    c.Rev.getD j 0 = (rv c j : Nat) ∧ rv c j = pos n.Arcs i (!s) ∧ c.Cap.getD j 0 = (if s then 0 else (n.Arcs.getD i default).cap) ∧ c.Arc.getD j 0 = i ∧ bk c j = s := by
  obtain ⟨i, s, hi, hne, hp, q1, q2, q3, q4, q5⟩ := r.is.ok.place (by rw [r.hL]; exact hj)
  have hv := r.he i hi (!s)
  have hv2 := r.he i hi s
  have hr : rv c j = pos n.Arcs i (!s) := by unfold rv; rw [q2, Int.toNat_natCast]
  refine ⟨i, s, hi, hne, hp, by unfold hd; omega, by unfold hd; omega, ?_, by unfold rv; omega, hr, q3, q4, q5⟩
  unfold tl hd
  rw [hr, (r.is.ok.hat i hi hne (!s)).1, Bool.not_not]; omega
theorem Row.head (r : Row n m L c) {j : Nat} (hj : j < L) : c.Head.getD j 0 = (hd c j : Nat) ∧ hd c j < m := by
 obtain ⟨i, s, hi, hne, hp, q1, q2, q3, q4, q5, q6, q7, q8⟩ := r.at hj
 have hv := r.he i hi (!s)
 exact ⟨q1, by omega⟩
theorem Row.rev (r : Row n m L c) {j : Nat} (hj : j < L) : c.Rev.getD j 0 = (rv c j : Nat) ∧ rv c j < L ∧ rv c (rv c j) = j ∧ rv c j ≠ j := by
 obtain ⟨i, s, hi, hne, hp, q1, q2, q3, q4, q5, q6, q7, q8⟩ := r.at hj
 have hq : pos n.Arcs i (!s) < L := by rw [← r.hL]; exact Zdi hi hne r.he
 refine ⟨q4, by rw [q5]; exact hq, ?_, fun e => ?_⟩
 ·
  have := (r.is.ok.hat i hi hne (!s)).2.1
  rw [q5]; unfold rv; rw [this, Int.toNat_natCast, Bool.not_not, hp]
 ·
  have := (Z8r r.he hi hi hne hne (q5.symm.trans (e.trans hp.symm))).2
  cases s <;> cases this
theorem Row.tlh (r : Row n m L c) {j : Nat} (hj : j < L) : tl c j < m ∧ tl c (rv c j) = hd c j ∧ hd c (rv c j) = tl c j ∧ tl c j ≠ hd c j := by
 obtain ⟨i, s, hi, hne, hp, q1, q2, q3, q4, q5, q6, q7, q8⟩ := r.at hj
 have hv := r.he i hi s
 refine ⟨by omega, ?_, rfl, fun e => ?_⟩
 · unfold tl; rw [(r.rev hj).2.2.1]
 ·
  apply hne
  have : vtx (n.Arcs.getD i default) s = vtx (n.Arcs.getD i default) (!s) := by omega
  cases s <;> simpa [vtx, eq_comm] using this
theorem Row.back (r : Row n m L c) {j : Nat} (hj : j < L) : bk c (rv c j) = !bk c j := by
 obtain ⟨i, s, hi, hne, hp, q1, q2, q3, q4, q5, q6, q7, q8⟩ := r.at hj
 unfold bk at q8 ⊢
 rw [q5, (r.is.ok.hat i hi hne (!s)).2.2.2.2, q8]
theorem Row.first (r : Row n m L c) : (∀ v, v ≤ m → c.First.getD v 0 = (fs c v : Nat) ∧ fs c v = Z11 n.Arcs v) ∧ fs c 0 = 0 ∧ fs c m = L ∧ ∀ v, v < m → fs c v ≤ fs c (v + 1) ∧ fs c (v + 1) ≤ L := by
 have h : ∀ v, v ≤ m → c.First.getD v 0 = (fs c v : Nat) ∧ fs c v = Z11 n.Arcs v := fun v hv => by
  have := r.is.ok.hf v hv
  unfold fs; rw [this, Int.toNat_natCast]; exact ⟨rfl, rfl⟩
 refine ⟨h, by rw [(h 0 (by omega)).2]; rfl, by rw [(h m (Nat.le_refl _)).2]; exact r.hL, fun v hv => ?_⟩
 rw [(h v (by omega)).2, (h (v + 1) (by omega)).2, ← r.hL]
 exact ⟨Z57 (by omega), Z57 (by omega)⟩
theorem Row.range (r : Row n m L c) {j u : Nat} (hj : j < L) (hu : u < m) : (fs c u ≤ j ∧ j < fs c (u + 1)) ↔ tl c j = u := by
 obtain ⟨i, s, hi, hne, hp, q1, q2, q3, q4, q5, q6, q7, q8⟩ := r.at hj
 have hv := r.he i hi s
 have f1 := (r.first.1 u (by omega)).2
 have f2 := (r.first.1 (u + 1) (by omega)).2
 constructor
 ·
  rintro ⟨h1, h2⟩
  have := (Zqv (v := u) hi hne hv.1 (by omega) (by omega)).1
  omega
 ·
  intro h
  have hcl := Zgr (s := s) hi hne hv.1
  have hpos : pos n.Arcs i s = Z11 n.Arcs (vtx (n.Arcs.getD i default) s).toNat + cnt n.Arcs (vtx (n.Arcs.getD i default) s).toNat i := rfl
  have e : (vtx (n.Arcs.getD i default) s).toNat = u := by omega
  rw [e] at hcl hpos
  have hb1 : Z11 n.Arcs (u + 1) = Z11 n.Arcs u + cnt n.Arcs u n.Arcs.length := rfl
  omega
theorem Row.cap (r : Row n m L c) {j : Nat} (hj : j < L) : 0 ≤ c.Cap.getD j 0 ∧ c.Cap.getD j 0 + c.Cap.getD (rv c j) 0 = cp c j ∧ cp c (rv c j) = cp c j ∧ 0 ≤ cp c j ∧ cp c j ≤ 4611686018427387904 ∧ (bk c j = true → c.Cap.getD j 0 = 0) := by
 obtain ⟨i, s, hi, hne, hp, q1, q2, q3, q4, q5, q6, q7, q8⟩ := r.at hj
 have hc := r.caps i hi
 have h2 : c.Cap.getD (rv c j) 0 = if (!s) then 0 else (n.Arcs.getD i default).cap := by rw [q5]; exact (r.is.ok.hat i hi hne (!s)).2.2.1
 have h3 := (r.rev hj).2.2.1
 unfold cp
 rw [h3, q6, h2, q8]
 cases s
 · simp only [Bool.not_false, if_true, Bool.false_eq_true, if_false, false_implies, and_true]; omega
 · simp only [Bool.not_true, if_true, Bool.false_eq_true, if_false, true_implies, and_true]; omega
theorem Row.cpPos (r : Row n m L c) {i : Nat} (hi : i < n.Arcs.length) (hne : (n.Arcs.getD i default).fr ≠ (n.Arcs.getD i default).to) (s : Bool) : cp c (pos n.Arcs i s) = (n.Arcs.getD i default).cap ∧ rv c (pos n.Arcs i s) = pos n.Arcs i (!s) ∧ pos n.Arcs i s < L := by
 have z := r.is.ok.hat i hi hne s
 have z2 := r.is.ok.hat i hi hne (!s)
 have hc := r.caps i hi
 have hr : rv c (pos n.Arcs i s) = pos n.Arcs i (!s) := by unfold rv; rw [z.2.1, Int.toNat_natCast]
 refine ⟨?_, hr, by rw [← r.hL]; exact Zdi hi hne r.he⟩
 unfold cp
 rw [hr, z.2.2.1, z2.2.2.1]
 cases s <;> simp only [Bool.not_true, Bool.not_false, if_true, Bool.false_eq_true, if_false] <;> omega
theorem s_arcs {S X : Type} {y : S → Int → Option (S ⊕ X)} {s0 : S} {u : Nat} (r : Row n m L c) (hu : u < m) (I : Nat → S → Prop) (J : X → Prop) (h0 : I (fs c u) s0)
    (hstep : ∀ j s, fs c u ≤ j → j < fs c (u + 1) → I j s → Ok (y s (j : Nat)) (fun t => match t with | .inl s' => I (j + 1) s' | .inr x => J x)) :
    Ok (Zbl y c (u : Nat) (.inl s0)) (fun t => match t with | .inl s => I (fs c (u + 1)) s | .inr x => J x) := by
  have lf := r.lens.1
  have b := r.bd
  have f1 := (r.first.1 u (by omega)).1
  have f2 := (r.first.1 (u + 1) (by omega)).1
  have f3 := r.first.2.2.2 u hu
  have e1 : ((u : Int) + 1).toNat = u + 1 := by omega
  unfold Zbl
  simp only [Int.toNat_natCast, f1]
  refine Ok.gd.2 ⟨(by omega), Ok.bind.2 (Z7g (fun s => ∃ (k : Nat) (st : S), s = ((k : Int), Sum.inl st) ∧ fs c u ≤ k ∧ k ≤ fs c (u + 1) ∧ I k st) (fun s => (fs c (u + 1) - s.1).toNat) ⟨fs c u, s0, rfl, Nat.le_refl _, f3.1, h0⟩ (by unfold Z3k; simp only; omega) ?_)⟩
  rintro s ⟨k, st, rfl, hk0, hk, hI⟩ P next exit
  unfold Zdj
  simp only [Int.toNat_natCast, e1, f2]
  refine Ok.gd.2 ⟨(by omega), Ok.gd.2 ⟨(by omega), Ok.ite.2 ⟨fun hx => ?_, fun hx => Ok.some.2 (exit _ (Ok.some.2 ?_))⟩⟩⟩
  · refine Ok.bind.2 ?_
    show Ok (y st _) _
    refine Ok.mono (hstep k st hk0 (by omega) hI) ?_
    rintro (s' | x) hr
    · exact Ok.ite.2 ⟨fun h => by simp at h, fun _ => Ok.gd.2 ⟨(by omega), Ok.some.2 (next _ ⟨k + 1, s', by simp, by omega, by omega, hr⟩ (by simp only; omega))⟩⟩
    · exact Ok.ite.2 ⟨fun _ => Ok.some.2 (exit _ (Ok.some.2 hr)), fun h => by simp at h⟩
  · obtain rfl : k = fs c (u + 1) := by omega
    exact hI
def flN (al : List Arc) (R : List Int) : List Int := (List.range al.length).map fun i => if (al.getD i default).fr = (al.getD i default).to then 0 else R.getD (pos al i true) 0
theorem Zcw (al : List Arc) (R : List Int) : (flN al R).length = al.length := by simp [flN]
theorem Z9h {al : List Arc} {R : List Int} {i : Nat} (h : i < al.length) : (flN al R).getD i 0 = if (al.getD i default).fr = (al.getD i default).to then 0 else R.getD (pos al i true) 0 := by
 unfold flN
 rw [List.getD_eq_getElem?_getD, List.getElem?_map, List.getElem?_range h]; rfl
structure ResOK (n : Net) (m L : Nat) (c : Csr) (R X : List Int) : Prop where
  lr : R.length = L
  lx : X.length = m
  res : ∀ j, j < L → 0 ≤ R.getD j 0 ∧ R.getD j 0 + R.getD (rv c j) 0 = cp c j
  ex : ∀ v : Nat, v < m → X.getD v 0 = ex n.Arcs (flN n.Arcs R) v n.Arcs.length
theorem Zo6 {R : List Int} (r : Row n m L c) (h : ∀ j, j < L → 0 ≤ R.getD j 0 ∧ R.getD j 0 + R.getD (rv c j) 0 = cp c j) : FwithinP n (flN n.Arcs R) := by
 refine ⟨r.chk, Zcw _ _, fun i hi => ?_⟩
 rw [Z9h hi]
 have hc := r.caps i hi
 by_cases e : (n.Arcs.getD i default).fr = (n.Arcs.getD i default).to
 · rw [if_pos e]; omega
 ·
  rw [if_neg e]
  obtain ⟨a1, a2, a3⟩ := r.cpPos hi e true
  have h1 := h _ a3
  have h2 := h _ (r.rev a3).2.1
  omega
theorem ResOK.within {R X : List Int} (h : ResOK n m L c R X) (r : Row n m L c) : FwithinP n (flN n.Arcs R) := Zo6 r h.res
theorem Zqe {f : List Int} (hw : FwithinP n f) (v : Int) : -4611686018427387904 ≤ ex n.Arcs f v n.Arcs.length ∧ ex n.Arcs f v n.Arcs.length ≤ 4611686018427387904 := by
 have := Zoe (al := n.Arcs) v (fun i hi => (hw.2.2 i hi).1) n.Arcs.length (Nat.le_refl _)
 have := hw.tot n.Arcs.length (Nat.le_refl _)
 omega
theorem ResOK.rle {R X : List Int} (h : ResOK n m L c R X) (r : Row n m L c) {j : Nat} (hj : j < L) : 0 ≤ R.getD j 0 ∧ R.getD j 0 ≤ cp c j ∧ R.getD j 0 ≤ 4611686018427387904 := by
 have h1 := h.res j hj
 have h2 := h.res _ (r.rev hj).2.1
 have h3 := r.cap hj
 omega
def mvR (c : Csr) (R : List Int) (j : Nat) (d : Int) : List Int := (R.set j (R.getD j 0 - d)).set (rv c j) (R.getD (rv c j) 0 + d)
def mvX (c : Csr) (X : List Int) (j : Nat) (d : Int) : List Int := (X.set (tl c j) (X.getD (tl c j) 0 - d)).set (hd c j) (X.getD (hd c j) 0 + d)
theorem Zbk {R : List Int} {j k : Nat} {d : Int} (r : Row n m L c) (hl : R.length = L) (hj : j < L) : (mvR c R j d).getD k 0 = if k = rv c j then R.getD (rv c j) 0 + d else if k = j then R.getD j 0 - d else R.getD k 0 := by
 have := r.rev hj
 unfold mvR
 rw [Ze4, Ze4, List.length_set]
 by_cases c1 : k = rv c j
 · rw [if_pos ⟨c1.symm, by omega⟩, if_pos c1]
 ·
  rw [if_neg fun h => c1 h.1.symm, if_neg c1]
  by_cases c2 : k = j
  · rw [if_pos ⟨c2.symm, by omega⟩, if_pos c2]
  · rw [if_neg fun h => c2 h.1.symm, if_neg c2]
theorem Zk3 {X : List Int} {j k : Nat} {d : Int} (r : Row n m L c) (hl : X.length = m) (hj : j < L) : (mvX c X j d).getD k 0 = X.getD k 0 - (if tl c j = k then d else 0) + (if hd c j = k then d else 0) := by
 have h1 := r.tlh hj
 have h2 := r.head hj
 unfold mvX
 rw [Ze4, Ze4, List.length_set]
 by_cases c1 : hd c j = k
 ·
  subst c1
  rw [if_pos ⟨rfl, by omega⟩, if_neg h1.2.2.2, if_pos rfl]; omega
 ·
  rw [if_neg fun h => c1 h.1]
  by_cases c2 : tl c j = k
  ·
   subst c2
   rw [if_pos ⟨rfl, by omega⟩, if_pos rfl, if_neg c1]; omega
  · rw [if_neg fun h => c2 h.1, if_neg c2, if_neg c1]; omega
theorem ex_bump {al : List Arc} {f g : List Int} {i : Nat} {δ : Int} {K : Nat} (v : Int) (hi : i < K) (h : ∀ k, k < K → g.getD k 0 = f.getD k 0 + if k = i then δ else 0) :
    ex al g v K = ex al f v K + ((if (al.getD i default).to = v then δ else 0) - (if (al.getD i default).fr = v then δ else 0)) := by
  have key : ∀ k, k ≤ K → ex al g v k = ex al f v k + if i < k then ((if (al.getD i default).to = v then δ else 0) - (if (al.getD i default).fr = v then δ else 0)) else 0 := by
    intro k
    induction k with
    | zero => intro _; rw [if_neg (by omega)]; rfl
    | succ k ih =>
      intro hk
      simp only [ex]
      rw [ih (by omega), h k (by omega)]
      by_cases e : k = i
      · subst e
        rw [if_neg (show ¬ k < k by omega), if_pos rfl, if_pos (show k < k + 1 by omega)]
        split <;> split <;> omega
      · rw [if_neg e]
        by_cases e2 : i < k
        · rw [if_pos e2, if_pos (show i < k + 1 by omega)]; simp only [Int.add_zero]; omega
        · rw [if_neg e2, if_neg (show ¬ i < k + 1 by omega)]; simp only [Int.add_zero]
  rw [key K (Nat.le_refl _), if_pos hi]
theorem ResOK.move {R X : List Int} {j : Nat} {d : Int} (h : ResOK n m L c R X) (r : Row n m L c) (hj : j < L) (d0 : 0 ≤ d) (d1 : d ≤ R.getD j 0) : ResOK n m L c (mvR c R j d) (mvX c X j d) := by
 have hr := r.rev hj
 have hlr := h.lr
 have hlx := h.lx
 refine ⟨by simp [mvR, hlr], by simp [mvX, hlx], fun k hk => ?_, fun v hv => ?_⟩
 ·
  have hk2 := r.rev hk
  have a := h.res k hk
  have a2 := h.res _ hr.2.1
  have a3 := h.res j hj
  have a4 := r.cap hj
  rw [Zbk r hlr hj, Zbk r hlr hj]
  by_cases c1 : k = rv c j
  ·
   subst c1
   rw [if_pos rfl, hr.2.2.1, if_neg fun e => hr.2.2.2 e.symm, if_pos rfl, a4.2.2.1]; omega
  ·
   by_cases c2 : k = j
   ·
    subst c2
    rw [if_neg c1, if_pos rfl, if_pos rfl]; omega
   ·
    have c3 : rv c k ≠ rv c j := fun e => c2 (by rw [← hk2.2.2.1, e, hr.2.2.1])
    have c4 : rv c k ≠ j := fun e => c1 (by rw [← e, hk2.2.2.1])
    rw [if_neg c1, if_neg c2, if_neg c3, if_neg c4]; exact a
 ·
  obtain ⟨i, s, hi, hne, hp, q1, q2, q3, q4, q5, q6, q7, q8⟩ := r.at hj
  rw [Zk3 r hlx hj, h.ex v hv, ex_bump (f := flN n.Arcs R) (g := flN n.Arcs (mvR c R j d)) (i := i) (δ := if s then -d else d) (v : Int) hi fun k hk => ?_]
  ·
   have t1 : (tl c j = v) ↔ vtx (n.Arcs.getD i default) s = (v : Int) := by rw [← q3]; omega
   have t2 : (hd c j = v) ↔ vtx (n.Arcs.getD i default) (!s) = (v : Int) := by rw [← q2]; omega
   simp only [t1, t2]
   cases s <;> simp only [vtx, Bool.not_false, Bool.not_true, if_true, if_false, Bool.false_eq_true] <;> split <;> split <;> omega
  ·
   rw [Z9h hk, Z9h hk]
   by_cases e : (n.Arcs.getD k default).fr = (n.Arcs.getD k default).to
   ·
    have : k ≠ i := fun e2 => by subst e2; exact hne e
    rw [if_pos e, if_pos e, if_neg this]; rfl
   ·
    rw [if_neg e, if_neg e, Zbk r hlr hj]
    by_cases e2 : k = i
    ·
     subst e2
     cases s
     ·
      have b1 : pos n.Arcs k true = rv c j := by rw [q5]; rfl
      rw [if_pos b1, if_pos rfl, b1]; rfl
     ·
      have b1 : pos n.Arcs k true ≠ rv c j := fun e3 => by rw [q5] at e3; have := (Z8r r.he hk hk e e e3).2; cases this
      rw [if_neg b1, if_pos hp, if_pos rfl, hp]; rfl
    ·
     have b1 : pos n.Arcs k true ≠ rv c j := fun e3 => by rw [q5] at e3; exact e2 (Z8r r.he hk hi e hne e3).1
     have b2 : pos n.Arcs k true ≠ j := fun e3 => by rw [← hp] at e3; exact e2 (Z8r r.he hk hi e hne e3).1
     rw [if_neg b1, if_neg b2, if_neg e2, Int.add_zero]
end row
end Go.Acq
namespace Go.Acq
open Go
set_option linter.unusedSimpArgs false
section row
variable {n : Net} {m L : Nat} {c : Csr}
def HeightsP (n : Net) (m : Nat) (h : List Int) : Prop := h.length = m ∧ (∀ s : Nat, n.S = s → h.getD s 0 = m) ∧ (∀ t : Nat, n.T = t → h.getD t 0 = 0) ∧ ∀ v, v < m → 0 ≤ h.getD v 0 ∧ h.getD v 0 < 2 * m
structure PreOK (n : Net) (m L : Nat) (c : Csr) (p : Pre) : Prop where
  ok : ResOK n m L c p.Res p.Ex
  nn : ∀ v, v < m → (v : Int) ≠ n.S → 0 ≤ p.Ex.getD v 0
  hs : HeightsP n m p.H
  val : ∀ j, j < L → 0 < p.Res.getD j 0 → p.H.getD (tl c j) 0 ≤ p.H.getD (hd c j) 0 + 1
structure PreLen (p : Pre) : Prop where
  r : lenok p.Res.length
  x : lenok p.Ex.length
  h : lenok p.H.length
theorem PreOK.len {p : Pre} (h : PreOK n m L c p) (r : Row n m L c) : PreLen p := by
 have := r.bd
 have h1 := h.ok.lr
 have h2 := h.ok.lx
 have h3 := h.hs.1
 exact ⟨by omega, by omega, by omega⟩
end row
end Go.Acq
namespace Go.Acq
open Go
set_option linter.unusedSimpArgs false
def Zkm (n : Net) (X : List Int) (u : Nat) : Prop := (u : Int) ≠ n.S ∧ (u : Int) ≠ n.T ∧ 0 < X.getD u 0
instance (n : Net) (X : List Int) (u : Nat) : Decidable (Zkm n X u) := by unfold Zkm; infer_instance
def Zkk (c : Csr) (p : Pre) (u j : Nat) : Prop := 0 < p.Res.getD j 0 ∧ p.H.getD u 0 = p.H.getD (hd c j) 0 + 1
instance (c : Csr) (p : Pre) (u j : Nat) : Decidable (Zkk c p u j) := by unfold Zkk; infer_instance
def Zh3 (n : Net) (c : Csr) (p : Pre) (u : Nat) : Prop := Zkm n p.Ex u ∧ ∀ j, fs c u ≤ j → j < fs c (u + 1) → ¬Zkk c p u j
instance (n : Net) (c : Csr) (p : Pre) (u : Nat) : Decidable (Zh3 n c p u) :=
  if h : Zkm n p.Ex u ∧ ∀ j, j < fs c (u + 1) → fs c u ≤ j → ¬Zkk c p u j then .isTrue ⟨h.1, fun j a b => h.2 j b a⟩ else .isFalse fun g => h ⟨g.1, fun j a b => g.2 j b a⟩
def Zkz (p : Nat → Bool) : Nat → List Int
  | 0 => []
  | k + 1 => Zkz p k ++ (if p k = true then [(k : Int)] else [])
theorem Zjx (p : Nat → Bool) : ∀ k, (Zkz p k).length ≤ k
 | 0 => Nat.le_refl _
 | k + 1 => by
  have := Zjx p k
  simp only [Zkz, List.length_append]
  split <;> simp <;> omega
section row
variable {n : Net} {m L : Nat} {c : Csr}
theorem Zmv {p : Pre} {u : Nat} (r : Row n m L c) (lx : p.Ex.length = m) (hu : u < m) : Zbn c p (u : Nat) = some (decide (Zkm n p.Ex u)) := by
 have h2 := r.is.hS
 have h3 := r.is.hT
 unfold Zbn Zkm
 rw [h2, h3]
 by_cases a : (u : Int) ≠ n.S
 ·
  by_cases b : (u : Int) ≠ n.T
  · rw [if_pos a, if_pos b, Zaj (by constructor <;> omega), Int.toNat_natCast]; simp [a, b]
  · rw [if_pos a, if_neg b]; simp [b]
 · rw [if_neg a]; simp [a]
def HtB (m : Nat) (h : List Int) : Prop := h.length = m ∧ ∀ v, v < m → -1000000 ≤ h.getD v 0 ∧ h.getD v 0 ≤ 1000000
theorem HeightsP.hb {h : List Int} (r : Row n m L c) (hh : HeightsP n m h) : HtB m h := ⟨hh.1, fun v hv => by have := hh.2.2.2 v hv; have := r.bd; omega⟩
theorem Zgl {p : Pre} {u j : Nat} (r : Row n m L c) (lr : p.Res.length = L) (hb : HtB m p.H) (hu : u < m) (hj : j < L) : Z8i c p (u : Nat) (j : Nat) = some (decide (Zkk c p u j)) := by
 have g1 := r.head hj
 have g2 := hb.2 _ g1.2
 have := hb.1
 have := r.lens.2.1
 unfold Z8i Zkk
 simp only [Int.toNat_natCast, g1.1]
 rw [Zaj (by constructor <;> omega)]
 by_cases h : 0 < p.Res.getD j 0
 ·
  rw [if_pos h, Zaj (by constructor <;> omega), Zaj (by constructor <;> omega), Zaj (by constructor <;> omega), Zaj (by constructor <;> omega)]
  exact congrArg some (decide_eq_decide.2 ⟨fun e => ⟨h, e⟩, fun e => e.2⟩)
 ·
  rw [if_neg h]
  exact congrArg some (decide_eq_false fun e => h e.1).symm
theorem s_stuck {p : Pre} {u : Nat} (r : Row n m L c) (lr : p.Res.length = L) (lx : p.Ex.length = m) (hb : HtB m p.H) (hu : u < m) : Ok (Zet c p (u : Nat)) (fun b => b = decide (Zh3 n c p u)) := by
 have hfl := r.first.2.2.2 u hu
 unfold Zet Ze2
 refine Ok.bind.2 (Ok.some.2 (Ok.bind.2 (Ok.mono (s_arcs r hu (fun j _ => ∀ i, fs c u ≤ i → i < j → ¬Zkk c p u i) (fun _ => ∃ j, fs c u ≤ j ∧ j < fs c (u + 1) ∧ Zkk c p u j) (fun i h1 h2 => by omega) fun j s h1 h2 h3 => ?_) ?_)))
 ·
  unfold Zek
  refine Ok.bind.2 (Zcr (Zgl r lr hb hu (by omega)) (Ok.ite.2 ⟨fun h => Ok.some.2 ⟨j, h1, h2, of_decide_eq_true h⟩, fun h => Ok.some.2 fun i h4 h5 => ?_⟩))
  rcases Nat.lt_or_ge i j with h6 | h6
  · exact h3 i h4 h6
  · rw [show i = j by omega]; exact fun h7 => h (decide_eq_true h7)
 ·
  rintro (s | x) h
  ·
   refine Ok.bind.2 (Zcr (Zmv r lx hu) (Ok.some.2 ?_))
   rw [Bool.eq_iff_iff, decide_eq_true_iff, decide_eq_true_iff]
   exact ⟨fun h1 => ⟨h1, h⟩, fun h1 => h1.1⟩
  ·
   obtain ⟨j, h1, h2, h3⟩ := h
   exact Ok.some.2 (decide_eq_false fun h4 => h4.2 j h1 h2 h3).symm
theorem s_all {p : Nat → Bool} {step : List Int → Int → Option ((List Int × Int) ⊕ List Int)} (hm : m ≤ 4096)
    (hs : ∀ (o : List Int) (k : Nat), k ≤ m → o.length ≤ k → step o k = if k < m then (if p k = true then some (.inl (o ++ [(k : Int)], (k : Int) + 1)) else some (.inl (o, (k : Int) + 1))) else some (.inr o)) : Ok (Z21 (fun s => step s.1 s.2) Z3k ([], 0)) (fun o => o = Zkz p m) := by
  refine Z7g (fun s => ∃ k : Nat, s.2 = k ∧ k ≤ m ∧ s.1 = Zkz p k) (fun s => (m - s.2).toNat) ⟨0, rfl, by omega, rfl⟩ (by unfold Z3k; simp only; omega) ?_
  rintro ⟨o, x⟩ ⟨k, h1, hk, ho⟩ P next exit
  simp only at h1 ho next ⊢
  subst h1; subst ho
  rw [hs _ k hk (Zjx p k)]
  refine Ok.ite.2 ⟨fun hx => Ok.ite.2 ⟨fun h => Ok.some.2 (next _ ⟨k + 1, by simp, by omega, by simp only [Zkz]; rw [if_pos h]⟩ (by simp only; omega)), fun h => Ok.some.2 (next _ ⟨k + 1, by simp, by omega, by simp only [Zkz]; rw [if_neg h, List.append_nil]⟩ (by simp only; omega))⟩, fun hx => Ok.some.2 (exit _ (by rw [show k = m by omega]))⟩
theorem s_May {p : Pre} (r : Row n m L c) (lr : p.Res.length = L) (lx : p.Ex.length = m) (hb : HtB m p.H) : Zhu c p = some (Zkz (fun j => decide (Zkm n p.Ex (tl c j) ∧ Zkk c p (tl c j) j)) L, Zkz (fun u => decide (Zh3 n c p u)) m) := by
 have b := r.bd
 have hN := r.is.hN
 refine Zl6 ?_
 unfold Zhu
 refine Ok.bind.2 (Z7g (fun s => ∃ k : Nat, s.2 = k ∧ k ≤ m ∧ s.1 = Zkz (fun j => decide (Zkm n p.Ex (tl c j) ∧ Zkk c p (tl c j) j)) (fs c k)) (fun s => (m - s.2).toNat) ⟨0, rfl, by omega, by rw [r.first.2.1]; rfl⟩ (by unfold Z3k; simp only; omega) ?_)
 rintro ⟨o, x⟩ ⟨k, h1, hk, ho⟩ P next exit
 simp only at h1 ho next ⊢
 subst h1
 unfold Zgo
 rw [hN]
 refine Ok.ite.2 ⟨fun hx => ?_, fun hx => Ok.some.2 (exit _ ?_)⟩
 ·
  have hkm : k < m := by omega
  have hfl := r.first.2.2.2 k hkm
  unfold Ze2
  refine Ok.bind.2 (Ok.some.2 (Ok.bind.2 (Ok.mono (s_arcs r hkm (fun j s => s = Zkz (fun j => decide (Zkm n p.Ex (tl c j) ∧ Zkk c p (tl c j) j)) j) (fun _ => False) ho fun j s g1 g2 g3 => ?_) ?_)))
  ·
   have hjL : j < L := by omega
   have ht := (r.range hjL hkm).1 ⟨g1, g2⟩
   subst g3
   have hle := Zjx (fun j => decide (Zkm n p.Ex (tl c j) ∧ Zkk c p (tl c j) j)) j
   have j3 : ∀ (b : Bool) (P : List Int ⊕ Empty → Prop), (P (.inl (Zkz (fun j => decide (Zkm n p.Ex (tl c j) ∧ Zkk c p (tl c j) j)) (j + 1)))) → (b = true ↔ (Zkm n p.Ex k ∧ Zkk c p k j)) → Ok (Zbo (Zkz (fun j => decide (Zkm n p.Ex (tl c j) ∧ Zkk c p (tl c j) j)) j) (j : Nat) b) P := by
    intro b P hP hb
    unfold Zbo
    have e : decide (Zkm n p.Ex (tl c j) ∧ Zkk c p (tl c j) j) = b := by rw [ht, Bool.eq_iff_iff, decide_eq_true_iff]; exact hb.symm
    refine Ok.ite.2 ⟨fun h => Ok.gd.2 ⟨?_, Ok.some.2 ?_⟩, fun h => Ok.some.2 ?_⟩
    · rw [List.length_append, List.length_singleton]; constructor <;> omega
    · simp only [Zkz] at hP; rw [if_pos (e.trans h)] at hP; exact hP
    · simp only [Zkz] at hP; rw [if_neg (by rw [e]; exact h), List.append_nil] at hP; exact hP
   unfold Zgn
   refine Ok.bind.2 (Zcr (Zmv r lx hkm) (Ok.ite.2 ⟨fun h => Ok.bind.2 (Zcr (Zgl r lr hb hkm hjL) (j3 _ _ rfl ?_)), fun h => j3 false _ rfl ⟨fun h2 => (by cases h2), fun h2 => absurd (decide_eq_true h2.1) h⟩⟩))
   rw [decide_eq_true_iff]
   exact ⟨fun h2 => ⟨of_decide_eq_true h, h2⟩, fun h2 => h2.2⟩
  ·
   rintro (s | x) h
   · exact Ok.gd.2 ⟨(by omega), Ok.some.2 (next _ ⟨k + 1, by simp, by omega, h⟩ (by simp only; omega))⟩
   · exact h.elim
 ·
  obtain rfl : k = m := by omega
  unfold Zgp Zdk
  refine Ok.bind.2 (Ok.bind.2 (Ok.mono (s_all (m := k) (p := fun u => decide (Zh3 n c p u)) (step := fun o x => Z9b c c p o x) (by omega) fun o q hq hol => ?_) fun o2 ho2 => ?_))
  ·
   unfold Z9b Zht
   rw [hN]
   by_cases h : q < k
   ·
    obtain ⟨b, hb1, hb2⟩ := s_stuck r lr lx hb h
    rw [if_pos (by omega), if_pos h, hb1]
    simp only [Option.bind_some]
    rw [hb2]
    by_cases h2 : decide (Zh3 n c p q) = true
    · rw [if_pos h2, if_pos h2, Zaj (by rw [List.length_append, List.length_singleton]; constructor <;> omega), Zaj (by constructor <;> omega)]
    · rw [if_neg h2, if_neg h2, Zaj (by constructor <;> omega)]
   · rw [if_neg (by omega), if_neg h]
  ·
   unfold Zbm
   refine Ok.some.2 (Ok.some.2 ?_)
   rw [ho, r.first.2.2.1, ho2]
def pushD (c : Csr) (p : Pre) (j : Nat) : Int := min (p.Ex.getD (tl c j) 0) (p.Res.getD j 0)
def pushP (c : Csr) (p : Pre) (j : Nat) : Pre := ⟨mvR c p.Res j (pushD c p j), mvX c p.Ex j (pushD c p j), p.H⟩
theorem PreOK.push {p : Pre} {j : Nat} (h : PreOK n m L c p) (r : Row n m L c) (hj : j < L) (hA : Zkm n p.Ex (tl c j)) (hB : Zkk c p (tl c j) j) : PreOK n m L c (pushP c p j) := by
 have h1 := hA.2.2
 have h2 := hB.1
 have hD : pushD c p j = min (p.Ex.getD (tl c j) 0) (p.Res.getD j 0) := rfl
 have hlr := h.ok.lr
 have hlx := h.ok.lx
 have ht := r.tlh hj
 have hr := r.rev hj
 refine ⟨h.ok.move r hj (by omega) (by omega), fun v hv hvS => ?_, h.hs, fun k hk h0 => ?_⟩
 ·
  have := h.nn v hv hvS
  simp only [pushP]
  rw [Zk3 r hlx hj]
  by_cases c1 : tl c j = v
  ·
   subst c1
   rw [if_pos rfl, if_neg fun e => ht.2.2.2 e.symm]; omega
  · rw [if_neg c1]; split <;> omega
 ·
  simp only [pushP] at h0 ⊢
  rw [Zbk r hlr hj] at h0
  by_cases c1 : k = rv c j
  ·
   subst c1
   rw [ht.2.1, ht.2.2.1]
   have := hB.2
   omega
  ·
   rw [if_neg c1] at h0
   by_cases c2 : k = j
   · subst c2; exact h.val k hk h2
   · rw [if_neg c2] at h0; exact h.val k hk h0
def lowN (c : Csr) (p : Pre) (m : Nat) (a : Nat) : Nat → Int
  | 0 => 2 * m
  | k + 1 => if 0 < p.Res.getD (a + k) 0 then min (lowN c p m a k) (p.H.getD (hd c (a + k)) 0) else lowN c p m a k
def Zq9 (c : Csr) (p : Pre) (m u : Nat) : Int := lowN c p m (fs c u) (fs c (u + 1) - fs c u)
def Zoa (c : Csr) (p : Pre) (m u : Nat) : Pre := ⟨p.Res, p.Ex, p.H.set u (Zq9 c p m u + 1)⟩
theorem Zqy {p : Pre} {a : Nat} : ∀ {k i : Nat}, i < k → 0 < p.Res.getD (a + i) 0 → lowN c p m a k ≤ p.H.getD (hd c (a + i)) 0
 | 0, _, h, _ => by omega
 | k + 1, i, h, h0 => by
  simp only [lowN]
  rcases Nat.lt_or_ge i k with h1 | h1
  ·
   have := Zqy h1 h0
   split <;> omega
  ·
   have : i = k := by omega
   subst this
   rw [if_pos h0]; omega
theorem Zqz (p : Pre) (a : Nat) : ∀ k : Nat, lowN c p m a k ≤ 2 * m ∧ (lowN c p m a k = 2 * m ∨ ∃ i, i < k ∧ 0 < p.Res.getD (a + i) 0 ∧ p.H.getD (hd c (a + i)) 0 = lowN c p m a k)
 | 0 => ⟨Int.le_refl _, .inl rfl⟩
 | k + 1 => by
  obtain ⟨h1, h2⟩ := Zqz p a k
  simp only [lowN]
  by_cases h : 0 < p.Res.getD (a + k) 0
  ·
   rw [if_pos h]
   refine ⟨by omega, ?_⟩
   by_cases h3 : p.H.getD (hd c (a + k)) 0 ≤ lowN c p m a k
   · exact .inr ⟨k, by omega, h, by omega⟩
   ·
    rcases h2 with h2 | ⟨i, g1, g2, g3⟩
    · exact .inl (by omega)
    · exact .inr ⟨i, by omega, g2, by omega⟩
  ·
   rw [if_neg h]
   refine ⟨h1, ?_⟩
   rcases h2 with h2 | ⟨i, g1, g2, g3⟩
   · exact .inl h2
   · exact .inr ⟨i, by omega, g2, g3⟩
theorem lowV_le {p : Pre} {u j : Nat} (r : Row n m L c) (hu : u < m) (hj : j < L) (ht : tl c j = u) (h0 : 0 < p.Res.getD j 0) : Zq9 c p m u ≤ p.H.getD (hd c j) 0 := by
 have h1 := (r.range hj hu).2 ht
 have e : fs c u + (j - fs c u) = j := by omega
 have := Zqy (c := c) (m := m) (p := p) (a := fs c u) (k := fs c (u + 1) - fs c u) (i := j - fs c u) (by omega) (by rw [e]; exact h0)
 rw [e] at this; exact this
theorem lowV_at (p : Pre) {u : Nat} (r : Row n m L c) (hu : u < m) : Zq9 c p m u ≤ 2 * m ∧ (Zq9 c p m u = 2 * m ∨ ∃ j, j < L ∧ tl c j = u ∧ 0 < p.Res.getD j 0 ∧ p.H.getD (hd c j) 0 = Zq9 c p m u) := by
 have hfl := r.first.2.2.2 u hu
 obtain ⟨h1, h2⟩ := Zqz (c := c) (m := m) p (fs c u) (fs c (u + 1) - fs c u)
 refine ⟨h1, ?_⟩
 rcases h2 with h2 | ⟨i, g1, g2, g3⟩
 · exact .inl h2
 · exact .inr ⟨fs c u + i, by omega, (r.range (by omega) hu).1 ⟨by omega, by omega⟩, g2, g3⟩
def OpenJ (c : Csr) (L : Nat) (R : List Int) (u v : Nat) : Prop := ∃ j, j < L ∧ tl c j = u ∧ hd c j = v ∧ 0 < R.getD j 0
theorem OpenJ.lt {R : List Int} (r : Row n m L c) {u v : Nat} (h : OpenJ c L R u v) : u < m ∧ v < m := by
 obtain ⟨j, h1, h2, h3, _⟩ := h
 exact ⟨by rw [← h2]; exact (r.tlh h1).1, by rw [← h3]; exact (r.head h1).2⟩
theorem Zhw {H : Nat → Int} {G : Nat → Nat → Prop} (hG : ∀ u v, G u v → H u ≤ H v + 1) {u v : Nat} (hr : Reach G u v) : ∀ k : Int, H v ≤ k → k ≤ H u → ∃ w, Reach G u w ∧ H w = k := by
 induction hr with
 | refl => intro k h1 h2; exact ⟨u, .refl, by omega⟩
 | step h1 h2 ih =>
  rename_i x y
  intro k h3 h4
  by_cases c : H x ≤ k
  · exact ih k c h4
  ·
   have := hG _ _ h2
   exact ⟨y, .step h1 h2, by omega⟩
theorem pigeon : ∀ (m : Nat) (f : Nat → Nat), (∀ k, k ≤ m → f k < m) → ∃ i j, i < j ∧ j ≤ m ∧ f i = f j
 | 0, f, h => absurd (h 0 (Nat.le_refl _)) (by omega)
 | m + 1, f, h => by
  by_cases e : ∃ i, i ≤ m ∧ f i = f (m + 1)
  ·
   obtain ⟨i, h1, h2⟩ := e
   exact ⟨i, m + 1, by omega, by omega, h2⟩
  ·
   have ne : ∀ i, i ≤ m → f i ≠ f (m + 1) := fun i hi h2 => e ⟨i, hi, h2⟩
   obtain ⟨i, j, h1, h2, h3⟩ := pigeon m (fun k => if f (m + 1) < f k then f k - 1 else f k) fun k hk => by
    have a := h k (by omega)
    have a2 := h (m + 1) (by omega)
    have a3 := ne k hk
    split <;> omega
   have a1 := ne i (by omega)
   have a2 := ne j (by omega)
   refine ⟨i, j, h1, by omega, ?_⟩
   split at h3 <;> split at h3 <;> omega
theorem Ziv {H : Nat → Int} {a : Int} (h : ∀ k : Nat, k ≤ m → ∃ w, w < m ∧ H w = a + k) : False := by
 have : ∀ k : Nat, ∃ w, k ≤ m → w < m ∧ H w = a + k := fun k => by
  by_cases c : k ≤ m
  · obtain ⟨w, hw⟩ := h k c; exact ⟨w, fun _ => hw⟩
  · exact ⟨0, fun h => absurd h c⟩
 obtain ⟨f, hf⟩ := Classical.axiomOfChoice this
 obtain ⟨i, j, h1, h2, h3⟩ := pigeon m f fun k hk => (hf k hk).1
 have a1 := (hf i (by omega)).2
 have a2 := (hf j h2).2
 rw [h3] at a1
 omega
theorem Zn1 {R : List Int} (r : Row n m L c) {u v : Nat} (hu : u < m) (h : Reach (OpenJ c L R) u v) : v < m := by
 induction h with
 | refl => exact hu
 | step _ h2 _ => exact (h2.lt r).2
theorem Ziq {R X : List Int} {S u : Nat} (r : Row n m L c) (h : ResOK n m L c R X) (hS : n.S = S) (nn : ∀ v, v < m → v ≠ S → 0 ≤ X.getD v 0) (hu : u < m) (hx : 0 < X.getD u 0) : Reach (OpenJ c L R) u S := by
 refine Classical.byContradiction fun hno => ?_
 let q : Nat → Bool := fun v => @decide (¬Reach (OpenJ c L R) u v) (Classical.propDecidable _)
 have hq : ∀ v, q v = true ↔ ¬Reach (OpenJ c L R) u v := fun v => @decide_eq_true_iff _ (Classical.propDecidable _)
 obtain ⟨cl, hcl⟩ : ∃ cl : List Bool, cl = (List.range m).map q := ⟨_, rfl⟩
 have inc : ∀ v : Nat, v < m → (inS cl v = true ↔ ¬Reach (OpenJ c L R) u v) := fun v hv => by
  unfold inS
  rw [hcl, Int.toNat_natCast, List.getD_eq_getElem?_getD, List.getElem?_map, List.getElem?_range hv]
  exact hq v
 have inf : ∀ v : Nat, v < m → (inS cl v = false ↔ Reach (OpenJ c L R) u v) := fun v hv => by
  rw [Bool.eq_false_iff, ne_eq, inc v hv]; exact Classical.not_not
 have he := r.he
 have hw := h.within r
 have hac : ∀ k, k ≤ n.Arcs.length → acK n.Arcs (flN n.Arcs R) cl k ≤ 0 := by
  intro k
  induction k with
  | zero => intro _; simp [acK]
  | succ k ih =>
   intro hk
   have h0 := he k hk false
   have h1 := he k hk true
   simp only [vtx, Bool.false_eq_true, if_false, if_true] at h0 h1
   have hf := (hw.2.2 k hk).1
   have ih := ih (by omega)
   simp only [acK]
   by_cases c1 : inS cl (n.Arcs.getD k default).fr = true ∧ inS cl (n.Arcs.getD k default).to = false
   ·
    have hz : (flN n.Arcs R).getD k 0 = 0 := by
     rw [Z9h hk]
     by_cases e : (n.Arcs.getD k default).fr = (n.Arcs.getD k default).to
     · rw [if_pos e]
     ·
      rw [if_neg e]
      obtain ⟨-, a2, a3⟩ := r.cpPos hk e true
      have z := r.is.ok.hat k hk e true
      have z2 := r.is.ok.hat k hk e false
      have nnR := (h.res _ a3).1
      refine Int.le_antisymm (Int.not_lt.1 fun hpos => ?_) nnR
      obtain ⟨p, hp⟩ : ∃ p : Nat, (n.Arcs.getD k default).fr = p := ⟨(n.Arcs.getD k default).fr.toNat, by omega⟩
      obtain ⟨t, ht⟩ : ∃ t : Nat, (n.Arcs.getD k default).to = t := ⟨(n.Arcs.getD k default).to.toNat, by omega⟩
      rw [hp, ht] at c1
      have r1 := (inf t (by omega)).1 c1.2
      refine (inc p (by omega)).1 c1.1 (.step r1 ⟨_, a3, ?_, ?_, hpos⟩)
      · unfold tl hd; rw [a2]; simp only [Bool.not_true]; rw [z2.1]; simp only [vtx, Bool.not_false, if_true, ht]; omega
      · unfold hd; rw [z.1]; simp only [vtx, Bool.not_true, Bool.false_eq_true, if_false, hp]; omega
    rw [if_pos c1, hz]; split <;> omega
   · rw [if_neg c1]; split <;> omega
 have hpc : ∀ j, j ≤ m → 0 ≤ Zh9 n.Arcs (flN n.Arcs R) cl j n.Arcs.length ∧ (u < j → 0 < Zh9 n.Arcs (flN n.Arcs R) cl j n.Arcs.length) := by
  intro j
  induction j with
  | zero => intro _; rw [show ((0 : Nat) : Int) = 0 from rfl, Zfw he _ (Nat.le_refl _)]; exact ⟨Int.le_refl _, fun h => by omega⟩
  | succ j ih =>
   intro hj
   obtain ⟨i1, i2⟩ := ih (by omega)
   rw [Int.natCast_succ, Zfv]
   by_cases c1 : inS cl j = false
   ·
    rw [if_pos c1, ← h.ex j (by omega)]
    have hjS : j ≠ S := fun e => hno (by rw [← e]; exact (inf j (by omega)).1 c1)
    have := nn j (by omega) hjS
    refine ⟨by omega, fun hlt => ?_⟩
    by_cases e : u = j
    · subst e; omega
    · have := i2 (by omega); omega
   ·
    rw [if_neg c1]
    refine ⟨by omega, fun hlt => ?_⟩
    by_cases e : u = j
    · subst e; exact absurd ((inf u hu).2 .refl) c1
    · have := i2 (by omega); omega
 have := (hpc m (Nat.le_refl _)).2 hu
 rw [Zhq he _ (Nat.le_refl _)] at this
 have := hac _ (Nat.le_refl _)
 omega
theorem Zl9 {R : List Int} {H : Nat → Int} {S u : Nat} (r : Row n m L c) (hu : u < m) (hval : ∀ j, j < L → 0 < R.getD j 0 → H (tl c j) ≤ H (hd c j) + 1) (hHS : H S = m) (hr : Reach (OpenJ c L R) u S) : H u < 2 * m := by
 refine Int.not_le.1 fun hge => ?_
 refine Ziv (m := m) (H := H) (a := m) fun k hk => ?_
 obtain ⟨w, h1, h2⟩ := Zhw (H := H) (G := OpenJ c L R) (fun a b ⟨j, g1, g2, g3, g4⟩ => by rw [← g2, ← g3]; exact hval j g1 g4) hr (m + k) (by omega) (by omega)
 exact ⟨w, Zn1 r hu h1, h2⟩
theorem PreOK.lift {p : Pre} {u : Nat} (h : PreOK n m L c p) (r : Row n m L c) (hu : u < m) (hS : Zh3 n c p u) : PreOK n m L c (Zoa c p m u) ∧ p.H.getD u 0 ≤ Zq9 c p m u := by
 obtain ⟨⟨S, hnS, -, hSm⟩, ⟨T, hnT, -, hTm⟩, -, -⟩ := r.ends
 have lh := h.hs.1
 obtain ⟨⟨hA1, hA2, hA3⟩, hB⟩ := hS
 have huS : u ≠ S := by omega
 have huT : u ≠ T := by omega
 have hlow : p.H.getD u 0 ≤ Zq9 c p m u := by
  have h2 := h.hs.2.2.2 u hu
  rcases (lowV_at p r hu).2 with h1 | ⟨j, h1, h3, h4, h5⟩
  · omega
  ·
   have h6 := h.val j h1 h4
   rw [h3] at h6
   have h7 := (r.range h1 hu).2 h3
   have h8 := hB j h7.1 h7.2
   have : p.H.getD u 0 ≠ p.H.getD (hd c j) 0 + 1 := fun e => h8 ⟨h4, e⟩
   omega
 have hHu : ∀ v, (p.H.set u (Zq9 c p m u + 1)).getD v 0 = if v = u then Zq9 c p m u + 1 else p.H.getD v 0 := fun v => by
  rw [Ze4]
  by_cases e : v = u
  · rw [if_pos ⟨e.symm, by omega⟩, if_pos e]
  · rw [if_neg fun h => e h.1.symm, if_neg e]
 have hval : ∀ j, j < L → 0 < p.Res.getD j 0 → (p.H.set u (Zq9 c p m u + 1)).getD (tl c j) 0 ≤ (p.H.set u (Zq9 c p m u + 1)).getD (hd c j) 0 + 1 := fun j hj h0 => by
  have ht := r.tlh hj
  rw [hHu, hHu]
  by_cases c1 : tl c j = u
  ·
   have := lowV_le r hu hj c1 h0
   rw [if_pos c1, if_neg fun e => ht.2.2.2 (c1.trans e.symm)]; omega
  ·
   rw [if_neg c1]
   have := h.val j hj h0
   by_cases c2 : hd c j = u
   · rw [if_pos c2]; rw [c2] at this; omega
   · rw [if_neg c2]; exact this
 have hreach := Ziq r h.ok hnS (fun v hv hvS => h.nn v hv (by omega)) hu hA3
 have hbound := Zl9 (H := fun v => (p.H.set u (Zq9 c p m u + 1)).getD v 0) r hu hval (by simp only [hHu]; rw [if_neg fun e => huS e.symm]; exact h.hs.2.1 S hnS) hreach
 simp only [hHu, if_true] at hbound
 refine ⟨⟨h.ok, h.nn, ⟨by simp [Zoa, lh], fun s hs => ?_, fun t ht => ?_, fun v hv => ?_⟩, hval⟩, hlow⟩
 · simp only [Zoa]; rw [hHu, if_neg (by omega)]; exact h.hs.2.1 s hs
 · simp only [Zoa]; rw [hHu, if_neg (by omega)]; exact h.hs.2.2.1 t ht
 ·
  have h1 := h.hs.2.2.2 v hv
  have h2 := h.hs.2.2.2 u hu
  simp only [Zoa]; rw [hHu]
  by_cases e : v = u
  · rw [if_pos e]; omega
  · rw [if_neg e]; exact h1
end row
end Go.Acq
namespace Go.Acq
open Go
set_option linter.unusedSimpArgs false
theorem Zla {α : Type} {z v : α} {k i : Int} : ∀ mp : List (Int × α), Zr2 z i (putM k v mp) = if i = k then v else Zr2 z i mp
 | [] => by simp only [putM, Zr2]
 | x :: mp => by
  simp only [putM]
  by_cases h : k = x.1
  ·
   rw [if_pos h]; simp only [Zr2]
   by_cases e : i = k
   · rw [if_pos e, if_pos e]
   · rw [if_neg e, if_neg e, if_neg (by omega)]
  ·
   rw [if_neg h]; simp only [Zr2]
   by_cases e : i = x.1
   · rw [if_pos e, if_pos e, if_neg (by omega)]
   · rw [if_neg e, if_neg e, Zla mp]
theorem Zk2 {α : Type} {v : α} {k : Int} : ∀ {mp : List (Int × α)} {x : Int × α}, x ∈ putM k v mp → x.1 = k ∨ ∃ y, y ∈ mp ∧ y.1 = x.1
 | [], x, h => by simp only [putM, List.mem_singleton] at h; left; rw [h]
 | y :: mp, x, h => by
  simp only [putM] at h
  by_cases e : k = y.1
  ·
   rw [if_pos e] at h
   rcases List.mem_cons.1 h with h | h
   · left; rw [h]
   · exact .inr ⟨x, List.mem_cons_of_mem _ h, rfl⟩
  ·
   rw [if_neg e] at h
   rcases List.mem_cons.1 h with h | h
   · exact .inr ⟨y, List.mem_cons_self, by rw [h]⟩
   ·
    rcases Zk2 h with h | ⟨z, h1, h2⟩
    · exact .inl h
    · exact .inr ⟨z, List.mem_cons_of_mem _ h1, h2⟩
def Apart {α : Type} : List (Int × α) → Prop
  | [] => True
  | x :: mp => (∀ y, y ∈ mp → y.1 ≠ x.1) ∧ Apart mp
theorem Apart.put {α : Type} {v : α} {k : Int} : ∀ {mp : List (Int × α)}, Apart mp → Apart (putM k v mp)
 | [], _ => ⟨fun y h => (by cases h), trivial⟩
 | x :: mp, h => by
  simp only [putM]
  by_cases e : k = x.1
  · rw [if_pos e]; exact ⟨fun y hy => by rw [e]; exact h.1 y hy, h.2⟩
  ·
   rw [if_neg e]
   refine ⟨fun y hy => ?_, Apart.put h.2⟩
   rcases Zk2 hy with h1 | ⟨z, h1, h2⟩
   · rw [h1]; exact e
   · rw [← h2]; exact h.1 z h1
theorem Apart.at {α : Type} {z : α} (d : Int × α) : ∀ {mp : List (Int × α)} {j : Nat}, Apart mp → j < mp.length → Zr2 z (mp.getD j d).1 mp = (mp.getD j d).2
 | [], j, _, h => by simp at h
 | x :: mp, 0, _, _ => by simp [Zr2]
 | x :: mp, j + 1, h, hj => by
  have hj' : j < mp.length := by simpa using hj
  have hm := h.1 _ (Za2 hj' d)
  show Zr2 z (mp.getD j d).1 (x :: mp) = (mp.getD j d).2
  simp only [Zr2]
  rw [if_neg hm]; exact Apart.at d h.2 hj'
def hfr (n : Net) (h : Hop) : Int := if h.Back = true then (n.Arcs.getD h.Arc.toNat default).to else (n.Arcs.getD h.Arc.toNat default).fr
def hto (n : Net) (h : Hop) : Int := if h.Back = true then (n.Arcs.getD h.Arc.toNat default).fr else (n.Arcs.getD h.Arc.toNat default).to
def hok (n : Net) (h : Hop) : Prop := 0 ≤ h.Arc ∧ h.Arc < n.Arcs.length
def WayK (n : Net) (l : List Hop) (k : Nat) : Prop := (∀ i, i < k → hok n (l.getD i default)) ∧ ∀ i, i + 1 < k → hfr n (l.getD (i + 1) default) = hto n (l.getD i default)
def Zqa (l : List Hop) (i : Int) : Nat → Int
  | 0 => 0
  | k + 1 => Zqa l i k + (if (l.getD k default).Arc = i then (if (l.getD k default).Back = true then -1 else 1) else 0)
structure MapIs (n : Net) (mp : List (Int × Int)) (l : List Hop) (k : Nat) : Prop where
  val : ∀ i, Zr2 0 i mp = Zqa l i k
  key : ∀ x, x ∈ mp → 0 ≤ x.1 ∧ x.1 < n.Arcs.length
  apart : Apart mp
theorem MapIs.put {n : Net} {mp : List (Int × Int)} {l : List Hop} {k : Nat} (h : MapIs n mp l k) (hk : hok n (l.getD k default)) {v : Int} (hv : v = Zqa l (l.getD k default).Arc k + (if (l.getD k default).Back = true then -1 else 1)) : MapIs n (putM (l.getD k default).Arc v mp) l (k + 1) := by
 refine ⟨fun i => ?_, fun x hx => ?_, h.apart.put⟩
 ·
  rw [Zla]
  simp only [Zqa]
  by_cases e : i = (l.getD k default).Arc
  · rw [if_pos e, if_pos e.symm, hv, e]
  · rw [if_neg e, if_neg (fun h => e h.symm), h.val, Int.add_zero]
 ·
  rcases Zk2 hx with h1 | ⟨y, h1, h2⟩
  · rw [h1]; exact hk
  · rw [← h2]; exact h.key y h1
end Go.Acq
namespace Go.Acq
open Go
set_option linter.unusedSimpArgs false
def fits (n : Net) (f : List Int) (i : Nat) (c d : Int) : Prop := 0 ≤ f.getD i 0 + d * c ∧ f.getD i 0 + d * c ≤ (n.Arcs.getD i default).cap
end Go.Acq
namespace Go.Acq
open Go
set_option linter.unusedSimpArgs false
section row
variable {n : Net} {m L : Nat} {c : Csr}
def StepP (n : Net) (m L : Nat) (c : Csr) (was p : Pre) : Prop :=
  (∃ j, j < L ∧ Zkm n was.Ex (tl c j) ∧ Zkk c was (tl c j) j ∧ p = pushP c was j) ∨ (∃ u, u < m ∧ Zh3 n c was u ∧ p = Zoa c was m u)
theorem PreOK.hb {p : Pre} (h : PreOK n m L c p) (r : Row n m L c) : HtB m p.H := h.hs.hb r
theorem PreOK.step {was p : Pre} (h : PreOK n m L c was) (r : Row n m L c) (hs : StepP n m L c was p) : PreOK n m L c p := by
 rcases hs with ⟨j, h1, h2, h3, rfl⟩ | ⟨u, h1, h2, rfl⟩
 · exact h.push r h1 h2 h3
 · exact (h.lift r h1 h2).1
def arcsOf (n : Net) (L : Nat) (c : Csr) (p : Pre) : List Int := Zkz (fun j => decide (Zkm n p.Ex (tl c j) ∧ Zkk c p (tl c j) j)) L
def vertsOf (n : Net) (m : Nat) (c : Csr) (p : Pre) : List Int := Zkz (fun u => decide (Zh3 n c p u)) m
theorem PreOK.may {p : Pre} (h : PreOK n m L c p) (r : Row n m L c) : Zhu c p = some (arcsOf n L c p, vertsOf n m c p) := s_May r h.ok.lr h.ok.lx (h.hb r)
end row
end Go.Acq
namespace Go.Acq
open Go
set_option linter.unusedSimpArgs false
set_option linter.unusedVariables false
section row
variable {n : Net} {m L : Nat} {c : Csr}
theorem open_j {R : List Int} (r : Row n m L c) (hR : ∀ j, j < L → 0 ≤ R.getD j 0 ∧ R.getD j 0 + R.getD (rv c j) 0 = cp c j) {u v : Nat} (h : Zf2 n (flN n.Arcs R) u v) : OpenJ c L R u v := by
 obtain ⟨i, hi, hne, h⟩ := h
 rw [Z9h hi, if_neg hne] at h
 have ha : ∀ s, hd c (pos n.Arcs i s) = (vtx (n.Arcs.getD i default) (!s)).toNat := fun s => by unfold hd; rw [(r.is.ok.hat i hi hne s).1]
 have ht : ∀ s, tl c (pos n.Arcs i s) = (vtx (n.Arcs.getD i default) s).toNat := fun s => by unfold tl; rw [(r.cpPos hi hne s).2.1, ha, Bool.not_not]
 have e0 := r.he i hi false
 have e1 := r.he i hi true
 obtain ⟨c1, c2, c3⟩ := r.cpPos hi hne false
 obtain ⟨d1, d2, d3⟩ := r.cpPos hi hne true
 have hf := hR _ c3
 simp only [Bool.not_false, Bool.not_true] at c2 d2
 rw [c2, c1] at hf
 rcases h with ⟨a1, a2, a3⟩ | ⟨a1, a2, a3⟩
 ·
  refine ⟨pos n.Arcs i false, c3, ?_, ?_, by omega⟩
  · rw [ht]; simp only [vtx, Bool.false_eq_true, if_false]; omega
  · rw [ha]; simp only [vtx, Bool.not_false, if_true]; omega
 ·
  refine ⟨pos n.Arcs i true, d3, ?_, ?_, by omega⟩
  · rw [ht]; simp only [vtx, if_true]; omega
  · rw [ha]; simp only [vtx, Bool.not_true, Bool.false_eq_true, if_false]; omega
theorem PreOK.far {p : Pre} {S T : Nat} (h : PreOK n m L c p) (r : Row n m L c) (hS : n.S = S) (hT : n.T = T) : ¬Reach (Zf2 n (flN n.Arcs p.Res)) S T := fun hr => by
 obtain ⟨⟨S', hS', -, hSm⟩, ⟨T', hT', -, hTm⟩, -, -⟩ := r.ends
 have hr2 : Reach (OpenJ c L p.Res) S T := hr.mono fun u v ho => open_j r h.ok.res ho
 have hp := Zhw (H := fun v => p.H.getD v 0) (G := OpenJ c L p.Res) (fun u v ⟨j, hj, h1, h2, h3⟩ => by have := h.val j hj h3; rw [h1, h2] at this; exact this) hr2
 have h1 := h.hs.2.1 S hS
 have h2 := h.hs.2.2.1 T hT
 simp only [h1, h2] at hp
 refine Ziv (m := m) (H := fun v => p.H.getD v 0) (a := 0) fun k hk => ?_
 obtain ⟨w, hw, he⟩ := hp k (by omega) (by omega)
 exact ⟨w, Zn1 r (by omega) hw, by omega⟩
theorem PreOK.flow {p : Pre} (h : PreOK n m L c p) (r : Row n m L c) (ha : ∀ u, u < m → ¬Zkm n p.Ex u) : Zqb n (flN n.Arcs p.Res) (fun x => x = 0) [n.S, n.T] := by
 refine ⟨h.ok.within r, fun v hv => ?_⟩
 have hm := r.hm
 by_cases hc : (v : Int) ∈ [n.S, n.T]
 · exact .inr hc
 ·
  left
  simp only [List.mem_cons, List.not_mem_nil, or_false, not_or] at hc
  have hvm : v < m := by omega
  have h1 := h.nn v hvm hc.1
  have h2 := h.ok.ex v hvm
  have h3 : ¬0 < p.Ex.getD v 0 := fun h0 => ha v hvm ⟨hc.1, hc.2, h0⟩
  omega
end row
end Go.Acq
namespace Go.Acq
open Go
set_option linter.unusedSimpArgs false
end Go.Acq
namespace Go.Acq
open Go
set_option linter.unusedSimpArgs false
theorem Zfg {α : Type} {xs : List α} {y d : α} {i : Nat} (h : i < xs.length) : (xs ++ [y]).getD i d = xs.getD i d := by
 rw [List.getD_eq_getElem?_getD, List.getElem?_append_left h, List.getD_eq_getElem?_getD]
theorem Z7r {α : Type} {xs : List α} {y d : α} {i : Nat} (h : i = xs.length) : (xs ++ [y]).getD i d = y := by
 subst h
 rw [List.getD_eq_getElem?_getD, List.getElem?_append_right (Nat.le_refl _)]; simp
structure PathP (n : Net) (v : Int) (l : List Hop) (w : Int) : Prop where
  way : WayK n l l.length
  start : 0 < l.length → hfr n (l.getD 0 default) = v
  fin : w = if l.length = 0 then v else hto n (l.getD (l.length - 1) default)
theorem PathP.nil (n : Net) (v : Int) : PathP n v [] v := ⟨⟨fun i h => by simp at h, fun i h => by simp at h⟩, fun h => by simp at h, rfl⟩
theorem PathP.app {n : Net} {v w : Int} {l : List Hop} (h : PathP n v l w) {p : Hop} (hp : hok n p) (hw : hfr n p = w) : PathP n v (l ++ [p]) (hto n p) := by
 refine ⟨⟨fun i hi => ?_, fun i hi => ?_⟩, fun _ => ?_, ?_⟩
 ·
  rw [List.length_append, List.length_singleton] at hi
  rcases Nat.lt_or_ge i l.length with h1 | h1
  · rw [Zfg h1]; exact h.way.1 i h1
  · rw [Z7r (by omega)]; exact hp
 ·
  rw [List.length_append, List.length_singleton] at hi
  rcases Nat.lt_or_ge (i + 1) l.length with h1 | h1
  · rw [Zfg h1, Zfg (by omega)]; exact h.way.2 i h1
  · rw [Z7r (by omega), Zfg (by omega), hw, h.fin, if_neg (by omega), show l.length - 1 = i by omega]
 ·
  rcases Nat.lt_or_ge 0 l.length with h1 | h1
  · rw [Zfg h1]; exact h.start h1
  · rw [Z7r (by omega), hw, h.fin, if_pos (by omega)]
 · rw [List.length_append, List.length_singleton, if_neg (by omega), Nat.add_sub_cancel, Z7r rfl]
def one (a b : Int) : Int := if a = b then 1 else 0
def Zod (h : Hop) : Hop := ⟨h.Arc, !h.Back⟩
theorem hfr_flip (n : Net) (h : Hop) : hfr n (Zod h) = hto n h := by
 unfold hfr hto Zod
 cases hB : h.Back <;> simp
theorem hto_flip (n : Net) (h : Hop) : hto n (Zod h) = hfr n h := by
 unfold hfr hto Zod
 cases hB : h.Back <;> simp
def BackIs (l b : List Hop) : Prop := b.length = l.length ∧ ∀ q, q < l.length → b.getD q default = Zod (l.getD (l.length - 1 - q) default)
theorem BackIs.way {n : Net} {l b : List Hop} (h : BackIs l b) (hw : WayK n l l.length) : WayK n b b.length := by
 rw [h.1]
 refine ⟨fun i hi => ?_, fun i hi => ?_⟩
 · rw [h.2 i hi]; exact hw.1 _ (by omega)
 ·
  rw [h.2 i (by omega), h.2 (i + 1) hi, hfr_flip, hto_flip]
  have := hw.2 (l.length - 1 - (i + 1)) (by omega)
  rw [show l.length - 1 - (i + 1) + 1 = l.length - 1 - i by omega] at this
  exact this.symm
theorem BackIs.cnt {l b : List Hop} (h : BackIs l b) (i : Int) : Zqa b i b.length = -Zqa l i l.length := by
 have key : ∀ q, q ≤ l.length → Zqa b i q = Zqa l i (l.length - q) - Zqa l i l.length := by
  intro q
  induction q with
  | zero => intro _; simp only [Zqa, Nat.sub_zero]; omega
  | succ q ih =>
   intro hq
   have e : l.length - q = (l.length - 1 - q) + 1 := by omega
   have ih := ih (by omega)
   rw [e] at ih
   simp only [Zqa] at ih ⊢
   rw [ih, h.2 q (by omega), show l.length - (q + 1) = l.length - 1 - q by omega]
   simp only [Zod]
   by_cases c : (l.getD (l.length - 1 - q) default).Arc = i
   ·
    by_cases hB : (l.getD (l.length - 1 - q) default).Back = true
    · simp only [c, hB, if_true, Bool.not_true, Bool.false_eq_true, if_false]; omega
    · simp only [c, if_true, Bool.eq_false_iff.2 hB, Bool.not_false, Bool.false_eq_true, if_false]; omega
   · simp only [c, if_false]; omega
 rw [h.1, key _ (Nat.le_refl _), Nat.sub_self]
 simp only [Zqa]; omega
end Go.Acq
namespace Go.Acq
open Go
set_option linter.unusedSimpArgs false
set_option linter.unusedVariables false
theorem Zfe {n : Net} {v : Int} : Z2h n v = some (Z3q n.N v) := by
 unfold Z2h Z3q
 refine Zl6 ?_
 refine Ok.ite.2 ⟨fun h => Ok.some.2 ?_, fun h => Ok.some.2 ?_⟩
 · rw [Bool.eq_iff_iff, decide_eq_true_iff, decide_eq_true_iff]; omega
 · exact (decide_eq_false (by omega)).symm
theorem s_rSum {n : Net} (h : Z7t n.N n.S n.T n.Arcs = 0) : Ok (Z6h n) (fun t => t.2 = true) := by
 have hz := Z1t h
 have ht := Zdd h
 have hc := Z9t h
 unfold Z6h
 refine Ok.bind.2 (Z7g (fun s => ∃ k : Nat, s.2 = k ∧ k ≤ n.Arcs.length ∧ s.1 = Znw n.Arcs k) (fun s => (n.Arcs.length - s.2).toNat) ⟨0, rfl, by omega, rfl⟩ (by unfold Z3k; simp only; omega) ?_)
 rintro ⟨s, x⟩ ⟨k, h1, h2, h3⟩ P next exit
 simp only at h1 h3 next ⊢
 subst h1; subst h3
 unfold Z50
 simp only [Int.toNat_natCast]
 refine Ok.ite.2 ⟨fun hx => ?_, fun hx => Ok.some.2 (exit _ (by unfold Z6g; exact Ok.some.2 rfl))⟩
 have c1 := hc k (by omega)
 have t1 := ht k (by omega)
 have t2 := ht (k + 1) (by omega)
 simp only [Znw] at t2
 refine Ok.gd.2 ⟨(by omega), Ok.ite.2 ⟨fun h => by omega, fun _ => Ok.gd.2 ⟨(by omega), ?_⟩⟩⟩
 unfold Z51
 rw [if_neg (by simp only [decide_eq_true_eq]; omega)]
 simp only [Int.toNat_natCast]
 exact Ok.gd.2 ⟨(by omega), Ok.gd.2 ⟨(by omega), Ok.some.2 (next _ ⟨k + 1, by simp, by omega, by simp only [Znw]⟩ (by simp only; omega))⟩⟩
theorem s_rCheck {n : Net} (h : Z7t n.N n.S n.T n.Arcs = 0) : Z5b n = some 0 := by
 have hz := Z1t h
 have hc := Z9t h
 obtain ⟨m, hm, he⟩ := Zhh h
 refine Zl6 ?_
 unfold Z5b
 rw [if_neg (by omega), if_neg (by omega), if_neg (by omega), Zfe, Zfe, hz.2.2.1.1, hz.2.2.1.2.1]
 simp only [Option.bind_some]
 rw [if_neg (by simp), if_neg (by simp), if_neg hz.2.2.1.2.2]
 refine Ok.bind.2 (Z7g (fun s => ∃ k : Nat, s.2 = k ∧ k ≤ n.Arcs.length ∧ s.1 = false) (fun s => (n.Arcs.length - s.2).toNat) ⟨0, rfl, by omega, rfl⟩ (by unfold Z3k; simp only; omega) ?_)
 rintro ⟨s, x⟩ ⟨k, h1, h2, h3⟩ P next exit
 simp only at h1 h3 next ⊢
 subst h1; subst h3
 unfold Z3u
 simp only [Int.toNat_natCast]
 refine Ok.ite.2 ⟨fun hx => ?_, fun hx => Ok.some.2 (exit _ ?_)⟩
 ·
  have e0 := he k (by omega) false
  have e1 := he k (by omega) true
  simp only [vtx, Bool.false_eq_true, if_false, if_true] at e0 e1
  have c1 := hc k (by omega)
  have v0 : Z3q n.N (n.Arcs.getD k default).fr = true := decide_eq_true (by omega)
  have v1 : Z3q n.N (n.Arcs.getD k default).to = true := decide_eq_true (by omega)
  refine Ok.gd.2 ⟨(by omega), Ok.bind.2 ?_⟩
  rw [Zfe, v0]
  refine Ok.some.2 ?_
  rw [if_neg (by simp), Zfe, v1]
  refine Ok.bind.2 (Ok.some.2 ?_)
  rw [if_neg (by simp), if_neg (by simp)]
  exact Ok.gd.2 ⟨(by omega), Ok.some.2 (next _ ⟨k + 1, by simp, by omega, decide_eq_false (by omega)⟩ (by simp only; omega))⟩
 ·
  simp only
  unfold Z5k
  rw [if_neg (by simp)]
  refine Ok.bind.2 (Ok.mono (s_rSum h) ?_)
  rintro ⟨a, b⟩ hb
  simp only at hb
  subst hb
  simp only
  rw [if_neg (by simp)]
  exact Ok.some.2 rfl
structure RM (al : List Arc) (d : Nat) (hs cs aa : List Int) (bs : List Bool) : Prop where
  lh : hs.length = d
  lc : cs.length = d
  la : aa.length = d
  lb : bs.length = d
  at' : ∀ i s, i < al.length → (al.getD i default).fr ≠ (al.getD i default).to → pos al i s < d → hs.getD (pos al i s) 0 = vtx (al.getD i default) (!s) ∧ cs.getD (pos al i s) 0 = (if s then 0 else (al.getD i default).cap) ∧ aa.getD (pos al i s) 0 = i ∧ bs.getD (pos al i s) false = s
theorem RM.put {al : List Arc} {m d k : Nat} {hs cs aa : List Int} {bs : List Bool} {s : Bool} (h : RM al d hs cs aa bs) (he : Z52 m al) (hk : k < al.length) (hne : (al.getD k default).fr ≠ (al.getD k default).to) (hp : pos al k s = d) :
    RM al (d + 1) (hs ++ [vtx (al.getD k default) (!s)]) (cs ++ [if s then 0 else (al.getD k default).cap]) (aa ++ [(k : Int)]) (bs ++ [s]) := by
  obtain ⟨lh, lc, la, lb, ha⟩ := h
  refine ⟨by simp [lh], by simp [lc], by simp [la], by simp [lb], fun i t hi hni hlt => ?_⟩
  by_cases e : pos al i t < d
  · rw [Z2o (by omega), Z2o (by omega), Z2o (by omega), Z2o (by omega)]
    exact ha i t hi hni e
  · have e2 : pos al i t = d := by omega
    obtain ⟨rfl, rfl⟩ := Z8r he hi hk hni hne (e2.trans hp.symm)
    rw [e2, Z7r lh.symm, Z7r lc.symm, Z7r la.symm, Z7r lb.symm]
    exact ⟨rfl, rfl, rfl, rfl⟩
theorem s_rMake {n : Net} {m : Nat} (hm : n.N = m) (hk : Z7t n.N n.S n.T n.Arcs = 0) : Ok (Z5r n) (fun t => CsrIs n m t.1 ∧ t.2 = 0) := by
 have hz := Z1t hk
 have he : Z52 m n.Arcs := Z7f (by rw [← hm]; exact hz.2.2.2.1)
 have hmb : m ≤ 4096 := by omega
 have hlb : n.Arcs.length ≤ 16384 := by omega
 have hbs : ∀ v, v ≤ m → Z11 n.Arcs v ≤ 67108864 := fun v hv => Z7u (by omega) hlb
 unfold Z5r
 rw [s_rCheck hk]
 simp only [Option.bind_some]
 rw [if_neg (by simp)]
 refine Ok.bind.2 (Z7g (fun s => ∃ v : Nat, s.2.2.2.2.2 = v ∧ v ≤ m ∧ s.1.length = v ∧ (∀ u, u < v → s.1.getD u 0 = Z11 n.Arcs u) ∧ RM n.Arcs (Z11 n.Arcs v) s.2.1 s.2.2.1 s.2.2.2.1 s.2.2.2.2.1) (fun s => (m - s.2.2.2.2.2).toNat)
  ⟨0, rfl, by omega, rfl, fun u hu => by omega, ⟨rfl, rfl, rfl, rfl, fun i s _ _ h => by simp [Z11] at h⟩⟩ (by unfold Z3k; simp only; omega) ?_)
 rintro ⟨F, H, C, A, B, x⟩ ⟨v, h1, h2, h3, h4, h5⟩ P next exit
 simp only at h1 h3 h4 h5 next ⊢
 subst h1
 unfold Z4g
 rw [hm]
 have lh := h5.lh
 refine Ok.ite.2 ⟨fun hx => ?_, fun hx => Ok.some.2 (exit _ ?_)⟩
 ·
  have hv : v < m := by omega
  have hb1 := hbs (v + 1) (by omega)
  simp only [Z11] at hb1
  refine Ok.gd.2 ⟨by simp only [List.length_append, List.length_singleton]; constructor <;> omega, Ok.bind.2 ?_⟩
  refine Z7g (fun s => ∃ k : Nat, s.2.2.2.2 = k ∧ k ≤ n.Arcs.length ∧ RM n.Arcs (Z11 n.Arcs v + cnt n.Arcs v k) s.1 s.2.1 s.2.2.1 s.2.2.2.1) (fun s => (n.Arcs.length - s.2.2.2.2).toNat) ⟨0, rfl, by omega, by simpa [cnt] using h5⟩ (by unfold Z3k; simp only; omega) ?_
  rintro ⟨H', C', A', B', y⟩ ⟨k, g1, g2, g3⟩ P' next' exit'
  simp only at g1 g3 next' ⊢
  subst g1
  unfold Z4f
  simp only [Int.toNat_natCast]
  have gl := g3.lh
  have gc := g3.lc
  have ga := g3.la
  have gb := g3.lb
  refine Ok.ite.2 ⟨fun hy => Ok.gd.2 ⟨(by omega), ?_⟩, fun hy => Ok.some.2 (exit' _ ?_)⟩
  ·
   have hkl : k < n.Arcs.length := by omega
   have hcm := Znb (al := n.Arcs) (v := v) (i := k + 1) (j := n.Arcs.length) (by omega)
   have hhit := Zr1 (n.Arcs.getD k default) v
   have hcs : cnt n.Arcs v (k + 1) = cnt n.Arcs v k + hit (n.Arcs.getD k default) v := rfl
   refine Ok.ite.2 ⟨fun e => Ok.gd.2 ⟨(by omega), Ok.some.2 (next' _ ⟨k + 1, by simp, by omega, ?_⟩ (by simp only; omega))⟩, fun hne => Ok.ite.2 ⟨fun e => ?_, fun e => ?_⟩⟩
   · rw [hcs, show hit (n.Arcs.getD k default) v = 0 by unfold hit; rw [if_pos e]]; exact g3
   ·
    have hh : hit (n.Arcs.getD k default) v = 1 := by unfold hit; rw [if_neg hne, if_pos (.inl e)]
    have hp : pos n.Arcs k false = Z11 n.Arcs v + cnt n.Arcs v k := by unfold pos vtx; simp only [Bool.false_eq_true, if_false, e, Int.toNat_natCast]
    have hput := g3.put he hkl hne hp
    refine Ok.gd.2 ⟨by simp only [List.length_append, List.length_singleton]; constructor <;> omega, Ok.gd.2 ⟨by simp only [List.length_append, List.length_singleton]; constructor <;> omega, Ok.gd.2 ⟨by simp only [List.length_append, List.length_singleton]; constructor <;> omega, Ok.gd.2 ⟨by simp only [List.length_append, List.length_singleton]; constructor <;> omega, ?_⟩⟩⟩⟩
    unfold Z3e
    simp only [Int.toNat_natCast]
    rw [if_neg (fun e2 => hne (by omega))]
    refine Ok.gd.2 ⟨(by omega), Ok.some.2 (next' _ ⟨k + 1, by simp, by omega, ?_⟩ (by simp only; omega))⟩
    rw [hcs, hh]
    simpa [vtx, Nat.add_assoc] using hput
   ·
    unfold Z3e
    simp only [Int.toNat_natCast]
    refine Ok.ite.2 ⟨fun e2 => ?_, fun e2 => Ok.gd.2 ⟨(by omega), Ok.some.2 (next' _ ⟨k + 1, by simp, by omega, ?_⟩ (by simp only; omega))⟩⟩
    ·
     have hh : hit (n.Arcs.getD k default) v = 1 := by unfold hit; rw [if_neg hne, if_pos (.inr e2)]
     have hp : pos n.Arcs k true = Z11 n.Arcs v + cnt n.Arcs v k := by unfold pos vtx; simp only [if_true, e2, Int.toNat_natCast]
     have hput := g3.put he hkl hne hp
     refine Ok.gd.2 ⟨by simp only [List.length_append, List.length_singleton]; constructor <;> omega, Ok.gd.2 ⟨by simp only [List.length_append, List.length_singleton]; constructor <;> omega, Ok.gd.2 ⟨by simp only [List.length_append, List.length_singleton]; constructor <;> omega, Ok.gd.2 ⟨by simp only [List.length_append, List.length_singleton]; constructor <;> omega, Ok.gd.2 ⟨(by omega), Ok.some.2 (next' _ ⟨k + 1, by simp, by omega, ?_⟩ (by simp only; omega))⟩⟩⟩⟩⟩
     rw [hcs, hh]
     simpa [vtx, Nat.add_assoc] using hput
    · rw [hcs, show hit (n.Arcs.getD k default) v = 0 by unfold hit; rw [if_neg hne, if_neg (fun h => h.elim e e2)]]; exact g3
  ·
   obtain rfl : k = n.Arcs.length := by omega
   simp only
   unfold Z61
   refine Ok.gd.2 ⟨(by omega), Ok.some.2 (next _ ⟨v + 1, by simp, by omega, by simp [h3], fun u hu => ?_, g3⟩ (by simp only; omega))⟩
   simp only
   by_cases e : u < v
   · rw [Z2o (by omega)]; exact h4 u e
   ·
    obtain rfl : u = v := by omega
    rw [Z7r h3.symm, lh]
 ·
  obtain rfl : v = m := by omega
  simp only
  unfold Z60
  have hb1 := hbs v (Nat.le_refl _)
  have la := h5.la
  refine Ok.gd.2 ⟨by simp only [List.length_append, List.length_singleton]; constructor <;> omega, Ok.bind.2 ?_⟩
  refine Z7g (fun s => ∃ k : Nat, s.2 = k ∧ k ≤ Z11 n.Arcs v ∧ s.1.length = k ∧ ∀ i s', i < n.Arcs.length → (n.Arcs.getD i default).fr ≠ (n.Arcs.getD i default).to → pos n.Arcs i s' < k → s.1.getD (pos n.Arcs i s') 0 = pos n.Arcs i (!s')) (fun s => (Z11 n.Arcs v - s.2).toNat) ⟨0, rfl, by omega, rfl, fun i s _ _ h => by omega⟩ (by unfold Z3k; simp only; omega) ?_
  rintro ⟨R, y⟩ ⟨k, g1, g2, g3, g4⟩ P' next' exit'
  simp only at g1 g3 g4 next' ⊢
  subst g1
  unfold Z4e
  refine Ok.ite.2 ⟨fun hy => Ok.bind.2 ?_, fun hy => Ok.some.2 (exit' _ ?_)⟩
  ·
   have hkL : k < Z11 n.Arcs v := by omega
   obtain ⟨a, s, ha, hna, hpa, -⟩ := Zhf hkL
   have hq : pos n.Arcs a (!s) < Z11 n.Arcs v := Zdi ha hna he
   have hqk : pos n.Arcs a (!s) ≠ k := fun e => by have := (Z8r he ha ha hna hna (e.trans hpa.symm)).2; cases s <;> cases this
   have hak : A.getD k 0 = (a : Int) := by rw [← hpa]; exact (h5.at' a s ha hna (by omega)).2.2.1
   refine Z7g (fun z => ∃ j : Nat, z.2 = j ∧ j ≤ Z11 n.Arcs v ∧ z.1 = R ++ (if pos n.Arcs a (!s) < j then [((pos n.Arcs a (!s) : Nat) : Int)] else [])) (fun z => (Z11 n.Arcs v - z.2).toNat) ⟨0, rfl, by omega, by simp⟩ (by unfold Z3k; simp only; omega) ?_
   rintro ⟨R', z⟩ ⟨j, f1, f2, f3⟩ P2 next2 exit2
   simp only at f1 f3 next2 ⊢
   subst f1; subst f3
   unfold Z4d
   simp only [Int.toNat_natCast]
   refine Ok.ite.2 ⟨fun hj => Ok.gd.2 ⟨(by omega), Ok.gd.2 ⟨(by omega), ?_⟩⟩, fun hj => Ok.some.2 (exit2 _ ?_)⟩
   ·
    have hjL : j < Z11 n.Arcs v := by omega
    obtain ⟨b, t, hb, hnb, hpb, -⟩ := Zhf hjL
    have haj : A.getD j 0 = (b : Int) := by rw [← hpb]; exact (h5.at' b t hb hnb (by omega)).2.2.1
    simp only [hak, haj]
    have hlen : (R ++ (if pos n.Arcs a (!s) < j then [((pos n.Arcs a (!s) : Nat) : Int)] else [])).length ≤ 67108865 := by rw [List.length_append]; split <;> simp <;> omega
    have key : ((a : Int) = (b : Int) ∧ (k : Int) ≠ (j : Int)) ↔ pos n.Arcs a (!s) = j := by
     constructor
     ·
      rintro ⟨e1, e2⟩
      obtain rfl : a = b := by omega
      rw [← hpb]
      cases s <;> cases t <;> first | rfl | (exfalso; rw [hpa] at hpb; omega)
     ·
      intro e
      obtain ⟨e1, e2⟩ := Z8r he ha hb hna hnb (e.trans hpb.symm)
      exact ⟨by omega, by omega⟩
    have j8 : ∀ q : Bool, (q = true ↔ pos n.Arcs a (!s) = j) → Ok (Z3d (R ++ (if pos n.Arcs a (!s) < j then [((pos n.Arcs a (!s) : Nat) : Int)] else [])) j q) P2 := fun q hq => by
     unfold Z3d
     refine Ok.ite.2 ⟨fun h => Ok.gd.2 ⟨by rw [List.length_append, List.length_singleton]; constructor <;> omega, Ok.gd.2 ⟨(by omega), Ok.some.2 (next2 _ ⟨j + 1, by simp, by omega, ?_⟩ (by simp only; omega))⟩⟩, fun h => Ok.gd.2 ⟨(by omega), Ok.some.2 (next2 _ ⟨j + 1, by simp, by omega, ?_⟩ (by simp only; omega))⟩⟩
     ·
      have e := hq.1 h
      simp only
      rw [if_neg (by omega), if_pos (by omega), List.append_nil, e]
     ·
      have e : pos n.Arcs a (!s) ≠ j := fun e => h (hq.2 e)
      simp only
      by_cases e2 : pos n.Arcs a (!s) < j
      · rw [if_pos e2, if_pos (by omega)]
      · rw [if_neg e2, if_neg (by omega)]
    refine Ok.ite.2 ⟨fun e => j8 _ ?_, fun e => j8 _ ⟨fun h => (by cases h), fun h => absurd (key.2 h).1 e⟩⟩
    rw [decide_eq_true_iff, ← key]
    exact ⟨fun h => ⟨e, h⟩, fun h => h.2⟩
   ·
    obtain rfl : j = Z11 n.Arcs v := by omega
    unfold Z5z
    rw [if_pos hq]
    refine Ok.gd.2 ⟨(by omega), Ok.some.2 (next' _ ⟨k + 1, by simp, by omega, by simp [g3], fun i s' hi hni hlt => ?_⟩ (by simp only; omega))⟩
    simp only
    by_cases e : pos n.Arcs i s' < k
    · rw [Z2o (by omega)]; exact g4 i s' hi hni e
    ·
     have e2 : pos n.Arcs i s' = k := by omega
     obtain ⟨rfl, rfl⟩ := Z8r he hi ha hni hna (e2.trans hpa.symm)
     rw [e2, Z7r g3.symm]
  ·
   obtain rfl : k = Z11 n.Arcs v := by omega
   unfold Z5j
   refine Ok.some.2 ⟨⟨hm, rfl, rfl, ⟨by simp [h3], lh, g3, h5.lc, la, h5.lb, fun u hu => ?_, fun i hi hni s => ?_⟩⟩, rfl⟩
   ·
    simp only
    by_cases e : u < v
    · rw [Z2o (by omega)]; exact h4 u e
    ·
     obtain rfl : u = v := by omega
     rw [Z7r h3.symm, lh]
   ·
    have hlt := Zdi (s := s) hi hni he
    obtain ⟨z1, z2, z3, z4⟩ := h5.at' i s hi hni hlt
    exact ⟨z1, g4 i s hi hni hlt, z2, z3, z4⟩
end Go.Acq
namespace Go.Acq
open Go
set_option linter.unusedSimpArgs false
set_option linter.unusedVariables false
section row
variable {n : Net} {m L : Nat} {c : Csr}
def Zfr (c : Csr) (d : Int) : List Nat → List Int → List Int
  | [], R => R
  | j :: w, R => Zfr c d w (mvR c R j d)
def augX (c : Csr) (d : Int) : List Nat → List Int → List Int
  | [], X => X
  | j :: w, X => augX c d w (mvX c X j d)
inductive WayD (c : Csr) (L : Nat) (R : List Int) (D : Nat → Nat) (d : Int) : Nat → List Nat → Nat → Prop
  | nil (v : Nat) : WayD c L R D d v [] v
  | cons {j : Nat} {w : List Nat} {t : Nat} (hj : j < L) (hd0 : d ≤ R.getD j 0) (hl : D (tl c j) = D (hd c j) + 1) (hw : WayD c L R D d (hd c j) w t) : WayD c L R D d (tl c j) (j :: w) t
theorem WayD.mem {R : List Int} {D : Nat → Nat} {d : Int} {u t : Nat} {w : List Nat} (h : WayD c L R D d u w t) : ∀ j, j ∈ w → j < L ∧ d ≤ R.getD j 0 ∧ D (tl c j) = D (hd c j) + 1 ∧ D (tl c j) ≤ D u := by
 induction h with
 | nil => intro j hj; cases hj
 | cons hj h0 hl hw ih =>
  intro k hk
  rcases List.mem_cons.1 hk with rfl | hk
  · exact ⟨hj, h0, hl, Nat.le_refl _⟩
  ·
   obtain ⟨a, b, e, f⟩ := ih k hk
   exact ⟨a, b, e, by omega⟩
theorem WayD.len {R : List Int} {D : Nat → Nat} {d : Int} {u t : Nat} {w : List Nat} (h : WayD c L R D d u w t) : D u = D t + w.length := by
 induction h with
 | nil => rfl
 | cons hj h0 hl hw ih => rw [List.length_cons, hl, ih]; omega
theorem Zmj {D : Nat → Nat} {j : Nat} (r : Row n m L c) (hj : j < L) (h : D (tl c j) = D (hd c j) + 1) : D (hd c (rv c j)) = D (tl c (rv c j)) + 1 := by
 rw [(r.tlh hj).2.2.1, (r.tlh hj).2.1]; exact h
theorem WayD.mv {R : List Int} {D : Nat → Nat} {d : Int} {u t j0 : Nat} {w : List Nat} (r : Row n m L c) (hr : R.length = L) (hj0 : j0 < L) (hl0 : D (tl c j0) = D (hd c j0) + 1) (h : WayD c L R D d u w t) (hu : D u < D (tl c j0)) : WayD c L (mvR c R j0 d) D d u w t := by
 induction h with
 | nil => exact .nil _
 | @cons j w t hj h0 hl hw ih =>
  refine .cons hj ?_ hl (ih (by omega))
  have e := Zmj r hj0 hl0
  rw [Zbk r hr hj0, if_neg (fun h => by subst h; omega), if_neg (fun h => by subst h; omega)]
  exact h0
theorem Zmh {R : List Int} {j : Nat} {d : Int} : (mvR c R j d).length = R.length := by unfold mvR; simp
theorem mvX_len {X : List Int} {j : Nat} {d : Int} : (mvX c X j d).length = X.length := by unfold mvX; simp
theorem WayD.ok {D : Nat → Nat} {d : Int} {u t : Nat} {w : List Nat} (r : Row n m L c) (d0 : 0 ≤ d) {R X : List Int} (h : WayD c L R D d u w t) (hR : ResOK n m L c R X) : ResOK n m L c (Zfr c d w R) (augX c d w X) := by
 induction w generalizing R X u with
 | nil => exact hR
 | cons j w ih =>
  cases h with
  | cons hj h0 hl hw =>
   exact ih (hw.mv r hR.lr hj hl (by omega)) (hR.move r hj d0 h0)
theorem WayD.getX {D : Nat → Nat} {d : Int} {u t : Nat} {w : List Nat} (r : Row n m L c) {R X : List Int} (hr : R.length = L) (hx : X.length = m) (h : WayD c L R D d u w t) (v : Nat) : (augX c d w X).getD v 0 = X.getD v 0 - (if u = v then d else 0) + (if t = v then d else 0) := by
 induction w generalizing R X u with
 | nil => cases h; simp only [augX]; omega
 | cons j w ih =>
  cases h with
  | cons hj h0 hl hw =>
   simp only [augX]
   rw [ih (by rw [Zmh]; exact hr) (by rw [mvX_len]; exact hx) (hw.mv r hr hj hl (by omega)), Zk3 r hx hj]
   omega
theorem WayD.getR {D : Nat → Nat} {d : Int} {u t : Nat} {w : List Nat} (r : Row n m L c) {R : List Int} (hr : R.length = L) (h : WayD c L R D d u w t) {k : Nat} (hk : k < L) : (Zfr c d w R).getD k 0 = R.getD k 0 - (if k ∈ w then d else 0) + (if rv c k ∈ w then d else 0) := by
 induction w generalizing R u with
 | nil => cases h; simp [Zfr]
 | cons j w ih =>
  cases h with
  | cons hj h0 hl hw =>
   have hjw : j ∉ w := fun h => by have := (hw.mem j h).2.2.2; omega
   have hjr : rv c j ∉ w := fun h => by have := (hw.mem _ h).2.2.1; have := Zmj r hj hl; omega
   have hrr := r.rev hj
   have hrk := r.rev hk
   simp only [Zfr]
   rw [ih (by rw [Zmh]; exact hr) (hw.mv r hr hj hl (by omega)), Zbk r hr hj]
   simp only [List.mem_cons]
   by_cases e1 : k = rv c j
   ·
    subst e1
    rw [if_pos rfl, hrr.2.2.1]
    simp [hjr, hjw, hrr.2.2.2]
   ·
    rw [if_neg e1]
    have e2 : rv c k ≠ j := fun h => e1 (by rw [← h, hrk.2.2.1])
    by_cases e3 : k = j
    ·
     subst e3
     rw [if_pos rfl]
     simp [hjr, hjw, e2]
    ·
     rw [if_neg e3]
     simp only [e3, e2, false_or]
def LabD (c : Csr) (L : Nat) (R : List Int) (D : Nat → Nat) : Prop := ∀ j, j < L → 0 < R.getD j 0 → D (tl c j) ≤ D (hd c j) + 1
def Zm6 (p : Nat → Bool) : Nat → Nat
  | 0 => 0
  | k + 1 => Zm6 p k + if p k = true then 1 else 0
theorem Zr6 (p : Nat → Bool) : ∀ k, Zm6 p k ≤ k
 | 0 => Nat.le_refl _
 | k + 1 => by have := Zr6 p k; simp only [Zm6]; split <;> omega
theorem Zld {p q : Nat → Bool} : ∀ {k : Nat}, (∀ j, j < k → p j = true → q j = true) → Zm6 p k ≤ Zm6 q k
 | 0, _ => Nat.le_refl _
 | k + 1, h => by
  have ih := Zld (k := k) fun j hj => h j (by omega)
  have h1 := h k (by omega)
  simp only [Zm6]
  by_cases e : p k = true
  · rw [if_pos e, if_pos (h1 e)]; omega
  · rw [if_neg e]; split <;> omega
theorem Zr5 {p q : Nat → Bool} : ∀ {k : Nat}, (∀ j, j < k → p j = true → q j = true) → (∃ j, j < k ∧ q j = true ∧ p j = false) → Zm6 p k < Zm6 q k
 | 0, _, ⟨j, hj, _⟩ => by omega
 | k + 1, h, ⟨j, hj, h1, h2⟩ => by
  have h3 := h k (by omega)
  simp only [Zm6]
  by_cases e : j = k
  ·
   subst e
   have ih := Zld (k := j) fun i hi => h i (by omega)
   rw [if_pos h1, if_neg (by rw [h2]; simp)]; omega
  ·
   have ih := Zr5 (k := k) (fun i hi => h i (by omega)) ⟨j, by omega, h1, h2⟩
   by_cases e : p k = true
   · rw [if_pos e, if_pos (h3 e)]; omega
   · rw [if_neg e]; split <;> omega
def Zde (c : Csr) (R : List Int) (D : Nat → Nat) (j : Nat) : Bool := decide (0 < R.getD j 0 ∧ D (tl c j) = D (hd c j) + 1)
theorem LabD.way {R : List Int} {D E : Nat → Nat} {d : Int} {u t : Nat} {w : List Nat} (hE : LabD c L R E) (h : WayD c L R D d u w t) (d0 : 0 < d) : E u ≤ E t + w.length ∧ (E u = E t + w.length → ∀ j, j ∈ w → E (tl c j) = E (hd c j) + 1) := by
 induction h with
 | nil => exact ⟨Nat.le_refl _, fun _ j hj => by cases hj⟩
 | @cons j w t hj h0 hl hw ih =>
  obtain ⟨i1, i2⟩ := ih
  have h1 := hE j hj (by omega)
  rw [List.length_cons]
  refine ⟨by omega, fun e k hk => ?_⟩
  rcases List.mem_cons.1 hk with rfl | hk
  · omega
  · exact i2 (by omega) k hk
theorem Zn5 {R X : List Int} {D E : Nat → Nat} {d : Int} {u t : Nat} {w : List Nat} (r : Row n m L c) (hr : R.length = L) (hE : LabD c L R E) (h : WayD c L R D d u w t) (d0 : 0 < d) (hmin : ∃ j, j ∈ w ∧ R.getD j 0 = d) (hlen : E u = E t + w.length) :
    LabD c L (Zfr c d w R) E ∧ Zm6 (Zde c (Zfr c d w R) E) L < Zm6 (Zde c R E) L := by
  have ht := (hE.way h d0).2 hlen
  have hup : ∀ k, k < L → rv c k ∈ w → E (hd c k) = E (tl c k) + 1 := fun k hk hm => by
    have h1 := Zmj r (r.rev hk).2.1 (ht _ hm)
    rw [(r.rev hk).2.2.1] at h1
    exact h1
  refine ⟨fun k hk ho => ?_, Zr5 (fun k hk hp => ?_) ?_⟩
  · rw [h.getR r hr hk] at ho
    by_cases e : rv c k ∈ w
    · have := hup k hk e; omega
    · rw [if_neg e] at ho
      refine hE k hk ?_
      split at ho <;> omega
  · simp only [Zde, decide_eq_true_eq] at hp ⊢
    obtain ⟨h1, h2⟩ := hp
    refine ⟨?_, h2⟩
    rw [h.getR r hr hk] at h1
    by_cases e : rv c k ∈ w
    · have := hup k hk e; omega
    · rw [if_neg e] at h1
      split at h1 <;> omega
  · obtain ⟨j, hj, hjd⟩ := hmin
    obtain ⟨hjL, -, -, -⟩ := h.mem j hj
    have h1 := ht j hj
    refine ⟨j, hjL, ?_, ?_⟩
    · simp only [Zde, decide_eq_true_eq]; exact ⟨by omega, h1⟩
    · simp only [Zde, decide_eq_false_iff_not]
      rintro ⟨h2, -⟩
      rw [h.getR r hr hjL, if_pos hj, hjd] at h2
      by_cases e : rv c j ∈ w
      · have := hup j hjL e; omega
      · rw [if_neg e] at h2; omega
def StepsD (m L : Nat) (c : Csr) (R : List Int) (s t μ : Nat) : Prop := ∃ E : Nat → Nat, LabD c L R E ∧ E t = 0 ∧ E s ≤ m ∧ (m - E s) * (L + 1) + Zm6 (Zde c R E) L ≤ μ
theorem Zm4 (R : List Int) (s t : Nat) : StepsD m L c R s t (m * (L + 1)) := by
 have : ∀ k, Zm6 (Zde c R fun _ => 0) k = 0 := fun k => by
  induction k with
  | zero => rfl
  | succ k ih => simp only [Zm6, ih, Zde]; simp
 exact ⟨fun _ => 0, fun j _ _ => Nat.zero_le _, rfl, Nat.zero_le _, by rw [this]; exact Nat.le_refl _⟩
theorem StepsD.step {R : List Int} {D : Nat → Nat} {d : Int} {s t μ : Nat} {w : List Nat} (r : Row n m L c) (hr : R.length = L) (h : WayD c L R D d s w t) (hD : LabD c L R D) (hDt : D t = 0) (hDs : D s < m) (d0 : 0 < d) (hmin : ∃ j, j ∈ w ∧ R.getD j 0 = d) (hS : StepsD m L c R s t μ) :
    ∃ ν, ν + 1 ≤ μ ∧ StepsD m L c (Zfr c d w R) s t ν := by
  obtain ⟨E, hE, hEt, hEs, hμ⟩ := hS
  have hlen := h.len
  have h1 := (hE.way h d0).1
  have ht := Zr6 (Zde c R D) L
  by_cases e : E s = D s
  · obtain ⟨g1, g2⟩ := Zn5 (X := []) r hr hE h d0 hmin (by omega)
    exact ⟨(m - E s) * (L + 1) + Zm6 (Zde c (Zfr c d w R) E) L, by omega, E, g1, hEt, hEs, Nat.le_refl _⟩
  · obtain ⟨g1, g2⟩ := Zn5 (X := []) r hr hD h d0 hmin (by omega)
    refine ⟨(m - D s) * (L + 1) + Zm6 (Zde c (Zfr c d w R) D) L, ?_, D, g1, hDt, by omega, Nat.le_refl _⟩
    have h2 : (m - D s + 1) * (L + 1) ≤ (m - E s) * (L + 1) := Nat.mul_le_mul_right _ (by omega)
    rw [Nat.add_mul] at h2
    omega
end row
end Go.Acq
namespace Go.Acq
open Go
set_option linter.unusedSimpArgs false
set_option linter.unusedVariables false
section row
variable {n : Net} {m L : Nat} {c : Csr}
structure GoodF (n : Net) (f : List Int) : Prop where
  all : Zqb n f (fun x => x = 0) [n.S, n.T]
  slf : ∀ i, i < n.Arcs.length → (n.Arcs.getD i default).fr = (n.Arcs.getD i default).to → f.getD i 0 = 0
def exR (n : Net) (m : Nat) (f : List Int) : List Int := (List.range m).map fun v => ex n.Arcs f (v : Nat) n.Arcs.length
theorem Zn6 {f : List Int} {v : Nat} (h : v < m) : (exR n m f).getD v 0 = ex n.Arcs f v n.Arcs.length := by
 unfold exR
 rw [List.getD_eq_getElem?_getD, List.getElem?_map, List.getElem?_range h]; rfl
theorem Zmz {f R : List Int} (r : Row n m L c) (hw : FwithinP n f) (hs : ∀ i, i < n.Arcs.length → (n.Arcs.getD i default).fr = (n.Arcs.getD i default).to → f.getD i 0 = 0) (hR : ResAt c.Arc c.Cap c.Back f L L R) : f = flN n.Arcs R ∧ ResOK n m L c R (exR n m f) := by
 have e : Z11 n.Arcs m = L := r.hL
 have key : ∀ {i : Nat} {s : Bool}, i < n.Arcs.length → (n.Arcs.getD i default).fr ≠ (n.Arcs.getD i default).to → R.getD (pos n.Arcs i s) 0 = if s then f.getD i 0 else (n.Arcs.getD i default).cap - f.getD i 0 := fun hi hne => Zit r.is r.he (by rw [e]; exact hR) hi hne
 have hf : f = flN n.Arcs R := Zc7 0 (by rw [Zcw]; exact hw.2.1) fun i hi => by
  rw [hw.2.1] at hi
  rw [Z9h hi]
  by_cases hne : (n.Arcs.getD i default).fr = (n.Arcs.getD i default).to
  · rw [if_pos hne]; exact hs i hi hne
  · rw [if_neg hne, key hi hne, if_pos rfl]
 refine ⟨hf, ⟨hR.1, by unfold exR; simp, fun j hj => ?_, fun v hv => ?_⟩⟩
 ·
  obtain ⟨i, s, hi, hne, hp, -⟩ := r.at hj
  obtain ⟨a1, a2, a3⟩ := r.cpPos hi hne s
  rw [← hp, a2, a1, key hi hne, key hi hne]
  have := hw.2.2 i hi
  cases s <;> simp only [Bool.not_true, Bool.not_false, if_true, if_false, Bool.false_eq_true] <;> omega
 · rw [Zn6 hv, ← hf]
theorem ResAt.uniq {aa cs fl R R' : List Int} {bs : List Bool} (h : ResAt aa cs bs fl L L R) (h' : ResAt aa cs bs fl L L R') : R = R' :=
 Zc7 0 (by rw [h.1, h'.1]) fun j hj => by rw [h.1] at hj; rw [(h.2 j hj).2, (h'.2 j hj).2]
theorem Zqt {R X : List Int} (r : Row n m L c) (h : ResOK n m L c R X) : ResAt c.Arc c.Cap c.Back (flN n.Arcs R) L L R := by
 refine ⟨h.lr, fun j hj => ?_⟩
 obtain ⟨i, s, hi, hne, hp, q1, q2, q3, q4, q5, q6, q7, q8⟩ := r.at hj
 have hres := h.res j hj
 obtain ⟨a1, a2, a3⟩ := r.cpPos hi hne s
 rw [hp] at a1 a2
 rw [a1, a2] at hres
 have q8' : c.Back.getD j false = s := q8
 have hrr := h.res _ (r.rev hj).2.1
 unfold Zio Zqs
 rw [q7, q8', q6, Zcw, Int.toNat_natCast, Z9h hi, if_neg hne]
 cases s
 ·
  simp only [Bool.not_false, Bool.false_eq_true, if_false, false_or] at hres a2 ⊢
  rw [a2] at hrr
  refine ⟨⟨by omega, by omega, by omega⟩, by omega⟩
 ·
  simp only [if_true, true_or, and_true]
  rw [hp]
  exact ⟨by omega, rfl⟩
theorem flN_mv {R : List Int} {j : Nat} {d : Int} (r : Row n m L c) (hr : R.length = L) (hj : j < L) : flN n.Arcs (mvR c R j d) = (flN n.Arcs R).set (c.Arc.getD j 0).toNat ((flN n.Arcs R).getD (c.Arc.getD j 0).toNat 0 + (if bk c j = true then -d else d)) := by
 obtain ⟨i, s, hi, hne, hp, q1, q2, q3, q4, q5, q6, q7, q8⟩ := r.at hj
 have hrj := r.rev hj
 have harc : ∀ i' s', i' < n.Arcs.length → (n.Arcs.getD i' default).fr ≠ (n.Arcs.getD i' default).to → c.Arc.getD (pos n.Arcs i' s') 0 = i' ∧ bk c (pos n.Arcs i' s') = s' := fun i' s' h1 h2 => by
  have := r.is.ok.hat i' h1 h2 s'
  exact ⟨this.2.2.2.1, this.2.2.2.2⟩
 have hra : c.Arc.getD (rv c j) 0 = i := by rw [q5]; exact (harc i _ hi hne).1
 rw [q7, Int.toNat_natCast, q8]
 refine Zc7 0 (by rw [List.length_set, Zcw, Zcw]) fun k hk => ?_
 rw [Zcw] at hk
 rw [Z9h hk, Ze4, Zcw]
 by_cases e : i = k
 ·
  subst e
  rw [if_neg hne, if_pos ⟨rfl, hi⟩, Z9h hi, if_neg hne, Zbk r hr hj]
  cases s
  · rw [q5, Bool.not_false, if_pos rfl]; simp
  ·
   rw [if_neg (fun h => by
    have h1 := (harc i true hi hne).2
    rw [h, q5] at h1
    rw [(harc i _ hi hne).2] at h1; cases h1), if_pos hp, hp]
   simp only [if_true]; omega
 ·
  rw [if_neg (show ¬(i = k ∧ i < n.Arcs.length) from fun h => e h.1), Z9h hk]
  by_cases hs : (n.Arcs.getD k default).fr = (n.Arcs.getD k default).to
  · rw [if_pos hs, if_pos hs]
  ·
   rw [if_neg hs, if_neg hs, Zbk r hr hj]
   have h1 := (harc k true hk hs).1
   rw [if_neg (fun h => by rw [h, hra] at h1; omega), if_neg (fun h => by rw [h, q7] at h1; omega)]
theorem WayD.take {R : List Int} {D : Nat → Nat} {d : Int} {u t : Nat} {w : List Nat} (h : WayD c L R D d u w t) (q : Nat) : ∃ v, WayD c L R D d u (w.take q) v := by
 induction h generalizing q with
 | nil => exact ⟨_, by rw [List.take_nil]; exact .nil _⟩
 | @cons j w t hj h0 hl hw ih =>
  cases q with
  | zero => exact ⟨_, by rw [List.take_zero]; exact .nil _⟩
  | succ q =>
   obtain ⟨v, hv⟩ := ih q
   exact ⟨v, by rw [List.take_succ_cons]; exact .cons hj h0 hl hv⟩
theorem WayD.wide {R : List Int} {D : Nat → Nat} {d e : Int} {u t : Nat} {w : List Nat} (h : WayD c L R D d u w t) (he : ∀ j, j ∈ w → e ≤ R.getD j 0) : WayD c L R D e u w t := by
 induction h with
 | nil => exact .nil _
 | cons hj h0 hl hw ih => exact .cons hj (he _ (.head _)) hl (ih fun k hk => he k (.tail _ hk))
theorem Zi1 {d : Int} {j : Nat} : ∀ (w : List Nat) (R : List Int), Zfr c d (w ++ [j]) R = mvR c (Zfr c d w R) j d
 | [], R => rfl
 | k :: w, R => by simp only [List.cons_append, Zfr]; exact Zi1 w _
theorem Zk9 {d : Int} : ∀ (w : List Nat) (R : List Int), (Zfr c d w R).length = R.length
 | [], R => rfl
 | k :: w, R => by simp only [Zfr]; rw [Zk9 w, Zmh]
theorem GoodF.aug {f R : List Int} {D : Nat → Nat} {d : Int} {s t : Nat} {w : List Nat} (r : Row n m L c) (hG : GoodF n f) (hR : ResAt c.Arc c.Cap c.Back f L L R) (d0 : 0 ≤ d) (h : WayD c L R D d s w t) (hs : n.S = s) (ht : n.T = t) :
    GoodF n (flN n.Arcs (Zfr c d w R)) ∧ ResAt c.Arc c.Cap c.Back (flN n.Arcs (Zfr c d w R)) L L (Zfr c d w R) := by
  obtain ⟨hf, hok⟩ := Zmz r hG.all.1 hG.slf hR
  have hok2 := h.ok r d0 hok
  refine ⟨⟨⟨hok2.within r, fun v hv => ?_⟩, fun i hi e => by rw [Z9h hi, if_pos e]⟩, Zqt r hok2⟩
  have hm := r.hm
  have hv : v < m := by omega
  rw [← hok2.ex v hv, h.getX r hok.lr hok.lx, Zn6 hv]
  by_cases e1 : s = v
  · right; rw [hs, e1]; exact .head _
  · by_cases e2 : t = v
    · right; rw [ht, e2]; exact .tail _ (.head _)
    · rw [if_neg e1, if_neg e2]
      rcases hG.all.2 v (by omega) with h1 | h1
      · left; omega
      · exact .inr h1
theorem GoodF.zero (r : Row n m L c) : GoodF n (List.replicate n.Arcs.length 0) := by
 have hg : ∀ i, (List.replicate n.Arcs.length (0 : Int)).getD i 0 = 0 := fun i => Z3f _ _ _
 refine ⟨⟨⟨r.chk, List.length_replicate, fun i hi => by rw [hg]; exact ⟨Int.le_refl _, (r.caps i hi).1⟩⟩, fun v _ => .inl ?_⟩, fun i _ _ => hg i⟩
 have : ∀ k, ex n.Arcs (List.replicate n.Arcs.length 0) v k = 0 := fun k => by
  induction k with
  | zero => rfl
  | succ k ih => simp only [ex, ih, hg]; simp
 exact this _
end row
end Go.Acq
namespace Go.Acq
open Go
set_option linter.unusedSimpArgs false
set_option linter.unusedVariables false
theorem Zqq {v : Int} {n : Nat} (hn : n ≤ 16384) : Ok (Z5q [v] n) (fun r => r = List.replicate n v) := by
 unfold Z5q Ze3
 rw [show (([v].length : Nat) : Int) = 1 from rfl, s_Mul1 (m := Zbs) (y := (n : Int)) (by omega) (by omega) (by funext x0 y1; rfl)]
 refine Ok.ite.2 ⟨fun h => by omega, fun _ => Ok.gd.2 ⟨by constructor <;> omega, Ok.gd.2 ⟨by constructor <;> omega, ?_⟩⟩⟩
 simp only [Option.bind]
 rw [if_neg (by omega)]
 unfold Z4c
 rw [if_neg (by simp; omega)]
 refine Ok.gd.2 ⟨by constructor <;> omega, Ok.gd.2 ⟨by constructor <;> omega, ?_⟩⟩
 simp only [Int.toNat_natCast]
 refine Ok.bind.2 (Ok.mono (s_double (v := v) (n := n) (step := Z4b) (by omega) (by funext xs k; rfl)) ?_)
 rintro r rfl
 exact Ok.some.2 rfl
section row
variable {n : Net} {m L : Nat} {c : Csr}
def Zhm (m : Nat) (d : List Int) : List Bool := d.map fun x => decide (x ≠ (m : Int))
theorem Znz {d : List Int} {v : Nat} (h : v < d.length) : (Zhm m d).getD v false = decide (d.getD v 0 ≠ (m : Int)) := by
 unfold Zhm
 rw [List.getD_eq_getElem?_getD, List.getD_eq_getElem?_getD, List.getElem?_map, List.getElem?_eq_getElem h]; rfl
theorem Zl0 {d : List Int} {v : Nat} {x : Int} (h : x ≠ (m : Int)) : Zhm m (d.set v x) = (Zhm m d).set v true := by
 unfold Zhm; rw [List.map_set]; simp [h]
structure BI (c : Csr) (L m t : Nat) (R d row : List Int) : Prop where
  len : d.length = m
  pos : 0 < row.length
  fst : row.getD 0 0 = (t : Int) ∧ d.getD t 0 = 0
  nat : ∀ q, q < row.length → ∃ v : Nat, row.getD q 0 = v ∧ v < m ∧ ∃ k : Nat, d.getD v 0 = k ∧ k ≤ q
  has : ∀ v, v < m → d.getD v 0 = (m : Int) ∨ ∃ q, q < row.length ∧ row.getD q 0 = (v : Int)
  cnt : row.length = tc (Zhm m d) m
  mono : ∀ p q, p ≤ q → q < row.length → d.getD (row.getD p 0).toNat 0 ≤ d.getD (row.getD q 0).toNat 0
  par : ∀ q, 0 < q → q < row.length → ∃ j, j < L ∧ 0 < R.getD j 0 ∧ ((tl c j : Nat) : Int) = row.getD q 0 ∧ d.getD (hd c j) 0 ≠ (m : Int) ∧ d.getD (tl c j) 0 = d.getD (hd c j) 0 + 1
theorem BI.le {t : Nat} {R d row : List Int} (h : BI c L m t R d row) : row.length ≤ m := by rw [h.cnt]; exact tc_le _ _
theorem BI.seen {t v : Nat} {R d row : List Int} (h : BI c L m t R d row) (hv : v < m) (hs : d.getD v 0 ≠ (m : Int)) : ∃ q k : Nat, q < row.length ∧ row.getD q 0 = (v : Int) ∧ d.getD v 0 = k ∧ k ≤ q ∧ k < m := by
 rcases h.has v hv with h1 | ⟨q, h1, h2⟩
 · exact absurd h1 hs
 ·
  obtain ⟨u, h3, h4, k, h5, h6⟩ := h.nat q h1
  have : u = v := by omega
  subst this
  have := h.le
  exact ⟨q, k, h1, h2, h5, h6, by omega⟩
theorem BI.at {t q : Nat} {R d row : List Int} (h : BI c L m t R d row) (hq : q < row.length) : d.getD (row.getD q 0).toNat 0 ≠ (m : Int) := by
 obtain ⟨v, h1, h2, k, h3, h4⟩ := h.nat q hq
 have := h.le
 rw [h1, Int.toNat_natCast, h3]; omega
theorem BI.put {t u w j kk : Nat} {R d row : List Int} (h : BI c L m t R d row) (hk : kk < row.length) (hku : row.getD kk 0 = (u : Int)) (hw : w < m) (hun : d.getD w 0 = (m : Int)) (hlast : ∀ q, q < row.length → d.getD (row.getD q 0).toNat 0 ≤ d.getD u 0 + 1)
    (hj : j < L) (hj0 : 0 < R.getD j 0) (hjt : tl c j = w) (hjh : hd c j = u) : BI c L m t R (d.set w (d.getD u 0 + 1)) (row ++ [(w : Int)]) := by
  have hl := h.len
  have hle := h.le
  obtain ⟨v0, g1, g2, k0, g3, g4⟩ := h.nat kk hk
  have e0 : v0 = u := by omega
  subst e0
  have hne : ∀ x : Nat, d.getD x 0 ≠ (m : Int) → (d.set w (d.getD v0 0 + 1)).getD x 0 = d.getD x 0 := fun x hx => by
    rw [Ze4, if_neg]; rintro ⟨rfl, -⟩; exact hx hun
  have hself : (d.set w (d.getD v0 0 + 1)).getD w 0 = d.getD v0 0 + 1 := by rw [Ze4, if_pos ⟨rfl, by omega⟩]
  have hat : ∀ q, q < row.length → (d.set w (d.getD v0 0 + 1)).getD (row.getD q 0).toNat 0 = d.getD (row.getD q 0).toNat 0 := fun q hq => hne _ (h.at hq)
  have hlt : (row ++ [(w : Int)]).length = row.length + 1 := by rw [List.length_append, List.length_singleton]
  have hnew : (row ++ [(w : Int)]).getD row.length 0 = (w : Int) := by rw [Zb7 (Nat.le_refl _), Nat.sub_self]; rfl
  have htc : tc ((Zhm m d).set w true) m = row.length + 1 := by
    rw [Zkv (by unfold Zhm; rw [List.length_map]; omega) (by rw [Znz (by omega)]; simpa using hun), if_pos hw, h.cnt]
  have hroom : row.length + 1 ≤ m := by rw [← htc]; exact tc_le _ _
  have hcnt : (row ++ [(w : Int)]).length = tc (Zhm m (d.set w (d.getD v0 0 + 1))) m := by
    rw [hlt, Zl0 (by omega), htc]
  refine ⟨by rw [List.length_set]; exact hl, by rw [hlt]; omega, ?_, fun q hq => ?_, fun v hv => ?_, hcnt, fun p q hpq hq => ?_, fun q h0 hq => ?_⟩
  · rw [Z2o h.pos]
    have h1 := h.at h.pos
    rw [h.fst.1, Int.toNat_natCast] at h1
    exact ⟨h.fst.1, by rw [hne t h1]; exact h.fst.2⟩
  · rw [hlt] at hq
    rcases Nat.lt_or_ge q row.length with h1 | h1
    · obtain ⟨v, h2, h3, k, h4, h5⟩ := h.nat q h1
      have h6 := hat q h1
      rw [h2, Int.toNat_natCast] at h6
      exact ⟨v, by rw [Z2o h1]; exact h2, h3, k, by rw [h6]; exact h4, h5⟩
    · obtain rfl : q = row.length := by omega
      exact ⟨w, hnew, hw, k0 + 1, by rw [hself, g3]; omega, by omega⟩
  · by_cases e : v = w
    · subst e; exact .inr ⟨row.length, by rw [hlt]; omega, hnew⟩
    · rw [Ze4, if_neg (fun h => e h.1.symm)]
      rcases h.has v hv with h1 | ⟨q, h1, h2⟩
      · exact .inl h1
      · exact .inr ⟨q, by rw [hlt]; omega, by rw [Z2o h1]; exact h2⟩
  · rw [hlt] at hq
    rcases Nat.lt_or_ge q row.length with h1 | h1
    · rw [Z2o h1, Z2o (by omega), hat q h1, hat p (by omega)]; exact h.mono p q hpq h1
    · obtain rfl : q = row.length := by omega
      rw [hnew, Int.toNat_natCast, hself]
      rcases Nat.lt_or_ge p row.length with h2 | h2
      · rw [Z2o h2, hat p h2]; exact hlast p h2
      · obtain rfl : p = row.length := by omega
        rw [hnew, Int.toNat_natCast, hself]; exact Int.le_refl _
  · rw [hlt] at hq
    rcases Nat.lt_or_ge q row.length with h1 | h1
    · obtain ⟨j', a1, a2, a3, a4, a5⟩ := h.par q h0 h1
      have a6 := h.at h1
      rw [← a3, Int.toNat_natCast] at a6
      exact ⟨j', a1, a2, by rw [Z2o h1]; exact a3, by rw [hne _ a4]; exact a4, by rw [hne _ a4, hne _ a6]; exact a5⟩
    · obtain rfl : q = row.length := by omega
      have h6 : d.getD v0 0 ≠ (m : Int) := by omega
      exact ⟨j, hj, hj0, by rw [hnew, hjt], by rw [hjh, hne _ h6]; exact h6, by rw [hjt, hself, hjh, hne _ h6]⟩
structure DistP (c : Csr) (L m t : Nat) (R : List Int) (D : Nat → Nat) : Prop where
  zero : D t = 0
  le : ∀ v, v < m → D v ≤ m
  lab : ∀ j, j < L → 0 < R.getD j 0 → D (hd c j) < m → D (tl c j) < m ∧ D (tl c j) ≤ D (hd c j) + 1
  near : ∀ v, v < m → v ≠ t → D v < m → ∃ j, j < L ∧ tl c j = v ∧ 0 < R.getD j 0 ∧ D v = D (hd c j) + 1
theorem DistP.labD {t : Nat} {R : List Int} {D : Nat → Nat} (r : Row n m L c) (h : DistP c L m t R D) : LabD c L R D := fun j hj h0 => by
 have h1 := h.le _ (r.tlh hj).1
 rcases Nat.lt_or_ge (D (hd c j)) m with h2 | h2
 · exact (h.lab j hj h0 h2).2
 · omega
theorem s_ToD {R : List Int} {t : Nat} (r : Row n m L c) (hR : R.length = L) (ht : t < m) : Ok (Zdm c R (t : Int)) (fun d => d.length = m ∧ ∃ D : Nat → Nat, (∀ v, v < m → d.getD v 0 = D v) ∧ DistP c L m t R D) := by
  obtain ⟨-, -, -, hN⟩ := r.ends
  obtain ⟨lF, lH, lR, -, -, -⟩ := r.lens
  have hbd := r.bd
  unfold Zdm Zbq Zc5
  rw [lH, hR, hN]
  refine Ok.bind.2 (Ok.bind.2 (Ok.some.2 (Ok.ite.2 ⟨fun _ => Ok.ite.2 ⟨fun _ => Ok.some.2 (Ok.ite.2 ⟨fun h => by simp at h; omega, fun _ => Ok.bind.2 ?_⟩), fun h => by omega⟩, fun h => absurd rfl h⟩)))
  unfold Z5f
  rw [hN]
  refine Ok.bind.2 (Ok.mono (Zqq (by omega)) ?_)
  rintro _ rfl
  refine Ok.gd.2 ⟨by rw [List.length_replicate]; constructor <;> omega, Ok.bind.2 ?_⟩
  have hrep : ∀ v, v < m → (List.replicate m (m : Int)).getD v 0 = (m : Int) := fun v hv => by
    rw [List.getD_eq_getElem?_getD, List.getElem?_replicate, if_pos hv]; rfl
  have hseen0 : Zhm m (List.replicate m (m : Int)) = List.replicate m false := by unfold Zhm; simp
  simp only [Int.toNat_natCast]
  have hd0 : ∀ v, ((List.replicate m (m : Int)).set t 0).getD v 0 = if t = v then 0 else (List.replicate m (m : Int)).getD v 0 := fun v => by
    rw [Ze4, List.length_replicate]
    by_cases e : t = v
    · rw [if_pos ⟨e, ht⟩, if_pos e]
    · rw [if_neg (fun h => e h.1), if_neg e]
  refine Z7g (fun s => ∃ k : Nat, s.2.2 = k ∧ k ≤ s.2.1.length ∧ BI c L m t R s.1 s.2.1 ∧ (k < s.2.1.length → ∀ q, q < s.2.1.length → s.1.getD (s.2.1.getD q 0).toNat 0 ≤ s.1.getD (s.2.1.getD k 0).toNat 0 + 1) ∧
      ∀ p, p < k → ∀ a, a < L → ((tl c a : Nat) : Int) = s.2.1.getD p 0 → 0 < R.getD (rv c a) 0 → s.1.getD (hd c a) 0 ≠ (m : Int) ∧ s.1.getD (hd c a) 0 ≤ s.1.getD (s.2.1.getD p 0).toNat 0 + 1) (fun s => (m - s.2.2).toNat)
    ⟨0, rfl, by simp, ⟨by rw [List.length_set, List.length_replicate], by simp, ⟨rfl, by rw [hd0, if_pos rfl]⟩, fun q hq => ?_, fun v hv => ?_, ?_, fun p q hpq hq => ?_, fun q h0 hq => ?_⟩, fun _ q hq => ?_, fun p hp => by omega⟩ (by unfold Z3k; simp only; omega) ?_
  · obtain rfl : q = 0 := by simp at hq; exact hq
    exact ⟨t, rfl, ht, 0, by rw [hd0, if_pos rfl]; rfl, Nat.le_refl _⟩
  · by_cases e : t = v
    · exact .inr ⟨0, by simp, by rw [e]; rfl⟩
    · rw [hd0, if_neg e]; exact .inl (hrep v hv)
  · rw [Zl0 (by omega), hseen0, Zkv (by simpa using ht) (Z3f _ _ _), Zmc, if_pos ht]; rfl
  · obtain rfl : q = 0 := by simp at hq; exact hq
    obtain rfl : p = 0 := by omega
    exact Int.le_refl _
  · simp at hq; omega
  · obtain rfl : q = 0 := by simp at hq; exact hq
    simp only; omega
  rintro ⟨d, row, x⟩ ⟨k, h1, hk, hB, hlast, hdone⟩ P next exit
  simp only at h1 hk hB hlast hdone next ⊢
  subst h1
  have hle := hB.le
  unfold Z35
  refine Ok.ite.2 ⟨fun hx => Ok.some.2 (exit _ ?_), fun hx => ?_⟩
  · obtain rfl : k = row.length := by omega
    unfold Z47
    refine Ok.some.2 (Ok.some.2 ⟨hB.len, fun v => (d.getD v 0).toNat, fun v hv => ?_, ⟨by simp only [hB.fst.2]; rfl, fun v hv => ?_, fun j hj h0 hs => ?_, fun v hv hvt hs => ?_⟩⟩)
    · by_cases e : d.getD v 0 = (m : Int)
      · simp only [e]; omega
      · obtain ⟨q, k, -, -, h5, -, -⟩ := hB.seen hv e
        simp only [h5]; omega
    · by_cases e : d.getD v 0 = (m : Int)
      · simp only [e]; omega
      · obtain ⟨q, k, -, -, h5, -, h7⟩ := hB.seen hv e
        simp only [h5, Int.toNat_natCast]; omega
    · have hr := r.rev hj
      have hh := (r.head hj).2
      have htl := (r.tlh hj).1
      obtain ⟨q, k, hq, hqv, h5, h6, h7⟩ := hB.seen hh (fun e => by rw [e] at hs; omega)
      obtain ⟨g1, g2⟩ := hdone q hq (rv c j) hr.2.1 (by rw [(r.tlh hj).2.1]; exact hqv.symm) (by rw [hr.2.2.1]; exact h0)
      rw [(r.tlh hj).2.2.1] at g1 g2
      rw [hqv, Int.toNat_natCast] at g2
      obtain ⟨q', k', -, -, h5', -, h7'⟩ := hB.seen htl g1
      rw [h5'] at g2 ⊢
      omega
    · have e : d.getD v 0 ≠ (m : Int) := fun e => by rw [e] at hs; omega
      obtain ⟨q, k, hq, hqv, h5, h6, h7⟩ := hB.seen hv e
      have hq0 : 0 < q := by
        rcases Nat.eq_zero_or_pos q with h0 | h0
        · subst h0; rw [hB.fst.1] at hqv; omega
        · exact h0
      obtain ⟨j, a1, a2, a3, a4, a5⟩ := hB.par q hq0 hq
      have e2 : tl c j = v := by omega
      obtain ⟨q', k', -, -, b5, -, -⟩ := hB.seen (r.head a1).2 a4
      rw [e2, h5, b5] at a5
      exact ⟨j, a1, e2, a2, by rw [h5, b5]; omega⟩
  have hkl : k < row.length := by omega
  obtain ⟨u, hu, hum, k0, hku, hkk⟩ := hB.nat k hkl
  have hf := r.first.1 u (by omega)
  have hf1 := r.first.1 (u + 1) (by omega)
  have hmo := r.first.2.2.2 u hum
  have eu : ((u : Int) + 1).toNat = u + 1 := by omega
  have hlast := hlast hkl
  simp only [hu, Int.toNat_natCast] at hlast
  simp only [hu, Int.toNat_natCast, hf.1]
  refine Ok.gd.2 ⟨by constructor <;> omega, Ok.gd.2 ⟨by rw [lF]; constructor <;> omega, Ok.bind.2 ?_⟩⟩
  refine Z7g (fun s => ∃ a : Nat, s.2.2 = a ∧ fs c u ≤ a ∧ a ≤ fs c (u + 1) ∧ BI c L m t R s.1 s.2.1 ∧ k < s.2.1.length ∧ s.2.1.getD k 0 = u ∧ s.1.getD u 0 = k0 ∧ (∀ q, q < s.2.1.length → s.1.getD (s.2.1.getD q 0).toNat 0 ≤ s.1.getD u 0 + 1) ∧
      (∀ p, p < k → ∀ a, a < L → ((tl c a : Nat) : Int) = s.2.1.getD p 0 → 0 < R.getD (rv c a) 0 → s.1.getD (hd c a) 0 ≠ (m : Int) ∧ s.1.getD (hd c a) 0 ≤ s.1.getD (s.2.1.getD p 0).toNat 0 + 1) ∧
      ∀ b, fs c u ≤ b → b < a → 0 < R.getD (rv c b) 0 → s.1.getD (hd c b) 0 ≠ (m : Int) ∧ s.1.getD (hd c b) 0 ≤ s.1.getD u 0 + 1) (fun s => (fs c (u + 1) - s.2.2).toNat)
    ⟨_, rfl, Nat.le_refl _, hmo.1, hB, hkl, hu, hku, hlast, hdone, fun b h1 h2 => by omega⟩ (by unfold Z3k; simp only; omega) ?_
  rintro ⟨d2, row2, y⟩ ⟨a, h1, ha0, ha1, hB2, hkl2, hku2, hk02, hlast2, hdone2, hpart⟩ P2 next2 exit2
  simp only at h1 hB2 hkl2 hku2 hk02 hlast2 hdone2 hpart next2 ⊢
  subst h1
  have hle2 := hB2.le
  have hl2 := hB2.len
  unfold Z34
  simp only [hu, eu, hf1.1, Int.toNat_natCast, hN]
  refine Ok.gd.2 ⟨by constructor <;> omega, Ok.gd.2 ⟨by rw [lF]; constructor <;> omega, Ok.ite.2 ⟨fun hy => ?_, fun hy => Ok.some.2 (exit2 _ ?_)⟩⟩⟩
  · have haL : a < L := by omega
    have hh := r.head haL
    have hr := r.rev haL
    have htl : tl c a = u := (r.range haL hum).1 ⟨ha0, by omega⟩
    simp only [hh.1, Int.toNat_natCast]
    refine Ok.gd.2 ⟨by rw [lH]; constructor <;> omega, Ok.gd.2 ⟨by rw [hl2]; constructor <;> omega, Ok.ite.2 ⟨fun hs => ?_, fun hs => Ok.bind.2 ?_⟩⟩⟩
    · refine Ok.gd.2 ⟨by constructor <;> omega, Ok.some.2 (next2 _ ⟨a + 1, by simp, by omega, by omega, hB2, hkl2, hku2, hk02, hlast2, hdone2, fun b b1 b2 b3 => ?_⟩ (by simp only; omega))⟩
      rcases Nat.lt_or_ge b a with h4 | h4
      · exact hpart b b1 h4 b3
      · obtain rfl : b = a := by omega
        obtain ⟨q, k', hq, hqv, -, -, -⟩ := hB2.seen hh.2 (show d2.getD (hd c b) 0 ≠ (m : Int) by omega)
        have := hlast2 q hq
        rw [hqv, Int.toNat_natCast] at this
        exact ⟨show d2.getD (hd c b) 0 ≠ (m : Int) by omega, this⟩
    · unfold Zct
      simp only [Int.toNat_natCast, hr.1]
      have hun : d2.getD (hd c a) 0 = (m : Int) := by
        rcases hB2.has _ hh.2 with h | ⟨q, h1, h2⟩
        · exact h
        · obtain ⟨v, g1, g2, k', g3, g4⟩ := hB2.nat q h1
          have : v = hd c a := by omega
          subst this; omega
      refine Ok.gd.2 ⟨by rw [lR]; constructor <;> omega, Ok.gd.2 ⟨by rw [hR]; constructor <;> omega, Ok.some.2 (Ok.ite.2 ⟨fun hb => ?_, fun hb => ?_⟩)⟩⟩
      · have hb : ¬ 0 < R.getD (rv c a) 0 := by simpa using hb
        refine Ok.gd.2 ⟨by constructor <;> omega, Ok.some.2 (next2 _ ⟨a + 1, by simp, by omega, by omega, hB2, hkl2, hku2, hk02, hlast2, hdone2, fun b b1 b2 b3 => ?_⟩ (by simp only; omega))⟩
        rcases Nat.lt_or_ge b a with h4 | h4
        · exact hpart b b1 h4 b3
        · obtain rfl : b = a := by omega
          exact absurd b3 hb
      · have hb : 0 < R.getD (rv c a) 0 := by simpa using hb
        have hB3 := hB2.put (j := rv c a) hkl2 hku2 hh.2 hun hlast2 hr.2.1 hb (r.tlh haL).2.1 (by rw [(r.tlh haL).2.2.1]; exact htl)
        have hle3 := hB3.le
        rw [List.length_append, List.length_singleton] at hle3
        have hne : ∀ x : Nat, d2.getD x 0 ≠ (m : Int) → (d2.set (hd c a) (d2.getD u 0 + 1)).getD x 0 = d2.getD x 0 := fun x hx => by
          rw [Ze4, if_neg]; rintro ⟨rfl, -⟩; exact hx hun
        have hself : (d2.set (hd c a) (d2.getD u 0 + 1)).getD (hd c a) 0 = d2.getD u 0 + 1 := by rw [Ze4, if_pos ⟨rfl, by omega⟩]
        have hus : d2.getD u 0 ≠ (m : Int) := by omega
        have huu := hne u hus
        have up : ∀ x : Nat, ∀ z : Int, d2.getD x 0 ≠ (m : Int) ∧ d2.getD x 0 ≤ z → (d2.set (hd c a) (d2.getD u 0 + 1)).getD x 0 ≠ (m : Int) ∧ (d2.set (hd c a) (d2.getD u 0 + 1)).getD x 0 ≤ z := fun x z hx => by
          rw [hne x hx.1]; exact hx
        refine Ok.gd.2 ⟨by rw [hl2]; constructor <;> omega, Ok.gd.2 ⟨by constructor <;> omega, Ok.gd.2 ⟨by rw [hl2]; constructor <;> omega, Ok.gd.2 ⟨by rw [List.length_append, List.length_singleton]; constructor <;> omega, Ok.gd.2 ⟨by constructor <;> omega, Ok.some.2 (next2 _ ⟨a + 1, by simp, by omega, by omega, hB3, by simp only [List.length_append, List.length_singleton]; omega, by simp only; rw [Z2o hkl2]; exact hku2, by simp only; rw [huu]; exact hk02, fun q hq => ?_, fun p hp b hbL hbt hb0 => ?_, fun b b1 b2 b3 => ?_⟩ (by simp only; omega))⟩⟩⟩⟩⟩
        · simp only [List.length_append, List.length_singleton] at hq ⊢
          rw [huu]
          rcases Nat.lt_or_ge q row2.length with h4 | h4
          · rw [Z2o h4, hne _ (hB2.at h4)]; exact hlast2 q h4
          · obtain rfl : q = row2.length := by omega
            rw [Zb7 (Nat.le_refl _), Nat.sub_self]
            show (d2.set (hd c a) (d2.getD u 0 + 1)).getD ((hd c a : Nat) : Int).toNat 0 ≤ _
            rw [Int.toNat_natCast, hself]; exact Int.le_refl _
        · simp only at hbt ⊢
          rw [Z2o (by omega)] at hbt ⊢
          rw [hne _ (hB2.at (show p < row2.length by omega))]
          exact up _ _ (hdone2 p hp b hbL hbt hb0)
        · simp only
          rw [huu]
          rcases Nat.lt_or_ge b a with h4 | h4
          · exact up _ _ (hpart b b1 h4 b3)
          · obtain rfl : b = a := by omega
            rw [hself]; exact ⟨by omega, Int.le_refl _⟩
  · obtain rfl : a = fs c (u + 1) := by omega
    unfold Z48
    refine Ok.gd.2 ⟨by constructor <;> omega, Ok.some.2 (next _ ⟨k + 1, by simp, by simp only; omega, hB2, fun hlt q hq => ?_, fun p hp b hbL hbt hb0 => ?_⟩ (by simp only; omega))⟩
    · simp only at hlt hq ⊢
      have h4 := hB2.mono k (k + 1) (by omega) hlt
      have h5 := hlast2 q hq
      rw [hku2, Int.toNat_natCast] at h4
      omega
    · simp only at hbt ⊢
      rcases Nat.lt_or_ge p k with h4 | h4
      · exact hdone2 p h4 b hbL hbt hb0
      · obtain rfl : p = k := by omega
        rw [hku2] at hbt ⊢
        rw [Int.toNat_natCast]
        have hrg := (r.range hbL hum).2 (by omega)
        exact hpart b hrg.1 hrg.2 hb0
end row
end Go.Acq
namespace Go.Acq
open Go
set_option linter.unusedSimpArgs false
set_option linter.unusedVariables false
section row
variable {n : Net} {m L : Nat} {c : Csr}
theorem WayD.snoc {R : List Int} {D : Nat → Nat} {d : Int} {u v j : Nat} {w : List Nat} (h : WayD c L R D d u w v) (hj : j < L) (hd0 : d ≤ R.getD j 0) (hl : D (tl c j) = D (hd c j) + 1) (hv : tl c j = v) : WayD c L R D d u (w ++ [j]) (hd c j) := by
 induction h with
 | nil v => subst hv; exact .cons hj hd0 hl (.nil _)
 | cons hj' h0' hl' hw ih => exact .cons hj' h0' hl' (ih hv)
def OpenR (c : Csr) (L : Nat) (R : List Int) (u v : Nat) : Prop := ∃ j, j < L ∧ tl c j = u ∧ hd c j = v ∧ 0 < R.getD j 0
theorem s_nearer {R d : List Int} {D : Nat → Nat} {t v : Nat} (r : Row n m L c) (hR : R.length = L) (hdl : d.length = m) (hdD : ∀ v, v < m → d.getD v 0 = D v) (hD : DistP c L m t R D) (hv : v < m) (hvt : v ≠ t) (hs : D v < m) :
    Ok (Z9d c R d (v : Int)) (fun a => ∃ j : Nat, a = j ∧ j < L ∧ tl c j = v ∧ 0 < R.getD j 0 ∧ D v = D (hd c j) + 1) := by
  obtain ⟨lF, lH, lR, -, -, -⟩ := r.lens
  have hbd := r.bd
  have hf := r.first.1 v (by omega)
  have hf1 := r.first.1 (v + 1) (by omega)
  have hmo := r.first.2.2.2 v hv
  have eu : ((v : Int) + 1).toNat = v + 1 := by omega
  unfold Z9d
  simp only [Int.toNat_natCast, hf.1]
  refine Ok.gd.2 ⟨by rw [lF]; constructor <;> omega, Ok.bind.2 ?_⟩
  refine Z7g (fun s => ∃ a : Nat, s = a ∧ fs c v ≤ a ∧ a ≤ fs c (v + 1) ∧ ∀ b, fs c v ≤ b → b < a → ¬(0 < R.getD b 0 ∧ D (hd c b) < D v)) (fun s => (fs c (v + 1) - s).toNat) ⟨_, rfl, Nat.le_refl _, hmo.1, fun b h1 h2 => by omega⟩ (by unfold Z3k; omega) ?_
  rintro x ⟨a, h1, ha0, ha1, hno⟩ P next exit
  subst h1
  unfold Z7c
  simp only [eu, hf1.1, Int.toNat_natCast]
  have go : ∀ b : Bool, a < fs c (v + 1) → (b = true ↔ (0 < R.getD a 0 ∧ D (hd c a) < D v)) → Ok (Z65 (a : Int) b) P := by
    intro b hal hb
    have haL : a < L := by omega
    have htl : tl c a = v := (r.range haL hv).1 ⟨ha0, hal⟩
    unfold Z65
    refine Ok.ite.2 ⟨fun h => ?_, fun h => ?_⟩
    · obtain ⟨h1, h2⟩ := hb.1 h
      have h3 := hD.labD r a haL h1
      rw [htl] at h3
      exact Ok.some.2 (exit _ (Ok.some.2 ⟨a, rfl, haL, htl, h1, by omega⟩))
    · refine Ok.gd.2 ⟨by constructor <;> omega, Ok.some.2 (next _ ⟨a + 1, by simp, by omega, by omega, fun b' b1 b2 b3 => ?_⟩ (by omega))⟩
      rcases Nat.lt_or_ge b' a with h4 | h4
      · exact hno b' b1 h4 b3
      · obtain rfl : b' = a := by omega
        exact h (hb.2 b3)
  refine Ok.gd.2 ⟨by constructor <;> omega, Ok.gd.2 ⟨by rw [lF]; constructor <;> omega, Ok.ite.2 ⟨fun hx => ?_, fun hx => Ok.some.2 (exit _ ?_)⟩⟩⟩
  · have haL : a < L := by omega
    have hh := r.head haL
    simp only [hh.1, Int.toNat_natCast]
    refine Ok.gd.2 ⟨by rw [hR]; constructor <;> omega, Ok.ite.2 ⟨fun h0 => ?_, fun h0 => go false (by omega) ⟨fun h => (by cases h), fun h => absurd h.1 h0⟩⟩⟩
    refine Ok.gd.2 ⟨by rw [lH]; constructor <;> omega, Ok.gd.2 ⟨by rw [hdl]; constructor <;> omega, Ok.gd.2 ⟨by rw [hdl]; constructor <;> omega, go _ (by omega) ?_⟩⟩⟩
    rw [hdD _ hh.2, hdD _ hv, decide_eq_true_eq]
    exact ⟨fun h => ⟨h0, by omega⟩, fun h => by omega⟩
  · exfalso
    obtain ⟨j, a1, a2, a3, a4⟩ := hD.near v hv hvt hs
    have hrg := (r.range a1 hv).2 a2
    exact hno j hrg.1 (by omega) ⟨a3, by omega⟩
theorem s_WayD {R : List Int} {s t : Nat} (r : Row n m L c) (hR : R.length = L) (hs : s < m) (ht : t < m) :
    Ok (Zat c R (s : Int) (t : Int)) (fun o => (o.2 = false ∧ ¬Reach (OpenR c L R) s t) ∨ (o.2 = true ∧ ∃ (D : Nat → Nat) (w : List Nat), o.1 = w.map (fun j : Nat => (j : Int)) ∧ WayD c L R D 1 s w t ∧ LabD c L R D ∧ D t = 0 ∧ D s < m ∧ w.length ≤ m)) := by
  obtain ⟨-, -, -, hN⟩ := r.ends
  obtain ⟨lF, lH, lR, -, -, -⟩ := r.lens
  have hbd := r.bd
  unfold Zat
  rw [hN]
  refine Ok.bind.2 (Ok.mono (s_ToD r hR ht) ?_)
  rintro d ⟨hdl, D, hdD, hD⟩
  refine Ok.ite.2 ⟨fun h => by omega, fun _ => Ok.ite.2 ⟨fun h => by omega, fun _ => Ok.gd.2 ⟨by rw [hdl]; constructor <;> omega, ?_⟩⟩⟩
  unfold Z6z
  rw [Int.toNat_natCast, hdD s hs]
  refine Ok.ite.2 ⟨fun h => Ok.some.2 (.inl ⟨rfl, fun hr => ?_⟩), fun h => Ok.bind.2 ?_⟩
  · have h : D s = m := by have := of_decide_eq_true h; omega
    have key : ∀ v, Reach (OpenR c L R) s v → v < m ∧ D v = m := fun v hr => by
      induction hr with
      | refl => exact ⟨hs, h⟩
      | step _ hg ih =>
        obtain ⟨j, g1, g2, g3, g4⟩ := hg
        obtain ⟨i1, i2⟩ := ih
        have hw := (r.head g1).2
        rw [g3] at hw
        refine ⟨hw, ?_⟩
        have h1 := hD.le _ hw
        rcases Nat.lt_or_ge (D (hd c j)) m with h2 | h2
        · have := (hD.lab j g1 g4 h2).1
          rw [g2] at this; omega
        · rw [g3] at h2; omega
    have := key t hr
    have := hD.zero
    omega
  · have h : D s < m := by have := hD.le s hs; have h : ¬ ((D s : Nat) : Int) = (m : Int) := fun e => h (decide_eq_true e)
                           omega
    refine Z7g (fun z => ∃ (w : List Nat) (v : Nat), z.1 = w.map (fun j : Nat => (j : Int)) ∧ z.2 = v ∧ v < m ∧ D v < m ∧ WayD c L R D 1 s w v) (fun z => D z.2.toNat) ⟨[], s, rfl, rfl, hs, h, .nil _⟩ (by unfold Z3k; simp only [Int.toNat_natCast]; omega) ?_
    rintro ⟨o, x⟩ ⟨w, v, h1, h2, h3, h4, hw⟩ P next exit
    simp only at h1 h2 next ⊢
    subst h1; subst h2
    have hlen := hw.len
    unfold Z9e
    refine Ok.ite.2 ⟨fun hx => ?_, fun hx => Ok.some.2 (exit _ ?_)⟩
    · refine Ok.bind.2 (Ok.mono (s_nearer r hR hdl hdD hD h3 (by omega) h4) ?_)
      rintro a ⟨j, rfl, hj, hjt, hj0, hjd⟩
      have hh := r.head hj
      refine Ok.ite.2 ⟨fun h => by omega, fun _ => Ok.gd.2 ⟨by rw [List.length_append, List.length_map, List.length_singleton]; constructor <;> omega, Ok.gd.2 ⟨by rw [lH]; constructor <;> omega, Ok.some.2 (next _ ⟨w ++ [j], hd c j, by simp, by simp only [Int.toNat_natCast]; exact hh.1, hh.2, by omega, hw.snoc hj (by omega) (by rw [hjt]; exact hjd) hjt⟩ ?_)⟩⟩⟩
      simp only [Int.toNat_natCast, hh.1]; omega
    · have e : v = t := by omega
      subst e
      unfold Zaq
      exact Ok.some.2 (.inr ⟨rfl, D, w, rfl, hw, hD.labD r, hD.zero, h, by omega⟩)
end row
end Go.Acq
namespace Go.Acq
open Go
set_option linter.unusedSimpArgs false
set_option linter.unusedVariables false
section row
variable {n : Net} {m L : Nat} {c : Csr}
theorem Zjw : ∀ k : Nat, Zeq (fun _ => 1) k = (k : Int)
 | 0 => rfl
 | k + 1 => by simp only [Zeq, Zjw k]; omega
theorem Zof {al : List Arc} {m : Nat} (he : Z52 m al) : Z11 al m ≤ 2 * al.length := by
 have h1 := posSum he (fun _ => 1)
 rw [Zjw] at h1
 have h2 : Zeq (fun i => if (al.getD i default).fr = (al.getD i default).to then 0 else (1 : Int) + 1) al.length ≤ Zeq (fun i => (fun _ => (1 : Int)) i + (fun _ => (1 : Int)) i) al.length := Zqj fun i _ => by
  simp only; split <;> omega
 rw [Zhc, Zjw] at h2
 omega
theorem Zn0 {f : List Int} (r : Row n m L c) (hw : FwithinP n f) : ∀ j, j < L → Zio c.Arc c.Cap c.Back f j := fun j hj => by
 obtain ⟨i, s, hi, hne, hp, q1, q2, q3, q4, q5, q6, q7, q8⟩ := r.at hj
 have q8' : c.Back.getD j false = s := q8
 have := hw.2.2 i hi
 have := hw.2.1
 unfold Zio
 rw [q7, q8', q6, Int.toNat_natCast]
 refine ⟨by omega, ?_⟩
 cases s
 · right; simp only [Bool.false_eq_true, if_false]; assumption
 · exact .inl rfl
theorem openR_of {f R : List Int} {u v : Nat} (r : Row n m L c) (hR : ResAt c.Arc c.Cap c.Back f L L R) (h : Zf2 n f u v) : OpenR c L R u v := by
 have e := r.hL
 have hu : u < m := by
  obtain ⟨i, hi, _, h1⟩ := h
  have h0 := r.he i hi false
  have h2 := r.he i hi true
  simp only [vtx, Bool.false_eq_true, if_false, if_true] at h0 h2
  omega
 obtain ⟨j, h1, h2, h3, h4⟩ := (Zl5 r.is r.he (by rw [e]; exact hR) (v := v) hu false).2 (by simpa using h)
 have hmo := Z57 (al := n.Arcs) (show u + 1 ≤ m by omega)
 have hjL : j < L := by omega
 have h3 := of_decide_eq_true h3
 simp only [Bool.false_eq_true, if_false] at h3
 have hf := (r.first.1 u (by omega)).2
 have hf1 := (r.first.1 (u + 1) (by omega)).2
 have hh := (r.head hjL).1
 exact ⟨j, hjL, (r.range hjL hu).1 ⟨by omega, by omega⟩, by omega, h3⟩
theorem Zhx {w : List Nat} {q : Nat} (h : q < w.length) : (w.map (fun j : Nat => (j : Int))).getD q 0 = ((w.getD q 0 : Nat) : Int) := by
 rw [List.getD_eq_getElem?_getD, List.getD_eq_getElem?_getD, List.getElem?_map, List.getElem?_eq_getElem h]; rfl
theorem Zo1 {n : Net} {m : Nat} (hm : n.N = m) (hk : Z7t n.N n.S n.T n.Arcs = 0) (hlen : n.Arcs.length ≤ 24) (hm12 : m ≤ 12) :
    Ok (Z3v n (List.replicate n.Arcs.length 0) 600) (fun t => t.2 = true ∧ GoodF n t.1 ∧ ¬Reach (Zf2 n t.1) n.S.toNat n.T.toNat) := by
  have hll : lenok n.Arcs.length := by omega
  unfold Z3v
  refine Ok.bind.2 (Ok.mono (Zmw hm hk hll) ?_)
  rintro ⟨c, e⟩ ⟨hc, he0⟩
  simp only at hc he0 ⊢
  subst he0
  obtain ⟨L, hL⟩ : ∃ L, Z11 n.Arcs m = L := ⟨_, rfl⟩
  have r : Row n m L c := ⟨hc, hk, hm, hL⟩
  obtain ⟨⟨S, hS, -, hSm⟩, ⟨T, hT, -, hTm⟩, hST, -⟩ := r.ends
  obtain ⟨lF, lH, lR, lC, lA, lB⟩ := r.lens
  have hbd := r.bd
  have hb2 := Zof r.he
  have hmul : m * (L + 1) ≤ 12 * (L + 1) := Nat.mul_le_mul_right _ hm12
  rw [hS, hT, Int.toNat_natCast, Int.toNat_natCast]
  refine Ok.ite.2 ⟨fun h => absurd rfl h, fun _ => Ok.bind.2 ?_⟩
  refine Z7g (fun s => ∃ k μ : Nat, s.2 = k ∧ GoodF n s.1 ∧ k + μ ≤ m * (L + 1) ∧ ∀ R, ResAt c.Arc c.Cap c.Back s.1 L L R → StepsD m L c R S T μ) (fun s => (600 - s.2).toNat)
    ⟨0, m * (L + 1), rfl, GoodF.zero r, by omega, fun R _ => Zm4 R S T⟩ (by unfold Z3k; simp only; omega) ?_
  rintro ⟨f, x⟩ ⟨k, μ, h1, hG, hkm, hSt⟩ P next exit
  simp only at h1 hG hSt next ⊢
  subst h1
  unfold Z38
  refine Ok.ite.2 ⟨fun hx => ?_, fun hx => by omega⟩
  refine Ok.bind.2 (Ok.mono (s_Res lH lC lA lB hbd.2.2.2 (fun j hj => by obtain ⟨i, s, hi, hne, hp, q1, q2, q3, q4, q5, q6, q7, q8⟩ := r.at hj; omega) (fun j hj => by obtain ⟨h1, h2, h3, h4, h5, h6⟩ := r.cap hj; have := (r.cap (r.rev hj).2.1).1; omega)) ?_)
  rintro ⟨R, e⟩ (⟨-, he, hR⟩ | ⟨⟨j, hj, hn⟩, -⟩)
  rotate_left
  · exact absurd (Zn0 r hG.all.1 j hj) hn
  simp only at he hR ⊢
  subst he
  obtain ⟨hfl, hok⟩ := Zmz r hG.all.1 hG.slf hR
  have hst := hSt R hR
  refine Ok.ite.2 ⟨fun h => absurd rfl h, fun _ => ?_⟩
  rw [hS, hT]
  refine Ok.bind.2 (Ok.mono (s_WayD r hR.1 hSm hTm) ?_)
  rintro ⟨wl, ok⟩ (⟨hf, hno⟩ | ⟨hf, D, w, hwl, hw, hD, hDt, hDs, hwlen⟩)
  · simp only at hf ⊢
    subst hf
    exact Ok.ite.2 ⟨fun _ => Ok.some.2 (exit _ (Ok.some.2 ⟨rfl, hG, fun h => hno (h.mono fun u v ho => openR_of r hR ho)⟩)), fun h => absurd rfl h⟩
  simp only at hf hwl ⊢
  subst hf; subst hwl
  have hw0 : 0 < w.length := by
    rcases Nat.eq_zero_or_pos w.length with h0 | h0
    · have := List.eq_nil_of_length_eq_zero h0
      subst this
      cases hw
      omega
    · exact h0
  have hmem : ∀ q, q < w.length → w.getD q 0 ∈ w := fun q hq => Za2 hq 0
  refine Ok.ite.2 ⟨fun h => by simp at h, fun _ => Ok.bind.2 ?_⟩
  refine Z7g (fun s => ∃ q : Nat, s.2 = q ∧ q ≤ w.length ∧ 1 ≤ s.1 ∧ s.1 ≤ 4611686018427387904 ∧ (∀ i, i < q → s.1 ≤ R.getD (w.getD i 0) 0) ∧ (s.1 = 4611686018427387904 ∨ ∃ i, i < q ∧ R.getD (w.getD i 0) 0 = s.1)) (fun s => (w.length - s.2).toNat)
    ⟨0, rfl, by omega, by simp only; omega, Int.le_refl _, fun i hi => by omega, .inl rfl⟩ (by unfold Z3k; simp only; omega) ?_
  rintro ⟨d, x⟩ ⟨q, h1, hq, hd1, hd2, hdle, hdat⟩ P2 next2 exit2
  simp only at h1 hd1 hd2 hdle hdat next2 ⊢
  subst h1
  unfold Z37
  rw [List.length_map]
  refine Ok.ite.2 ⟨fun hx => ?_, fun hx => Ok.some.2 (exit2 _ ?_)⟩
  · have hql : q < w.length := by omega
    obtain ⟨a1, a2, -, -⟩ := hw.mem _ (hmem q hql)
    simp only [Int.toNat_natCast, Zhx hql]
    refine Ok.gd.2 ⟨by constructor <;> omega, Ok.gd.2 ⟨by rw [hR.1]; constructor <;> omega, Ok.gd.2 ⟨by constructor <;> omega, Ok.some.2 (next2 _ ⟨q + 1, by simp, by omega, by simp only; omega, by simp only; omega, fun i hi => ?_, ?_⟩ (by simp only; omega))⟩⟩⟩
    · simp only
      rcases Nat.lt_or_ge i q with h4 | h4
      · have := hdle i h4; omega
      · obtain rfl : i = q := by omega
        omega
    · simp only
      rcases Int.le_total d (R.getD (w.getD q 0) 0) with h4 | h4
      · rw [Int.min_eq_left h4]
        rcases hdat with h5 | ⟨i, h5, h6⟩
        · exact .inl h5
        · exact .inr ⟨i, by omega, h6⟩
      · rw [Int.min_eq_right h4]
        exact .inr ⟨q, by omega, rfl⟩
  obtain rfl : q = w.length := by omega
  have hall : ∀ j, j ∈ w → d ≤ R.getD j 0 := fun j hj => by
    obtain ⟨i, hi, rfl⟩ := List.getElem_of_mem hj
    have := hdle i hi
    rw [List.getD_eq_getElem?_getD (l := w), List.getElem?_eq_getElem hi] at this
    exact this
  have hmin : ∃ j, j ∈ w ∧ R.getD j 0 = d := by
    rcases hdat with h5 | ⟨i, h5, h6⟩
    · obtain ⟨a1, -, -, -⟩ := hw.mem _ (hmem 0 hw0)
      have h7 := hok.rle r a1
      have h8 := hall _ (hmem 0 hw0)
      exact ⟨_, hmem 0 hw0, by omega⟩
    · exact ⟨_, hmem i h5, h6⟩
  have hwd := hw.wide hall
  obtain ⟨ν, hν, hst2⟩ := hst.step r hR.1 hwd hD hDt hDs (by omega) hmin
  unfold Z4a
  have hfl2 : f.length = n.Arcs.length := hG.all.1.2.1
  refine Ok.gd.2 ⟨by constructor <;> omega, Ok.bind.2 ?_⟩
  refine Z7g (fun s => ∃ q : Nat, s.2 = q ∧ q ≤ w.length ∧ s.1 = flN n.Arcs (Zfr c d (w.take q) R)) (fun s => (w.length - s.2).toNat) ⟨0, rfl, by omega, by simp only [List.take_zero, Zfr]; exact hfl⟩ (by unfold Z3k; simp only; omega) ?_
  rintro ⟨g, x⟩ ⟨q, h1, hq, hg⟩ P3 next3 exit3
  simp only at h1 hg next3 ⊢
  subst h1
  unfold Z36
  rw [List.length_map]
  refine Ok.ite.2 ⟨fun hx => ?_, fun hx => Ok.some.2 (exit3 _ ?_)⟩
  · have hql : q < w.length := by omega
    obtain ⟨a1, a2, -, -⟩ := hw.mem _ (hmem q hql)
    obtain ⟨j, hj⟩ : ∃ j, w.getD q 0 = j := ⟨_, rfl⟩
    rw [hj] at a1 a2
    have htk : w.take (q + 1) = w.take q ++ [j] := by
      rw [List.take_succ_eq_append_getElem hql, ← hj, List.getD_eq_getElem?_getD, List.getElem?_eq_getElem hql]; rfl
    obtain ⟨v, hv⟩ := hwd.take (q + 1)
    have hok3 := hv.ok r (by omega) hok
    have hw3 := hok3.within r
    have hlq : (Zfr c d (w.take q) R).length = L := by rw [Zk9]; exact hR.1
    have hmv := flN_mv (d := d) r hlq a1
    have haug : Zfr c d (w.take (q + 1)) R = mvR c (Zfr c d (w.take q) R) j d := by rw [htk]; exact Zi1 _ _
    rw [haug, hmv] at hw3
    obtain ⟨i, s, hi, hne, hp, q1, q2, q3, q4, q5, q6, q7, q8⟩ := r.at a1
    have hgl : g.length = n.Arcs.length := by rw [hg, Zcw]
    rw [← hg, q7, Int.toNat_natCast] at hmv hw3
    have hval := hw3.2.2 i hi
    rw [Zhv (by omega)] at hval
    have hcap := r.caps i hi
    have q8' : c.Back.getD j false = bk c j := rfl
    simp only [Int.toNat_natCast, Zhx hql, hj, q7, q8']
    have fin : ∀ y : Int, y = g.getD i 0 + (if bk c j = true then -d else d) → Ok (some (Sum.inl (g.set i y, (q : Int) + 1))) P3 := fun y hy => by
      subst hy
      exact Ok.some.2 (next3 _ ⟨q + 1, by simp, by omega, by simp only; rw [haug, hmv]⟩ (by simp only; omega))
    refine Ok.gd.2 ⟨by constructor <;> omega, Ok.gd.2 ⟨by rw [lB]; constructor <;> omega, Ok.ite.2 ⟨fun hb => ?_, fun hb => ?_⟩⟩⟩
    · rw [if_pos hb] at hval fin
      exact Ok.gd.2 ⟨by rw [lA]; constructor <;> omega, Ok.gd.2 ⟨by constructor <;> omega, Ok.gd.2 ⟨by constructor <;> omega, Ok.gd.2 ⟨by constructor <;> omega, Ok.gd.2 ⟨by constructor <;> omega, fin _ (by omega)⟩⟩⟩⟩⟩
    · rw [if_neg hb] at hval fin
      exact Ok.gd.2 ⟨by rw [lA]; constructor <;> omega, Ok.gd.2 ⟨by constructor <;> omega, Ok.gd.2 ⟨by constructor <;> omega, Ok.gd.2 ⟨by constructor <;> omega, Ok.gd.2 ⟨by constructor <;> omega, fin _ rfl⟩⟩⟩⟩⟩
  · obtain rfl : q = w.length := by omega
    rw [List.take_length] at hg
    obtain ⟨hG2, hR2⟩ := hG.aug r hR (by omega) hwd hS hT
    unfold Z49
    refine Ok.gd.2 ⟨by constructor <;> omega, Ok.some.2 (next _ ⟨k + 1, ν, by simp, by simp only; rw [hg]; exact hG2, by omega, fun R' hR' => ?_⟩ (by simp only; omega))⟩
    simp only at hR'
    rw [hg] at hR'
    rw [hR'.uniq hR2]
    exact hst2
end row
end Go.Acq
namespace Go.Acq
open Go
set_option linter.unusedSimpArgs false
set_option linter.unusedVariables false
theorem Zqx : Z5d = some true := by decide +kernel
theorem aw24 : Ok (Option.bind Z5d fun r => some r) (fun a => a = true) := Ok.bind.2 (Zcr Zqx (Ok.some.2 rfl))
section
variable {n : Net} {m : Nat} {f : List Int} {s : List Bool}
theorem Zn2 (hm : n.N = m) (he : Z52 m n.Arcs) (hA : Zqb n f (fun x => x = 0) [n.S, n.T]) (hST : n.S ≠ n.T) (hS : 0 ≤ n.S ∧ n.S < m) (hT : 0 ≤ n.T ∧ n.T < m) : ex n.Arcs f n.S n.Arcs.length = -ex n.Arcs f n.T n.Arcs.length := by
 have key : ∀ j : Nat, j ≤ m → part n.Arcs f j n.Arcs.length = (if n.S < j then ex n.Arcs f n.S n.Arcs.length else 0) + (if n.T < j then ex n.Arcs f n.T n.Arcs.length else 0) := fun j => by
  induction j with
  | zero => intro _; rw [if_neg (by omega), if_neg (by omega)]; exact Zl4 he _ (Nat.le_refl _)
  | succ j ih =>
   intro hj
   have h1 := ih (by omega)
   have h2 := Zl3 (al := n.Arcs) (f := f) (j : Int) n.Arcs.length
   rw [show ((j + 1 : Nat) : Int) = (j : Int) + 1 by omega, h2, h1]
   have hA1 : n.S ≠ (j : Int) ∨ ex n.Arcs f n.S n.Arcs.length = ex n.Arcs f j n.Arcs.length := (Decidable.em (n.S = (j : Int))).elim (fun e => .inr (by rw [e])) .inl
   have hA2 : n.T ≠ (j : Int) ∨ ex n.Arcs f n.T n.Arcs.length = ex n.Arcs f j n.Arcs.length := (Decidable.em (n.T = (j : Int))).elim (fun e => .inr (by rw [e])) .inl
   have h3 : ex n.Arcs f j n.Arcs.length = 0 ∨ (j : Int) = n.S ∨ (j : Int) = n.T := by simpa using hA.2 j (by omega)
   split <;> split <;> split <;> split <;> omega
 have h1 := key m (Nat.le_refl _)
 rw [Zn3 he _ (Nat.le_refl _), if_pos hS.2, if_pos hT.2] at h1
 omega
theorem Zo0 (hf : f.length = n.Arcs.length) (hk : Z7t n.N n.S n.T n.Arcs = 0) (hl : lenok n.Arcs.length) : Ok (Z3m ⟨n, f, s, []⟩) (fun b => b = true ↔ FwithinP n f) := by
 unfold Z3m
 refine Ok.bind.2 (Z7g (fun x => ∃ k : Nat, x = k ∧ k ≤ n.Arcs.length ∧ ∀ i, i < k → 0 ≤ f.getD i 0 ∧ f.getD i 0 ≤ (n.Arcs.getD i default).cap) (fun x => (n.Arcs.length - x).toNat) ⟨0, rfl, by omega, fun i hi => by omega⟩ (by unfold Z3k; omega) ?_)
 rintro x ⟨k, rfl, hkl, hI⟩ P next exit
 unfold Z3l
 simp only [Int.toNat_natCast]
 refine Ok.ite.2 ⟨fun hx => ?_, fun hx => Ok.some.2 (exit _ ?_)⟩
 ·
  refine Ok.gd.2 ⟨(by omega), Ok.gd.2 ⟨(by omega), Ok.ite.2 ⟨fun h => Ok.some.2 (exit _ (Ok.some.2 ⟨fun h => (by cases h), fun h2 => by have := (h2.2.2 k (by omega)).1; omega⟩)), fun h => Ok.gd.2 ⟨(by omega), Ok.ite.2 ⟨fun h' => Ok.some.2 (exit _ (Ok.some.2 ⟨fun h => (by cases h), fun h2 => by have := (h2.2.2 k (by omega)).2; omega⟩)), fun h' => Ok.gd.2 ⟨(by omega), Ok.some.2 (next _ ⟨k + 1, by simp, by omega, fun i hi => ?_⟩ (by omega))⟩⟩⟩⟩⟩⟩
  rcases Nat.lt_or_ge i k with h4 | h4
  · exact hI i h4
  ·
   obtain rfl : i = k := by omega
   omega
 ·
  obtain rfl : k = n.Arcs.length := by omega
  exact Ok.some.2 ⟨fun _ => ⟨hk, hf, hI⟩, fun _ => rfl⟩
theorem s_keeps (hm : n.N = m) (hl : lenok n.Arcs.length) (hw : FwithinP n f) : Ok (Z42 ⟨n, f, s, []⟩) (fun t => t.2.out.length = m ∧ (∀ v : Nat, v < m → t.2.out.getD v 0 = -ex n.Arcs f v n.Arcs.length) ∧ (t.1 = true ↔ Zqb n f (fun x => x = 0) [n.S, n.T])) := by
 have hz := Z1t hw.1
 have he : Z52 m n.Arcs := Z7f (by rw [← hm]; exact hz.2.2.2.1)
 have hfl := hw.2.1
 unfold Z42
 rw [hm]
 simp only [Int.toNat_natCast]
 refine Ok.gd.2 ⟨(by omega), Ok.bind.2 ?_⟩
 refine Z7g (fun s => ∃ k : Nat, s.2 = k ∧ k ≤ n.Arcs.length ∧ s.1.length = m ∧ ∀ v : Nat, v < m → s.1.getD v 0 = -ex n.Arcs f v k) (fun s => (n.Arcs.length - s.2).toNat) ⟨0, rfl, by omega, List.length_replicate, fun v _ => by rw [Z3f]; rfl⟩ (by unfold Z3k; simp only; omega) ?_
 rintro ⟨xs, x⟩ ⟨k, h1, hk, h3, h4⟩ P next exit
 simp only at h1 h3 h4 next ⊢
 subst h1
 unfold Z3t
 simp only [Int.toNat_natCast]
 refine Ok.ite.2 ⟨fun hx => ?_, fun hx => ?_⟩
 ·
  have hkl : k < n.Arcs.length := by omega
  have e0 := he k hkl false
  have e1 := he k hkl true
  simp only [vtx, Bool.false_eq_true, if_false, if_true] at e0 e1
  obtain ⟨p, hp⟩ : ∃ p : Nat, (n.Arcs.getD k default).fr = p := ⟨(n.Arcs.getD k default).fr.toNat, by omega⟩
  obtain ⟨q, hq⟩ : ∃ q : Nat, (n.Arcs.getD k default).to = q := ⟨(n.Arcs.getD k default).to.toNat, by omega⟩
  have hfk := hw.2.2 k hkl
  have b0 := Zoe (al := n.Arcs) (f := f) (p : Int) (fun i hi => (hw.2.2 i hi).1) k hk
  have b1 := Zoe (al := n.Arcs) (f := f) (q : Int) (fun i hi => (hw.2.2 i hi).1) k hk
  have t0 := hw.tot k hk
  have t1 := hw.tot (k + 1) hkl
  simp only [tot] at t1
  rw [hp] at e0
  rw [hq] at e1
  have v0 := h4 p (by omega)
  have v1 := h4 q (by omega)
  simp only [hp, hq, Int.toNat_natCast, v0, Ze4, List.length_set, h3]
  refine Ok.gd.2 ⟨(by omega), Ok.gd.2 ⟨(by omega), Ok.gd.2 ⟨(by omega), Ok.gd.2 ⟨(by omega), Ok.gd.2 ⟨(by omega), Ok.gd.2 ⟨(by omega), Ok.gd.2 ⟨(by omega), Ok.gd.2 ⟨by split <;> constructor <;> omega, Ok.gd.2 ⟨(by omega), Ok.gd.2 ⟨(by omega), Ok.some.2 (next _ ⟨k + 1, by simp, by omega, by simp [h3], fun v hv => ?_⟩ (by simp only; omega))⟩⟩⟩⟩⟩⟩⟩⟩⟩⟩
  simp only [Ze4, List.length_set, h3, ex, hp, hq]
  rw [h4 v hv]
  by_cases c1 : p = v
  ·
   subst c1
   by_cases c2 : q = p
   ·
    subst c2
    simp only [true_and, if_true]
    rw [if_pos (by omega)]; simp [show q < m by omega]
   · rw [if_neg (fun h => c2 h.1), if_pos ⟨rfl, by omega⟩, if_pos rfl, if_neg (by omega)]; omega
  ·
   by_cases c2 : q = v
   ·
    subst c2
    rw [if_pos ⟨rfl, by omega⟩, if_neg (fun h => c1 h.1), if_neg (by omega), if_pos rfl, v1]; omega
   · rw [if_neg (fun h => c2 h.1), if_neg (fun h => c1 h.1), if_neg (by omega), if_neg (by omega)]; omega
 ·
  obtain rfl : k = n.Arcs.length := by omega
  refine Ok.some.2 (exit _ ?_)
  unfold Z5i
  refine Ok.bind.2 (Z7g (fun x => ∃ k : Nat, x = k ∧ k ≤ m ∧ ∀ v : Nat, v < k → ex n.Arcs f v n.Arcs.length = 0 ∨ (v : Int) ∈ [n.S, n.T]) (fun x => (m - x).toNat) ⟨0, rfl, by omega, fun v hv => by omega⟩ (by unfold Z3k; omega) ?_)
  rintro x ⟨k, rfl, hkl, hI⟩ P2 next2 exit2
  unfold Z3s
  simp only [Int.toNat_natCast, h3]
  refine Ok.ite.2 ⟨fun hx => ?_, fun hx => Ok.some.2 (exit2 _ ?_)⟩
  ·
   have hkm : k < m := by omega
   have hv := h4 k hkm
   have go : (ex n.Arcs f k n.Arcs.length = 0 ∨ (k : Int) ∈ [n.S, n.T]) → P2 (.inl ((k : Int) + 1)) := fun h => next2 _ ⟨k + 1, by simp, by omega, fun v hv => by
    rcases Nat.lt_or_ge v k with h5 | h5
    · exact hI v h5
    ·
     obtain rfl : v = k := by omega
     exact h⟩ (by omega)
   rw [hv]
   refine Ok.gd.2 ⟨(by omega), Ok.ite.2 ⟨fun h => Ok.ite.2 ⟨fun hS => Ok.ite.2 ⟨fun hT => Ok.some.2 (exit2 _ (Ok.some.2 ⟨h3, h4, fun h => (by cases h), fun hA => ?_⟩)), fun hT => Ok.gd.2 ⟨(by omega), Ok.some.2 (go (.inr (by simp; omega)))⟩⟩, fun hS => Ok.gd.2 ⟨(by omega), Ok.some.2 (go (.inr (by simp; omega)))⟩⟩, fun h => Ok.gd.2 ⟨(by omega), Ok.some.2 (go (.inl (by omega)))⟩⟩⟩
   rcases hA.2 k (by omega) with h6 | h6
   · omega
   ·
    have : (k : Int) = n.S ∨ (k : Int) = n.T := by simpa using h6
    omega
  ·
   obtain rfl : k = m := by omega
   unfold Z5h
   exact Ok.some.2 ⟨h3, h4, fun _ => ⟨hw, fun v hv => hI v (by omega)⟩, fun _ => rfl⟩
theorem s_parts (hs : s.length = m) (hS : 0 ≤ n.S ∧ n.S < m) (hT : 0 ≤ n.T ∧ n.T < m) {o : List Int} : Ok (Z41 ⟨n, f, s, o⟩) (fun b => b = true ↔ (inS s n.S = true ∧ inS s n.T = false)) := by
 unfold Z41
 refine Ok.gd.2 ⟨(by simp only [List.length_set, List.length_replicate]; omega), Ok.ite.2 ⟨fun h => Ok.gd.2 ⟨(by simp only [List.length_set, List.length_replicate]; omega), Ok.some.2 ?_⟩, fun h => Ok.some.2 ⟨fun h => (by cases h), fun h2 => absurd h2.1 h⟩⟩⟩
 have h : inS s n.S = true := h
 rw [h]
 unfold inS
 cases s.getD n.T.toNat false <;> simp
theorem s_worth (hm : n.N = m) (hl : lenok n.Arcs.length) (hw : FwithinP n f) (hs : s.length = m) {o : List Int} (ho : o.length = m) (hov : ∀ v : Nat, v < m → o.getD v 0 = -ex n.Arcs f v n.Arcs.length) (hS : 0 ≤ n.S ∧ n.S < m) : Ok (Z40 ⟨n, f, s, o⟩) (fun b => b = true ↔ -ex n.Arcs f n.S n.Arcs.length = Zim n.Arcs s n.Arcs.length) := by
 have hz := Z1t hw.1
 have he : Z52 m n.Arcs := Z7f (by rw [← hm]; exact hz.2.2.2.1)
 have hc0 := Z9t hw.1
 have hb := Zqe hw n.S
 unfold Z40
 have e0 := hov n.S.toNat (by omega)
 rw [Int.toNat_of_nonneg hS.1] at e0
 simp only [e0]
 refine Ok.gd.2 ⟨(by omega), Ok.bind.2 ?_⟩
 refine Z7g (fun z => ∃ k : Nat, z.2 = k ∧ k ≤ n.Arcs.length ∧ z.1 = -ex n.Arcs f n.S n.Arcs.length - Zim n.Arcs s k) (fun z => (n.Arcs.length - z.2).toNat) ⟨0, rfl, by omega, by simp [Zim]⟩ (by unfold Z3k; simp only; omega) ?_
 rintro ⟨y, x⟩ ⟨k, h1, hk, h3⟩ P next exit
 simp only at h1 h3 next ⊢
 subst h1
 unfold Z3r
 simp only [Int.toNat_natCast]
 refine Ok.ite.2 ⟨fun hx => ?_, fun hx => Ok.some.2 (exit _ ?_)⟩
 ·
  have hkl : k < n.Arcs.length := by omega
  have e0 := he k hkl false
  have e1 := he k hkl true
  simp only [vtx, Bool.false_eq_true, if_false, if_true] at e0 e1
  have c0 := Zk7 (c := s) hc0 k hk
  have c1 := Zk7 (c := s) hc0 (k + 1) hkl
  have t1 := Zdd hw.1 (k + 1) hkl
  have t0 := Zdd hw.1 k hk
  have hcap := hc0 k hkl
  have go : ∀ b : Bool, (b = true ↔ (inS s (n.Arcs.getD k default).fr = true ∧ inS s (n.Arcs.getD k default).to = false)) → Ok (Z30 ⟨n, f, s, o⟩ y (k : Int) b) P := by
   intro b hb'
   unfold Z30
   simp only [Int.toNat_natCast]
   simp only [Zim] at c1
   refine Ok.ite.2 ⟨fun h => ?_, fun h => ?_⟩
   ·
    rw [if_pos (hb'.1 h)] at c1
    exact Ok.gd.2 ⟨by constructor <;> omega, Ok.gd.2 ⟨(by omega), Ok.some.2 (next _ ⟨k + 1, by simp, by omega, by simp only [Zim]; rw [if_pos (hb'.1 h)]; omega⟩ (by simp only; omega))⟩⟩
   · exact Ok.gd.2 ⟨(by omega), Ok.some.2 (next _ ⟨k + 1, by simp, by omega, by simp only [Zim]; rw [if_neg (fun h2 => h (hb'.2 h2))]; omega⟩ (by simp only; omega))⟩
  refine Ok.gd.2 ⟨(by omega), Ok.gd.2 ⟨(by omega), Ok.ite.2 ⟨fun h => Ok.gd.2 ⟨(by omega), go _ ?_⟩, fun h => go _ ⟨fun h => (by cases h), fun h2 => absurd h2.1 h⟩⟩⟩⟩
  have h : inS s (n.Arcs.getD k default).fr = true := h
  rw [h]
  unfold inS
  cases s.getD (n.Arcs.getD k default).to.toNat false <;> simp
 ·
  obtain rfl : k = n.Arcs.length := by omega
  unfold Z5g
  refine Ok.some.2 ?_
  rw [decide_eq_true_eq]; omega
def WhyP (n : Net) (m : Nat) (f : List Int) (s : List Bool) (e : Int) : Prop :=
  (¬(f.length = n.Arcs.length ∧ s.length = m) ∧ e = 60) ∨ ((f.length = n.Arcs.length ∧ s.length = m) ∧
  ((¬FwithinP n f ∧ e = 61) ∨ (FwithinP n f ∧
  ((¬Zqb n f (fun x => x = 0) [n.S, n.T] ∧ e = 62) ∨ (Zqb n f (fun x => x = 0) [n.S, n.T] ∧
  ((¬CutR n s ∧ e = 63) ∨ (CutR n s ∧
  ((ex n.Arcs f n.T n.Arcs.length ≠ Zim n.Arcs s n.Arcs.length ∧ e = 64) ∨ (ex n.Arcs f n.T n.Arcs.length = Zim n.Arcs s n.Arcs.length ∧ e = 0)))))))))
theorem s_why (hm : n.N = m) (hk : Z7t n.N n.S n.T n.Arcs = 0) (hl : lenok n.Arcs.length) : Ok (Z55 ⟨n, f, s, []⟩) (fun t => WhyP n m f s t.1 ∧ (t.1 = 0 → t.2.out.length = m ∧ ∀ v : Nat, v < m → t.2.out.getD v 0 = -ex n.Arcs f v n.Arcs.length)) := by
  have hz := Z1t hk
  simp only [Z3q, decide_eq_true_eq] at hz
  have he : Z52 m n.Arcs := Z7f (by rw [← hm]; exact hz.2.2.2.1)
  have hS : 0 ≤ n.S ∧ n.S < m := by omega
  have hT : 0 ≤ n.T ∧ n.T < m := by omega
  have hST := hz.2.2.1.2.2
  unfold Z55 Z72
  refine Ok.bind.2 (Zcr (Zjy n hl) (Ok.ite.2 ⟨fun h => absurd hk h, fun _ => Ok.bind.2 ?_⟩))
  have long : ∀ b : Bool, (b = true ↔ (f.length = n.Arcs.length ∧ s.length = m)) → Ok (if (!b) = true then (some (60, (⟨n, f, s, []⟩ : CheckAnswer))) else Option.bind (Z3m ⟨n, f, s, []⟩) fun r15 =>
      if (!r15) = true then (some (61, ⟨n, f, s, []⟩)) else Option.bind (Z42 ⟨n, f, s, []⟩) fun (r20, r21) =>
      if (!r20) = true then (some (62, (CheckAnswer.mk n f s r21.out))) else Option.bind (Z41 (CheckAnswer.mk n f s r21.out)) fun r35 =>
      if (!r35) = true then (some (63, (CheckAnswer.mk n f s r21.out))) else Option.bind (Z40 (CheckAnswer.mk n f s r21.out)) fun r40 =>
      if (!r40) = true then (some (64, (CheckAnswer.mk n f s r21.out))) else Z4x ⟨n, f, s, []⟩ r21.out) (fun t => WhyP n m f s t.1 ∧ (t.1 = 0 → t.2.out.length = m ∧ ∀ v : Nat, v < m → t.2.out.getD v 0 = -ex n.Arcs f v n.Arcs.length)) := by
    intro b hb
    cases b with
    | false => exact Ok.ite.2 ⟨fun _ => Ok.some.2 ⟨.inl ⟨fun h => (by have := hb.2 h; cases this), rfl⟩, fun h => (by cases h)⟩, fun h => absurd rfl h⟩
    | true =>
      obtain ⟨hf, hs⟩ := hb.1 rfl
      refine Ok.ite.2 ⟨fun h => by simp at h, fun _ => Ok.bind.2 (Ok.mono (Zo0 hf hk hl) fun b2 hb2 => ?_)⟩
      cases b2 with
      | false => exact Ok.ite.2 ⟨fun _ => Ok.some.2 ⟨.inr ⟨⟨hf, hs⟩, .inl ⟨fun h => (by have := hb2.2 h; cases this), rfl⟩⟩, fun h => (by cases h)⟩, fun h => absurd rfl h⟩
      | true =>
        have hw := hb2.1 rfl
        refine Ok.ite.2 ⟨fun h => by simp at h, fun _ => Ok.bind.2 (Ok.mono (s_keeps hm hl hw) ?_)⟩
        rintro ⟨b3, q⟩ ⟨ho, hov, hb3⟩
        simp only at ho hov hb3 ⊢
        cases b3 with
        | false => exact Ok.ite.2 ⟨fun _ => Ok.some.2 ⟨.inr ⟨⟨hf, hs⟩, .inr ⟨hw, .inl ⟨fun h => (by have := hb3.2 h; cases this), rfl⟩⟩⟩, fun h => (by cases h)⟩, fun h => absurd rfl h⟩
        | true =>
          have hA := hb3.1 rfl
          refine Ok.ite.2 ⟨fun h => by simp at h, fun _ => Ok.bind.2 (Ok.mono (s_parts hs hS hT) fun b4 hb4 => ?_)⟩
          cases b4 with
          | false => exact Ok.ite.2 ⟨fun _ => Ok.some.2 ⟨.inr ⟨⟨hf, hs⟩, .inr ⟨hw, .inr ⟨hA, .inl ⟨fun h => (by have := hb4.2 h.2.2; cases this), rfl⟩⟩⟩⟩, fun h => (by cases h)⟩, fun h => absurd rfl h⟩
          | true =>
            have hC : CutR n s := ⟨hk, by omega, hb4.1 rfl⟩
            have h2 := Zn2 hm he hA hST hS hT
            refine Ok.ite.2 ⟨fun h => by simp at h, fun _ => Ok.bind.2 (Ok.mono (s_worth hm hl hw hs ho hov hS) fun b5 hb5 => ?_)⟩
            cases b5 with
            | false => exact Ok.ite.2 ⟨fun _ => Ok.some.2 ⟨.inr ⟨⟨hf, hs⟩, .inr ⟨hw, .inr ⟨hA, .inr ⟨hC, .inl ⟨fun h => (by have := hb5.2 (by omega); cases this), rfl⟩⟩⟩⟩⟩, fun h => (by cases h)⟩, fun h => absurd rfl h⟩
            | true =>
              have h3 := hb5.1 rfl
              refine Ok.ite.2 ⟨fun h => by simp at h, fun _ => ?_⟩
              unfold Z4x
              exact Ok.some.2 ⟨.inr ⟨⟨hf, hs⟩, .inr ⟨hw, .inr ⟨hA, .inr ⟨hC, .inr ⟨by omega, rfl⟩⟩⟩⟩⟩, fun _ => ⟨ho, hov⟩⟩
  refine Ok.ite.2 ⟨fun h => Ok.some.2 (long _ ?_), fun h => Ok.some.2 (long _ ⟨fun h => (by cases h), fun h2 => absurd (by rw [h2.1]) h⟩)⟩
  have h : (f.length : Int) = (n.Arcs.length : Int) := h
  rw [decide_eq_true_eq]
  show (s.length : Int) = n.N ↔ _
  exact ⟨fun h2 => ⟨by omega, by omega⟩, fun h2 => by omega⟩
def Zm5 (n : Net) (f : List Int) (s : List Bool) : Prop := Zqb n f (fun x => x = 0) [n.S, n.T] ∧ CutR n s ∧ ex n.Arcs f n.T n.Arcs.length = Zim n.Arcs s n.Arcs.length
theorem WhyP.iff {e : Int} (hm : n.N = m) (h : WhyP n m f s e) : e = 0 ↔ Zm5 n f s := by
 rcases h with ⟨h, rfl⟩ | ⟨h0, ⟨h, rfl⟩ | ⟨h1, ⟨h, rfl⟩ | ⟨h2, ⟨h, rfl⟩ | ⟨h3, ⟨h, rfl⟩ | ⟨h4, rfl⟩⟩⟩⟩⟩
 · exact ⟨fun h => (by cases h), fun hR => absurd ⟨hR.1.1.2.1, by have := hR.2.1.2.1; omega⟩ h⟩
 · exact ⟨fun h => (by cases h), fun hR => absurd hR.1.1 h⟩
 · exact ⟨fun h => (by cases h), fun hR => absurd hR.1 h⟩
 · exact ⟨fun h => (by cases h), fun hR => absurd hR.2.1 h⟩
 · exact ⟨fun h => (by cases h), fun hR => absurd hR.2.2 h⟩
 · exact ⟨fun _ => ⟨h2, h3, h4⟩, fun _ => rfl⟩
theorem Zqo (hm : n.N = m) (hk : Z7t n.N n.S n.T n.Arcs = 0) (hl : lenok n.Arcs.length) : Ok (Z87 n f s) (fun t => (t.2 = true ∧ Zm5 n f s ∧ t.1 = ex n.Arcs f n.T n.Arcs.length) ∨ (t.2 = false ∧ ¬Zm5 n f s)) := by
 have hz := Z1t hk
 simp only [Z3q, decide_eq_true_eq] at hz
 have he : Z52 m n.Arcs := Z7f (by rw [← hm]; exact hz.2.2.2.1)
 have hS : 0 ≤ n.S ∧ n.S < m := by omega
 have hT : 0 ≤ n.T ∧ n.T < m := by omega
 unfold Z87
 refine Ok.bind.2 (Ok.mono (s_why hm hk hl) ?_)
 rintro ⟨e, a⟩ ⟨h, ho⟩
 have hi := h.iff hm
 simp only at ho hi ⊢
 refine Ok.ite.2 ⟨fun h0 => Ok.some.2 (.inr ⟨rfl, fun hR => h0 (hi.2 hR)⟩), fun h0 => ?_⟩
 have h0 : e = 0 := Decidable.not_not.1 h0
 have hR := hi.1 h0
 obtain ⟨o1, o2⟩ := ho h0
 have h2 := Zn2 hm he hR.1 hz.2.2.1.2.2 hS hT
 have h3 := o2 n.S.toNat (by omega)
 rw [Int.toNat_of_nonneg hS.1] at h3
 exact Ok.gd.2 ⟨(by omega), Ok.some.2 (.inl ⟨rfl, hR, by simp only; omega⟩)⟩
end
end Go.Acq
namespace Go.Acq
open Go
set_option linter.unusedSimpArgs false
section
variable {n : Net} {m : Nat} {f : List Int}
theorem Zoc {b : List Bool} {S : Nat} (he : Z52 m n.Arcs) (hb : ∀ v, v < m → (b.getD v false = true ↔ Reach (Zf2 n f) S v)) : ∀ i, i < n.Arcs.length → Zgk n.Arcs f b i := fun i hi => by
 have e0 := he i hi false
 have e1 := he i hi true
 simp only [vtx, Bool.false_eq_true, if_false, if_true] at e0 e1
 obtain ⟨p, hp⟩ : ∃ p : Nat, (n.Arcs.getD i default).fr = p := ⟨(n.Arcs.getD i default).fr.toNat, by omega⟩
 obtain ⟨q, hq⟩ : ∃ q : Nat, (n.Arcs.getD i default).to = q := ⟨(n.Arcs.getD i default).to.toNat, by omega⟩
 rw [hp] at e0
 rw [hq] at e1
 unfold Zgk inS
 rw [hp, hq, Int.toNat_natCast, Int.toNat_natCast]
 have step : ∀ u v : Nat, u < m → v < m → Zf2 n f u v → b.getD u false = true → b.getD v false = true := fun u v hu hv ho h => (hb v hv).2 (.step ((hb u hu).1 h) ho)
 refine ⟨fun h4 h5 => Int.not_lt.1 fun h6 => ?_, fun h4 h5 => Int.not_lt.1 fun h6 => ?_⟩
 ·
  have hne : (n.Arcs.getD i default).fr ≠ (n.Arcs.getD i default).to := fun e => by rw [show p = q by omega, h5] at h4; cases h4
  rw [step p q (by omega) (by omega) ⟨i, hi, hne, .inl ⟨hp, hq, h6⟩⟩ h4] at h5; cases h5
 ·
  have hne : (n.Arcs.getD i default).fr ≠ (n.Arcs.getD i default).to := fun e => by rw [show p = q by omega, h5] at h4; cases h4
  rw [step q p (by omega) (by omega) ⟨i, hi, hne, .inr ⟨hq, hp, h6⟩⟩ h5] at h4; cases h4
theorem Zme {b : List Bool} (hm : n.N = m) (hG : GoodF n f) (hC : CutR n b) (ht : ∀ i, i < n.Arcs.length → Zgk n.Arcs f b i) : Zm5 n f b := by
 have he : Z52 m n.Arcs := Z7f (by rw [← hm]; exact (Z1t hC.1).2.2.2.1)
 have h1 := Zeu hm he hG.all hC
 have h2 := (Zka (c := b) hG.all.1.2.2 n.Arcs.length (Nat.le_refl _)).2.2 ht
 exact ⟨hG.all, hC, by omega⟩
theorem Zo4 {b : List Bool} (hm : n.N = m) (hk : Z7t n.N n.S n.T n.Arcs = 0) (hG : GoodF n f) (hno : ¬Reach (Zf2 n f) n.S.toNat n.T.toNat) (hl : b.length = m) (hb : ∀ v, v < m → (b.getD v false = true ↔ Reach (Zf2 n f) n.S.toNat v)) : Zm5 n f b := by
 have hz := Z1t hk
 simp only [Z3q, decide_eq_true_eq] at hz
 have he : Z52 m n.Arcs := Z7f (by rw [← hm]; exact hz.2.2.2.1)
 refine Zme hm hG ⟨hk, by omega, (hb _ (by omega)).2 .refl, ?_⟩ (Zoc he hb)
 show b.getD n.T.toNat false = false
 rw [Bool.eq_false_iff]
 exact fun h => hno ((hb _ (by omega)).1 h)
end
end Go.Acq
namespace Go.Acq
open Go
set_option linter.unusedSimpArgs false
set_option linter.unusedVariables false
theorem Zqp {n : Net} {g : List Int} (hG : GoodF n g) (hl : n.Arcs.length ≤ 4096) (hc : ∀ i, i < n.Arcs.length → (n.Arcs.getD i default).cap < 1125899906842624) : Ok (Z5s n g) (fun r => r = g) := by
 obtain ⟨⟨⟨-, hgl, hgw⟩, -⟩, hgs⟩ := hG
 unfold Z5s
 refine Ok.gd.2 ⟨by constructor <;> omega, Ok.bind.2 ?_⟩
 rw [Int.toNat_natCast]
 refine Z7g (fun s => ∃ k : Nat, s.2 = k ∧ k ≤ n.Arcs.length ∧ s.1.length = n.Arcs.length ∧ ∀ i, i < n.Arcs.length → s.1.getD i 0 = if i < k then g.getD i 0 else 0) (fun s => (n.Arcs.length - s.2).toNat) ⟨0, rfl, by omega, List.length_replicate, fun i hi => by rw [Z3f, if_neg (by omega)]⟩ (by unfold Z3k; simp only; omega) ?_
 rintro ⟨xs, x⟩ ⟨k, h1, hk, h3, h4⟩ P next exit
 simp only at h1 h3 h4 next ⊢
 subst h1
 unfold Z4h
 simp only [Int.toNat_natCast]
 refine Ok.ite.2 ⟨fun hx => ?_, fun hx => Ok.some.2 (exit _ ?_)⟩
 ·
  have hkl : k < n.Arcs.length := by omega
  have hgk := hgw k hkl
  have hck := hc k hkl
  refine Ok.gd.2 ⟨by constructor <;> omega, Ok.ite.2 ⟨fun h => by omega, fun _ => Ok.ite.2 ⟨fun hs => Ok.gd.2 ⟨by constructor <;> omega, Ok.some.2 (next _ ⟨k + 1, by simp, by omega, h3, fun i hi => ?_⟩ (by simp only; omega))⟩, fun hs => Ok.gd.2 ⟨by constructor <;> omega, Ok.ite.2 ⟨fun h => by omega, fun _ => ?_⟩⟩⟩⟩⟩
  ·
   simp only
   rw [h4 i hi]
   by_cases e : i = k
   · subst e; rw [if_neg (by omega), if_pos (by omega), hgs i hi hs]
   ·
    by_cases e2 : i < k
    · rw [if_pos e2, if_pos (by omega)]
    · rw [if_neg e2, if_neg (by omega)]
  ·
   unfold Z4j
   simp only [Int.toNat_natCast]
   refine Ok.ite.2 ⟨fun _ => Ok.gd.2 ⟨by constructor <;> omega, Ok.gd.2 ⟨by omega, ?_⟩⟩, fun h => by omega⟩
   rw [Int.tmod_eq_of_lt hgk.1 (by omega)]
   unfold Z4i
   simp only [Int.toNat_natCast]
   rw [Int.min_eq_left hgk.2]
   refine Ok.gd.2 ⟨by constructor <;> omega, Ok.gd.2 ⟨by constructor <;> omega, Ok.some.2 (next _ ⟨k + 1, by simp, by omega, by simp only [List.length_set]; exact h3, fun i hi => ?_⟩ (by simp only; omega))⟩⟩
   simp only
   rw [Ze4]
   by_cases e : k = i
   · subst e; rw [if_pos ⟨rfl, by omega⟩, if_pos (by omega)]
   ·
    rw [if_neg (fun h => e h.1), h4 i hi]
    by_cases e2 : i < k
    · rw [if_pos e2, if_pos (by omega)]
    · rw [if_neg e2, if_neg (by omega)]
 ·
  obtain rfl : k = n.Arcs.length := by omega
  unfold Z62
  exact Ok.some.2 (Zc7 0 (by omega) fun i hi => by rw [h4 i (by omega), if_pos (by omega)])
section row
variable {n : Net} {m L : Nat} {c : Csr}
theorem s_rRes {g : List Int} (r : Row n m L c) (hw : FwithinP n g) : Ok (Z6f c g) (fun t => ResAt c.Arc c.Cap c.Back g L L t.1 ∧ t.2 = 0) := by
 obtain ⟨lF, lH, lR, lC, lA, lB⟩ := r.lens
 have hbd := r.bd
 unfold Z6f
 refine Ok.bind.2 (Z7g (fun s => ∃ k : Nat, s.2 = k ∧ k ≤ L ∧ s.1.length = k ∧ ∀ j, j < k → s.1.getD j 0 = Zqs c.Arc c.Cap c.Back g j) (fun s => (L - s.2).toNat) ⟨0, rfl, by omega, rfl, fun j hj => by omega⟩ (by unfold Z3k; simp only; omega) ?_)
 rintro ⟨o, x⟩ ⟨k, h1, hk, h3, h4⟩ P next exit
 simp only at h1 h3 h4 next ⊢
 subst h1
 unfold Z4y
 simp only [Int.toNat_natCast, lH]
 refine Ok.ite.2 ⟨fun hx => ?_, fun hx => Ok.some.2 (exit _ ?_)⟩
 ·
  have hkL : k < L := by omega
  obtain ⟨i, s, hi, hne, hp, q1, q2, q3, q4, q5, q6, q7, q8⟩ := r.at hkL
  have hr := r.rev hkL
  obtain ⟨d1, d2, d3, d4, d5, d6⟩ := r.cap hkL
  obtain ⟨e1, e2, e3⟩ := r.cpPos hi hne s
  rw [hp] at e1
  have hg := hw.2.2 i hi
  have hgl := hw.2.1
  have q8' : c.Back.getD k false = s := q8
  simp only [q7, q4, Int.toNat_natCast]
  have fin : ∀ y : Int, y = Zqs c.Arc c.Cap c.Back g k → Ok (some (Sum.inl (o ++ [y], (k : Int) + 1))) P := fun y hy => Ok.some.2 (next _ ⟨k + 1, by simp, by omega, by simp [h3], fun j hj => by
   simp only
   rcases Nat.lt_or_ge j k with h5 | h5
   · rw [Z2o (by omega)]; exact h4 j h5
   ·
    obtain rfl : j = k := by omega
    rw [← h3, Zb7 (Nat.le_refl _), Nat.sub_self]
    rw [h3]; exact hy⟩ (by simp only; omega))
  refine Ok.gd.2 ⟨by rw [lA]; constructor <;> omega, Ok.ite.2 ⟨fun h => by omega, fun _ => Ok.gd.2 ⟨by rw [lC]; constructor <;> omega, Ok.gd.2 ⟨by rw [lR]; constructor <;> omega, Ok.gd.2 ⟨by rw [lC]; constructor <;> omega, Ok.gd.2 ⟨by constructor <;> omega, Ok.gd.2 ⟨by constructor <;> omega, Ok.ite.2 ⟨fun h => by omega, fun _ => Ok.gd.2 ⟨by constructor <;> omega, ?_⟩⟩⟩⟩⟩⟩⟩⟩⟩
  unfold Z4z
  simp only [q7, q4, Int.toNat_natCast, q8']
  refine Ok.ite.2 ⟨fun h => by have h := of_decide_eq_true h; omega, fun _ => Ok.gd.2 ⟨by rw [lB]; constructor <;> omega, Ok.ite.2 ⟨fun hs => ?_, fun hs => ?_⟩⟩⟩
  ·
   refine Ok.gd.2 ⟨by constructor <;> omega, Ok.gd.2 ⟨by rw [List.length_append, List.length_singleton]; constructor <;> omega, Ok.gd.2 ⟨by constructor <;> omega, fin _ ?_⟩⟩⟩
   unfold Zqs
   rw [q8', if_pos hs, q7, Int.toNat_natCast]
  ·
   have hs : s = false := by cases s; rfl; exact absurd rfl hs
   have hbk : bk c (rv c k) = true := by rw [r.back hkL, q8, hs]; rfl
   have hz := (r.cap hr.2.1).2.2.2.2.2 hbk
   refine Ok.gd.2 ⟨by constructor <;> omega, Ok.gd.2 ⟨by constructor <;> omega, Ok.gd.2 ⟨by rw [List.length_append, List.length_singleton]; constructor <;> omega, Ok.gd.2 ⟨by constructor <;> omega, fin _ ?_⟩⟩⟩⟩
   unfold Zqs
   rw [q8', hs, q7, Int.toNat_natCast, hz]
   simp
 ·
  obtain rfl : k = L := by omega
  unfold Z6e
  exact Ok.some.2 ⟨⟨h3, fun j hj => ⟨Zn0 r hw j hj, h4 j hj⟩⟩, rfl⟩
theorem WayD.other {R R' : List Int} {D : Nat → Nat} {d : Int} {u t : Nat} {w : List Nat} (h : WayD c L R' D d u w t) (hR : ∀ j, j < L → R'.getD j 0 ≤ R.getD j 0) : WayD c L R D d u w t := by
 induction h with
 | nil => exact .nil _
 | cons hj h0 hl hw ih => exact .cons hj (Int.le_trans h0 (hR _ hj)) hl ih
theorem s_send1 {f R : List Int} {D : Nat → Nat} {S T : Nat} {w : List Nat} (r : Row n m L c) (hG : GoodF n f) (hR : ResAt c.Arc c.Cap c.Back f L L R) (hS : n.S = S) (hT : n.T = T) (hw : WayD c L R D 1 S w T) (hwl : w.length ≤ 4096) :
    Ok (Z21 (fun s => Z2b c (w.map (fun j : Nat => (j : Int))) s.1 s.2) Z3k (f, 0)) (fun g => GoodF n g) := by
  obtain ⟨lF, lH, lR, lC, lA, lB⟩ := r.lens
  have hbd := r.bd
  obtain ⟨hfl, hok⟩ := Zmz r hG.all.1 hG.slf hR
  refine Z7g (fun s => ∃ q : Nat, s.2 = q ∧ q ≤ w.length ∧ s.1 = flN n.Arcs (Zfr c 1 (w.take q) R)) (fun s => (w.length - s.2).toNat) ⟨0, rfl, by omega, by simp only [List.take_zero, Zfr]; exact hfl⟩ (by unfold Z3k; simp only; omega) ?_
  rintro ⟨g, x⟩ ⟨q, h1, hq, hg⟩ P3 next3 exit3
  simp only at h1 hg next3 ⊢
  subst h1
  unfold Z2b
  rw [List.length_map]
  refine Ok.ite.2 ⟨fun hx => ?_, fun hx => Ok.some.2 (exit3 _ ?_)⟩
  · have hql : q < w.length := by omega
    obtain ⟨a1, a2, -, -⟩ := hw.mem _ (Za2 hql 0)
    obtain ⟨j, hj⟩ : ∃ j, w.getD q 0 = j := ⟨_, rfl⟩
    rw [hj] at a1 a2
    have htk : w.take (q + 1) = w.take q ++ [j] := by
      rw [List.take_succ_eq_append_getElem hql, ← hj, List.getD_eq_getElem?_getD, List.getElem?_eq_getElem hql]; rfl
    obtain ⟨v, hv⟩ := hw.take (q + 1)
    have hok3 := hv.ok r (by omega) hok
    have hw3 := hok3.within r
    have hlq : (Zfr c 1 (w.take q) R).length = L := by rw [Zk9]; exact hR.1
    have hmv := flN_mv (d := 1) r hlq a1
    have haug : Zfr c 1 (w.take (q + 1)) R = mvR c (Zfr c 1 (w.take q) R) j 1 := by rw [htk]; exact Zi1 _ _
    rw [haug, hmv] at hw3
    obtain ⟨i, s, hi, hne, hp, q1, q2, q3, q4, q5, q6, q7, q8⟩ := r.at a1
    have hgl : g.length = n.Arcs.length := by rw [hg, Zcw]
    rw [← hg, q7, Int.toNat_natCast] at hmv hw3
    have hval := hw3.2.2 i hi
    rw [Zhv (by omega)] at hval
    have hcap := r.caps i hi
    have q8' : c.Back.getD j false = bk c j := rfl
    simp only [Int.toNat_natCast, Zhx hql, hj, q7, q8']
    have fin : ∀ y : Int, y = g.getD i 0 + (if bk c j = true then -1 else 1) → Ok (some (Sum.inl (g.set i y, (q : Int) + 1))) P3 := fun y hy => by
      subst hy
      exact Ok.some.2 (next3 _ ⟨q + 1, by simp, by omega, by simp only; rw [haug, hmv]⟩ (by simp only; omega))
    refine Ok.gd.2 ⟨by constructor <;> omega, Ok.gd.2 ⟨by rw [lB]; constructor <;> omega, Ok.ite.2 ⟨fun hb => ?_, fun hb => ?_⟩⟩⟩
    · rw [if_pos hb] at hval fin
      exact Ok.gd.2 ⟨by rw [lA]; constructor <;> omega, Ok.gd.2 ⟨by constructor <;> omega, Ok.gd.2 ⟨by constructor <;> omega, Ok.gd.2 ⟨by constructor <;> omega, Ok.gd.2 ⟨by constructor <;> omega, fin _ (by omega)⟩⟩⟩⟩⟩
    · rw [if_neg hb] at hval fin
      exact Ok.gd.2 ⟨by rw [lA]; constructor <;> omega, Ok.gd.2 ⟨by constructor <;> omega, Ok.gd.2 ⟨by constructor <;> omega, Ok.gd.2 ⟨by constructor <;> omega, Ok.gd.2 ⟨by constructor <;> omega, fin _ rfl⟩⟩⟩⟩⟩
  · obtain rfl : q = w.length := by omega
    rw [List.take_length] at hg
    rw [hg]
    exact (hG.aug r hR (by omega) hw hS hT).1
end row
theorem p_CheckBest {n : Net} {l : List Int} {s : List Bool} {ways : Int} (hn : NetIn n) (hl : RowIn l) (hs : s.length ≤ 9223372036854775807) (hwy : u8ok ways) : Z56 n l s ways = some true := by
 refine Zl6 ?_
 unfold Z56
 refine Ok.bind.2 (Ok.mono (s_Some hn (by omega) (by omega) (by omega) (by omega)) fun r hr => ?_)
 obtain ⟨m, hm, hso⟩ := hr.nat
 have hlen := hr.arcs
 have hv := hr.verts
 have hends := hr.ends
 have hk := hr.check
 have hcaps := Made.caps hso
 have hll : lenok r.Arcs.length := by omega
 have hlrow := hl.len
 refine Ok.gd.2 ⟨by constructor <;> omega, ?_⟩
 rw [Int.toNat_natCast]
 refine Ok.bind.2 (Ok.mono (Zo1 hm hk (by omega) (by omega)) ?_)
 rintro ⟨f, ok⟩ ⟨h1, hG, hno⟩
 simp only at h1 hG hno ⊢
 subst h1
 refine Ok.ite.2 ⟨fun h => by simp at h, fun _ => ?_⟩
 refine Ok.bind.2 (Ok.mono (s_From hll) ?_)
 rintro ⟨a, e⟩ (⟨-, e1, a1, a2⟩ | ⟨h, -⟩)
 rotate_left
 · exact absurd hG.all.1 h
 simp only at e1 a1 a2 ⊢
 subst e1
 have hRa := Zo4 hm hk hG hno (by omega) (fun v hv => a2 v (by omega))
 refine Ok.bind.2 (Ok.mono (Zqo hm hk hll) ?_)
 rintro ⟨x, p⟩ (⟨p1, -, p2⟩ | ⟨-, h⟩)
 rotate_left
 · exact absurd hRa h
 simp only at p1 p2 ⊢
 subst p1; subst p2
 have he : Z52 m r.Arcs := Z7f (by rw [← hm]; exact (Z1t hk).2.2.2.1)
 refine Ok.ite.2 ⟨fun h => absurd rfl h, fun _ => Ok.ite.2 ⟨fun h => by simp at h, fun _ => ?_⟩⟩
 rw [hm]
 simp only [Int.toNat_natCast]
 obtain ⟨o, ho⟩ : ∃ o, cpy (List.replicate m (false : Bool)) s = o := ⟨_, rfl⟩
 have hol : o.length = m := by rw [← ho]; exact Zdp List.length_replicate
 simp only [ho]
 obtain ⟨S, hS⟩ : ∃ S : Nat, r.S = S := ⟨r.S.toNat, by omega⟩
 obtain ⟨T, hT⟩ : ∃ T : Nat, r.T = T := ⟨r.T.toNat, by omega⟩
 refine Ok.gd.2 ⟨by constructor <;> omega, Ok.gd.2 ⟨by rw [hol]; constructor <;> omega, Ok.gd.2 ⟨by rw [List.length_set, hol]; constructor <;> omega, ?_⟩⟩⟩
 obtain ⟨o2, ho2⟩ : ∃ o2, (o.set r.S.toNat true).set r.T.toNat false = o2 := ⟨_, rfl⟩
 have hC : CutR r o2 := by
  refine ⟨hk, by rw [← ho2, List.length_set, List.length_set]; omega, ?_, ?_⟩
  ·
   show o2.getD r.S.toNat false = true
   rw [← ho2, Ze4, if_neg (by omega), Ze4, if_pos ⟨rfl, by omega⟩]
  ·
   show o2.getD r.T.toNat false = false
   rw [← ho2, Ze4, if_pos ⟨rfl, by rw [List.length_set]; omega⟩]
 simp only [ho2]
 refine Ok.bind.2 (Ok.mono (s_Cap hll) ?_)
 rintro k (⟨-, rfl⟩ | ⟨h, -⟩)
 rotate_left
 · exact absurd hC h
 have q1 := Zeu hm he hG.all hC
 have q2 := (Zka (c := o2) hG.all.1.2.2 r.Arcs.length (Nat.le_refl _)).1
 refine Ok.ite.2 ⟨fun h => absurd rfl h, fun _ => Ok.ite.2 ⟨fun h => by simp only at h; omega, fun _ => Ok.gd.2 ⟨by constructor <;> omega, Ok.bind.2 ?_⟩⟩⟩
 have fin : ∀ g : List Int, GoodF r g → Ok (Z2x r (ex r.Arcs f r.T r.Arcs.length) g) (fun b => b = true) := by
  intro g hg
  unfold Z2x
  have b1 := Zeu hm he hg.all hRa.2.1
  have b2 := (Zka (c := a) hg.all.1.2.2 r.Arcs.length (Nat.le_refl _)).1
  have b3 := hRa.2.2
  refine Ok.bind.2 (Ok.mono (s_Value hll) ?_)
  rintro v (⟨-, rfl⟩ | ⟨h, -⟩)
  · exact Ok.ite.2 ⟨fun _ => Ok.ite.2 ⟨fun _ => aw24, fun h => absurd (show ex r.Arcs g r.T r.Arcs.length ≤ ex r.Arcs f r.T r.Arcs.length by omega) h⟩, fun h => absurd rfl h⟩
  · exact absurd hg.all h
 obtain ⟨W, hW⟩ : ∃ W : Nat, ways.tmod 41 = W ∧ W < 41 := by
  have h1 := Int.tmod_lt_of_pos ways (show (0 : Int) < 41 by omega)
  have h2 := Int.tmod_nonneg 41 (show 0 ≤ ways by omega)
  exact ⟨(ways.tmod 41).toNat, by omega, by omega⟩
 obtain ⟨hW, hW2⟩ := hW
 obtain ⟨c0, hc0⟩ : ∃ c0, Z92 r = some c0 := by
  have := Zmw hm hk hll
  cases e : Z92 r with
  | none => rw [e] at this; exact absurd this (by simp [Ok])
  | some c0 => exact ⟨c0, rfl⟩
 refine Z7g (fun z => ∃ k : Nat, z.2 = k ∧ k ≤ W ∧ GoodF r z.1) (fun z => (W - z.2).toNat) ⟨0, rfl, by omega, ?_⟩ (by unfold Z3k; simp only; omega) ?_
 ·
  obtain ⟨L, hL⟩ : ∃ L, Z11 r.Arcs m = L := ⟨_, rfl⟩
  have hM := Zmw hm hk hll
  rw [hc0] at hM
  have hM := Ok.some.1 hM
  exact GoodF.zero (⟨hM.1, hk, hm, hL⟩ : Row r m L c0.1)
 rintro ⟨g, x⟩ ⟨k, h1, hkW, hg⟩ P next exit
 simp only at h1 hg next ⊢
 subst h1
 unfold Z2w Z73
 rw [hW]
 refine Ok.ite.2 ⟨fun hx => ?_, fun hx => Ok.some.2 (exit _ (fin g hg))⟩
 refine Ok.bind.2 (Ok.bind.2 (Ok.mono (s_rMake hm hk) ?_))
 rintro ⟨c, e⟩ ⟨hc, -⟩
 simp only at hc ⊢
 obtain ⟨L, hL⟩ : ∃ L, Z11 r.Arcs m = L := ⟨_, rfl⟩
 have rr : Row r m L c := ⟨hc, hk, hm, hL⟩
 have hbd := rr.bd
 refine Ok.bind.2 (Ok.mono (Zqp hg (by omega) (fun i hi => (hcaps i hi).2)) ?_)
 rintro g' hgE
 rw [hgE]
 refine Ok.bind.2 (Ok.mono (s_rRes rr hg.all.1) ?_)
 rintro ⟨R, e⟩ ⟨hR, -⟩
 simp only at hR ⊢
 obtain ⟨-, hok⟩ := Zmz rr hg.all.1 hg.slf hR
 refine Ok.some.2 (Ok.bind.2 ?_)
 refine Z7g (fun z => ∃ k : Nat, z.2 = k ∧ k ≤ L ∧ z.1.length = L ∧ ∀ j, j < L → z.1.getD j 0 ≤ R.getD j 0) (fun z => (L - z.2).toNat) ⟨0, rfl, by omega, hR.1, fun j hj => Int.le_refl _⟩ (by unfold Z3k; simp only; omega) ?_
 rintro ⟨C, x⟩ ⟨q, h1, hqL, hCl, hCR⟩ P2 next2 exit2
 simp only at h1 hCl hCR next2 ⊢
 subst h1
 unfold Z2v
 rw [hR.1]
 refine Ok.ite.2 ⟨fun hy => ?_, fun hy => Ok.some.2 (exit2 _ ?_)⟩
 ·
  have j3 : ∀ b : Bool, Ok (Z2c C (q : Int) b) P2 := by
   intro b
   unfold Z2c
   simp only [Int.toNat_natCast]
   refine Ok.ite.2 ⟨fun _ => Ok.gd.2 ⟨by rw [hCl]; constructor <;> omega, Ok.gd.2 ⟨by constructor <;> omega, Ok.some.2 (next2 _ ⟨q + 1, by simp, by omega, by simp only [List.length_set]; exact hCl, fun j hj => ?_⟩ (by simp only; omega))⟩⟩, fun _ => Ok.gd.2 ⟨by constructor <;> omega, Ok.some.2 (next2 _ ⟨q + 1, by simp, by omega, hCl, hCR⟩ (by simp only; omega))⟩⟩
   simp only
   rw [Ze4]
   split
   · exact (hok.res j hj).1
   · exact hCR j hj
  exact Ok.ite.2 ⟨fun _ => Ok.gd.2 ⟨by constructor <;> omega, j3 _⟩, fun _ => j3 _⟩
 unfold Z3x
 rw [hS, hT]
 refine Ok.bind.2 (Ok.mono (s_WayD rr hCl (by omega) (by omega)) ?_)
 rintro ⟨wl, ok⟩ (⟨hf, -⟩ | ⟨hf, D, w, hwl, hw, hD, hDt, hDs, hwlen⟩)
 ·
  simp only at hf ⊢
  subst hf
  exact Ok.ite.2 ⟨fun _ => Ok.some.2 (exit _ (fin g hg)), fun h => absurd rfl h⟩
 ·
  simp only at hf hwl ⊢
  subst hf; subst hwl
  refine Ok.ite.2 ⟨fun h => by simp at h, fun _ => Ok.bind.2 (Ok.mono (s_send1 rr hg hR hS hT (hw.other hCR) (by omega)) fun g2 hg2 => ?_)⟩
  unfold Z3w
  exact Ok.gd.2 ⟨by constructor <;> omega, Ok.some.2 (next _ ⟨k + 1, by simp, by omega, hg2⟩ (by simp only; omega))⟩
end Go.Acq
