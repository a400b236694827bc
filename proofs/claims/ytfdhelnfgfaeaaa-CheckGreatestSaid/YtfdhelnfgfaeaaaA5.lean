/- Texts of this claim, one behind the other. -/
import Derived.Test.YtfdhelnfgfaeaaaA4
import Derived.Test.YtfdhelnfgfaeaaaA1
set_option linter.unusedVariables false
set_option linter.unusedSimpArgs false
namespace Go.Acq
open Go
set_option linter.unusedSimpArgs false
def Zd1 (g : Nat → Int) : Nat → Int
  | 0 => 0
  | k + 1 => Zd1 g k + g k
theorem Zca {g h : Nat → Int} : ∀ {k : Nat}, (∀ i, i < k → g i = h i) → Zd1 g k = Zd1 h k
 | 0, _ => rfl
 | k + 1, e => by simp only [Zd1]; rw [Zca fun i hi => e i (by omega), e k (by omega)]
theorem Zf0 (g h : Nat → Int) : ∀ k, Zd1 (fun i => g i + h i) k = Zd1 g k + Zd1 h k
 | 0 => rfl
 | k + 1 => by simp only [Zd1, Zf0 g h k]; omega
theorem Zf9 {g : Nat → Int} {k : Nat} (h : ∀ i, i < k → g i = 0) : Zd1 g k = 0 := by
 induction k with
 | zero => rfl
 | succ k ih => simp only [Zd1]; rw [ih fun i hi => h i (by omega), h k (by omega)]; rfl
theorem Zas {g : Nat → Int} {i : Nat} : ∀ {k : Nat}, i < k → (∀ j, j < k → j ≠ i → g j = 0) → Zd1 g k = g i
 | 0, h, _ => by omega
 | k + 1, h, e => by
  simp only [Zd1]
  by_cases c : i = k
  · subst c; rw [Zf9 fun j hj => e j (by omega) (by omega)]; omega
  · rw [Zas (show i < k by omega) fun j hj hne => e j (by omega) hne, e k (by omega) (fun h => c h.symm)]; omega
theorem Ziu (F : Nat → Nat → Int) (K : Nat) : ∀ L, Zd1 (fun j => Zd1 (fun i => F i j) K) L = Zd1 (fun i => Zd1 (fun j => F i j) L) K
 | 0 => (Zf9 fun _ _ => rfl).symm
 | L + 1 => by
  simp only [Zd1]
  rw [Ziu F K L, ← Zf0]
theorem Zoe {g h : Nat → Int} : ∀ {k : Nat}, (∀ i, i < k → g i ≤ h i) → Zd1 g k ≤ Zd1 h k
 | 0, _ => Int.le_refl _
 | k + 1, e => by
  have := Zoe (k := k) fun i hi => e i (by omega)
  have := e k (by omega)
  simp only [Zd1]; omega
theorem posSum {al : List Arc} {m : Nat} (he : Z3v m al) (g : Nat → Int) : Zd1 g (Z12 al m) = Zd1 (fun i => if (al.getD i default).fr = (al.getD i default).to then 0 else g (pos al i false) + g (pos al i true)) al.length := by
 let F : Nat → Nat → Int := fun i j => if (al.getD i default).fr = (al.getD i default).to then 0 else (if pos al i false = j then g j else 0) + (if pos al i true = j then g j else 0)
 have e1 : Zd1 g (Z12 al m) = Zd1 (fun j => Zd1 (fun i => F i j) al.length) (Z12 al m) := by
  refine Zca fun j hj => ?_
  obtain ⟨i, s, hi, hne, hp, _⟩ := Zla (al := al) hj
  rw [Zas (i := i) hi]
  ·
   simp only [F]
   rw [if_neg hne]
   cases s
   ·
    have h2 : pos al i true ≠ j := fun e => by have := (Z9a he hi hi hne hne (hp.trans e.symm)).2; cases this
    rw [if_pos hp, if_neg h2]; omega
   ·
    have h2 : pos al i false ≠ j := fun e => by have := (Z9a he hi hi hne hne (hp.trans e.symm)).2; cases this
    rw [if_neg h2, if_pos hp]; omega
  ·
   intro i' hi' hii
   simp only [F]
   by_cases c : (al.getD i' default).fr = (al.getD i' default).to
   · rw [if_pos c]
   · rw [if_neg c, if_neg fun e => hii (Z9a he hi' hi c hne (e.trans hp.symm)).1, if_neg fun e => hii (Z9a he hi' hi c hne (e.trans hp.symm)).1]; rfl
 rw [e1, Ziu]
 refine Zca fun i hi => ?_
 by_cases c : (al.getD i default).fr = (al.getD i default).to
 ·
  rw [if_pos c]
  exact Zf9 fun j _ => by simp only [F]; rw [if_pos c]
 ·
  rw [if_neg c]
  have e2 : Zd1 (fun j => F i j) (Z12 al m) = Zd1 (fun j => (if pos al i false = j then g j else 0) + (if pos al i true = j then g j else 0)) (Z12 al m) := Zca fun j _ => by simp only [F]; rw [if_neg c]
  rw [e2, Zf0, Zas (i := pos al i false) (Zcv hi c he) fun j _ hj => if_neg fun e => hj e.symm, Zas (i := pos al i true) (Zcv hi c he) fun j _ hj => if_neg fun e => hj e.symm, if_pos rfl, if_pos rfl]
def hd (c : Csr) (j : Nat) : Nat := (c.Head.getD j 0).toNat
def rv (c : Csr) (j : Nat) : Nat := (c.Rev.getD j 0).toNat
def fs (c : Csr) (v : Nat) : Nat := (c.First.getD v 0).toNat
def tl (c : Csr) (j : Nat) : Nat := hd c (rv c j)
def bk (c : Csr) (j : Nat) : Bool := c.Back.getD j false
def cp (c : Csr) (j : Nat) : Int := max (c.Cap.getD j 0) (c.Cap.getD (rv c j) 0)
structure Row (n : Net) (m L : Nat) (c : Csr) : Prop where
  is : CsrIs n m c
  chk : Z6m n.N n.S n.T n.Arcs = 0
  hm : n.N = m
  hL : Z12 n.Arcs m = L
section row
variable {n : Net} {m L : Nat} {c : Csr}
theorem Row.he (r : Row n m L c) : Z3v m n.Arcs := Z60 (by rw [← r.hm]; exact (Z1g r.chk).2.2.2.1)
theorem Row.bd (r : Row n m L c) : 2 ≤ m ∧ m ≤ 4096 ∧ n.Arcs.length ≤ 16384 ∧ L ≤ 67108864 := by
 have hz := Z1g r.chk
 have := r.hm
 have hb := Z61 (al := n.Arcs) (v := m) (by omega) (by omega)
 have := r.hL
 omega
theorem Row.ends (r : Row n m L c) : (∃ S : Nat, n.S = S ∧ c.S = S ∧ S < m) ∧ (∃ T : Nat, n.T = T ∧ c.T = T ∧ T < m) ∧ n.S ≠ n.T ∧ c.N = m := by
 have hz := Z1g r.chk
 simp only [Z3o, decide_eq_true_eq] at hz
 have h1 := r.hm
 have h2 := r.is.hS
 have h3 := r.is.hT
 exact ⟨⟨n.S.toNat, by omega, by omega, by omega⟩, ⟨n.T.toNat, by omega, by omega, by omega⟩, hz.2.2.1.2.2, r.is.hN⟩
theorem Row.caps (r : Row n m L c) : ∀ i, i < n.Arcs.length → 0 ≤ (n.Arcs.getD i default).cap ∧ (n.Arcs.getD i default).cap ≤ 4611686018427387904 := fun i hi => by
 have h0 := Zaa r.chk i hi
 have h1 := Zd0 r.chk (i + 1) hi
 have h2 := Zd0 r.chk i (by omega)
 simp only [totC] at h1
 omega
theorem Row.lens (r : Row n m L c) : c.First.length = m + 1 ∧ c.Head.length = L ∧ c.Rev.length = L ∧ c.Cap.length = L ∧ c.Arc.length = L ∧ c.Back.length = L := by
 have h := r.is.ok
 rw [← r.hL]
 exact ⟨h.lf, h.lh, h.lr, h.lc, h.la, h.lb⟩
theorem Row.at (r : Row n m L c) {j : Nat} (hj : j < L) : ∃ i s, i < n.Arcs.length ∧ (n.Arcs.getD i default).fr ≠ (n.Arcs.getD i default).to ∧ pos n.Arcs i s = j ∧ c.Head.getD j 0 = (hd c j : Nat) ∧ (hd c j : Int) = vtx (n.Arcs.getD i default) (!s) ∧ (tl c j : Int) = vtx (n.Arcs.getD i default) s ∧
    c.Rev.getD j 0 = (rv c j : Nat) ∧ rv c j = pos n.Arcs i (!s) ∧ c.Cap.getD j 0 = (if s then 0 else (n.Arcs.getD i default).cap) ∧ c.Arc.getD j 0 = i ∧ bk c j = s := by
  obtain ⟨i, s, hi, hne, hp, q1, q2, q3, q4, q5⟩ := r.is.ok.place (by rw [r.hL]; exact hj)
  have hv := r.he i hi (!s)
  have hv2 := r.he i hi s
  have hr : rv c j = pos n.Arcs i (!s) := by unfold rv; rw [q2, Int.toNat_natCast]
  refine ⟨i, s, hi, hne, hp, by unfold hd; omega, by unfold hd; omega, ?_, by unfold rv; omega, hr, q3, q4, q5⟩
  unfold tl hd
  rw [hr, (r.is.ok.hat i hi hne (!s)).1, Bool.not_not]; omega
theorem Row.head (r : Row n m L c) {j : Nat} (hj : j < L) : c.Head.getD j 0 = (hd c j : Nat) ∧ hd c j < m := by
 obtain ⟨i, s, hi, hne, hp, q1, q2, q3, q4, q5, q6, q7, q8⟩ := r.at hj
 have hv := r.he i hi (!s)
 exact ⟨q1, by omega⟩
theorem Row.rev (r : Row n m L c) {j : Nat} (hj : j < L) : c.Rev.getD j 0 = (rv c j : Nat) ∧ rv c j < L ∧ rv c (rv c j) = j ∧ rv c j ≠ j := by
 obtain ⟨i, s, hi, hne, hp, q1, q2, q3, q4, q5, q6, q7, q8⟩ := r.at hj
 have hq : pos n.Arcs i (!s) < L := by rw [← r.hL]; exact Zcv hi hne r.he
 refine ⟨q4, by rw [q5]; exact hq, ?_, fun e => ?_⟩
 ·
  have := (r.is.ok.hat i hi hne (!s)).2.1
  rw [q5]; unfold rv; rw [this, Int.toNat_natCast, Bool.not_not, hp]
 ·
  have := (Z9a r.he hi hi hne hne (q5.symm.trans (e.trans hp.symm))).2
  cases s <;> cases this
theorem Row.tlh (r : Row n m L c) {j : Nat} (hj : j < L) : tl c j < m ∧ tl c (rv c j) = hd c j ∧ hd c (rv c j) = tl c j ∧ tl c j ≠ hd c j := by
 obtain ⟨i, s, hi, hne, hp, q1, q2, q3, q4, q5, q6, q7, q8⟩ := r.at hj
 have hv := r.he i hi s
 refine ⟨by omega, ?_, rfl, fun e => ?_⟩
 · unfold tl; rw [(r.rev hj).2.2.1]
 ·
  apply hne
  have : vtx (n.Arcs.getD i default) s = vtx (n.Arcs.getD i default) (!s) := by omega
  cases s <;> simpa [vtx, eq_comm] using this
theorem Row.back (r : Row n m L c) {j : Nat} (hj : j < L) : bk c (rv c j) = !bk c j := by
 obtain ⟨i, s, hi, hne, hp, q1, q2, q3, q4, q5, q6, q7, q8⟩ := r.at hj
 unfold bk at q8 ⊢
 rw [q5, (r.is.ok.hat i hi hne (!s)).2.2.2.2, q8]
theorem Row.first (r : Row n m L c) : (∀ v, v ≤ m → c.First.getD v 0 = (fs c v : Nat) ∧ fs c v = Z12 n.Arcs v) ∧ fs c 0 = 0 ∧ fs c m = L ∧ ∀ v, v < m → fs c v ≤ fs c (v + 1) ∧ fs c (v + 1) ≤ L := by
 have h : ∀ v, v ≤ m → c.First.getD v 0 = (fs c v : Nat) ∧ fs c v = Z12 n.Arcs v := fun v hv => by
  have := r.is.ok.hf v hv
  unfold fs; rw [this, Int.toNat_natCast]; exact ⟨rfl, rfl⟩
 refine ⟨h, by rw [(h 0 (by omega)).2]; rfl, by rw [(h m (Nat.le_refl _)).2]; exact r.hL, fun v hv => ?_⟩
 rw [(h v (by omega)).2, (h (v + 1) (by omega)).2, ← r.hL]
 exact ⟨Z41 (by omega), Z41 (by omega)⟩
theorem Row.range (r : Row n m L c) {j u : Nat} (hj : j < L) (hu : u < m) : (fs c u ≤ j ∧ j < fs c (u + 1)) ↔ tl c j = u := by
 obtain ⟨i, s, hi, hne, hp, q1, q2, q3, q4, q5, q6, q7, q8⟩ := r.at hj
 have hv := r.he i hi s
 have f1 := (r.first.1 u (by omega)).2
 have f2 := (r.first.1 (u + 1) (by omega)).2
 constructor
 ·
  rintro ⟨h1, h2⟩
  have := (Zon (v := u) hi hne hv.1 (by omega) (by omega)).1
  omega
 ·
  intro h
  have hcl := Zeg (s := s) hi hne hv.1
  have hpos : pos n.Arcs i s = Z12 n.Arcs (vtx (n.Arcs.getD i default) s).toNat + cnt n.Arcs (vtx (n.Arcs.getD i default) s).toNat i := rfl
  have e : (vtx (n.Arcs.getD i default) s).toNat = u := by omega
  rw [e] at hcl hpos
  have hb1 : Z12 n.Arcs (u + 1) = Z12 n.Arcs u + cnt n.Arcs u n.Arcs.length := rfl
  omega
theorem Row.cap (r : Row n m L c) {j : Nat} (hj : j < L) : 0 ≤ c.Cap.getD j 0 ∧ c.Cap.getD j 0 + c.Cap.getD (rv c j) 0 = cp c j ∧ cp c (rv c j) = cp c j ∧ 0 ≤ cp c j ∧ cp c j ≤ 4611686018427387904 ∧ (bk c j = true → c.Cap.getD j 0 = 0) := by
 obtain ⟨i, s, hi, hne, hp, q1, q2, q3, q4, q5, q6, q7, q8⟩ := r.at hj
 have hc := r.caps i hi
 have h2 : c.Cap.getD (rv c j) 0 = if (!s) then 0 else (n.Arcs.getD i default).cap := by rw [q5]; exact (r.is.ok.hat i hi hne (!s)).2.2.1
 have h3 := (r.rev hj).2.2.1
 unfold cp
 rw [h3, q6, h2, q8]
 cases s
 · simp only [Bool.not_false, if_true, Bool.false_eq_true, if_false, false_implies, and_true]; omega
 · simp only [Bool.not_true, if_true, Bool.false_eq_true, if_false, true_implies, and_true]; omega
theorem Row.cpPos (r : Row n m L c) {i : Nat} (hi : i < n.Arcs.length) (hne : (n.Arcs.getD i default).fr ≠ (n.Arcs.getD i default).to) (s : Bool) : cp c (pos n.Arcs i s) = (n.Arcs.getD i default).cap ∧ rv c (pos n.Arcs i s) = pos n.Arcs i (!s) ∧ pos n.Arcs i s < L := by
 have z := r.is.ok.hat i hi hne s
 have z2 := r.is.ok.hat i hi hne (!s)
 have hc := r.caps i hi
 have hr : rv c (pos n.Arcs i s) = pos n.Arcs i (!s) := by unfold rv; rw [z.2.1, Int.toNat_natCast]
 refine ⟨?_, hr, by rw [← r.hL]; exact Zcv hi hne r.he⟩
 unfold cp
 rw [hr, z.2.2.1, z2.2.2.1]
 cases s <;> simp only [Bool.not_true, Bool.not_false, if_true, Bool.false_eq_true, if_false] <;> omega
theorem s_arcs {S X : Type} {y : S → Int → Option (S ⊕ X)} {s0 : S} {u : Nat} (r : Row n m L c) (hu : u < m) (I : Nat → S → Prop) (J : X → Prop) (h0 : I (fs c u) s0)
    (hstep : ∀ j s, fs c u ≤ j → j < fs c (u + 1) → I j s → Ok (y s (j : Nat)) (fun t => match t with | .inl s' => I (j + 1) s' | .inr x => J x)) :
    Ok (Z9n y c (u : Nat) (.inl s0)) (fun t => match t with | .inl s => I (fs c (u + 1)) s | .inr x => J x) := by
  have lf := r.lens.1
  have b := r.bd
  have f1 := (r.first.1 u (by omega)).1
  have f2 := (r.first.1 (u + 1) (by omega)).1
  have f3 := r.first.2.2.2 u hu
  have e1 : ((u : Int) + 1).toNat = u + 1 := by omega
  unfold Z9n
  simp only [Int.toNat_natCast, f1]
  refine Ok.gd.2 ⟨(by omega), Ok.bind.2 (Z7s (fun s => ∃ (k : Nat) (st : S), s = ((k : Int), Sum.inl st) ∧ fs c u ≤ k ∧ k ≤ fs c (u + 1) ∧ I k st) (fun s => (fs c (u + 1) - s.1).toNat) ⟨fs c u, s0, rfl, Nat.le_refl _, f3.1, h0⟩ (by unfold Z4d; simp only; omega) ?_)⟩
  rintro s ⟨k, st, rfl, hk0, hk, hI⟩ P next exit
  unfold Zbh
  simp only [Int.toNat_natCast, e1, f2]
  refine Ok.gd.2 ⟨(by omega), Ok.gd.2 ⟨(by omega), Ok.ite.2 ⟨fun hx => ?_, fun hx => Ok.some.2 (exit _ (Ok.some.2 ?_))⟩⟩⟩
  · refine Ok.bind.2 ?_
    show Ok (y st _) _
    refine Ok.mono (hstep k st hk0 (by omega) hI) ?_
    rintro (s' | x) hr
    · exact Ok.ite.2 ⟨fun h => by simp at h, fun _ => Ok.gd.2 ⟨(by omega), Ok.some.2 (next _ ⟨k + 1, s', by simp, by omega, by omega, hr⟩ (by simp only; omega))⟩⟩
    · exact Ok.ite.2 ⟨fun _ => Ok.some.2 (exit _ (Ok.some.2 hr)), fun h => by simp at h⟩
  · obtain rfl : k = fs c (u + 1) := by omega
    exact hI
def flN (al : List Arc) (R : List Int) : List Int := (List.range al.length).map fun i => if (al.getD i default).fr = (al.getD i default).to then 0 else R.getD (pos al i true) 0
theorem Zbn (al : List Arc) (R : List Int) : (flN al R).length = al.length := by simp [flN]
theorem Z7i {al : List Arc} {R : List Int} {i : Nat} (h : i < al.length) : (flN al R).getD i 0 = if (al.getD i default).fr = (al.getD i default).to then 0 else R.getD (pos al i true) 0 := by
 unfold flN
 rw [List.getD_eq_getElem?_getD, List.getElem?_map, List.getElem?_range h]; rfl
structure ResOK (n : Net) (m L : Nat) (c : Csr) (R X : List Int) : Prop where
  lr : R.length = L
  lx : X.length = m
  res : ∀ j, j < L → 0 ≤ R.getD j 0 ∧ R.getD j 0 + R.getD (rv c j) 0 = cp c j
  ex : ∀ v : Nat, v < m → X.getD v 0 = ex n.Arcs (flN n.Arcs R) v n.Arcs.length
theorem Zm8 {R : List Int} (r : Row n m L c) (h : ∀ j, j < L → 0 ≤ R.getD j 0 ∧ R.getD j 0 + R.getD (rv c j) 0 = cp c j) : FwithinP n (flN n.Arcs R) := by
 refine ⟨r.chk, Zbn _ _, fun i hi => ?_⟩
 rw [Z7i hi]
 have hc := r.caps i hi
 by_cases e : (n.Arcs.getD i default).fr = (n.Arcs.getD i default).to
 · rw [if_pos e]; omega
 ·
  rw [if_neg e]
  obtain ⟨a1, a2, a3⟩ := r.cpPos hi e true
  have h1 := h _ a3
  have h2 := h _ (r.rev a3).2.1
  omega
theorem ResOK.within {R X : List Int} (h : ResOK n m L c R X) (r : Row n m L c) : FwithinP n (flN n.Arcs R) := Zm8 r h.res
theorem Zo9 {f : List Int} (hw : FwithinP n f) (v : Int) : -4611686018427387904 ≤ ex n.Arcs f v n.Arcs.length ∧ ex n.Arcs f v n.Arcs.length ≤ 4611686018427387904 := by
 have := Zmg (al := n.Arcs) v (fun i hi => (hw.2.2 i hi).1) n.Arcs.length (Nat.le_refl _)
 have := hw.tot n.Arcs.length (Nat.le_refl _)
 omega
theorem ResOK.rle {R X : List Int} (h : ResOK n m L c R X) (r : Row n m L c) {j : Nat} (hj : j < L) : 0 ≤ R.getD j 0 ∧ R.getD j 0 ≤ cp c j ∧ R.getD j 0 ≤ 4611686018427387904 := by
 have h1 := h.res j hj
 have h2 := h.res _ (r.rev hj).2.1
 have h3 := r.cap hj
 omega
def mvR (c : Csr) (R : List Int) (j : Nat) (d : Int) : List Int := (R.set j (R.getD j 0 - d)).set (rv c j) (R.getD (rv c j) 0 + d)
def mvX (c : Csr) (X : List Int) (j : Nat) (d : Int) : List Int := (X.set (tl c j) (X.getD (tl c j) 0 - d)).set (hd c j) (X.getD (hd c j) 0 + d)
theorem Z9m {R : List Int} {j k : Nat} {d : Int} (r : Row n m L c) (hl : R.length = L) (hj : j < L) : (mvR c R j d).getD k 0 = if k = rv c j then R.getD (rv c j) 0 + d else if k = j then R.getD j 0 - d else R.getD k 0 := by
 have := r.rev hj
 unfold mvR
 rw [Zdd, Zdd, List.length_set]
 by_cases c1 : k = rv c j
 · rw [if_pos ⟨c1.symm, by omega⟩, if_pos c1]
 ·
  rw [if_neg fun h => c1 h.1.symm, if_neg c1]
  by_cases c2 : k = j
  · rw [if_pos ⟨c2.symm, by omega⟩, if_pos c2]
  · rw [if_neg fun h => c2 h.1.symm, if_neg c2]
theorem Zi1 {X : List Int} {j k : Nat} {d : Int} (r : Row n m L c) (hl : X.length = m) (hj : j < L) : (mvX c X j d).getD k 0 = X.getD k 0 - (if tl c j = k then d else 0) + (if hd c j = k then d else 0) := by
 have h1 := r.tlh hj
 have h2 := r.head hj
 unfold mvX
 rw [Zdd, Zdd, List.length_set]
 by_cases c1 : hd c j = k
 ·
  subst c1
  rw [if_pos ⟨rfl, by omega⟩, if_neg h1.2.2.2, if_pos rfl]; omega
 ·
  rw [if_neg fun h => c1 h.1]
  by_cases c2 : tl c j = k
  ·
   subst c2
   rw [if_pos ⟨rfl, by omega⟩, if_pos rfl, if_neg c1]; omega
  · rw [if_neg fun h => c2 h.1, if_neg c2, if_neg c1]; omega
theorem ex_bump {al : List Arc} {f g : List Int} {i : Nat} {δ : Int} {K : Nat} (v : Int) (hi : i < K) (h : ∀ k, k < K → g.getD k 0 = f.getD k 0 + if k = i then δ else 0) :
    ex al g v K = ex al f v K + ((if (al.getD i default).to = v then δ else 0) - (if (al.getD i default).fr = v then δ else 0)) := by
  have key : ∀ k, k ≤ K → ex al g v k = ex al f v k + if i < k then ((if (al.getD i default).to = v then δ else 0) - (if (al.getD i default).fr = v then δ else 0)) else 0 := by
    intro k
    induction k with
    | zero => intro _; rw [if_neg (by omega)]; rfl
    | succ k ih =>
      intro hk
      simp only [ex]
      rw [ih (by omega), h k (by omega)]
      by_cases e : k = i
      · subst e
        rw [if_neg (show ¬ k < k by omega), if_pos rfl, if_pos (show k < k + 1 by omega)]
        split <;> split <;> omega
      · rw [if_neg e]
        by_cases e2 : i < k
        · rw [if_pos e2, if_pos (show i < k + 1 by omega)]; simp only [Int.add_zero]; omega
        · rw [if_neg e2, if_neg (show ¬ i < k + 1 by omega)]; simp only [Int.add_zero]
  rw [key K (Nat.le_refl _), if_pos hi]
theorem ResOK.move {R X : List Int} {j : Nat} {d : Int} (h : ResOK n m L c R X) (r : Row n m L c) (hj : j < L) (d0 : 0 ≤ d) (d1 : d ≤ R.getD j 0) : ResOK n m L c (mvR c R j d) (mvX c X j d) := by
 have hr := r.rev hj
 have hlr := h.lr
 have hlx := h.lx
 refine ⟨by simp [mvR, hlr], by simp [mvX, hlx], fun k hk => ?_, fun v hv => ?_⟩
 ·
  have hk2 := r.rev hk
  have a := h.res k hk
  have a2 := h.res _ hr.2.1
  have a3 := h.res j hj
  have a4 := r.cap hj
  rw [Z9m r hlr hj, Z9m r hlr hj]
  by_cases c1 : k = rv c j
  ·
   subst c1
   rw [if_pos rfl, hr.2.2.1, if_neg fun e => hr.2.2.2 e.symm, if_pos rfl, a4.2.2.1]; omega
  ·
   by_cases c2 : k = j
   ·
    subst c2
    rw [if_neg c1, if_pos rfl, if_pos rfl]; omega
   ·
    have c3 : rv c k ≠ rv c j := fun e => c2 (by rw [← hk2.2.2.1, e, hr.2.2.1])
    have c4 : rv c k ≠ j := fun e => c1 (by rw [← e, hk2.2.2.1])
    rw [if_neg c1, if_neg c2, if_neg c3, if_neg c4]; exact a
 ·
  obtain ⟨i, s, hi, hne, hp, q1, q2, q3, q4, q5, q6, q7, q8⟩ := r.at hj
  rw [Zi1 r hlx hj, h.ex v hv, ex_bump (f := flN n.Arcs R) (g := flN n.Arcs (mvR c R j d)) (i := i) (δ := if s then -d else d) (v : Int) hi fun k hk => ?_]
  ·
   have t1 : (tl c j = v) ↔ vtx (n.Arcs.getD i default) s = (v : Int) := by rw [← q3]; omega
   have t2 : (hd c j = v) ↔ vtx (n.Arcs.getD i default) (!s) = (v : Int) := by rw [← q2]; omega
   simp only [t1, t2]
   cases s <;> simp only [vtx, Bool.not_false, Bool.not_true, if_true, if_false, Bool.false_eq_true] <;> split <;> split <;> omega
  ·
   rw [Z7i hk, Z7i hk]
   by_cases e : (n.Arcs.getD k default).fr = (n.Arcs.getD k default).to
   ·
    have : k ≠ i := fun e2 => by subst e2; exact hne e
    rw [if_pos e, if_pos e, if_neg this]; rfl
   ·
    rw [if_neg e, if_neg e, Z9m r hlr hj]
    by_cases e2 : k = i
    ·
     subst e2
     cases s
     ·
      have b1 : pos n.Arcs k true = rv c j := by rw [q5]; rfl
      rw [if_pos b1, if_pos rfl, b1]; rfl
     ·
      have b1 : pos n.Arcs k true ≠ rv c j := fun e3 => by rw [q5] at e3; have := (Z9a r.he hk hk e e e3).2; cases this
      rw [if_neg b1, if_pos hp, if_pos rfl, hp]; rfl
    ·
     have b1 : pos n.Arcs k true ≠ rv c j := fun e3 => by rw [q5] at e3; exact e2 (Z9a r.he hk hi e hne e3).1
     have b2 : pos n.Arcs k true ≠ j := fun e3 => by rw [← hp] at e3; exact e2 (Z9a r.he hk hi e hne e3).1
     rw [if_neg b1, if_neg b2, if_neg e2, Int.add_zero]
end row
end Go.Acq
namespace Go.Acq
open Go
set_option linter.unusedSimpArgs false
set_option linter.unusedVariables false
section row
variable {n : Net} {m L : Nat} {c : Csr}
def Zfp (c : Csr) (d : Int) : List Nat → List Int → List Int
  | [], R => R
  | j :: w, R => Zfp c d w (mvR c R j d)
def augX (c : Csr) (d : Int) : List Nat → List Int → List Int
  | [], X => X
  | j :: w, X => augX c d w (mvX c X j d)
inductive WayD (c : Csr) (L : Nat) (R : List Int) (D : Nat → Nat) (d : Int) : Nat → List Nat → Nat → Prop
  | nil (v : Nat) : WayD c L R D d v [] v
  | cons {j : Nat} {w : List Nat} {t : Nat} (hj : j < L) (hd0 : d ≤ R.getD j 0) (hl : D (tl c j) = D (hd c j) + 1) (hw : WayD c L R D d (hd c j) w t) : WayD c L R D d (tl c j) (j :: w) t
theorem WayD.mem {R : List Int} {D : Nat → Nat} {d : Int} {u t : Nat} {w : List Nat} (h : WayD c L R D d u w t) : ∀ j, j ∈ w → j < L ∧ d ≤ R.getD j 0 ∧ D (tl c j) = D (hd c j) + 1 ∧ D (tl c j) ≤ D u := by
 induction h with
 | nil => intro j hj; cases hj
 | cons hj h0 hl hw ih =>
  intro k hk
  rcases List.mem_cons.1 hk with rfl | hk
  · exact ⟨hj, h0, hl, Nat.le_refl _⟩
  ·
   obtain ⟨a, b, e, f⟩ := ih k hk
   exact ⟨a, b, e, by omega⟩
theorem WayD.len {R : List Int} {D : Nat → Nat} {d : Int} {u t : Nat} {w : List Nat} (h : WayD c L R D d u w t) : D u = D t + w.length := by
 induction h with
 | nil => rfl
 | cons hj h0 hl hw ih => rw [List.length_cons, hl, ih]; omega
theorem Zkr {D : Nat → Nat} {j : Nat} (r : Row n m L c) (hj : j < L) (h : D (tl c j) = D (hd c j) + 1) : D (hd c (rv c j)) = D (tl c (rv c j)) + 1 := by
 rw [(r.tlh hj).2.2.1, (r.tlh hj).2.1]; exact h
theorem WayD.mv {R : List Int} {D : Nat → Nat} {d : Int} {u t j0 : Nat} {w : List Nat} (r : Row n m L c) (hr : R.length = L) (hj0 : j0 < L) (hl0 : D (tl c j0) = D (hd c j0) + 1) (h : WayD c L R D d u w t) (hu : D u < D (tl c j0)) : WayD c L (mvR c R j0 d) D d u w t := by
 induction h with
 | nil => exact .nil _
 | @cons j w t hj h0 hl hw ih =>
  refine .cons hj ?_ hl (ih (by omega))
  have e := Zkr r hj0 hl0
  rw [Z9m r hr hj0, if_neg (fun h => by subst h; omega), if_neg (fun h => by subst h; omega)]
  exact h0
theorem Zko {R : List Int} {j : Nat} {d : Int} : (mvR c R j d).length = R.length := by unfold mvR; simp
theorem mvX_len {X : List Int} {j : Nat} {d : Int} : (mvX c X j d).length = X.length := by unfold mvX; simp
theorem WayD.ok {D : Nat → Nat} {d : Int} {u t : Nat} {w : List Nat} (r : Row n m L c) (d0 : 0 ≤ d) {R X : List Int} (h : WayD c L R D d u w t) (hR : ResOK n m L c R X) : ResOK n m L c (Zfp c d w R) (augX c d w X) := by
 induction w generalizing R X u with
 | nil => exact hR
 | cons j w ih =>
  cases h with
  | cons hj h0 hl hw =>
   exact ih (hw.mv r hR.lr hj hl (by omega)) (hR.move r hj d0 h0)
theorem WayD.getX {D : Nat → Nat} {d : Int} {u t : Nat} {w : List Nat} (r : Row n m L c) {R X : List Int} (hr : R.length = L) (hx : X.length = m) (h : WayD c L R D d u w t) (v : Nat) : (augX c d w X).getD v 0 = X.getD v 0 - (if u = v then d else 0) + (if t = v then d else 0) := by
 induction w generalizing R X u with
 | nil => cases h; simp only [augX]; omega
 | cons j w ih =>
  cases h with
  | cons hj h0 hl hw =>
   simp only [augX]
   rw [ih (by rw [Zko]; exact hr) (by rw [mvX_len]; exact hx) (hw.mv r hr hj hl (by omega)), Zi1 r hx hj]
   omega
theorem WayD.getR {D : Nat → Nat} {d : Int} {u t : Nat} {w : List Nat} (r : Row n m L c) {R : List Int} (hr : R.length = L) (h : WayD c L R D d u w t) {k : Nat} (hk : k < L) : (Zfp c d w R).getD k 0 = R.getD k 0 - (if k ∈ w then d else 0) + (if rv c k ∈ w then d else 0) := by
 induction w generalizing R u with
 | nil => cases h; simp [Zfp]
 | cons j w ih =>
  cases h with
  | cons hj h0 hl hw =>
   have hjw : j ∉ w := fun h => by have := (hw.mem j h).2.2.2; omega
   have hjr : rv c j ∉ w := fun h => by have := (hw.mem _ h).2.2.1; have := Zkr r hj hl; omega
   have hrr := r.rev hj
   have hrk := r.rev hk
   simp only [Zfp]
   rw [ih (by rw [Zko]; exact hr) (hw.mv r hr hj hl (by omega)), Z9m r hr hj]
   simp only [List.mem_cons]
   by_cases e1 : k = rv c j
   ·
    subst e1
    rw [if_pos rfl, hrr.2.2.1]
    simp [hjr, hjw, hrr.2.2.2]
   ·
    rw [if_neg e1]
    have e2 : rv c k ≠ j := fun h => e1 (by rw [← h, hrk.2.2.1])
    by_cases e3 : k = j
    ·
     subst e3
     rw [if_pos rfl]
     simp [hjr, hjw, e2]
    ·
     rw [if_neg e3]
     simp only [e3, e2, false_or]
def LabD (c : Csr) (L : Nat) (R : List Int) (D : Nat → Nat) : Prop := ∀ j, j < L → 0 < R.getD j 0 → D (tl c j) ≤ D (hd c j) + 1
def Zkd (p : Nat → Bool) : Nat → Nat
  | 0 => 0
  | k + 1 => Zkd p k + if p k = true then 1 else 0
theorem Zoy (p : Nat → Bool) : ∀ k, Zkd p k ≤ k
 | 0 => Nat.le_refl _
 | k + 1 => by have := Zoy p k; simp only [Zkd]; split <;> omega
theorem Zjd {p q : Nat → Bool} : ∀ {k : Nat}, (∀ j, j < k → p j = true → q j = true) → Zkd p k ≤ Zkd q k
 | 0, _ => Nat.le_refl _
 | k + 1, h => by
  have ih := Zjd (k := k) fun j hj => h j (by omega)
  have h1 := h k (by omega)
  simp only [Zkd]
  by_cases e : p k = true
  · rw [if_pos e, if_pos (h1 e)]; omega
  · rw [if_neg e]; split <;> omega
theorem Zox {p q : Nat → Bool} : ∀ {k : Nat}, (∀ j, j < k → p j = true → q j = true) → (∃ j, j < k ∧ q j = true ∧ p j = false) → Zkd p k < Zkd q k
 | 0, _, ⟨j, hj, _⟩ => by omega
 | k + 1, h, ⟨j, hj, h1, h2⟩ => by
  have h3 := h k (by omega)
  simp only [Zkd]
  by_cases e : j = k
  ·
   subst e
   have ih := Zjd (k := j) fun i hi => h i (by omega)
   rw [if_pos h1, if_neg (by rw [h2]; simp)]; omega
  ·
   have ih := Zox (k := k) (fun i hi => h i (by omega)) ⟨j, by omega, h1, h2⟩
   by_cases e : p k = true
   · rw [if_pos e, if_pos (h3 e)]; omega
   · rw [if_neg e]; split <;> omega
def Zbd (c : Csr) (R : List Int) (D : Nat → Nat) (j : Nat) : Bool := decide (0 < R.getD j 0 ∧ D (tl c j) = D (hd c j) + 1)
theorem LabD.way {R : List Int} {D E : Nat → Nat} {d : Int} {u t : Nat} {w : List Nat} (hE : LabD c L R E) (h : WayD c L R D d u w t) (d0 : 0 < d) : E u ≤ E t + w.length ∧ (E u = E t + w.length → ∀ j, j ∈ w → E (tl c j) = E (hd c j) + 1) := by
 induction h with
 | nil => exact ⟨Nat.le_refl _, fun _ j hj => by cases hj⟩
 | @cons j w t hj h0 hl hw ih =>
  obtain ⟨i1, i2⟩ := ih
  have h1 := hE j hj (by omega)
  rw [List.length_cons]
  refine ⟨by omega, fun e k hk => ?_⟩
  rcases List.mem_cons.1 hk with rfl | hk
  · omega
  · exact i2 (by omega) k hk
theorem Zle {R X : List Int} {D E : Nat → Nat} {d : Int} {u t : Nat} {w : List Nat} (r : Row n m L c) (hr : R.length = L) (hE : LabD c L R E) (h : WayD c L R D d u w t) (d0 : 0 < d) (hmin : ∃ j, j ∈ w ∧ R.getD j 0 = d) (hlen : E u = E t + w.length) :
    LabD c L (Zfp c d w R) E ∧ Zkd (Zbd c (Zfp c d w R) E) L < Zkd (Zbd c R E) L := by
  have ht := (hE.way h d0).2 hlen
  have hup : ∀ k, k < L → rv c k ∈ w → E (hd c k) = E (tl c k) + 1 := fun k hk hm => by
    have h1 := Zkr r (r.rev hk).2.1 (ht _ hm)
    rw [(r.rev hk).2.2.1] at h1
    exact h1
  refine ⟨fun k hk ho => ?_, Zox (fun k hk hp => ?_) ?_⟩
  · rw [h.getR r hr hk] at ho
    by_cases e : rv c k ∈ w
    · have := hup k hk e; omega
    · rw [if_neg e] at ho
      refine hE k hk ?_
      split at ho <;> omega
  · simp only [Zbd, decide_eq_true_eq] at hp ⊢
    obtain ⟨h1, h2⟩ := hp
    refine ⟨?_, h2⟩
    rw [h.getR r hr hk] at h1
    by_cases e : rv c k ∈ w
    · have := hup k hk e; omega
    · rw [if_neg e] at h1
      split at h1 <;> omega
  · obtain ⟨j, hj, hjd⟩ := hmin
    obtain ⟨hjL, -, -, -⟩ := h.mem j hj
    have h1 := ht j hj
    refine ⟨j, hjL, ?_, ?_⟩
    · simp only [Zbd, decide_eq_true_eq]; exact ⟨by omega, h1⟩
    · simp only [Zbd, decide_eq_false_iff_not]
      rintro ⟨h2, -⟩
      rw [h.getR r hr hjL, if_pos hj, hjd] at h2
      by_cases e : rv c j ∈ w
      · have := hup j hjL e; omega
      · rw [if_neg e] at h2; omega
def StepsD (m L : Nat) (c : Csr) (R : List Int) (s t μ : Nat) : Prop := ∃ E : Nat → Nat, LabD c L R E ∧ E t = 0 ∧ E s ≤ m ∧ (m - E s) * (L + 1) + Zkd (Zbd c R E) L ≤ μ
theorem Zkb (R : List Int) (s t : Nat) : StepsD m L c R s t (m * (L + 1)) := by
 have : ∀ k, Zkd (Zbd c R fun _ => 0) k = 0 := fun k => by
  induction k with
  | zero => rfl
  | succ k ih => simp only [Zkd, ih, Zbd]; simp
 exact ⟨fun _ => 0, fun j _ _ => Nat.zero_le _, rfl, Nat.zero_le _, by rw [this]; exact Nat.le_refl _⟩
theorem StepsD.step {R : List Int} {D : Nat → Nat} {d : Int} {s t μ : Nat} {w : List Nat} (r : Row n m L c) (hr : R.length = L) (h : WayD c L R D d s w t) (hD : LabD c L R D) (hDt : D t = 0) (hDs : D s < m) (d0 : 0 < d) (hmin : ∃ j, j ∈ w ∧ R.getD j 0 = d) (hS : StepsD m L c R s t μ) :
    ∃ ν, ν + 1 ≤ μ ∧ StepsD m L c (Zfp c d w R) s t ν := by
  obtain ⟨E, hE, hEt, hEs, hμ⟩ := hS
  have hlen := h.len
  have h1 := (hE.way h d0).1
  have ht := Zoy (Zbd c R D) L
  by_cases e : E s = D s
  · obtain ⟨g1, g2⟩ := Zle (X := []) r hr hE h d0 hmin (by omega)
    exact ⟨(m - E s) * (L + 1) + Zkd (Zbd c (Zfp c d w R) E) L, by omega, E, g1, hEt, hEs, Nat.le_refl _⟩
  · obtain ⟨g1, g2⟩ := Zle (X := []) r hr hD h d0 hmin (by omega)
    refine ⟨(m - D s) * (L + 1) + Zkd (Zbd c (Zfp c d w R) D) L, ?_, D, g1, hDt, by omega, Nat.le_refl _⟩
    have h2 : (m - D s + 1) * (L + 1) ≤ (m - E s) * (L + 1) := Nat.mul_le_mul_right _ (by omega)
    rw [Nat.add_mul] at h2
    omega
end row
end Go.Acq
namespace Go.Acq
open Go
set_option linter.unusedSimpArgs false
set_option linter.unusedVariables false
section row
variable {n : Net} {m L : Nat} {c : Csr}
structure GoodF (n : Net) (f : List Int) : Prop where
  all : Zo6 n f (fun x => x = 0) [n.S, n.T]
  slf : ∀ i, i < n.Arcs.length → (n.Arcs.getD i default).fr = (n.Arcs.getD i default).to → f.getD i 0 = 0
def exR (n : Net) (m : Nat) (f : List Int) : List Int := (List.range m).map fun v => ex n.Arcs f (v : Nat) n.Arcs.length
theorem Zlf {f : List Int} {v : Nat} (h : v < m) : (exR n m f).getD v 0 = ex n.Arcs f v n.Arcs.length := by
 unfold exR
 rw [List.getD_eq_getElem?_getD, List.getElem?_map, List.getElem?_range h]; rfl
theorem resRow {f R : List Int} (r : Row n m L c) (hw : FwithinP n f) (hs : ∀ i, i < n.Arcs.length → (n.Arcs.getD i default).fr = (n.Arcs.getD i default).to → f.getD i 0 = 0) (hR : ResAt c.Arc c.Cap c.Back f L L R) : f = flN n.Arcs R ∧ ResOK n m L c R (exR n m f) := by
 have e : Z12 n.Arcs m = L := r.hL
 have key : ∀ {i : Nat} {s : Bool}, i < n.Arcs.length → (n.Arcs.getD i default).fr ≠ (n.Arcs.getD i default).to → R.getD (pos n.Arcs i s) 0 = if s then f.getD i 0 else (n.Arcs.getD i default).cap - f.getD i 0 := fun hi hne => Zgk r.is r.he (by rw [e]; exact hR) hi hne
 have hf : f = flN n.Arcs R := Zce 0 (by rw [Zbn]; exact hw.2.1) fun i hi => by
  rw [hw.2.1] at hi
  rw [Z7i hi]
  by_cases hne : (n.Arcs.getD i default).fr = (n.Arcs.getD i default).to
  · rw [if_pos hne]; exact hs i hi hne
  · rw [if_neg hne, key hi hne, if_pos rfl]
 refine ⟨hf, ⟨hR.1, by unfold exR; simp, fun j hj => ?_, fun v hv => ?_⟩⟩
 ·
  obtain ⟨i, s, hi, hne, hp, -⟩ := r.at hj
  obtain ⟨a1, a2, a3⟩ := r.cpPos hi hne s
  rw [← hp, a2, a1, key hi hne, key hi hne]
  have := hw.2.2 i hi
  cases s <;> simp only [Bool.not_true, Bool.not_false, if_true, if_false, Bool.false_eq_true] <;> omega
 · rw [Zlf hv, ← hf]
theorem ResAt.uniq {aa cs fl R R' : List Int} {bs : List Bool} (h : ResAt aa cs bs fl L L R) (h' : ResAt aa cs bs fl L L R') : R = R' :=
 Zce 0 (by rw [h.1, h'.1]) fun j hj => by rw [h.1] at hj; rw [(h.2 j hj).2, (h'.2 j hj).2]
theorem Zol {R X : List Int} (r : Row n m L c) (h : ResOK n m L c R X) : ResAt c.Arc c.Cap c.Back (flN n.Arcs R) L L R := by
 refine ⟨h.lr, fun j hj => ?_⟩
 obtain ⟨i, s, hi, hne, hp, q1, q2, q3, q4, q5, q6, q7, q8⟩ := r.at hj
 have hres := h.res j hj
 obtain ⟨a1, a2, a3⟩ := r.cpPos hi hne s
 rw [hp] at a1 a2
 rw [a1, a2] at hres
 have q8' : c.Back.getD j false = s := q8
 have hrr := h.res _ (r.rev hj).2.1
 unfold Zgf resV
 rw [q7, q8', q6, Zbn, Int.toNat_natCast, Z7i hi, if_neg hne]
 cases s
 ·
  simp only [Bool.not_false, Bool.false_eq_true, if_false, false_or] at hres a2 ⊢
  rw [a2] at hrr
  refine ⟨⟨by omega, by omega, by omega⟩, by omega⟩
 ·
  simp only [if_true, true_or, and_true]
  rw [hp]
  exact ⟨by omega, rfl⟩
theorem flN_mv {R : List Int} {j : Nat} {d : Int} (r : Row n m L c) (hr : R.length = L) (hj : j < L) : flN n.Arcs (mvR c R j d) = (flN n.Arcs R).set (c.Arc.getD j 0).toNat ((flN n.Arcs R).getD (c.Arc.getD j 0).toNat 0 + (if bk c j = true then -d else d)) := by
 obtain ⟨i, s, hi, hne, hp, q1, q2, q3, q4, q5, q6, q7, q8⟩ := r.at hj
 have hrj := r.rev hj
 have harc : ∀ i' s', i' < n.Arcs.length → (n.Arcs.getD i' default).fr ≠ (n.Arcs.getD i' default).to → c.Arc.getD (pos n.Arcs i' s') 0 = i' ∧ bk c (pos n.Arcs i' s') = s' := fun i' s' h1 h2 => by
  have := r.is.ok.hat i' h1 h2 s'
  exact ⟨this.2.2.2.1, this.2.2.2.2⟩
 have hra : c.Arc.getD (rv c j) 0 = i := by rw [q5]; exact (harc i _ hi hne).1
 rw [q7, Int.toNat_natCast, q8]
 refine Zce 0 (by rw [List.length_set, Zbn, Zbn]) fun k hk => ?_
 rw [Zbn] at hk
 rw [Z7i hk, Zdd, Zbn]
 by_cases e : i = k
 ·
  subst e
  rw [if_neg hne, if_pos ⟨rfl, hi⟩, Z7i hi, if_neg hne, Z9m r hr hj]
  cases s
  · rw [q5, Bool.not_false, if_pos rfl]; simp
  ·
   rw [if_neg (fun h => by
    have h1 := (harc i true hi hne).2
    rw [h, q5] at h1
    rw [(harc i _ hi hne).2] at h1; cases h1), if_pos hp, hp]
   simp only [if_true]; omega
 ·
  rw [if_neg (show ¬(i = k ∧ i < n.Arcs.length) from fun h => e h.1), Z7i hk]
  by_cases hs : (n.Arcs.getD k default).fr = (n.Arcs.getD k default).to
  · rw [if_pos hs, if_pos hs]
  ·
   rw [if_neg hs, if_neg hs, Z9m r hr hj]
   have h1 := (harc k true hk hs).1
   rw [if_neg (fun h => by rw [h, hra] at h1; omega), if_neg (fun h => by rw [h, q7] at h1; omega)]
theorem WayD.take {R : List Int} {D : Nat → Nat} {d : Int} {u t : Nat} {w : List Nat} (h : WayD c L R D d u w t) (q : Nat) : ∃ v, WayD c L R D d u (w.take q) v := by
 induction h generalizing q with
 | nil => exact ⟨_, by rw [List.take_nil]; exact .nil _⟩
 | @cons j w t hj h0 hl hw ih =>
  cases q with
  | zero => exact ⟨_, by rw [List.take_zero]; exact .nil _⟩
  | succ q =>
   obtain ⟨v, hv⟩ := ih q
   exact ⟨v, by rw [List.take_succ_cons]; exact .cons hj h0 hl hv⟩
theorem WayD.wide {R : List Int} {D : Nat → Nat} {d e : Int} {u t : Nat} {w : List Nat} (h : WayD c L R D d u w t) (he : ∀ j, j ∈ w → e ≤ R.getD j 0) : WayD c L R D e u w t := by
 induction h with
 | nil => exact .nil _
 | cons hj h0 hl hw ih => exact .cons hj (he _ (.head _)) hl (ih fun k hk => he k (.tail _ hk))
theorem Zje {d : Int} {j : Nat} : ∀ (w : List Nat) (R : List Int), Zfp c d (w ++ [j]) R = mvR c (Zfp c d w R) j d
 | [], R => rfl
 | k :: w, R => by simp only [List.cons_append, Zfp]; exact Zje w _
theorem Zll {d : Int} : ∀ (w : List Nat) (R : List Int), (Zfp c d w R).length = R.length
 | [], R => rfl
 | k :: w, R => by simp only [Zfp]; rw [Zll w, Zko]
theorem GoodF.aug {f R : List Int} {D : Nat → Nat} {d : Int} {s t : Nat} {w : List Nat} (r : Row n m L c) (hG : GoodF n f) (hR : ResAt c.Arc c.Cap c.Back f L L R) (d0 : 0 ≤ d) (h : WayD c L R D d s w t) (hs : n.S = s) (ht : n.T = t) :
    GoodF n (flN n.Arcs (Zfp c d w R)) ∧ ResAt c.Arc c.Cap c.Back (flN n.Arcs (Zfp c d w R)) L L (Zfp c d w R) := by
  obtain ⟨hf, hok⟩ := resRow r hG.all.1 hG.slf hR
  have hok2 := h.ok r d0 hok
  refine ⟨⟨⟨hok2.within r, fun v hv => ?_⟩, fun i hi e => by rw [Z7i hi, if_pos e]⟩, Zol r hok2⟩
  have hm := r.hm
  have hv : v < m := by omega
  rw [← hok2.ex v hv, h.getX r hok.lr hok.lx, Zlf hv]
  by_cases e1 : s = v
  · right; rw [hs, e1]; exact .head _
  · by_cases e2 : t = v
    · right; rw [ht, e2]; exact .tail _ (.head _)
    · rw [if_neg e1, if_neg e2]
      rcases hG.all.2 v (by omega) with h1 | h1
      · left; omega
      · exact .inr h1
theorem GoodF.zero (r : Row n m L c) : GoodF n (List.replicate n.Arcs.length 0) := by
 have hg : ∀ i, (List.replicate n.Arcs.length (0 : Int)).getD i 0 = 0 := fun i => Z32 _ _ _
 refine ⟨⟨⟨r.chk, List.length_replicate, fun i hi => by rw [hg]; exact ⟨Int.le_refl _, (r.caps i hi).1⟩⟩, fun v _ => .inl ?_⟩, fun i _ _ => hg i⟩
 have : ∀ k, ex n.Arcs (List.replicate n.Arcs.length 0) v k = 0 := fun k => by
  induction k with
  | zero => rfl
  | succ k ih => simp only [ex, ih, hg]; simp
 exact this _
end row
end Go.Acq
namespace Go.Acq
open Go
set_option linter.unusedSimpArgs false
set_option linter.unusedVariables false
theorem Zoj {v : Int} {n : Nat} (hn : n ≤ 16384) : Ok (Z4f [v] n) (fun r => r = List.replicate n v) := by
 unfold Z4f Zcd
 rw [show (([v].length : Nat) : Int) = 1 from rfl, s_Mul1 (m := Z9u) (y := (n : Int)) (by omega) (by omega) (by funext x0 y1; rfl)]
 refine Ok.ite.2 ⟨fun h => by omega, fun _ => Ok.gd.2 ⟨by constructor <;> omega, Ok.gd.2 ⟨by constructor <;> omega, ?_⟩⟩⟩
 simp only [Option.bind]
 rw [if_neg (by omega)]
 unfold Z3n
 rw [if_neg (by simp; omega)]
 refine Ok.gd.2 ⟨by constructor <;> omega, Ok.gd.2 ⟨by constructor <;> omega, ?_⟩⟩
 simp only [Int.toNat_natCast]
 refine Ok.bind.2 (Ok.mono (s_double (v := v) (n := n) (step := Z3m) (by omega) (by funext xs k; rfl)) ?_)
 rintro r rfl
 exact Ok.some.2 rfl
section row
variable {n : Net} {m L : Nat} {c : Csr}
def Zfa (m : Nat) (d : List Int) : List Bool := d.map fun x => decide (x ≠ (m : Int))
theorem Zm1 {d : List Int} {v : Nat} (h : v < d.length) : (Zfa m d).getD v false = decide (d.getD v 0 ≠ (m : Int)) := by
 unfold Zfa
 rw [List.getD_eq_getElem?_getD, List.getD_eq_getElem?_getD, List.getElem?_map, List.getElem?_eq_getElem h]; rfl
theorem Ziy {d : List Int} {v : Nat} {x : Int} (h : x ≠ (m : Int)) : Zfa m (d.set v x) = (Zfa m d).set v true := by
 unfold Zfa; rw [List.map_set]; simp [h]
structure BI (c : Csr) (L m t : Nat) (R d row : List Int) : Prop where
  len : d.length = m
  pos : 0 < row.length
  fst : row.getD 0 0 = (t : Int) ∧ d.getD t 0 = 0
  nat : ∀ q, q < row.length → ∃ v : Nat, row.getD q 0 = v ∧ v < m ∧ ∃ k : Nat, d.getD v 0 = k ∧ k ≤ q
  has : ∀ v, v < m → d.getD v 0 = (m : Int) ∨ ∃ q, q < row.length ∧ row.getD q 0 = (v : Int)
  cnt : row.length = tc (Zfa m d) m
  mono : ∀ p q, p ≤ q → q < row.length → d.getD (row.getD p 0).toNat 0 ≤ d.getD (row.getD q 0).toNat 0
  par : ∀ q, 0 < q → q < row.length → ∃ j, j < L ∧ 0 < R.getD j 0 ∧ ((tl c j : Nat) : Int) = row.getD q 0 ∧ d.getD (hd c j) 0 ≠ (m : Int) ∧ d.getD (tl c j) 0 = d.getD (hd c j) 0 + 1
theorem BI.le {t : Nat} {R d row : List Int} (h : BI c L m t R d row) : row.length ≤ m := by rw [h.cnt]; exact tc_le _ _
theorem BI.seen {t v : Nat} {R d row : List Int} (h : BI c L m t R d row) (hv : v < m) (hs : d.getD v 0 ≠ (m : Int)) : ∃ q k : Nat, q < row.length ∧ row.getD q 0 = (v : Int) ∧ d.getD v 0 = k ∧ k ≤ q ∧ k < m := by
 rcases h.has v hv with h1 | ⟨q, h1, h2⟩
 · exact absurd h1 hs
 ·
  obtain ⟨u, h3, h4, k, h5, h6⟩ := h.nat q h1
  have : u = v := by omega
  subst this
  have := h.le
  exact ⟨q, k, h1, h2, h5, h6, by omega⟩
theorem BI.at {t q : Nat} {R d row : List Int} (h : BI c L m t R d row) (hq : q < row.length) : d.getD (row.getD q 0).toNat 0 ≠ (m : Int) := by
 obtain ⟨v, h1, h2, k, h3, h4⟩ := h.nat q hq
 have := h.le
 rw [h1, Int.toNat_natCast, h3]; omega
theorem BI.put {t u w j kk : Nat} {R d row : List Int} (h : BI c L m t R d row) (hk : kk < row.length) (hku : row.getD kk 0 = (u : Int)) (hw : w < m) (hun : d.getD w 0 = (m : Int)) (hlast : ∀ q, q < row.length → d.getD (row.getD q 0).toNat 0 ≤ d.getD u 0 + 1)
    (hj : j < L) (hj0 : 0 < R.getD j 0) (hjt : tl c j = w) (hjh : hd c j = u) : BI c L m t R (d.set w (d.getD u 0 + 1)) (row ++ [(w : Int)]) := by
  have hl := h.len
  have hle := h.le
  obtain ⟨v0, g1, g2, k0, g3, g4⟩ := h.nat kk hk
  have e0 : v0 = u := by omega
  subst e0
  have hne : ∀ x : Nat, d.getD x 0 ≠ (m : Int) → (d.set w (d.getD v0 0 + 1)).getD x 0 = d.getD x 0 := fun x hx => by
    rw [Zdd, if_neg]; rintro ⟨rfl, -⟩; exact hx hun
  have hself : (d.set w (d.getD v0 0 + 1)).getD w 0 = d.getD v0 0 + 1 := by rw [Zdd, if_pos ⟨rfl, by omega⟩]
  have hat : ∀ q, q < row.length → (d.set w (d.getD v0 0 + 1)).getD (row.getD q 0).toNat 0 = d.getD (row.getD q 0).toNat 0 := fun q hq => hne _ (h.at hq)
  have hlt : (row ++ [(w : Int)]).length = row.length + 1 := by rw [List.length_append, List.length_singleton]
  have hnew : (row ++ [(w : Int)]).getD row.length 0 = (w : Int) := by rw [Za9 (Nat.le_refl _), Nat.sub_self]; rfl
  have htc : tc ((Zfa m d).set w true) m = row.length + 1 := by
    rw [Zit (by unfold Zfa; rw [List.length_map]; omega) (by rw [Zm1 (by omega)]; simpa using hun), if_pos hw, h.cnt]
  have hroom : row.length + 1 ≤ m := by rw [← htc]; exact tc_le _ _
  have hcnt : (row ++ [(w : Int)]).length = tc (Zfa m (d.set w (d.getD v0 0 + 1))) m := by
    rw [hlt, Ziy (by omega), htc]
  refine ⟨by rw [List.length_set]; exact hl, by rw [hlt]; omega, ?_, fun q hq => ?_, fun v hv => ?_, hcnt, fun p q hpq hq => ?_, fun q h0 hq => ?_⟩
  · rw [Z46 h.pos]
    have h1 := h.at h.pos
    rw [h.fst.1, Int.toNat_natCast] at h1
    exact ⟨h.fst.1, by rw [hne t h1]; exact h.fst.2⟩
  · rw [hlt] at hq
    rcases Nat.lt_or_ge q row.length with h1 | h1
    · obtain ⟨v, h2, h3, k, h4, h5⟩ := h.nat q h1
      have h6 := hat q h1
      rw [h2, Int.toNat_natCast] at h6
      exact ⟨v, by rw [Z46 h1]; exact h2, h3, k, by rw [h6]; exact h4, h5⟩
    · obtain rfl : q = row.length := by omega
      exact ⟨w, hnew, hw, k0 + 1, by rw [hself, g3]; omega, by omega⟩
  · by_cases e : v = w
    · subst e; exact .inr ⟨row.length, by rw [hlt]; omega, hnew⟩
    · rw [Zdd, if_neg (fun h => e h.1.symm)]
      rcases h.has v hv with h1 | ⟨q, h1, h2⟩
      · exact .inl h1
      · exact .inr ⟨q, by rw [hlt]; omega, by rw [Z46 h1]; exact h2⟩
  · rw [hlt] at hq
    rcases Nat.lt_or_ge q row.length with h1 | h1
    · rw [Z46 h1, Z46 (by omega), hat q h1, hat p (by omega)]; exact h.mono p q hpq h1
    · obtain rfl : q = row.length := by omega
      rw [hnew, Int.toNat_natCast, hself]
      rcases Nat.lt_or_ge p row.length with h2 | h2
      · rw [Z46 h2, hat p h2]; exact hlast p h2
      · obtain rfl : p = row.length := by omega
        rw [hnew, Int.toNat_natCast, hself]; exact Int.le_refl _
  · rw [hlt] at hq
    rcases Nat.lt_or_ge q row.length with h1 | h1
    · obtain ⟨j', a1, a2, a3, a4, a5⟩ := h.par q h0 h1
      have a6 := h.at h1
      rw [← a3, Int.toNat_natCast] at a6
      exact ⟨j', a1, a2, by rw [Z46 h1]; exact a3, by rw [hne _ a4]; exact a4, by rw [hne _ a4, hne _ a6]; exact a5⟩
    · obtain rfl : q = row.length := by omega
      have h6 : d.getD v0 0 ≠ (m : Int) := by omega
      exact ⟨j, hj, hj0, by rw [hnew, hjt], by rw [hjh, hne _ h6]; exact h6, by rw [hjt, hself, hjh, hne _ h6]⟩
structure DistP (c : Csr) (L m t : Nat) (R : List Int) (D : Nat → Nat) : Prop where
  zero : D t = 0
  le : ∀ v, v < m → D v ≤ m
  lab : ∀ j, j < L → 0 < R.getD j 0 → D (hd c j) < m → D (tl c j) < m ∧ D (tl c j) ≤ D (hd c j) + 1
  near : ∀ v, v < m → v ≠ t → D v < m → ∃ j, j < L ∧ tl c j = v ∧ 0 < R.getD j 0 ∧ D v = D (hd c j) + 1
theorem DistP.labD {t : Nat} {R : List Int} {D : Nat → Nat} (r : Row n m L c) (h : DistP c L m t R D) : LabD c L R D := fun j hj h0 => by
 have h1 := h.le _ (r.tlh hj).1
 rcases Nat.lt_or_ge (D (hd c j)) m with h2 | h2
 · exact (h.lab j hj h0 h2).2
 · omega
theorem s_ToD {R : List Int} {t : Nat} (r : Row n m L c) (hR : R.length = L) (ht : t < m) : Ok (Zbk c R (t : Int)) (fun d => d.length = m ∧ ∃ D : Nat → Nat, (∀ v, v < m → d.getD v 0 = D v) ∧ DistP c L m t R D) := by
  obtain ⟨-, -, -, hN⟩ := r.ends
  obtain ⟨lF, lH, lR, -, -, -⟩ := r.lens
  have hbd := r.bd
  unfold Zbk Z9s Za8
  rw [lH, hR, hN]
  refine Ok.bind.2 (Ok.bind.2 (Ok.some.2 (Ok.ite.2 ⟨fun _ => Ok.ite.2 ⟨fun _ => Ok.some.2 (Ok.ite.2 ⟨fun h => by simp at h; omega, fun _ => Ok.bind.2 ?_⟩), fun h => by omega⟩, fun h => absurd rfl h⟩)))
  unfold Z48
  rw [hN]
  refine Ok.bind.2 (Ok.mono (Zoj (by omega)) ?_)
  rintro _ rfl
  refine Ok.gd.2 ⟨by rw [List.length_replicate]; constructor <;> omega, Ok.bind.2 ?_⟩
  have hrep : ∀ v, v < m → (List.replicate m (m : Int)).getD v 0 = (m : Int) := fun v hv => by
    rw [List.getD_eq_getElem?_getD, List.getElem?_replicate, if_pos hv]; rfl
  have hseen0 : Zfa m (List.replicate m (m : Int)) = List.replicate m false := by unfold Zfa; simp
  simp only [Int.toNat_natCast]
  have hd0 : ∀ v, ((List.replicate m (m : Int)).set t 0).getD v 0 = if t = v then 0 else (List.replicate m (m : Int)).getD v 0 := fun v => by
    rw [Zdd, List.length_replicate]
    by_cases e : t = v
    · rw [if_pos ⟨e, ht⟩, if_pos e]
    · rw [if_neg (fun h => e h.1), if_neg e]
  refine Z7s (fun s => ∃ k : Nat, s.2.2 = k ∧ k ≤ s.2.1.length ∧ BI c L m t R s.1 s.2.1 ∧ (k < s.2.1.length → ∀ q, q < s.2.1.length → s.1.getD (s.2.1.getD q 0).toNat 0 ≤ s.1.getD (s.2.1.getD k 0).toNat 0 + 1) ∧
      ∀ p, p < k → ∀ a, a < L → ((tl c a : Nat) : Int) = s.2.1.getD p 0 → 0 < R.getD (rv c a) 0 → s.1.getD (hd c a) 0 ≠ (m : Int) ∧ s.1.getD (hd c a) 0 ≤ s.1.getD (s.2.1.getD p 0).toNat 0 + 1) (fun s => (m - s.2.2).toNat)
    ⟨0, rfl, by simp, ⟨by rw [List.length_set, List.length_replicate], by simp, ⟨rfl, by rw [hd0, if_pos rfl]⟩, fun q hq => ?_, fun v hv => ?_, ?_, fun p q hpq hq => ?_, fun q h0 hq => ?_⟩, fun _ q hq => ?_, fun p hp => by omega⟩ (by unfold Z4d; simp only; omega) ?_
  · obtain rfl : q = 0 := by simp at hq; exact hq
    exact ⟨t, rfl, ht, 0, by rw [hd0, if_pos rfl]; rfl, Nat.le_refl _⟩
  · by_cases e : t = v
    · exact .inr ⟨0, by simp, by rw [e]; rfl⟩
    · rw [hd0, if_neg e]; exact .inl (hrep v hv)
  · rw [Ziy (by omega), hseen0, Zit (by simpa using ht) (Z32 _ _ _), Zkj, if_pos ht]; rfl
  · obtain rfl : q = 0 := by simp at hq; exact hq
    obtain rfl : p = 0 := by omega
    exact Int.le_refl _
  · simp at hq; omega
  · obtain rfl : q = 0 := by simp at hq; exact hq
    simp only; omega
  rintro ⟨d, row, x⟩ ⟨k, h1, hk, hB, hlast, hdone⟩ P next exit
  simp only at h1 hk hB hlast hdone next ⊢
  subst h1
  have hle := hB.le
  unfold Z2o
  refine Ok.ite.2 ⟨fun hx => Ok.some.2 (exit _ ?_), fun hx => ?_⟩
  · obtain rfl : k = row.length := by omega
    unfold Z3i
    refine Ok.some.2 (Ok.some.2 ⟨hB.len, fun v => (d.getD v 0).toNat, fun v hv => ?_, ⟨by simp only [hB.fst.2]; rfl, fun v hv => ?_, fun j hj h0 hs => ?_, fun v hv hvt hs => ?_⟩⟩)
    · by_cases e : d.getD v 0 = (m : Int)
      · simp only [e]; omega
      · obtain ⟨q, k, -, -, h5, -, -⟩ := hB.seen hv e
        simp only [h5]; omega
    · by_cases e : d.getD v 0 = (m : Int)
      · simp only [e]; omega
      · obtain ⟨q, k, -, -, h5, -, h7⟩ := hB.seen hv e
        simp only [h5, Int.toNat_natCast]; omega
    · have hr := r.rev hj
      have hh := (r.head hj).2
      have htl := (r.tlh hj).1
      obtain ⟨q, k, hq, hqv, h5, h6, h7⟩ := hB.seen hh (fun e => by rw [e] at hs; omega)
      obtain ⟨g1, g2⟩ := hdone q hq (rv c j) hr.2.1 (by rw [(r.tlh hj).2.1]; exact hqv.symm) (by rw [hr.2.2.1]; exact h0)
      rw [(r.tlh hj).2.2.1] at g1 g2
      rw [hqv, Int.toNat_natCast] at g2
      obtain ⟨q', k', -, -, h5', -, h7'⟩ := hB.seen htl g1
      rw [h5'] at g2 ⊢
      omega
    · have e : d.getD v 0 ≠ (m : Int) := fun e => by rw [e] at hs; omega
      obtain ⟨q, k, hq, hqv, h5, h6, h7⟩ := hB.seen hv e
      have hq0 : 0 < q := by
        rcases Nat.eq_zero_or_pos q with h0 | h0
        · subst h0; rw [hB.fst.1] at hqv; omega
        · exact h0
      obtain ⟨j, a1, a2, a3, a4, a5⟩ := hB.par q hq0 hq
      have e2 : tl c j = v := by omega
      obtain ⟨q', k', -, -, b5, -, -⟩ := hB.seen (r.head a1).2 a4
      rw [e2, h5, b5] at a5
      exact ⟨j, a1, e2, a2, by rw [h5, b5]; omega⟩
  have hkl : k < row.length := by omega
  obtain ⟨u, hu, hum, k0, hku, hkk⟩ := hB.nat k hkl
  have hf := r.first.1 u (by omega)
  have hf1 := r.first.1 (u + 1) (by omega)
  have hmo := r.first.2.2.2 u hum
  have eu : ((u : Int) + 1).toNat = u + 1 := by omega
  have hlast := hlast hkl
  simp only [hu, Int.toNat_natCast] at hlast
  simp only [hu, Int.toNat_natCast, hf.1]
  refine Ok.gd.2 ⟨by constructor <;> omega, Ok.gd.2 ⟨by rw [lF]; constructor <;> omega, Ok.bind.2 ?_⟩⟩
  refine Z7s (fun s => ∃ a : Nat, s.2.2 = a ∧ fs c u ≤ a ∧ a ≤ fs c (u + 1) ∧ BI c L m t R s.1 s.2.1 ∧ k < s.2.1.length ∧ s.2.1.getD k 0 = u ∧ s.1.getD u 0 = k0 ∧ (∀ q, q < s.2.1.length → s.1.getD (s.2.1.getD q 0).toNat 0 ≤ s.1.getD u 0 + 1) ∧
      (∀ p, p < k → ∀ a, a < L → ((tl c a : Nat) : Int) = s.2.1.getD p 0 → 0 < R.getD (rv c a) 0 → s.1.getD (hd c a) 0 ≠ (m : Int) ∧ s.1.getD (hd c a) 0 ≤ s.1.getD (s.2.1.getD p 0).toNat 0 + 1) ∧
      ∀ b, fs c u ≤ b → b < a → 0 < R.getD (rv c b) 0 → s.1.getD (hd c b) 0 ≠ (m : Int) ∧ s.1.getD (hd c b) 0 ≤ s.1.getD u 0 + 1) (fun s => (fs c (u + 1) - s.2.2).toNat)
    ⟨_, rfl, Nat.le_refl _, hmo.1, hB, hkl, hu, hku, hlast, hdone, fun b h1 h2 => by omega⟩ (by unfold Z4d; simp only; omega) ?_
  rintro ⟨d2, row2, y⟩ ⟨a, h1, ha0, ha1, hB2, hkl2, hku2, hk02, hlast2, hdone2, hpart⟩ P2 next2 exit2
  simp only at h1 hB2 hkl2 hku2 hk02 hlast2 hdone2 hpart next2 ⊢
  subst h1
  have hle2 := hB2.le
  have hl2 := hB2.len
  unfold Z2n
  simp only [hu, eu, hf1.1, Int.toNat_natCast, hN]
  refine Ok.gd.2 ⟨by constructor <;> omega, Ok.gd.2 ⟨by rw [lF]; constructor <;> omega, Ok.ite.2 ⟨fun hy => ?_, fun hy => Ok.some.2 (exit2 _ ?_)⟩⟩⟩
  · have haL : a < L := by omega
    have hh := r.head haL
    have hr := r.rev haL
    have htl : tl c a = u := (r.range haL hum).1 ⟨ha0, by omega⟩
    simp only [hh.1, Int.toNat_natCast]
    refine Ok.gd.2 ⟨by rw [lH]; constructor <;> omega, Ok.gd.2 ⟨by rw [hl2]; constructor <;> omega, Ok.ite.2 ⟨fun hs => ?_, fun hs => Ok.bind.2 ?_⟩⟩⟩
    · refine Ok.gd.2 ⟨by constructor <;> omega, Ok.some.2 (next2 _ ⟨a + 1, by simp, by omega, by omega, hB2, hkl2, hku2, hk02, hlast2, hdone2, fun b b1 b2 b3 => ?_⟩ (by simp only; omega))⟩
      rcases Nat.lt_or_ge b a with h4 | h4
      · exact hpart b b1 h4 b3
      · obtain rfl : b = a := by omega
        obtain ⟨q, k', hq, hqv, -, -, -⟩ := hB2.seen hh.2 (show d2.getD (hd c b) 0 ≠ (m : Int) by omega)
        have := hlast2 q hq
        rw [hqv, Int.toNat_natCast] at this
        exact ⟨show d2.getD (hd c b) 0 ≠ (m : Int) by omega, this⟩
    · unfold Zaw
      simp only [Int.toNat_natCast, hr.1]
      have hun : d2.getD (hd c a) 0 = (m : Int) := by
        rcases hB2.has _ hh.2 with h | ⟨q, h1, h2⟩
        · exact h
        · obtain ⟨v, g1, g2, k', g3, g4⟩ := hB2.nat q h1
          have : v = hd c a := by omega
          subst this; omega
      refine Ok.gd.2 ⟨by rw [lR]; constructor <;> omega, Ok.gd.2 ⟨by rw [hR]; constructor <;> omega, Ok.some.2 (Ok.ite.2 ⟨fun hb => ?_, fun hb => ?_⟩)⟩⟩
      · have hb : ¬ 0 < R.getD (rv c a) 0 := by simpa using hb
        refine Ok.gd.2 ⟨by constructor <;> omega, Ok.some.2 (next2 _ ⟨a + 1, by simp, by omega, by omega, hB2, hkl2, hku2, hk02, hlast2, hdone2, fun b b1 b2 b3 => ?_⟩ (by simp only; omega))⟩
        rcases Nat.lt_or_ge b a with h4 | h4
        · exact hpart b b1 h4 b3
        · obtain rfl : b = a := by omega
          exact absurd b3 hb
      · have hb : 0 < R.getD (rv c a) 0 := by simpa using hb
        have hB3 := hB2.put (j := rv c a) hkl2 hku2 hh.2 hun hlast2 hr.2.1 hb (r.tlh haL).2.1 (by rw [(r.tlh haL).2.2.1]; exact htl)
        have hle3 := hB3.le
        rw [List.length_append, List.length_singleton] at hle3
        have hne : ∀ x : Nat, d2.getD x 0 ≠ (m : Int) → (d2.set (hd c a) (d2.getD u 0 + 1)).getD x 0 = d2.getD x 0 := fun x hx => by
          rw [Zdd, if_neg]; rintro ⟨rfl, -⟩; exact hx hun
        have hself : (d2.set (hd c a) (d2.getD u 0 + 1)).getD (hd c a) 0 = d2.getD u 0 + 1 := by rw [Zdd, if_pos ⟨rfl, by omega⟩]
        have hus : d2.getD u 0 ≠ (m : Int) := by omega
        have huu := hne u hus
        have up : ∀ x : Nat, ∀ z : Int, d2.getD x 0 ≠ (m : Int) ∧ d2.getD x 0 ≤ z → (d2.set (hd c a) (d2.getD u 0 + 1)).getD x 0 ≠ (m : Int) ∧ (d2.set (hd c a) (d2.getD u 0 + 1)).getD x 0 ≤ z := fun x z hx => by
          rw [hne x hx.1]; exact hx
        refine Ok.gd.2 ⟨by rw [hl2]; constructor <;> omega, Ok.gd.2 ⟨by constructor <;> omega, Ok.gd.2 ⟨by rw [hl2]; constructor <;> omega, Ok.gd.2 ⟨by rw [List.length_append, List.length_singleton]; constructor <;> omega, Ok.gd.2 ⟨by constructor <;> omega, Ok.some.2 (next2 _ ⟨a + 1, by simp, by omega, by omega, hB3, by simp only [List.length_append, List.length_singleton]; omega, by simp only; rw [Z46 hkl2]; exact hku2, by simp only; rw [huu]; exact hk02, fun q hq => ?_, fun p hp b hbL hbt hb0 => ?_, fun b b1 b2 b3 => ?_⟩ (by simp only; omega))⟩⟩⟩⟩⟩
        · simp only [List.length_append, List.length_singleton] at hq ⊢
          rw [huu]
          rcases Nat.lt_or_ge q row2.length with h4 | h4
          · rw [Z46 h4, hne _ (hB2.at h4)]; exact hlast2 q h4
          · obtain rfl : q = row2.length := by omega
            rw [Za9 (Nat.le_refl _), Nat.sub_self]
            show (d2.set (hd c a) (d2.getD u 0 + 1)).getD ((hd c a : Nat) : Int).toNat 0 ≤ _
            rw [Int.toNat_natCast, hself]; exact Int.le_refl _
        · simp only at hbt ⊢
          rw [Z46 (by omega)] at hbt ⊢
          rw [hne _ (hB2.at (show p < row2.length by omega))]
          exact up _ _ (hdone2 p hp b hbL hbt hb0)
        · simp only
          rw [huu]
          rcases Nat.lt_or_ge b a with h4 | h4
          · exact up _ _ (hpart b b1 h4 b3)
          · obtain rfl : b = a := by omega
            rw [hself]; exact ⟨by omega, Int.le_refl _⟩
  · obtain rfl : a = fs c (u + 1) := by omega
    unfold Z3j
    refine Ok.gd.2 ⟨by constructor <;> omega, Ok.some.2 (next _ ⟨k + 1, by simp, by simp only; omega, hB2, fun hlt q hq => ?_, fun p hp b hbL hbt hb0 => ?_⟩ (by simp only; omega))⟩
    · simp only at hlt hq ⊢
      have h4 := hB2.mono k (k + 1) (by omega) hlt
      have h5 := hlast2 q hq
      rw [hku2, Int.toNat_natCast] at h4
      omega
    · simp only at hbt ⊢
      rcases Nat.lt_or_ge p k with h4 | h4
      · exact hdone2 p h4 b hbL hbt hb0
      · obtain rfl : p = k := by omega
        rw [hku2] at hbt ⊢
        rw [Int.toNat_natCast]
        have hrg := (r.range hbL hum).2 (by omega)
        exact hpart b hrg.1 hrg.2 hb0
end row
end Go.Acq
namespace Go.Acq
open Go
set_option linter.unusedSimpArgs false
set_option linter.unusedVariables false
section row
variable {n : Net} {m L : Nat} {c : Csr}
theorem WayD.snoc {R : List Int} {D : Nat → Nat} {d : Int} {u v j : Nat} {w : List Nat} (h : WayD c L R D d u w v) (hj : j < L) (hd0 : d ≤ R.getD j 0) (hl : D (tl c j) = D (hd c j) + 1) (hv : tl c j = v) : WayD c L R D d u (w ++ [j]) (hd c j) := by
 induction h with
 | nil v => subst hv; exact .cons hj hd0 hl (.nil _)
 | cons hj' h0' hl' hw ih => exact .cons hj' h0' hl' (ih hv)
def OpenR (c : Csr) (L : Nat) (R : List Int) (u v : Nat) : Prop := ∃ j, j < L ∧ tl c j = u ∧ hd c j = v ∧ 0 < R.getD j 0
theorem s_nearer {R d : List Int} {D : Nat → Nat} {t v : Nat} (r : Row n m L c) (hR : R.length = L) (hdl : d.length = m) (hdD : ∀ v, v < m → d.getD v 0 = D v) (hD : DistP c L m t R D) (hv : v < m) (hvt : v ≠ t) (hs : D v < m) :
    Ok (Z7e c R d (v : Int)) (fun a => ∃ j : Nat, a = j ∧ j < L ∧ tl c j = v ∧ 0 < R.getD j 0 ∧ D v = D (hd c j) + 1) := by
  obtain ⟨lF, lH, lR, -, -, -⟩ := r.lens
  have hbd := r.bd
  have hf := r.first.1 v (by omega)
  have hf1 := r.first.1 (v + 1) (by omega)
  have hmo := r.first.2.2.2 v hv
  have eu : ((v : Int) + 1).toNat = v + 1 := by omega
  unfold Z7e
  simp only [Int.toNat_natCast, hf.1]
  refine Ok.gd.2 ⟨by rw [lF]; constructor <;> omega, Ok.bind.2 ?_⟩
  refine Z7s (fun s => ∃ a : Nat, s = a ∧ fs c v ≤ a ∧ a ≤ fs c (v + 1) ∧ ∀ b, fs c v ≤ b → b < a → ¬(0 < R.getD b 0 ∧ D (hd c b) < D v)) (fun s => (fs c (v + 1) - s).toNat) ⟨_, rfl, Nat.le_refl _, hmo.1, fun b h1 h2 => by omega⟩ (by unfold Z4d; omega) ?_
  rintro x ⟨a, h1, ha0, ha1, hno⟩ P next exit
  subst h1
  unfold Z5k
  simp only [eu, hf1.1, Int.toNat_natCast]
  have go : ∀ b : Bool, a < fs c (v + 1) → (b = true ↔ (0 < R.getD a 0 ∧ D (hd c a) < D v)) → Ok (Z4m (a : Int) b) P := by
    intro b hal hb
    have haL : a < L := by omega
    have htl : tl c a = v := (r.range haL hv).1 ⟨ha0, hal⟩
    unfold Z4m
    refine Ok.ite.2 ⟨fun h => ?_, fun h => ?_⟩
    · obtain ⟨h1, h2⟩ := hb.1 h
      have h3 := hD.labD r a haL h1
      rw [htl] at h3
      exact Ok.some.2 (exit _ (Ok.some.2 ⟨a, rfl, haL, htl, h1, by omega⟩))
    · refine Ok.gd.2 ⟨by constructor <;> omega, Ok.some.2 (next _ ⟨a + 1, by simp, by omega, by omega, fun b' b1 b2 b3 => ?_⟩ (by omega))⟩
      rcases Nat.lt_or_ge b' a with h4 | h4
      · exact hno b' b1 h4 b3
      · obtain rfl : b' = a := by omega
        exact h (hb.2 b3)
  refine Ok.gd.2 ⟨by constructor <;> omega, Ok.gd.2 ⟨by rw [lF]; constructor <;> omega, Ok.ite.2 ⟨fun hx => ?_, fun hx => Ok.some.2 (exit _ ?_)⟩⟩⟩
  · have haL : a < L := by omega
    have hh := r.head haL
    simp only [hh.1, Int.toNat_natCast]
    refine Ok.gd.2 ⟨by rw [hR]; constructor <;> omega, Ok.ite.2 ⟨fun h0 => ?_, fun h0 => go false (by omega) ⟨fun h => (by cases h), fun h => absurd h.1 h0⟩⟩⟩
    refine Ok.gd.2 ⟨by rw [lH]; constructor <;> omega, Ok.gd.2 ⟨by rw [hdl]; constructor <;> omega, Ok.gd.2 ⟨by rw [hdl]; constructor <;> omega, go _ (by omega) ?_⟩⟩⟩
    rw [hdD _ hh.2, hdD _ hv, decide_eq_true_eq]
    exact ⟨fun h => ⟨h0, by omega⟩, fun h => by omega⟩
  · exfalso
    obtain ⟨j, a1, a2, a3, a4⟩ := hD.near v hv hvt hs
    have hrg := (r.range a1 hv).2 a2
    exact hno j hrg.1 (by omega) ⟨a3, by omega⟩
theorem s_WayD {R : List Int} {s t : Nat} (r : Row n m L c) (hR : R.length = L) (hs : s < m) (ht : t < m) :
    Ok (Za3 c R (s : Int) (t : Int)) (fun o => (o.2 = false ∧ ¬Reach (OpenR c L R) s t) ∨ (o.2 = true ∧ ∃ (D : Nat → Nat) (w : List Nat), o.1 = w.map (fun j : Nat => (j : Int)) ∧ WayD c L R D 1 s w t ∧ LabD c L R D ∧ D t = 0 ∧ D s < m ∧ w.length ≤ m)) := by
  obtain ⟨-, -, -, hN⟩ := r.ends
  obtain ⟨lF, lH, lR, -, -, -⟩ := r.lens
  have hbd := r.bd
  unfold Za3
  rw [hN]
  refine Ok.bind.2 (Ok.mono (s_ToD r hR ht) ?_)
  rintro d ⟨hdl, D, hdD, hD⟩
  refine Ok.ite.2 ⟨fun h => by omega, fun _ => Ok.ite.2 ⟨fun h => by omega, fun _ => Ok.gd.2 ⟨by rw [hdl]; constructor <;> omega, ?_⟩⟩⟩
  unfold Z5a
  rw [Int.toNat_natCast, hdD s hs]
  refine Ok.ite.2 ⟨fun h => Ok.some.2 (.inl ⟨rfl, fun hr => ?_⟩), fun h => Ok.bind.2 ?_⟩
  · have h : D s = m := by have := of_decide_eq_true h; omega
    have key : ∀ v, Reach (OpenR c L R) s v → v < m ∧ D v = m := fun v hr => by
      induction hr with
      | refl => exact ⟨hs, h⟩
      | step _ hg ih =>
        obtain ⟨j, g1, g2, g3, g4⟩ := hg
        obtain ⟨i1, i2⟩ := ih
        have hw := (r.head g1).2
        rw [g3] at hw
        refine ⟨hw, ?_⟩
        have h1 := hD.le _ hw
        rcases Nat.lt_or_ge (D (hd c j)) m with h2 | h2
        · have := (hD.lab j g1 g4 h2).1
          rw [g2] at this; omega
        · rw [g3] at h2; omega
    have := key t hr
    have := hD.zero
    omega
  · have h : D s < m := by have := hD.le s hs; have h : ¬ ((D s : Nat) : Int) = (m : Int) := fun e => h (decide_eq_true e)
                           omega
    refine Z7s (fun z => ∃ (w : List Nat) (v : Nat), z.1 = w.map (fun j : Nat => (j : Int)) ∧ z.2 = v ∧ v < m ∧ D v < m ∧ WayD c L R D 1 s w v) (fun z => D z.2.toNat) ⟨[], s, rfl, rfl, hs, h, .nil _⟩ (by unfold Z4d; simp only [Int.toNat_natCast]; omega) ?_
    rintro ⟨o, x⟩ ⟨w, v, h1, h2, h3, h4, hw⟩ P next exit
    simp only at h1 h2 next ⊢
    subst h1; subst h2
    have hlen := hw.len
    unfold Z7f
    refine Ok.ite.2 ⟨fun hx => ?_, fun hx => Ok.some.2 (exit _ ?_)⟩
    · refine Ok.bind.2 (Ok.mono (s_nearer r hR hdl hdD hD h3 (by omega) h4) ?_)
      rintro a ⟨j, rfl, hj, hjt, hj0, hjd⟩
      have hh := r.head hj
      refine Ok.ite.2 ⟨fun h => by omega, fun _ => Ok.gd.2 ⟨by rw [List.length_append, List.length_map, List.length_singleton]; constructor <;> omega, Ok.gd.2 ⟨by rw [lH]; constructor <;> omega, Ok.some.2 (next _ ⟨w ++ [j], hd c j, by simp, by simp only [Int.toNat_natCast]; exact hh.1, hh.2, by omega, hw.snoc hj (by omega) (by rw [hjt]; exact hjd) hjt⟩ ?_)⟩⟩⟩
      simp only [Int.toNat_natCast, hh.1]; omega
    · have e : v = t := by omega
      subst e
      unfold Z8u
      exact Ok.some.2 (.inr ⟨rfl, D, w, rfl, hw, hD.labD r, hD.zero, h, by omega⟩)
end row
end Go.Acq
namespace Go.Acq
open Go
set_option linter.unusedSimpArgs false
set_option linter.unusedVariables false
section row
variable {n : Net} {m L : Nat} {c : Csr}
theorem Zhu : ∀ k : Nat, Zd1 (fun _ => 1) k = (k : Int)
 | 0 => rfl
 | k + 1 => by simp only [Zd1, Zhu k]; omega
theorem Zmh {al : List Arc} {m : Nat} (he : Z3v m al) : Z12 al m ≤ 2 * al.length := by
 have h1 := posSum he (fun _ => 1)
 rw [Zhu] at h1
 have h2 : Zd1 (fun i => if (al.getD i default).fr = (al.getD i default).to then 0 else (1 : Int) + 1) al.length ≤ Zd1 (fun i => (fun _ => (1 : Int)) i + (fun _ => (1 : Int)) i) al.length := Zoe fun i _ => by
  simp only; split <;> omega
 rw [Zf0, Zhu] at h2
 omega
theorem resOK_of {f : List Int} (r : Row n m L c) (hw : FwithinP n f) : ∀ j, j < L → Zgf c.Arc c.Cap c.Back f j := fun j hj => by
 obtain ⟨i, s, hi, hne, hp, q1, q2, q3, q4, q5, q6, q7, q8⟩ := r.at hj
 have q8' : c.Back.getD j false = s := q8
 have := hw.2.2 i hi
 have := hw.2.1
 unfold Zgf
 rw [q7, q8', q6, Int.toNat_natCast]
 refine ⟨by omega, ?_⟩
 cases s
 · right; simp only [Bool.false_eq_true, if_false]; assumption
 · exact .inl rfl
theorem openR_of {f R : List Int} {u v : Nat} (r : Row n m L c) (hR : ResAt c.Arc c.Cap c.Back f L L R) (h : Z8x n f u v) : OpenR c L R u v := by
 have e := r.hL
 have hu : u < m := by
  obtain ⟨i, hi, _, h1⟩ := h
  have h0 := r.he i hi false
  have h2 := r.he i hi true
  simp only [vtx, Bool.false_eq_true, if_false, if_true] at h0 h2
  omega
 obtain ⟨j, h1, h2, h3, h4⟩ := (Zfg r.is r.he (by rw [e]; exact hR) (v := v) hu false).2 (by simpa using h)
 have hmo := Z41 (al := n.Arcs) (show u + 1 ≤ m by omega)
 have hjL : j < L := by omega
 have h3 := of_decide_eq_true h3
 simp only [Bool.false_eq_true, if_false] at h3
 have hf := (r.first.1 u (by omega)).2
 have hf1 := (r.first.1 (u + 1) (by omega)).2
 have hh := (r.head hjL).1
 exact ⟨j, hjL, (r.range hjL hu).1 ⟨by omega, by omega⟩, by omega, h3⟩
theorem Zjc {w : List Nat} {q : Nat} (h : q < w.length) : (w.map (fun j : Nat => (j : Int))).getD q 0 = ((w.getD q 0 : Nat) : Int) := by
 rw [List.getD_eq_getElem?_getD, List.getD_eq_getElem?_getD, List.getElem?_map, List.getElem?_eq_getElem h]; rfl
theorem Zm3 {n : Net} {m : Nat} (hm : n.N = m) (hk : Z6m n.N n.S n.T n.Arcs = 0) (hlen : n.Arcs.length ≤ 24) (hm12 : m ≤ 12) :
    Ok (Z37 n (List.replicate n.Arcs.length 0) 600) (fun t => t.2 = true ∧ GoodF n t.1 ∧ ¬Reach (Z8x n t.1) n.S.toNat n.T.toNat) := by
  have hll : lenok n.Arcs.length := by omega
  unfold Z37
  refine Ok.bind.2 (Ok.mono (s_Make hm hk hll) ?_)
  rintro ⟨c, e⟩ ⟨hc, he0⟩
  simp only at hc he0 ⊢
  subst he0
  obtain ⟨L, hL⟩ : ∃ L, Z12 n.Arcs m = L := ⟨_, rfl⟩
  have r : Row n m L c := ⟨hc, hk, hm, hL⟩
  obtain ⟨⟨S, hS, -, hSm⟩, ⟨T, hT, -, hTm⟩, hST, -⟩ := r.ends
  obtain ⟨lF, lH, lR, lC, lA, lB⟩ := r.lens
  have hbd := r.bd
  have hb2 := Zmh r.he
  have hmul : m * (L + 1) ≤ 12 * (L + 1) := Nat.mul_le_mul_right _ hm12
  rw [hS, hT, Int.toNat_natCast, Int.toNat_natCast]
  refine Ok.ite.2 ⟨fun h => absurd rfl h, fun _ => Ok.bind.2 ?_⟩
  refine Z7s (fun s => ∃ k μ : Nat, s.2 = k ∧ GoodF n s.1 ∧ k + μ ≤ m * (L + 1) ∧ ∀ R, ResAt c.Arc c.Cap c.Back s.1 L L R → StepsD m L c R S T μ) (fun s => (600 - s.2).toNat)
    ⟨0, m * (L + 1), rfl, GoodF.zero r, by omega, fun R _ => Zkb R S T⟩ (by unfold Z4d; simp only; omega) ?_
  rintro ⟨f, x⟩ ⟨k, μ, h1, hG, hkm, hSt⟩ P next exit
  simp only at h1 hG hSt next ⊢
  subst h1
  unfold Z2r
  refine Ok.ite.2 ⟨fun hx => ?_, fun hx => by omega⟩
  refine Ok.bind.2 (Ok.mono (s_Res lH lC lA lB hbd.2.2.2 (fun j hj => by obtain ⟨i, s, hi, hne, hp, q1, q2, q3, q4, q5, q6, q7, q8⟩ := r.at hj; omega) (fun j hj => by obtain ⟨h1, h2, h3, h4, h5, h6⟩ := r.cap hj; have := (r.cap (r.rev hj).2.1).1; omega)) ?_)
  rintro ⟨R, e⟩ (⟨-, he, hR⟩ | ⟨⟨j, hj, hn⟩, -⟩)
  rotate_left
  · exact absurd (resOK_of r hG.all.1 j hj) hn
  simp only at he hR ⊢
  subst he
  obtain ⟨hfl, hok⟩ := resRow r hG.all.1 hG.slf hR
  have hst := hSt R hR
  refine Ok.ite.2 ⟨fun h => absurd rfl h, fun _ => ?_⟩
  rw [hS, hT]
  refine Ok.bind.2 (Ok.mono (s_WayD r hR.1 hSm hTm) ?_)
  rintro ⟨wl, ok⟩ (⟨hf, hno⟩ | ⟨hf, D, w, hwl, hw, hD, hDt, hDs, hwlen⟩)
  · simp only at hf ⊢
    subst hf
    exact Ok.ite.2 ⟨fun _ => Ok.some.2 (exit _ (Ok.some.2 ⟨rfl, hG, fun h => hno (h.mono fun u v ho => openR_of r hR ho)⟩)), fun h => absurd rfl h⟩
  simp only at hf hwl ⊢
  subst hf; subst hwl
  have hw0 : 0 < w.length := by
    rcases Nat.eq_zero_or_pos w.length with h0 | h0
    · have := List.eq_nil_of_length_eq_zero h0
      subst this
      cases hw
      omega
    · exact h0
  have hmem : ∀ q, q < w.length → w.getD q 0 ∈ w := fun q hq => Z8w hq 0
  refine Ok.ite.2 ⟨fun h => by simp at h, fun _ => Ok.bind.2 ?_⟩
  refine Z7s (fun s => ∃ q : Nat, s.2 = q ∧ q ≤ w.length ∧ 1 ≤ s.1 ∧ s.1 ≤ 4611686018427387904 ∧ (∀ i, i < q → s.1 ≤ R.getD (w.getD i 0) 0) ∧ (s.1 = 4611686018427387904 ∨ ∃ i, i < q ∧ R.getD (w.getD i 0) 0 = s.1)) (fun s => (w.length - s.2).toNat)
    ⟨0, rfl, by omega, by simp only; omega, Int.le_refl _, fun i hi => by omega, .inl rfl⟩ (by unfold Z4d; simp only; omega) ?_
  rintro ⟨d, x⟩ ⟨q, h1, hq, hd1, hd2, hdle, hdat⟩ P2 next2 exit2
  simp only at h1 hd1 hd2 hdle hdat next2 ⊢
  subst h1
  unfold Z2q
  rw [List.length_map]
  refine Ok.ite.2 ⟨fun hx => ?_, fun hx => Ok.some.2 (exit2 _ ?_)⟩
  · have hql : q < w.length := by omega
    obtain ⟨a1, a2, -, -⟩ := hw.mem _ (hmem q hql)
    simp only [Int.toNat_natCast, Zjc hql]
    refine Ok.gd.2 ⟨by constructor <;> omega, Ok.gd.2 ⟨by rw [hR.1]; constructor <;> omega, Ok.gd.2 ⟨by constructor <;> omega, Ok.some.2 (next2 _ ⟨q + 1, by simp, by omega, by simp only; omega, by simp only; omega, fun i hi => ?_, ?_⟩ (by simp only; omega))⟩⟩⟩
    · simp only
      rcases Nat.lt_or_ge i q with h4 | h4
      · have := hdle i h4; omega
      · obtain rfl : i = q := by omega
        omega
    · simp only
      rcases Int.le_total d (R.getD (w.getD q 0) 0) with h4 | h4
      · rw [Int.min_eq_left h4]
        rcases hdat with h5 | ⟨i, h5, h6⟩
        · exact .inl h5
        · exact .inr ⟨i, by omega, h6⟩
      · rw [Int.min_eq_right h4]
        exact .inr ⟨q, by omega, rfl⟩
  obtain rfl : q = w.length := by omega
  have hall : ∀ j, j ∈ w → d ≤ R.getD j 0 := fun j hj => by
    obtain ⟨i, hi, rfl⟩ := List.getElem_of_mem hj
    have := hdle i hi
    rw [List.getD_eq_getElem?_getD (l := w), List.getElem?_eq_getElem hi] at this
    exact this
  have hmin : ∃ j, j ∈ w ∧ R.getD j 0 = d := by
    rcases hdat with h5 | ⟨i, h5, h6⟩
    · obtain ⟨a1, -, -, -⟩ := hw.mem _ (hmem 0 hw0)
      have h7 := hok.rle r a1
      have h8 := hall _ (hmem 0 hw0)
      exact ⟨_, hmem 0 hw0, by omega⟩
    · exact ⟨_, hmem i h5, h6⟩
  have hwd := hw.wide hall
  obtain ⟨ν, hν, hst2⟩ := hst.step r hR.1 hwd hD hDt hDs (by omega) hmin
  unfold Z3l
  have hfl2 : f.length = n.Arcs.length := hG.all.1.2.1
  refine Ok.gd.2 ⟨by constructor <;> omega, Ok.bind.2 ?_⟩
  refine Z7s (fun s => ∃ q : Nat, s.2 = q ∧ q ≤ w.length ∧ s.1 = flN n.Arcs (Zfp c d (w.take q) R)) (fun s => (w.length - s.2).toNat) ⟨0, rfl, by omega, by simp only [List.take_zero, Zfp]; exact hfl⟩ (by unfold Z4d; simp only; omega) ?_
  rintro ⟨g, x⟩ ⟨q, h1, hq, hg⟩ P3 next3 exit3
  simp only at h1 hg next3 ⊢
  subst h1
  unfold Z2p
  rw [List.length_map]
  refine Ok.ite.2 ⟨fun hx => ?_, fun hx => Ok.some.2 (exit3 _ ?_)⟩
  · have hql : q < w.length := by omega
    obtain ⟨a1, a2, -, -⟩ := hw.mem _ (hmem q hql)
    obtain ⟨j, hj⟩ : ∃ j, w.getD q 0 = j := ⟨_, rfl⟩
    rw [hj] at a1 a2
    have htk : w.take (q + 1) = w.take q ++ [j] := by
      rw [List.take_succ_eq_append_getElem hql, ← hj, List.getD_eq_getElem?_getD, List.getElem?_eq_getElem hql]; rfl
    obtain ⟨v, hv⟩ := hwd.take (q + 1)
    have hok3 := hv.ok r (by omega) hok
    have hw3 := hok3.within r
    have hlq : (Zfp c d (w.take q) R).length = L := by rw [Zll]; exact hR.1
    have hmv := flN_mv (d := d) r hlq a1
    have haug : Zfp c d (w.take (q + 1)) R = mvR c (Zfp c d (w.take q) R) j d := by rw [htk]; exact Zje _ _
    rw [haug, hmv] at hw3
    obtain ⟨i, s, hi, hne, hp, q1, q2, q3, q4, q5, q6, q7, q8⟩ := r.at a1
    have hgl : g.length = n.Arcs.length := by rw [hg, Zbn]
    rw [← hg, q7, Int.toNat_natCast] at hmv hw3
    have hval := hw3.2.2 i hi
    rw [Zi2 (by omega)] at hval
    have hcap := r.caps i hi
    have q8' : c.Back.getD j false = bk c j := rfl
    simp only [Int.toNat_natCast, Zjc hql, hj, q7, q8']
    have fin : ∀ y : Int, y = g.getD i 0 + (if bk c j = true then -d else d) → Ok (some (Sum.inl (g.set i y, (q : Int) + 1))) P3 := fun y hy => by
      subst hy
      exact Ok.some.2 (next3 _ ⟨q + 1, by simp, by omega, by simp only; rw [haug, hmv]⟩ (by simp only; omega))
    refine Ok.gd.2 ⟨by constructor <;> omega, Ok.gd.2 ⟨by rw [lB]; constructor <;> omega, Ok.ite.2 ⟨fun hb => ?_, fun hb => ?_⟩⟩⟩
    · rw [if_pos hb] at hval fin
      exact Ok.gd.2 ⟨by rw [lA]; constructor <;> omega, Ok.gd.2 ⟨by constructor <;> omega, Ok.gd.2 ⟨by constructor <;> omega, Ok.gd.2 ⟨by constructor <;> omega, Ok.gd.2 ⟨by constructor <;> omega, fin _ (by omega)⟩⟩⟩⟩⟩
    · rw [if_neg hb] at hval fin
      exact Ok.gd.2 ⟨by rw [lA]; constructor <;> omega, Ok.gd.2 ⟨by constructor <;> omega, Ok.gd.2 ⟨by constructor <;> omega, Ok.gd.2 ⟨by constructor <;> omega, Ok.gd.2 ⟨by constructor <;> omega, fin _ rfl⟩⟩⟩⟩⟩
  · obtain rfl : q = w.length := by omega
    rw [List.take_length] at hg
    obtain ⟨hG2, hR2⟩ := hG.aug r hR (by omega) hwd hS hT
    unfold Z3k
    refine Ok.gd.2 ⟨by constructor <;> omega, Ok.some.2 (next _ ⟨k + 1, ν, by simp, by simp only; rw [hg]; exact hG2, by omega, fun R' hR' => ?_⟩ (by simp only; omega))⟩
    simp only at hR'
    rw [hg] at hR'
    rw [hR'.uniq hR2]
    exact hst2
end row
end Go.Acq
namespace Go.Acq
open Go
set_option linter.unusedSimpArgs false
section row
variable {n : Net} {m L : Nat} {c : Csr}
def HeightsP (n : Net) (m : Nat) (h : List Int) : Prop := h.length = m ∧ (∀ s : Nat, n.S = s → h.getD s 0 = m) ∧ (∀ t : Nat, n.T = t → h.getD t 0 = 0) ∧ ∀ v, v < m → 0 ≤ h.getD v 0 ∧ h.getD v 0 < 2 * m
structure PreOK (n : Net) (m L : Nat) (c : Csr) (p : Pre) : Prop where
  ok : ResOK n m L c p.Res p.Ex
  nn : ∀ v, v < m → (v : Int) ≠ n.S → 0 ≤ p.Ex.getD v 0
  hs : HeightsP n m p.H
  val : ∀ j, j < L → 0 < p.Res.getD j 0 → p.H.getD (tl c j) 0 ≤ p.H.getD (hd c j) 0 + 1
structure PreLen (p : Pre) : Prop where
  r : lenok p.Res.length
  x : lenok p.Ex.length
  h : lenok p.H.length
theorem PreOK.len {p : Pre} (h : PreOK n m L c p) (r : Row n m L c) : PreLen p := by
 have := r.bd
 have h1 := h.ok.lr
 have h2 := h.ok.lx
 have h3 := h.hs.1
 exact ⟨by omega, by omega, by omega⟩
end row
end Go.Acq
namespace Go.Acq
open Go
set_option linter.unusedSimpArgs false
def Zil (n : Net) (X : List Int) (u : Nat) : Prop := (u : Int) ≠ n.S ∧ (u : Int) ≠ n.T ∧ 0 < X.getD u 0
instance (n : Net) (X : List Int) (u : Nat) : Decidable (Zil n X u) := by unfold Zil; infer_instance
def Zij (c : Csr) (p : Pre) (u j : Nat) : Prop := 0 < p.Res.getD j 0 ∧ p.H.getD u 0 = p.H.getD (hd c j) 0 + 1
instance (c : Csr) (p : Pre) (u j : Nat) : Decidable (Zij c p u j) := by unfold Zij; infer_instance
def Zes (n : Net) (c : Csr) (p : Pre) (u : Nat) : Prop := Zil n p.Ex u ∧ ∀ j, fs c u ≤ j → j < fs c (u + 1) → ¬Zij c p u j
instance (n : Net) (c : Csr) (p : Pre) (u : Nat) : Decidable (Zes n c p u) :=
  if h : Zil n p.Ex u ∧ ∀ j, j < fs c (u + 1) → fs c u ≤ j → ¬Zij c p u j then .isTrue ⟨h.1, fun j a b => h.2 j b a⟩ else .isFalse fun g => h ⟨g.1, fun j a b => g.2 j b a⟩
def Zix (p : Nat → Bool) : Nat → List Int
  | 0 => []
  | k + 1 => Zix p k ++ (if p k = true then [(k : Int)] else [])
theorem Zhv (p : Nat → Bool) : ∀ k, (Zix p k).length ≤ k
 | 0 => Nat.le_refl _
 | k + 1 => by
  have := Zhv p k
  simp only [Zix, List.length_append]
  split <;> simp <;> omega
section row
variable {n : Net} {m L : Nat} {c : Csr}
theorem Zl6 {p : Pre} {u : Nat} (r : Row n m L c) (lx : p.Ex.length = m) (hu : u < m) : Z9p c p (u : Nat) = some (decide (Zil n p.Ex u)) := by
 have h2 := r.is.hS
 have h3 := r.is.hT
 unfold Z9p Zil
 rw [h2, h3]
 by_cases a : (u : Int) ≠ n.S
 ·
  by_cases b : (u : Int) ≠ n.T
  · rw [if_pos a, if_pos b, Z7t (by constructor <;> omega), Int.toNat_natCast]; simp [a, b]
  · rw [if_pos a, if_neg b]; simp [b]
 · rw [if_neg a]; simp [a]
def HtB (m : Nat) (h : List Int) : Prop := h.length = m ∧ ∀ v, v < m → -1000000 ≤ h.getD v 0 ∧ h.getD v 0 ≤ 1000000
theorem HeightsP.hb {h : List Int} (r : Row n m L c) (hh : HeightsP n m h) : HtB m h := ⟨hh.1, fun v hv => by have := hh.2.2.2 v hv; have := r.bd; omega⟩
theorem Zeb {p : Pre} {u j : Nat} (r : Row n m L c) (lr : p.Res.length = L) (hb : HtB m p.H) (hu : u < m) (hj : j < L) : Z6o c p (u : Nat) (j : Nat) = some (decide (Zij c p u j)) := by
 have g1 := r.head hj
 have g2 := hb.2 _ g1.2
 have := hb.1
 have := r.lens.2.1
 unfold Z6o Zij
 simp only [Int.toNat_natCast, g1.1]
 rw [Z7t (by constructor <;> omega)]
 by_cases h : 0 < p.Res.getD j 0
 ·
  rw [if_pos h, Z7t (by constructor <;> omega), Z7t (by constructor <;> omega), Z7t (by constructor <;> omega), Z7t (by constructor <;> omega)]
  exact congrArg some (decide_eq_decide.2 ⟨fun e => ⟨h, e⟩, fun e => e.2⟩)
 ·
  rw [if_neg h]
  exact congrArg some (decide_eq_false fun e => h e.1).symm
theorem s_stuck {p : Pre} {u : Nat} (r : Row n m L c) (lr : p.Res.length = L) (lx : p.Ex.length = m) (hb : HtB m p.H) (hu : u < m) : Ok (Zd4 c p (u : Nat)) (fun b => b = decide (Zes n c p u)) := by
 have hfl := r.first.2.2.2 u hu
 unfold Zd4 Zcc
 refine Ok.bind.2 (Ok.some.2 (Ok.bind.2 (Ok.mono (s_arcs r hu (fun j _ => ∀ i, fs c u ≤ i → i < j → ¬Zij c p u i) (fun _ => ∃ j, fs c u ≤ j ∧ j < fs c (u + 1) ∧ Zij c p u j) (fun i h1 h2 => by omega) fun j s h1 h2 h3 => ?_) ?_)))
 ·
  unfold Zcw
  refine Ok.bind.2 (Zau (Zeb r lr hb hu (by omega)) (Ok.ite.2 ⟨fun h => Ok.some.2 ⟨j, h1, h2, of_decide_eq_true h⟩, fun h => Ok.some.2 fun i h4 h5 => ?_⟩))
  rcases Nat.lt_or_ge i j with h6 | h6
  · exact h3 i h4 h6
  · rw [show i = j by omega]; exact fun h7 => h (decide_eq_true h7)
 ·
  rintro (s | x) h
  ·
   refine Ok.bind.2 (Zau (Zl6 r lx hu) (Ok.some.2 ?_))
   rw [Bool.eq_iff_iff, decide_eq_true_iff, decide_eq_true_iff]
   exact ⟨fun h1 => ⟨h1, h⟩, fun h1 => h1.1⟩
  ·
   obtain ⟨j, h1, h2, h3⟩ := h
   exact Ok.some.2 (decide_eq_false fun h4 => h4.2 j h1 h2 h3).symm
theorem s_all {p : Nat → Bool} {step : List Int → Int → Option ((List Int × Int) ⊕ List Int)} (hm : m ≤ 4096)
    (hs : ∀ (o : List Int) (k : Nat), k ≤ m → o.length ≤ k → step o k = if k < m then (if p k = true then some (.inl (o ++ [(k : Int)], (k : Int) + 1)) else some (.inl (o, (k : Int) + 1))) else some (.inr o)) : Ok (Z28 (fun s => step s.1 s.2) Z4d ([], 0)) (fun o => o = Zix p m) := by
  refine Z7s (fun s => ∃ k : Nat, s.2 = k ∧ k ≤ m ∧ s.1 = Zix p k) (fun s => (m - s.2).toNat) ⟨0, rfl, by omega, rfl⟩ (by unfold Z4d; simp only; omega) ?_
  rintro ⟨o, x⟩ ⟨k, h1, hk, ho⟩ P next exit
  simp only at h1 ho next ⊢
  subst h1; subst ho
  rw [hs _ k hk (Zhv p k)]
  refine Ok.ite.2 ⟨fun hx => Ok.ite.2 ⟨fun h => Ok.some.2 (next _ ⟨k + 1, by simp, by omega, by simp only [Zix]; rw [if_pos h]⟩ (by simp only; omega)), fun h => Ok.some.2 (next _ ⟨k + 1, by simp, by omega, by simp only [Zix]; rw [if_neg h, List.append_nil]⟩ (by simp only; omega))⟩, fun hx => Ok.some.2 (exit _ (by rw [show k = m by omega]))⟩
theorem s_May {p : Pre} (r : Row n m L c) (lr : p.Res.length = L) (lx : p.Ex.length = m) (hb : HtB m p.H) : Zfk c p = some (Zix (fun j => decide (Zil n p.Ex (tl c j) ∧ Zij c p (tl c j) j)) L, Zix (fun u => decide (Zes n c p u)) m) := by
 have b := r.bd
 have hN := r.is.hN
 refine Zmb ?_
 unfold Zfk
 refine Ok.bind.2 (Z7s (fun s => ∃ k : Nat, s.2 = k ∧ k ≤ m ∧ s.1 = Zix (fun j => decide (Zil n p.Ex (tl c j) ∧ Zij c p (tl c j) j)) (fs c k)) (fun s => (m - s.2).toNat) ⟨0, rfl, by omega, by rw [r.first.2.1]; rfl⟩ (by unfold Z4d; simp only; omega) ?_)
 rintro ⟨o, x⟩ ⟨k, h1, hk, ho⟩ P next exit
 simp only at h1 ho next ⊢
 subst h1
 unfold Zed
 rw [hN]
 refine Ok.ite.2 ⟨fun hx => ?_, fun hx => Ok.some.2 (exit _ ?_)⟩
 ·
  have hkm : k < m := by omega
  have hfl := r.first.2.2.2 k hkm
  unfold Zcc
  refine Ok.bind.2 (Ok.some.2 (Ok.bind.2 (Ok.mono (s_arcs r hkm (fun j s => s = Zix (fun j => decide (Zil n p.Ex (tl c j) ∧ Zij c p (tl c j) j)) j) (fun _ => False) ho fun j s g1 g2 g3 => ?_) ?_)))
  ·
   have hjL : j < L := by omega
   have ht := (r.range hjL hkm).1 ⟨g1, g2⟩
   subst g3
   have hle := Zhv (fun j => decide (Zil n p.Ex (tl c j) ∧ Zij c p (tl c j) j)) j
   have j3 : ∀ (b : Bool) (P : List Int ⊕ Empty → Prop), (P (.inl (Zix (fun j => decide (Zil n p.Ex (tl c j) ∧ Zij c p (tl c j) j)) (j + 1)))) → (b = true ↔ (Zil n p.Ex k ∧ Zij c p k j)) → Ok (Z9q (Zix (fun j => decide (Zil n p.Ex (tl c j) ∧ Zij c p (tl c j) j)) j) (j : Nat) b) P := by
    intro b P hP hb
    unfold Z9q
    have e : decide (Zil n p.Ex (tl c j) ∧ Zij c p (tl c j) j) = b := by rw [ht, Bool.eq_iff_iff, decide_eq_true_iff]; exact hb.symm
    refine Ok.ite.2 ⟨fun h => Ok.gd.2 ⟨?_, Ok.some.2 ?_⟩, fun h => Ok.some.2 ?_⟩
    · rw [List.length_append, List.length_singleton]; constructor <;> omega
    · simp only [Zix] at hP; rw [if_pos (e.trans h)] at hP; exact hP
    · simp only [Zix] at hP; rw [if_neg (by rw [e]; exact h), List.append_nil] at hP; exact hP
   unfold Zec
   refine Ok.bind.2 (Zau (Zl6 r lx hkm) (Ok.ite.2 ⟨fun h => Ok.bind.2 (Zau (Zeb r lr hb hkm hjL) (j3 _ _ rfl ?_)), fun h => j3 false _ rfl ⟨fun h2 => (by cases h2), fun h2 => absurd (decide_eq_true h2.1) h⟩⟩))
   rw [decide_eq_true_iff]
   exact ⟨fun h2 => ⟨of_decide_eq_true h, h2⟩, fun h2 => h2.2⟩
  ·
   rintro (s | x) h
   · exact Ok.gd.2 ⟨(by omega), Ok.some.2 (next _ ⟨k + 1, by simp, by omega, h⟩ (by simp only; omega))⟩
   · exact h.elim
 ·
  obtain rfl : k = m := by omega
  unfold Zee Zbi
  refine Ok.bind.2 (Ok.bind.2 (Ok.mono (s_all (m := k) (p := fun u => decide (Zes n c p u)) (step := fun o x => Z7c c c p o x) (by omega) fun o q hq hol => ?_) fun o2 ho2 => ?_))
  ·
   unfold Z7c Zfj
   rw [hN]
   by_cases h : q < k
   ·
    obtain ⟨b, hb1, hb2⟩ := s_stuck r lr lx hb h
    rw [if_pos (by omega), if_pos h, hb1]
    simp only [Option.bind_some]
    rw [hb2]
    by_cases h2 : decide (Zes n c p q) = true
    · rw [if_pos h2, if_pos h2, Z7t (by rw [List.length_append, List.length_singleton]; constructor <;> omega), Z7t (by constructor <;> omega)]
    · rw [if_neg h2, if_neg h2, Z7t (by constructor <;> omega)]
   · rw [if_neg (by omega), if_neg h]
  ·
   unfold Z9o
   refine Ok.some.2 (Ok.some.2 ?_)
   rw [ho, r.first.2.2.1, ho2]
def pushD (c : Csr) (p : Pre) (j : Nat) : Int := min (p.Ex.getD (tl c j) 0) (p.Res.getD j 0)
def pushP (c : Csr) (p : Pre) (j : Nat) : Pre := ⟨mvR c p.Res j (pushD c p j), mvX c p.Ex j (pushD c p j), p.H⟩
theorem PreOK.push {p : Pre} {j : Nat} (h : PreOK n m L c p) (r : Row n m L c) (hj : j < L) (hA : Zil n p.Ex (tl c j)) (hB : Zij c p (tl c j) j) : PreOK n m L c (pushP c p j) := by
 have h1 := hA.2.2
 have h2 := hB.1
 have hD : pushD c p j = min (p.Ex.getD (tl c j) 0) (p.Res.getD j 0) := rfl
 have hlr := h.ok.lr
 have hlx := h.ok.lx
 have ht := r.tlh hj
 have hr := r.rev hj
 refine ⟨h.ok.move r hj (by omega) (by omega), fun v hv hvS => ?_, h.hs, fun k hk h0 => ?_⟩
 ·
  have := h.nn v hv hvS
  simp only [pushP]
  rw [Zi1 r hlx hj]
  by_cases c1 : tl c j = v
  ·
   subst c1
   rw [if_pos rfl, if_neg fun e => ht.2.2.2 e.symm]; omega
  · rw [if_neg c1]; split <;> omega
 ·
  simp only [pushP] at h0 ⊢
  rw [Z9m r hlr hj] at h0
  by_cases c1 : k = rv c j
  ·
   subst c1
   rw [ht.2.1, ht.2.2.1]
   have := hB.2
   omega
  ·
   rw [if_neg c1] at h0
   by_cases c2 : k = j
   · subst c2; exact h.val k hk h2
   · rw [if_neg c2] at h0; exact h.val k hk h0
def lowN (c : Csr) (p : Pre) (m : Nat) (a : Nat) : Nat → Int
  | 0 => 2 * m
  | k + 1 => if 0 < p.Res.getD (a + k) 0 then min (lowN c p m a k) (p.H.getD (hd c (a + k)) 0) else lowN c p m a k
def Zo5 (c : Csr) (p : Pre) (m u : Nat) : Int := lowN c p m (fs c u) (fs c (u + 1) - fs c u)
def Zmd (c : Csr) (p : Pre) (m u : Nat) : Pre := ⟨p.Res, p.Ex, p.H.set u (Zo5 c p m u + 1)⟩
theorem Zoq {p : Pre} {a : Nat} : ∀ {k i : Nat}, i < k → 0 < p.Res.getD (a + i) 0 → lowN c p m a k ≤ p.H.getD (hd c (a + i)) 0
 | 0, _, h, _ => by omega
 | k + 1, i, h, h0 => by
  simp only [lowN]
  rcases Nat.lt_or_ge i k with h1 | h1
  ·
   have := Zoq h1 h0
   split <;> omega
  ·
   have : i = k := by omega
   subst this
   rw [if_pos h0]; omega
theorem Zor (p : Pre) (a : Nat) : ∀ k : Nat, lowN c p m a k ≤ 2 * m ∧ (lowN c p m a k = 2 * m ∨ ∃ i, i < k ∧ 0 < p.Res.getD (a + i) 0 ∧ p.H.getD (hd c (a + i)) 0 = lowN c p m a k)
 | 0 => ⟨Int.le_refl _, .inl rfl⟩
 | k + 1 => by
  obtain ⟨h1, h2⟩ := Zor p a k
  simp only [lowN]
  by_cases h : 0 < p.Res.getD (a + k) 0
  ·
   rw [if_pos h]
   refine ⟨by omega, ?_⟩
   by_cases h3 : p.H.getD (hd c (a + k)) 0 ≤ lowN c p m a k
   · exact .inr ⟨k, by omega, h, by omega⟩
   ·
    rcases h2 with h2 | ⟨i, g1, g2, g3⟩
    · exact .inl (by omega)
    · exact .inr ⟨i, by omega, g2, by omega⟩
  ·
   rw [if_neg h]
   refine ⟨h1, ?_⟩
   rcases h2 with h2 | ⟨i, g1, g2, g3⟩
   · exact .inl h2
   · exact .inr ⟨i, by omega, g2, g3⟩
theorem lowV_le {p : Pre} {u j : Nat} (r : Row n m L c) (hu : u < m) (hj : j < L) (ht : tl c j = u) (h0 : 0 < p.Res.getD j 0) : Zo5 c p m u ≤ p.H.getD (hd c j) 0 := by
 have h1 := (r.range hj hu).2 ht
 have e : fs c u + (j - fs c u) = j := by omega
 have := Zoq (c := c) (m := m) (p := p) (a := fs c u) (k := fs c (u + 1) - fs c u) (i := j - fs c u) (by omega) (by rw [e]; exact h0)
 rw [e] at this; exact this
theorem lowV_at (p : Pre) {u : Nat} (r : Row n m L c) (hu : u < m) : Zo5 c p m u ≤ 2 * m ∧ (Zo5 c p m u = 2 * m ∨ ∃ j, j < L ∧ tl c j = u ∧ 0 < p.Res.getD j 0 ∧ p.H.getD (hd c j) 0 = Zo5 c p m u) := by
 have hfl := r.first.2.2.2 u hu
 obtain ⟨h1, h2⟩ := Zor (c := c) (m := m) p (fs c u) (fs c (u + 1) - fs c u)
 refine ⟨h1, ?_⟩
 rcases h2 with h2 | ⟨i, g1, g2, g3⟩
 · exact .inl h2
 · exact .inr ⟨fs c u + i, by omega, (r.range (by omega) hu).1 ⟨by omega, by omega⟩, g2, g3⟩
def OpenJ (c : Csr) (L : Nat) (R : List Int) (u v : Nat) : Prop := ∃ j, j < L ∧ tl c j = u ∧ hd c j = v ∧ 0 < R.getD j 0
theorem OpenJ.lt {R : List Int} (r : Row n m L c) {u v : Nat} (h : OpenJ c L R u v) : u < m ∧ v < m := by
 obtain ⟨j, h1, h2, h3, _⟩ := h
 exact ⟨by rw [← h2]; exact (r.tlh h1).1, by rw [← h3]; exact (r.head h1).2⟩
theorem Zfl {H : Nat → Int} {G : Nat → Nat → Prop} (hG : ∀ u v, G u v → H u ≤ H v + 1) {u v : Nat} (hr : Reach G u v) : ∀ k : Int, H v ≤ k → k ≤ H u → ∃ w, Reach G u w ∧ H w = k := by
 induction hr with
 | refl => intro k h1 h2; exact ⟨u, .refl, by omega⟩
 | step h1 h2 ih =>
  rename_i x y
  intro k h3 h4
  by_cases c : H x ≤ k
  · exact ih k c h4
  ·
   have := hG _ _ h2
   exact ⟨y, .step h1 h2, by omega⟩
theorem pigeon : ∀ (m : Nat) (f : Nat → Nat), (∀ k, k ≤ m → f k < m) → ∃ i j, i < j ∧ j ≤ m ∧ f i = f j
 | 0, f, h => absurd (h 0 (Nat.le_refl _)) (by omega)
 | m + 1, f, h => by
  by_cases e : ∃ i, i ≤ m ∧ f i = f (m + 1)
  ·
   obtain ⟨i, h1, h2⟩ := e
   exact ⟨i, m + 1, by omega, by omega, h2⟩
  ·
   have ne : ∀ i, i ≤ m → f i ≠ f (m + 1) := fun i hi h2 => e ⟨i, hi, h2⟩
   obtain ⟨i, j, h1, h2, h3⟩ := pigeon m (fun k => if f (m + 1) < f k then f k - 1 else f k) fun k hk => by
    have a := h k (by omega)
    have a2 := h (m + 1) (by omega)
    have a3 := ne k hk
    split <;> omega
   have a1 := ne i (by omega)
   have a2 := ne j (by omega)
   refine ⟨i, j, h1, by omega, ?_⟩
   split at h3 <;> split at h3 <;> omega
theorem Zgm {H : Nat → Int} {a : Int} (h : ∀ k : Nat, k ≤ m → ∃ w, w < m ∧ H w = a + k) : False := by
 have : ∀ k : Nat, ∃ w, k ≤ m → w < m ∧ H w = a + k := fun k => by
  by_cases c : k ≤ m
  · obtain ⟨w, hw⟩ := h k c; exact ⟨w, fun _ => hw⟩
  · exact ⟨0, fun h => absurd h c⟩
 obtain ⟨f, hf⟩ := Classical.axiomOfChoice this
 obtain ⟨i, j, h1, h2, h3⟩ := pigeon m f fun k hk => (hf k hk).1
 have a1 := (hf i (by omega)).2
 have a2 := (hf j h2).2
 rw [h3] at a1
 omega
theorem Zl9 {R : List Int} (r : Row n m L c) {u v : Nat} (hu : u < m) (h : Reach (OpenJ c L R) u v) : v < m := by
 induction h with
 | refl => exact hu
 | step _ h2 _ => exact (h2.lt r).2
theorem Zgh {R X : List Int} {S u : Nat} (r : Row n m L c) (h : ResOK n m L c R X) (hS : n.S = S) (nn : ∀ v, v < m → v ≠ S → 0 ≤ X.getD v 0) (hu : u < m) (hx : 0 < X.getD u 0) : Reach (OpenJ c L R) u S := by
 refine Classical.byContradiction fun hno => ?_
 let q : Nat → Bool := fun v => @decide (¬Reach (OpenJ c L R) u v) (Classical.propDecidable _)
 have hq : ∀ v, q v = true ↔ ¬Reach (OpenJ c L R) u v := fun v => @decide_eq_true_iff _ (Classical.propDecidable _)
 obtain ⟨cl, hcl⟩ : ∃ cl : List Bool, cl = (List.range m).map q := ⟨_, rfl⟩
 have inc : ∀ v : Nat, v < m → (inS cl v = true ↔ ¬Reach (OpenJ c L R) u v) := fun v hv => by
  unfold inS
  rw [hcl, Int.toNat_natCast, List.getD_eq_getElem?_getD, List.getElem?_map, List.getElem?_range hv]
  exact hq v
 have inf : ∀ v : Nat, v < m → (inS cl v = false ↔ Reach (OpenJ c L R) u v) := fun v hv => by
  rw [Bool.eq_false_iff, ne_eq, inc v hv]; exact Classical.not_not
 have he := r.he
 have hw := h.within r
 have hac : ∀ k, k ≤ n.Arcs.length → acK n.Arcs (flN n.Arcs R) cl k ≤ 0 := by
  intro k
  induction k with
  | zero => intro _; simp [acK]
  | succ k ih =>
   intro hk
   have h0 := he k hk false
   have h1 := he k hk true
   simp only [vtx, Bool.false_eq_true, if_false, if_true] at h0 h1
   have hf := (hw.2.2 k hk).1
   have ih := ih (by omega)
   simp only [acK]
   by_cases c1 : inS cl (n.Arcs.getD k default).fr = true ∧ inS cl (n.Arcs.getD k default).to = false
   ·
    have hz : (flN n.Arcs R).getD k 0 = 0 := by
     rw [Z7i hk]
     by_cases e : (n.Arcs.getD k default).fr = (n.Arcs.getD k default).to
     · rw [if_pos e]
     ·
      rw [if_neg e]
      obtain ⟨-, a2, a3⟩ := r.cpPos hk e true
      have z := r.is.ok.hat k hk e true
      have z2 := r.is.ok.hat k hk e false
      have nnR := (h.res _ a3).1
      refine Int.le_antisymm (Int.not_lt.1 fun hpos => ?_) nnR
      obtain ⟨p, hp⟩ : ∃ p : Nat, (n.Arcs.getD k default).fr = p := ⟨(n.Arcs.getD k default).fr.toNat, by omega⟩
      obtain ⟨t, ht⟩ : ∃ t : Nat, (n.Arcs.getD k default).to = t := ⟨(n.Arcs.getD k default).to.toNat, by omega⟩
      rw [hp, ht] at c1
      have r1 := (inf t (by omega)).1 c1.2
      refine (inc p (by omega)).1 c1.1 (.step r1 ⟨_, a3, ?_, ?_, hpos⟩)
      · unfold tl hd; rw [a2]; simp only [Bool.not_true]; rw [z2.1]; simp only [vtx, Bool.not_false, if_true, ht]; omega
      · unfold hd; rw [z.1]; simp only [vtx, Bool.not_true, Bool.false_eq_true, if_false, hp]; omega
    rw [if_pos c1, hz]; split <;> omega
   · rw [if_neg c1]; split <;> omega
 have hpc : ∀ j, j ≤ m → 0 ≤ Zey n.Arcs (flN n.Arcs R) cl j n.Arcs.length ∧ (u < j → 0 < Zey n.Arcs (flN n.Arcs R) cl j n.Arcs.length) := by
  intro j
  induction j with
  | zero => intro _; rw [show ((0 : Nat) : Int) = 0 from rfl, Ze1 he _ (Nat.le_refl _)]; exact ⟨Int.le_refl _, fun h => by omega⟩
  | succ j ih =>
   intro hj
   obtain ⟨i1, i2⟩ := ih (by omega)
   rw [Int.natCast_succ, Ze0]
   by_cases c1 : inS cl j = false
   ·
    rw [if_pos c1, ← h.ex j (by omega)]
    have hjS : j ≠ S := fun e => hno (by rw [← e]; exact (inf j (by omega)).1 c1)
    have := nn j (by omega) hjS
    refine ⟨by omega, fun hlt => ?_⟩
    by_cases e : u = j
    · subst e; omega
    · have := i2 (by omega); omega
   ·
    rw [if_neg c1]
    refine ⟨by omega, fun hlt => ?_⟩
    by_cases e : u = j
    · subst e; exact absurd ((inf u hu).2 .refl) c1
    · have := i2 (by omega); omega
 have := (hpc m (Nat.le_refl _)).2 hu
 rw [Zff he _ (Nat.le_refl _)] at this
 have := hac _ (Nat.le_refl _)
 omega
theorem Zj8 {R : List Int} {H : Nat → Int} {S u : Nat} (r : Row n m L c) (hu : u < m) (hval : ∀ j, j < L → 0 < R.getD j 0 → H (tl c j) ≤ H (hd c j) + 1) (hHS : H S = m) (hr : Reach (OpenJ c L R) u S) : H u < 2 * m := by
 refine Int.not_le.1 fun hge => ?_
 refine Zgm (m := m) (H := H) (a := m) fun k hk => ?_
 obtain ⟨w, h1, h2⟩ := Zfl (H := H) (G := OpenJ c L R) (fun a b ⟨j, g1, g2, g3, g4⟩ => by rw [← g2, ← g3]; exact hval j g1 g4) hr (m + k) (by omega) (by omega)
 exact ⟨w, Zl9 r hu h1, h2⟩
theorem PreOK.lift {p : Pre} {u : Nat} (h : PreOK n m L c p) (r : Row n m L c) (hu : u < m) (hS : Zes n c p u) : PreOK n m L c (Zmd c p m u) ∧ p.H.getD u 0 ≤ Zo5 c p m u := by
 obtain ⟨⟨S, hnS, -, hSm⟩, ⟨T, hnT, -, hTm⟩, -, -⟩ := r.ends
 have lh := h.hs.1
 obtain ⟨⟨hA1, hA2, hA3⟩, hB⟩ := hS
 have huS : u ≠ S := by omega
 have huT : u ≠ T := by omega
 have hlow : p.H.getD u 0 ≤ Zo5 c p m u := by
  have h2 := h.hs.2.2.2 u hu
  rcases (lowV_at p r hu).2 with h1 | ⟨j, h1, h3, h4, h5⟩
  · omega
  ·
   have h6 := h.val j h1 h4
   rw [h3] at h6
   have h7 := (r.range h1 hu).2 h3
   have h8 := hB j h7.1 h7.2
   have : p.H.getD u 0 ≠ p.H.getD (hd c j) 0 + 1 := fun e => h8 ⟨h4, e⟩
   omega
 have hHu : ∀ v, (p.H.set u (Zo5 c p m u + 1)).getD v 0 = if v = u then Zo5 c p m u + 1 else p.H.getD v 0 := fun v => by
  rw [Zdd]
  by_cases e : v = u
  · rw [if_pos ⟨e.symm, by omega⟩, if_pos e]
  · rw [if_neg fun h => e h.1.symm, if_neg e]
 have hval : ∀ j, j < L → 0 < p.Res.getD j 0 → (p.H.set u (Zo5 c p m u + 1)).getD (tl c j) 0 ≤ (p.H.set u (Zo5 c p m u + 1)).getD (hd c j) 0 + 1 := fun j hj h0 => by
  have ht := r.tlh hj
  rw [hHu, hHu]
  by_cases c1 : tl c j = u
  ·
   have := lowV_le r hu hj c1 h0
   rw [if_pos c1, if_neg fun e => ht.2.2.2 (c1.trans e.symm)]; omega
  ·
   rw [if_neg c1]
   have := h.val j hj h0
   by_cases c2 : hd c j = u
   · rw [if_pos c2]; rw [c2] at this; omega
   · rw [if_neg c2]; exact this
 have hreach := Zgh r h.ok hnS (fun v hv hvS => h.nn v hv (by omega)) hu hA3
 have hbound := Zj8 (H := fun v => (p.H.set u (Zo5 c p m u + 1)).getD v 0) r hu hval (by simp only [hHu]; rw [if_neg fun e => huS e.symm]; exact h.hs.2.1 S hnS) hreach
 simp only [hHu, if_true] at hbound
 refine ⟨⟨h.ok, h.nn, ⟨by simp [Zmd, lh], fun s hs => ?_, fun t ht => ?_, fun v hv => ?_⟩, hval⟩, hlow⟩
 · simp only [Zmd]; rw [hHu, if_neg (by omega)]; exact h.hs.2.1 s hs
 · simp only [Zmd]; rw [hHu, if_neg (by omega)]; exact h.hs.2.2.1 t ht
 ·
  have h1 := h.hs.2.2.2 v hv
  have h2 := h.hs.2.2.2 u hu
  simp only [Zmd]; rw [hHu]
  by_cases e : v = u
  · rw [if_pos e]; omega
  · rw [if_neg e]; exact h1
end row
end Go.Acq
namespace Go.Acq
open Go
set_option linter.unusedSimpArgs false
theorem Zj9 {α : Type} {z v : α} {k i : Int} : ∀ mp : List (Int × α), Zot z i (putM k v mp) = if i = k then v else Zot z i mp
 | [] => by simp only [putM, Zot]
 | x :: mp => by
  simp only [putM]
  by_cases h : k = x.1
  ·
   rw [if_pos h]; simp only [Zot]
   by_cases e : i = k
   · rw [if_pos e, if_pos e]
   · rw [if_neg e, if_neg e, if_neg (by omega)]
  ·
   rw [if_neg h]; simp only [Zot]
   by_cases e : i = x.1
   · rw [if_pos e, if_pos e, if_neg (by omega)]
   · rw [if_neg e, if_neg e, Zj9 mp]
theorem Zi0 {α : Type} {v : α} {k : Int} : ∀ {mp : List (Int × α)} {x : Int × α}, x ∈ putM k v mp → x.1 = k ∨ ∃ y, y ∈ mp ∧ y.1 = x.1
 | [], x, h => by simp only [putM, List.mem_singleton] at h; left; rw [h]
 | y :: mp, x, h => by
  simp only [putM] at h
  by_cases e : k = y.1
  ·
   rw [if_pos e] at h
   rcases List.mem_cons.1 h with h | h
   · left; rw [h]
   · exact .inr ⟨x, List.mem_cons_of_mem _ h, rfl⟩
  ·
   rw [if_neg e] at h
   rcases List.mem_cons.1 h with h | h
   · exact .inr ⟨y, List.mem_cons_self, by rw [h]⟩
   ·
    rcases Zi0 h with h | ⟨z, h1, h2⟩
    · exact .inl h
    · exact .inr ⟨z, List.mem_cons_of_mem _ h1, h2⟩
def Apart {α : Type} : List (Int × α) → Prop
  | [] => True
  | x :: mp => (∀ y, y ∈ mp → y.1 ≠ x.1) ∧ Apart mp
theorem Apart.put {α : Type} {v : α} {k : Int} : ∀ {mp : List (Int × α)}, Apart mp → Apart (putM k v mp)
 | [], _ => ⟨fun y h => (by cases h), trivial⟩
 | x :: mp, h => by
  simp only [putM]
  by_cases e : k = x.1
  · rw [if_pos e]; exact ⟨fun y hy => by rw [e]; exact h.1 y hy, h.2⟩
  ·
   rw [if_neg e]
   refine ⟨fun y hy => ?_, Apart.put h.2⟩
   rcases Zi0 hy with h1 | ⟨z, h1, h2⟩
   · rw [h1]; exact e
   · rw [← h2]; exact h.1 z h1
theorem Apart.at {α : Type} {z : α} (d : Int × α) : ∀ {mp : List (Int × α)} {j : Nat}, Apart mp → j < mp.length → Zot z (mp.getD j d).1 mp = (mp.getD j d).2
 | [], j, _, h => by simp at h
 | x :: mp, 0, _, _ => by simp [Zot]
 | x :: mp, j + 1, h, hj => by
  have hj' : j < mp.length := by simpa using hj
  have hm := h.1 _ (Z8w hj' d)
  show Zot z (mp.getD j d).1 (x :: mp) = (mp.getD j d).2
  simp only [Zot]
  rw [if_neg hm]; exact Apart.at d h.2 hj'
def hok (n : Net) (h : Hop) : Prop := 0 ≤ h.Arc ∧ h.Arc < n.Arcs.length
def cntH (l : List Hop) (i : Int) : Nat → Int
  | 0 => 0
  | k + 1 => cntH l i k + (if (l.getD k default).Arc = i then (if (l.getD k default).Back = true then -1 else 1) else 0)
structure MapIs (n : Net) (mp : List (Int × Int)) (l : List Hop) (k : Nat) : Prop where
  val : ∀ i, Zot 0 i mp = cntH l i k
  key : ∀ x, x ∈ mp → 0 ≤ x.1 ∧ x.1 < n.Arcs.length
  apart : Apart mp
theorem MapIs.put {n : Net} {mp : List (Int × Int)} {l : List Hop} {k : Nat} (h : MapIs n mp l k) (hk : hok n (l.getD k default)) {v : Int} (hv : v = cntH l (l.getD k default).Arc k + (if (l.getD k default).Back = true then -1 else 1)) : MapIs n (putM (l.getD k default).Arc v mp) l (k + 1) := by
 refine ⟨fun i => ?_, fun x hx => ?_, h.apart.put⟩
 ·
  rw [Zj9]
  simp only [cntH]
  by_cases e : i = (l.getD k default).Arc
  · rw [if_pos e, if_pos e.symm, hv, e]
  · rw [if_neg e, if_neg (fun h => e h.symm), h.val, Int.add_zero]
 ·
  rcases Zi0 hx with h1 | ⟨y, h1, h2⟩
  · rw [h1]; exact hk
  · rw [← h2]; exact h.key y h1
end Go.Acq
namespace Go.Acq
open Go
set_option linter.unusedSimpArgs false
def fits (n : Net) (f : List Int) (i : Nat) (c d : Int) : Prop := 0 ≤ f.getD i 0 + d * c ∧ f.getD i 0 + d * c ≤ (n.Arcs.getD i default).cap
end Go.Acq
namespace Go.Acq
open Go
set_option linter.unusedSimpArgs false
section row
variable {n : Net} {m L : Nat} {c : Csr}
def StepP (n : Net) (m L : Nat) (c : Csr) (was p : Pre) : Prop :=
  (∃ j, j < L ∧ Zil n was.Ex (tl c j) ∧ Zij c was (tl c j) j ∧ p = pushP c was j) ∨ (∃ u, u < m ∧ Zes n c was u ∧ p = Zmd c was m u)
theorem PreOK.hb {p : Pre} (h : PreOK n m L c p) (r : Row n m L c) : HtB m p.H := h.hs.hb r
theorem PreOK.step {was p : Pre} (h : PreOK n m L c was) (r : Row n m L c) (hs : StepP n m L c was p) : PreOK n m L c p := by
 rcases hs with ⟨j, h1, h2, h3, rfl⟩ | ⟨u, h1, h2, rfl⟩
 · exact h.push r h1 h2 h3
 · exact (h.lift r h1 h2).1
def arcsOf (n : Net) (L : Nat) (c : Csr) (p : Pre) : List Int := Zix (fun j => decide (Zil n p.Ex (tl c j) ∧ Zij c p (tl c j) j)) L
def vertsOf (n : Net) (m : Nat) (c : Csr) (p : Pre) : List Int := Zix (fun u => decide (Zes n c p u)) m
theorem PreOK.may {p : Pre} (h : PreOK n m L c p) (r : Row n m L c) : Zfk c p = some (arcsOf n L c p, vertsOf n m c p) := s_May r h.ok.lr h.ok.lx (h.hb r)
end row
end Go.Acq
namespace Go.Acq
open Go
set_option linter.unusedSimpArgs false
set_option linter.unusedVariables false
section row
variable {n : Net} {m L : Nat} {c : Csr}
theorem open_j {R : List Int} (r : Row n m L c) (hR : ∀ j, j < L → 0 ≤ R.getD j 0 ∧ R.getD j 0 + R.getD (rv c j) 0 = cp c j) {u v : Nat} (h : Z8x n (flN n.Arcs R) u v) : OpenJ c L R u v := by
 obtain ⟨i, hi, hne, h⟩ := h
 rw [Z7i hi, if_neg hne] at h
 have ha : ∀ s, hd c (pos n.Arcs i s) = (vtx (n.Arcs.getD i default) (!s)).toNat := fun s => by unfold hd; rw [(r.is.ok.hat i hi hne s).1]
 have ht : ∀ s, tl c (pos n.Arcs i s) = (vtx (n.Arcs.getD i default) s).toNat := fun s => by unfold tl; rw [(r.cpPos hi hne s).2.1, ha, Bool.not_not]
 have e0 := r.he i hi false
 have e1 := r.he i hi true
 obtain ⟨c1, c2, c3⟩ := r.cpPos hi hne false
 obtain ⟨d1, d2, d3⟩ := r.cpPos hi hne true
 have hf := hR _ c3
 simp only [Bool.not_false, Bool.not_true] at c2 d2
 rw [c2, c1] at hf
 rcases h with ⟨a1, a2, a3⟩ | ⟨a1, a2, a3⟩
 ·
  refine ⟨pos n.Arcs i false, c3, ?_, ?_, by omega⟩
  · rw [ht]; simp only [vtx, Bool.false_eq_true, if_false]; omega
  · rw [ha]; simp only [vtx, Bool.not_false, if_true]; omega
 ·
  refine ⟨pos n.Arcs i true, d3, ?_, ?_, by omega⟩
  · rw [ht]; simp only [vtx, if_true]; omega
  · rw [ha]; simp only [vtx, Bool.not_true, Bool.false_eq_true, if_false]; omega
theorem PreOK.far {p : Pre} {S T : Nat} (h : PreOK n m L c p) (r : Row n m L c) (hS : n.S = S) (hT : n.T = T) : ¬Reach (Z8x n (flN n.Arcs p.Res)) S T := fun hr => by
 obtain ⟨⟨S', hS', -, hSm⟩, ⟨T', hT', -, hTm⟩, -, -⟩ := r.ends
 have hr2 : Reach (OpenJ c L p.Res) S T := hr.mono fun u v ho => open_j r h.ok.res ho
 have hp := Zfl (H := fun v => p.H.getD v 0) (G := OpenJ c L p.Res) (fun u v ⟨j, hj, h1, h2, h3⟩ => by have := h.val j hj h3; rw [h1, h2] at this; exact this) hr2
 have h1 := h.hs.2.1 S hS
 have h2 := h.hs.2.2.1 T hT
 simp only [h1, h2] at hp
 refine Zgm (m := m) (H := fun v => p.H.getD v 0) (a := 0) fun k hk => ?_
 obtain ⟨w, hw, he⟩ := hp k (by omega) (by omega)
 exact ⟨w, Zl9 r (by omega) hw, by omega⟩
theorem PreOK.flow {p : Pre} (h : PreOK n m L c p) (r : Row n m L c) (ha : ∀ u, u < m → ¬Zil n p.Ex u) : Zo6 n (flN n.Arcs p.Res) (fun x => x = 0) [n.S, n.T] := by
 refine ⟨h.ok.within r, fun v hv => ?_⟩
 have hm := r.hm
 by_cases hc : (v : Int) ∈ [n.S, n.T]
 · exact .inr hc
 ·
  left
  simp only [List.mem_cons, List.not_mem_nil, or_false, not_or] at hc
  have hvm : v < m := by omega
  have h1 := h.nn v hvm hc.1
  have h2 := h.ok.ex v hvm
  have h3 : ¬0 < p.Ex.getD v 0 := fun h0 => ha v hvm ⟨hc.1, hc.2, h0⟩
  omega
theorem to_tight {f : List Int} {b : List Bool} {T : Nat} (he : Z3v m n.Arcs) (hb : ∀ v, v < m → (b.getD v false = true ↔ ¬Reach (Z8x n f) v T)) : ∀ i, i < n.Arcs.length → Zcu n.Arcs f b i := fun i hi => by
 have e0 := he i hi false
 have e1 := he i hi true
 simp only [vtx, Bool.false_eq_true, if_false, if_true] at e0 e1
 obtain ⟨p, hp⟩ : ∃ p : Nat, (n.Arcs.getD i default).fr = p := ⟨(n.Arcs.getD i default).fr.toNat, by omega⟩
 obtain ⟨q, hq⟩ : ∃ q : Nat, (n.Arcs.getD i default).to = q := ⟨(n.Arcs.getD i default).to.toNat, by omega⟩
 rw [hp] at e0
 rw [hq] at e1
 unfold Zcu inS
 rw [hp, hq, Int.toNat_natCast, Int.toNat_natCast]
 have step : ∀ u v : Nat, u < m → v < m → Z8x n f u v → b.getD u false = true → b.getD v false = true := fun u v hu hv ho h => (hb v hv).2 fun h7 => (hb u hu).1 h (Reach.trans (.step .refl ho) h7)
 refine ⟨fun h4 h5 => Int.not_lt.1 fun h6 => ?_, fun h4 h5 => Int.not_lt.1 fun h6 => ?_⟩
 ·
  have hne : (n.Arcs.getD i default).fr ≠ (n.Arcs.getD i default).to := fun e => by rw [show p = q by omega, h5] at h4; cases h4
  rw [step p q (by omega) (by omega) ⟨i, hi, hne, .inl ⟨hp, hq, h6⟩⟩ h4] at h5; cases h5
 ·
  have hne : (n.Arcs.getD i default).fr ≠ (n.Arcs.getD i default).to := fun e => by rw [show p = q by omega, h5] at h4; cases h4
  rw [step q p (by omega) (by omega) ⟨i, hi, hne, .inr ⟨hq, hp, h6⟩⟩ h5] at h4; cases h4
end row
end Go.Acq
namespace Go.Acq
open Go
set_option linter.unusedSimpArgs false
set_option linter.unusedVariables false
theorem Zop : Z45 = some true := by decide +kernel
theorem aw24 : Ok (Option.bind Z45 fun r => some r) (fun a => a = true) := Ok.bind.2 (Zau Zop (Ok.some.2 rfl))
section
variable {n : Net} {m : Nat} {f : List Int} {s : List Bool}
theorem Zlb (hm : n.N = m) (he : Z3v m n.Arcs) (hA : Zo6 n f (fun x => x = 0) [n.S, n.T]) (hST : n.S ≠ n.T) (hS : 0 ≤ n.S ∧ n.S < m) (hT : 0 ≤ n.T ∧ n.T < m) : ex n.Arcs f n.S n.Arcs.length = -ex n.Arcs f n.T n.Arcs.length := by
 have key : ∀ j : Nat, j ≤ m → part n.Arcs f j n.Arcs.length = (if n.S < j then ex n.Arcs f n.S n.Arcs.length else 0) + (if n.T < j then ex n.Arcs f n.T n.Arcs.length else 0) := fun j => by
  induction j with
  | zero => intro _; rw [if_neg (by omega), if_neg (by omega)]; exact Zj4 he _ (Nat.le_refl _)
  | succ j ih =>
   intro hj
   have h1 := ih (by omega)
   have h2 := Zj3 (al := n.Arcs) (f := f) (j : Int) n.Arcs.length
   rw [show ((j + 1 : Nat) : Int) = (j : Int) + 1 by omega, h2, h1]
   have hA1 : n.S ≠ (j : Int) ∨ ex n.Arcs f n.S n.Arcs.length = ex n.Arcs f j n.Arcs.length := (Decidable.em (n.S = (j : Int))).elim (fun e => .inr (by rw [e])) .inl
   have hA2 : n.T ≠ (j : Int) ∨ ex n.Arcs f n.T n.Arcs.length = ex n.Arcs f j n.Arcs.length := (Decidable.em (n.T = (j : Int))).elim (fun e => .inr (by rw [e])) .inl
   have h3 : ex n.Arcs f j n.Arcs.length = 0 ∨ (j : Int) = n.S ∨ (j : Int) = n.T := by simpa using hA.2 j (by omega)
   split <;> split <;> split <;> split <;> omega
 have h1 := key m (Nat.le_refl _)
 rw [Zlc he _ (Nat.le_refl _), if_pos hS.2, if_pos hT.2] at h1
 omega
theorem Zm2 (hf : f.length = n.Arcs.length) (hk : Z6m n.N n.S n.T n.Arcs = 0) (hl : lenok n.Arcs.length) : Ok (Z2x ⟨n, f, s, []⟩) (fun b => b = true ↔ FwithinP n f) := by
 unfold Z2x
 refine Ok.bind.2 (Z7s (fun x => ∃ k : Nat, x = k ∧ k ≤ n.Arcs.length ∧ ∀ i, i < k → 0 ≤ f.getD i 0 ∧ f.getD i 0 ≤ (n.Arcs.getD i default).cap) (fun x => (n.Arcs.length - x).toNat) ⟨0, rfl, by omega, fun i hi => by omega⟩ (by unfold Z4d; omega) ?_)
 rintro x ⟨k, rfl, hkl, hI⟩ P next exit
 unfold Z2w
 simp only [Int.toNat_natCast]
 refine Ok.ite.2 ⟨fun hx => ?_, fun hx => Ok.some.2 (exit _ ?_)⟩
 ·
  refine Ok.gd.2 ⟨(by omega), Ok.gd.2 ⟨(by omega), Ok.ite.2 ⟨fun h => Ok.some.2 (exit _ (Ok.some.2 ⟨fun h => (by cases h), fun h2 => by have := (h2.2.2 k (by omega)).1; omega⟩)), fun h => Ok.gd.2 ⟨(by omega), Ok.ite.2 ⟨fun h' => Ok.some.2 (exit _ (Ok.some.2 ⟨fun h => (by cases h), fun h2 => by have := (h2.2.2 k (by omega)).2; omega⟩)), fun h' => Ok.gd.2 ⟨(by omega), Ok.some.2 (next _ ⟨k + 1, by simp, by omega, fun i hi => ?_⟩ (by omega))⟩⟩⟩⟩⟩⟩
  rcases Nat.lt_or_ge i k with h4 | h4
  · exact hI i h4
  ·
   obtain rfl : i = k := by omega
   omega
 ·
  obtain rfl : k = n.Arcs.length := by omega
  exact Ok.some.2 ⟨fun _ => ⟨hk, hf, hI⟩, fun _ => rfl⟩
theorem s_keeps (hm : n.N = m) (hl : lenok n.Arcs.length) (hw : FwithinP n f) : Ok (Z3d ⟨n, f, s, []⟩) (fun t => t.2.out.length = m ∧ (∀ v : Nat, v < m → t.2.out.getD v 0 = -ex n.Arcs f v n.Arcs.length) ∧ (t.1 = true ↔ Zo6 n f (fun x => x = 0) [n.S, n.T])) := by
 have hz := Z1g hw.1
 have he : Z3v m n.Arcs := Z60 (by rw [← hm]; exact hz.2.2.2.1)
 have hfl := hw.2.1
 unfold Z3d
 rw [hm]
 simp only [Int.toNat_natCast]
 refine Ok.gd.2 ⟨(by omega), Ok.bind.2 ?_⟩
 refine Z7s (fun s => ∃ k : Nat, s.2 = k ∧ k ≤ n.Arcs.length ∧ s.1.length = m ∧ ∀ v : Nat, v < m → s.1.getD v 0 = -ex n.Arcs f v k) (fun s => (n.Arcs.length - s.2).toNat) ⟨0, rfl, by omega, List.length_replicate, fun v _ => by rw [Z32]; rfl⟩ (by unfold Z4d; simp only; omega) ?_
 rintro ⟨xs, x⟩ ⟨k, h1, hk, h3, h4⟩ P next exit
 simp only at h1 h3 h4 next ⊢
 subst h1
 unfold Z36
 simp only [Int.toNat_natCast]
 refine Ok.ite.2 ⟨fun hx => ?_, fun hx => ?_⟩
 ·
  have hkl : k < n.Arcs.length := by omega
  have e0 := he k hkl false
  have e1 := he k hkl true
  simp only [vtx, Bool.false_eq_true, if_false, if_true] at e0 e1
  obtain ⟨p, hp⟩ : ∃ p : Nat, (n.Arcs.getD k default).fr = p := ⟨(n.Arcs.getD k default).fr.toNat, by omega⟩
  obtain ⟨q, hq⟩ : ∃ q : Nat, (n.Arcs.getD k default).to = q := ⟨(n.Arcs.getD k default).to.toNat, by omega⟩
  have hfk := hw.2.2 k hkl
  have b0 := Zmg (al := n.Arcs) (f := f) (p : Int) (fun i hi => (hw.2.2 i hi).1) k hk
  have b1 := Zmg (al := n.Arcs) (f := f) (q : Int) (fun i hi => (hw.2.2 i hi).1) k hk
  have t0 := hw.tot k hk
  have t1 := hw.tot (k + 1) hkl
  simp only [tot] at t1
  rw [hp] at e0
  rw [hq] at e1
  have v0 := h4 p (by omega)
  have v1 := h4 q (by omega)
  simp only [hp, hq, Int.toNat_natCast, v0, Zdd, List.length_set, h3]
  refine Ok.gd.2 ⟨(by omega), Ok.gd.2 ⟨(by omega), Ok.gd.2 ⟨(by omega), Ok.gd.2 ⟨(by omega), Ok.gd.2 ⟨(by omega), Ok.gd.2 ⟨(by omega), Ok.gd.2 ⟨(by omega), Ok.gd.2 ⟨by split <;> constructor <;> omega, Ok.gd.2 ⟨(by omega), Ok.gd.2 ⟨(by omega), Ok.some.2 (next _ ⟨k + 1, by simp, by omega, by simp [h3], fun v hv => ?_⟩ (by simp only; omega))⟩⟩⟩⟩⟩⟩⟩⟩⟩⟩
  simp only [Zdd, List.length_set, h3, ex, hp, hq]
  rw [h4 v hv]
  by_cases c1 : p = v
  ·
   subst c1
   by_cases c2 : q = p
   ·
    subst c2
    simp only [true_and, if_true]
    rw [if_pos (by omega)]; simp [show q < m by omega]
   · rw [if_neg (fun h => c2 h.1), if_pos ⟨rfl, by omega⟩, if_pos rfl, if_neg (by omega)]; omega
  ·
   by_cases c2 : q = v
   ·
    subst c2
    rw [if_pos ⟨rfl, by omega⟩, if_neg (fun h => c1 h.1), if_neg (by omega), if_pos rfl, v1]; omega
   · rw [if_neg (fun h => c2 h.1), if_neg (fun h => c1 h.1), if_neg (by omega), if_neg (by omega)]; omega
 ·
  obtain rfl : k = n.Arcs.length := by omega
  refine Ok.some.2 (exit _ ?_)
  unfold Z4b
  refine Ok.bind.2 (Z7s (fun x => ∃ k : Nat, x = k ∧ k ≤ m ∧ ∀ v : Nat, v < k → ex n.Arcs f v n.Arcs.length = 0 ∨ (v : Int) ∈ [n.S, n.T]) (fun x => (m - x).toNat) ⟨0, rfl, by omega, fun v hv => by omega⟩ (by unfold Z4d; omega) ?_)
  rintro x ⟨k, rfl, hkl, hI⟩ P2 next2 exit2
  unfold Z35
  simp only [Int.toNat_natCast, h3]
  refine Ok.ite.2 ⟨fun hx => ?_, fun hx => Ok.some.2 (exit2 _ ?_)⟩
  ·
   have hkm : k < m := by omega
   have hv := h4 k hkm
   have go : (ex n.Arcs f k n.Arcs.length = 0 ∨ (k : Int) ∈ [n.S, n.T]) → P2 (.inl ((k : Int) + 1)) := fun h => next2 _ ⟨k + 1, by simp, by omega, fun v hv => by
    rcases Nat.lt_or_ge v k with h5 | h5
    · exact hI v h5
    ·
     obtain rfl : v = k := by omega
     exact h⟩ (by omega)
   rw [hv]
   refine Ok.gd.2 ⟨(by omega), Ok.ite.2 ⟨fun h => Ok.ite.2 ⟨fun hS => Ok.ite.2 ⟨fun hT => Ok.some.2 (exit2 _ (Ok.some.2 ⟨h3, h4, fun h => (by cases h), fun hA => ?_⟩)), fun hT => Ok.gd.2 ⟨(by omega), Ok.some.2 (go (.inr (by simp; omega)))⟩⟩, fun hS => Ok.gd.2 ⟨(by omega), Ok.some.2 (go (.inr (by simp; omega)))⟩⟩, fun h => Ok.gd.2 ⟨(by omega), Ok.some.2 (go (.inl (by omega)))⟩⟩⟩
   rcases hA.2 k (by omega) with h6 | h6
   · omega
   ·
    have : (k : Int) = n.S ∨ (k : Int) = n.T := by simpa using h6
    omega
  ·
   obtain rfl : k = m := by omega
   unfold Z4a
   exact Ok.some.2 ⟨h3, h4, fun _ => ⟨hw, fun v hv => hI v (by omega)⟩, fun _ => rfl⟩
theorem s_parts (hs : s.length = m) (hS : 0 ≤ n.S ∧ n.S < m) (hT : 0 ≤ n.T ∧ n.T < m) {o : List Int} : Ok (Z3c ⟨n, f, s, o⟩) (fun b => b = true ↔ (inS s n.S = true ∧ inS s n.T = false)) := by
 unfold Z3c
 refine Ok.gd.2 ⟨(by simp only [List.length_set, List.length_replicate]; omega), Ok.ite.2 ⟨fun h => Ok.gd.2 ⟨(by simp only [List.length_set, List.length_replicate]; omega), Ok.some.2 ?_⟩, fun h => Ok.some.2 ⟨fun h => (by cases h), fun h2 => absurd h2.1 h⟩⟩⟩
 have h : inS s n.S = true := h
 rw [h]
 unfold inS
 cases s.getD n.T.toNat false <;> simp
theorem s_worth (hm : n.N = m) (hl : lenok n.Arcs.length) (hw : FwithinP n f) (hs : s.length = m) {o : List Int} (ho : o.length = m) (hov : ∀ v : Nat, v < m → o.getD v 0 = -ex n.Arcs f v n.Arcs.length) (hS : 0 ≤ n.S ∧ n.S < m) : Ok (Z3b ⟨n, f, s, o⟩) (fun b => b = true ↔ -ex n.Arcs f n.S n.Arcs.length = Zgc n.Arcs s n.Arcs.length) := by
 have hz := Z1g hw.1
 have he : Z3v m n.Arcs := Z60 (by rw [← hm]; exact hz.2.2.2.1)
 have hc0 := Zaa hw.1
 have hb := Zo9 hw n.S
 unfold Z3b
 have e0 := hov n.S.toNat (by omega)
 rw [Int.toNat_of_nonneg hS.1] at e0
 simp only [e0]
 refine Ok.gd.2 ⟨(by omega), Ok.bind.2 ?_⟩
 refine Z7s (fun z => ∃ k : Nat, z.2 = k ∧ k ≤ n.Arcs.length ∧ z.1 = -ex n.Arcs f n.S n.Arcs.length - Zgc n.Arcs s k) (fun z => (n.Arcs.length - z.2).toNat) ⟨0, rfl, by omega, by simp [Zgc]⟩ (by unfold Z4d; simp only; omega) ?_
 rintro ⟨y, x⟩ ⟨k, h1, hk, h3⟩ P next exit
 simp only at h1 h3 next ⊢
 subst h1
 unfold Z34
 simp only [Int.toNat_natCast]
 refine Ok.ite.2 ⟨fun hx => ?_, fun hx => Ok.some.2 (exit _ ?_)⟩
 ·
  have hkl : k < n.Arcs.length := by omega
  have e0 := he k hkl false
  have e1 := he k hkl true
  simp only [vtx, Bool.false_eq_true, if_false, if_true] at e0 e1
  have c0 := Zi7 (c := s) hc0 k hk
  have c1 := Zi7 (c := s) hc0 (k + 1) hkl
  have t1 := Zd0 hw.1 (k + 1) hkl
  have t0 := Zd0 hw.1 k hk
  have hcap := hc0 k hkl
  have go : ∀ b : Bool, (b = true ↔ (inS s (n.Arcs.getD k default).fr = true ∧ inS s (n.Arcs.getD k default).to = false)) → Ok (Z2m ⟨n, f, s, o⟩ y (k : Int) b) P := by
   intro b hb'
   unfold Z2m
   simp only [Int.toNat_natCast]
   simp only [Zgc] at c1
   refine Ok.ite.2 ⟨fun h => ?_, fun h => ?_⟩
   ·
    rw [if_pos (hb'.1 h)] at c1
    exact Ok.gd.2 ⟨by constructor <;> omega, Ok.gd.2 ⟨(by omega), Ok.some.2 (next _ ⟨k + 1, by simp, by omega, by simp only [Zgc]; rw [if_pos (hb'.1 h)]; omega⟩ (by simp only; omega))⟩⟩
   · exact Ok.gd.2 ⟨(by omega), Ok.some.2 (next _ ⟨k + 1, by simp, by omega, by simp only [Zgc]; rw [if_neg (fun h2 => h (hb'.2 h2))]; omega⟩ (by simp only; omega))⟩
  refine Ok.gd.2 ⟨(by omega), Ok.gd.2 ⟨(by omega), Ok.ite.2 ⟨fun h => Ok.gd.2 ⟨(by omega), go _ ?_⟩, fun h => go _ ⟨fun h => (by cases h), fun h2 => absurd h2.1 h⟩⟩⟩⟩
  have h : inS s (n.Arcs.getD k default).fr = true := h
  rw [h]
  unfold inS
  cases s.getD (n.Arcs.getD k default).to.toNat false <;> simp
 ·
  obtain rfl : k = n.Arcs.length := by omega
  unfold Z49
  refine Ok.some.2 ?_
  rw [decide_eq_true_eq]; omega
def WhyP (n : Net) (m : Nat) (f : List Int) (s : List Bool) (e : Int) : Prop :=
  (¬(f.length = n.Arcs.length ∧ s.length = m) ∧ e = 60) ∨ ((f.length = n.Arcs.length ∧ s.length = m) ∧
  ((¬FwithinP n f ∧ e = 61) ∨ (FwithinP n f ∧
  ((¬Zo6 n f (fun x => x = 0) [n.S, n.T] ∧ e = 62) ∨ (Zo6 n f (fun x => x = 0) [n.S, n.T] ∧
  ((¬CutR n s ∧ e = 63) ∨ (CutR n s ∧
  ((ex n.Arcs f n.T n.Arcs.length ≠ Zgc n.Arcs s n.Arcs.length ∧ e = 64) ∨ (ex n.Arcs f n.T n.Arcs.length = Zgc n.Arcs s n.Arcs.length ∧ e = 0)))))))))
theorem s_why (hm : n.N = m) (hk : Z6m n.N n.S n.T n.Arcs = 0) (hl : lenok n.Arcs.length) : Ok (Z3y ⟨n, f, s, []⟩) (fun t => WhyP n m f s t.1 ∧ (t.1 = 0 → t.2.out.length = m ∧ ∀ v : Nat, v < m → t.2.out.getD v 0 = -ex n.Arcs f v n.Arcs.length)) := by
  have hz := Z1g hk
  simp only [Z3o, decide_eq_true_eq] at hz
  have he : Z3v m n.Arcs := Z60 (by rw [← hm]; exact hz.2.2.2.1)
  have hS : 0 ≤ n.S ∧ n.S < m := by omega
  have hT : 0 ≤ n.T ∧ n.T < m := by omega
  have hST := hz.2.2.1.2.2
  unfold Z3y Z5d
  refine Ok.bind.2 (Zau (Zhw n hl) (Ok.ite.2 ⟨fun h => absurd hk h, fun _ => Ok.bind.2 ?_⟩))
  have long : ∀ b : Bool, (b = true ↔ (f.length = n.Arcs.length ∧ s.length = m)) → Ok (if (!b) = true then (some (60, (⟨n, f, s, []⟩ : CheckAnswer))) else Option.bind (Z2x ⟨n, f, s, []⟩) fun r15 =>
      if (!r15) = true then (some (61, ⟨n, f, s, []⟩)) else Option.bind (Z3d ⟨n, f, s, []⟩) fun (r20, r21) =>
      if (!r20) = true then (some (62, (CheckAnswer.mk n f s r21.out))) else Option.bind (Z3c (CheckAnswer.mk n f s r21.out)) fun r35 =>
      if (!r35) = true then (some (63, (CheckAnswer.mk n f s r21.out))) else Option.bind (Z3b (CheckAnswer.mk n f s r21.out)) fun r40 =>
      if (!r40) = true then (some (64, (CheckAnswer.mk n f s r21.out))) else Z3u ⟨n, f, s, []⟩ r21.out) (fun t => WhyP n m f s t.1 ∧ (t.1 = 0 → t.2.out.length = m ∧ ∀ v : Nat, v < m → t.2.out.getD v 0 = -ex n.Arcs f v n.Arcs.length)) := by
    intro b hb
    cases b with
    | false => exact Ok.ite.2 ⟨fun _ => Ok.some.2 ⟨.inl ⟨fun h => (by have := hb.2 h; cases this), rfl⟩, fun h => (by cases h)⟩, fun h => absurd rfl h⟩
    | true =>
      obtain ⟨hf, hs⟩ := hb.1 rfl
      refine Ok.ite.2 ⟨fun h => by simp at h, fun _ => Ok.bind.2 (Ok.mono (Zm2 hf hk hl) fun b2 hb2 => ?_)⟩
      cases b2 with
      | false => exact Ok.ite.2 ⟨fun _ => Ok.some.2 ⟨.inr ⟨⟨hf, hs⟩, .inl ⟨fun h => (by have := hb2.2 h; cases this), rfl⟩⟩, fun h => (by cases h)⟩, fun h => absurd rfl h⟩
      | true =>
        have hw := hb2.1 rfl
        refine Ok.ite.2 ⟨fun h => by simp at h, fun _ => Ok.bind.2 (Ok.mono (s_keeps hm hl hw) ?_)⟩
        rintro ⟨b3, q⟩ ⟨ho, hov, hb3⟩
        simp only at ho hov hb3 ⊢
        cases b3 with
        | false => exact Ok.ite.2 ⟨fun _ => Ok.some.2 ⟨.inr ⟨⟨hf, hs⟩, .inr ⟨hw, .inl ⟨fun h => (by have := hb3.2 h; cases this), rfl⟩⟩⟩, fun h => (by cases h)⟩, fun h => absurd rfl h⟩
        | true =>
          have hA := hb3.1 rfl
          refine Ok.ite.2 ⟨fun h => by simp at h, fun _ => Ok.bind.2 (Ok.mono (s_parts hs hS hT) fun b4 hb4 => ?_)⟩
          cases b4 with
          | false => exact Ok.ite.2 ⟨fun _ => Ok.some.2 ⟨.inr ⟨⟨hf, hs⟩, .inr ⟨hw, .inr ⟨hA, .inl ⟨fun h => (by have := hb4.2 h.2.2; cases this), rfl⟩⟩⟩⟩, fun h => (by cases h)⟩, fun h => absurd rfl h⟩
          | true =>
            have hC : CutR n s := ⟨hk, by omega, hb4.1 rfl⟩
            have h2 := Zlb hm he hA hST hS hT
            refine Ok.ite.2 ⟨fun h => by simp at h, fun _ => Ok.bind.2 (Ok.mono (s_worth hm hl hw hs ho hov hS) fun b5 hb5 => ?_)⟩
            cases b5 with
            | false => exact Ok.ite.2 ⟨fun _ => Ok.some.2 ⟨.inr ⟨⟨hf, hs⟩, .inr ⟨hw, .inr ⟨hA, .inr ⟨hC, .inl ⟨fun h => (by have := hb5.2 (by omega); cases this), rfl⟩⟩⟩⟩⟩, fun h => (by cases h)⟩, fun h => absurd rfl h⟩
            | true =>
              have h3 := hb5.1 rfl
              refine Ok.ite.2 ⟨fun h => by simp at h, fun _ => ?_⟩
              unfold Z3u
              exact Ok.some.2 ⟨.inr ⟨⟨hf, hs⟩, .inr ⟨hw, .inr ⟨hA, .inr ⟨hC, .inr ⟨by omega, rfl⟩⟩⟩⟩⟩, fun _ => ⟨ho, hov⟩⟩
  refine Ok.ite.2 ⟨fun h => Ok.some.2 (long _ ?_), fun h => Ok.some.2 (long _ ⟨fun h => (by cases h), fun h2 => absurd (by rw [h2.1]) h⟩)⟩
  have h : (f.length : Int) = (n.Arcs.length : Int) := h
  rw [decide_eq_true_eq]
  show (s.length : Int) = n.N ↔ _
  exact ⟨fun h2 => ⟨by omega, by omega⟩, fun h2 => by omega⟩
def Zhj (n : Net) (f : List Int) (s : List Bool) : Prop := Zo6 n f (fun x => x = 0) [n.S, n.T] ∧ CutR n s ∧ ex n.Arcs f n.T n.Arcs.length = Zgc n.Arcs s n.Arcs.length
theorem WhyP.iff {e : Int} (hm : n.N = m) (h : WhyP n m f s e) : e = 0 ↔ Zhj n f s := by
 rcases h with ⟨h, rfl⟩ | ⟨h0, ⟨h, rfl⟩ | ⟨h1, ⟨h, rfl⟩ | ⟨h2, ⟨h, rfl⟩ | ⟨h3, ⟨h, rfl⟩ | ⟨h4, rfl⟩⟩⟩⟩⟩
 · exact ⟨fun h => (by cases h), fun hR => absurd ⟨hR.1.1.2.1, by have := hR.2.1.2.1; omega⟩ h⟩
 · exact ⟨fun h => (by cases h), fun hR => absurd hR.1.1 h⟩
 · exact ⟨fun h => (by cases h), fun hR => absurd hR.1 h⟩
 · exact ⟨fun h => (by cases h), fun hR => absurd hR.2.1 h⟩
 · exact ⟨fun h => (by cases h), fun hR => absurd hR.2.2 h⟩
 · exact ⟨fun _ => ⟨h2, h3, h4⟩, fun _ => rfl⟩
theorem Ziz (hm : n.N = m) (hk : Z6m n.N n.S n.T n.Arcs = 0) (hl : lenok n.Arcs.length) : Ok (Z5e n f s) (fun t => (t.2 = true ∧ Zhj n f s ∧ t.1 = ex n.Arcs f n.T n.Arcs.length) ∨ (t.2 = false ∧ ¬Zhj n f s)) := by
 have hz := Z1g hk
 simp only [Z3o, decide_eq_true_eq] at hz
 have he : Z3v m n.Arcs := Z60 (by rw [← hm]; exact hz.2.2.2.1)
 have hS : 0 ≤ n.S ∧ n.S < m := by omega
 have hT : 0 ≤ n.T ∧ n.T < m := by omega
 unfold Z5e
 refine Ok.bind.2 (Ok.mono (s_why hm hk hl) ?_)
 rintro ⟨e, a⟩ ⟨h, ho⟩
 have hi := h.iff hm
 simp only at ho hi ⊢
 refine Ok.ite.2 ⟨fun h0 => Ok.some.2 (.inr ⟨rfl, fun hR => h0 (hi.2 hR)⟩), fun h0 => ?_⟩
 have h0 : e = 0 := Decidable.not_not.1 h0
 have hR := hi.1 h0
 obtain ⟨o1, o2⟩ := ho h0
 have h2 := Zlb hm he hR.1 hz.2.2.1.2.2 hS hT
 have h3 := o2 n.S.toNat (by omega)
 rw [Int.toNat_of_nonneg hS.1] at h3
 exact Ok.gd.2 ⟨(by omega), Ok.some.2 (.inl ⟨rfl, hR, by simp only; omega⟩)⟩
end
end Go.Acq
namespace Go.Acq
open Go
set_option linter.unusedSimpArgs false
section
variable {n : Net} {m : Nat} {f : List Int}
theorem Zmf {b : List Bool} {S : Nat} (he : Z3v m n.Arcs) (hb : ∀ v, v < m → (b.getD v false = true ↔ Reach (Z8x n f) S v)) : ∀ i, i < n.Arcs.length → Zcu n.Arcs f b i := fun i hi => by
 have e0 := he i hi false
 have e1 := he i hi true
 simp only [vtx, Bool.false_eq_true, if_false, if_true] at e0 e1
 obtain ⟨p, hp⟩ : ∃ p : Nat, (n.Arcs.getD i default).fr = p := ⟨(n.Arcs.getD i default).fr.toNat, by omega⟩
 obtain ⟨q, hq⟩ : ∃ q : Nat, (n.Arcs.getD i default).to = q := ⟨(n.Arcs.getD i default).to.toNat, by omega⟩
 rw [hp] at e0
 rw [hq] at e1
 unfold Zcu inS
 rw [hp, hq, Int.toNat_natCast, Int.toNat_natCast]
 have step : ∀ u v : Nat, u < m → v < m → Z8x n f u v → b.getD u false = true → b.getD v false = true := fun u v hu hv ho h => (hb v hv).2 (.step ((hb u hu).1 h) ho)
 refine ⟨fun h4 h5 => Int.not_lt.1 fun h6 => ?_, fun h4 h5 => Int.not_lt.1 fun h6 => ?_⟩
 ·
  have hne : (n.Arcs.getD i default).fr ≠ (n.Arcs.getD i default).to := fun e => by rw [show p = q by omega, h5] at h4; cases h4
  rw [step p q (by omega) (by omega) ⟨i, hi, hne, .inl ⟨hp, hq, h6⟩⟩ h4] at h5; cases h5
 ·
  have hne : (n.Arcs.getD i default).fr ≠ (n.Arcs.getD i default).to := fun e => by rw [show p = q by omega, h5] at h4; cases h4
  rw [step q p (by omega) (by omega) ⟨i, hi, hne, .inr ⟨hq, hp, h6⟩⟩ h5] at h4; cases h4
theorem Zfe {b : List Bool} (hm : n.N = m) (hG : GoodF n f) (hC : CutR n b) (ht : ∀ i, i < n.Arcs.length → Zcu n.Arcs f b i) : Zhj n f b := by
 have he : Z3v m n.Arcs := Z60 (by rw [← hm]; exact (Z1g hC.1).2.2.2.1)
 have h1 := Zkp hm he hG.all hC
 have h2 := (Zp2 (c := b) hG.all.1.2.2 n.Arcs.length (Nat.le_refl _)).2.2 ht
 exact ⟨hG.all, hC, by omega⟩
theorem Zm6 {b : List Bool} (hm : n.N = m) (hk : Z6m n.N n.S n.T n.Arcs = 0) (hG : GoodF n f) (hno : ¬Reach (Z8x n f) n.S.toNat n.T.toNat) (hl : b.length = m) (hb : ∀ v, v < m → (b.getD v false = true ↔ Reach (Z8x n f) n.S.toNat v)) : Zhj n f b := by
 have hz := Z1g hk
 simp only [Z3o, decide_eq_true_eq] at hz
 have he : Z3v m n.Arcs := Z60 (by rw [← hm]; exact hz.2.2.2.1)
 refine Zfe hm hG ⟨hk, by omega, (hb _ (by omega)).2 .refl, ?_⟩ (Zmf he hb)
 show b.getD n.T.toNat false = false
 rw [Bool.eq_false_iff]
 exact fun h => hno ((hb _ (by omega)).1 h)
theorem right_to {b : List Bool} (hm : n.N = m) (hk : Z6m n.N n.S n.T n.Arcs = 0) (hG : GoodF n f) (hno : ¬Reach (Z8x n f) n.S.toNat n.T.toNat) (hl : b.length = m) (hb : ∀ v, v < m → (b.getD v false = true ↔ ¬Reach (Z8x n f) v n.T.toNat)) : Zhj n f b := by
 have hz := Z1g hk
 simp only [Z3o, decide_eq_true_eq] at hz
 have he : Z3v m n.Arcs := Z60 (by rw [← hm]; exact hz.2.2.2.1)
 refine Zfe hm hG ⟨hk, by omega, (hb _ (by omega)).2 hno, ?_⟩ (to_tight he hb)
 show b.getD n.T.toNat false = false
 rw [Bool.eq_false_iff]
 exact fun h => (hb _ (by omega)).1 h .refl
end
end Go.Acq
namespace Go.Acq
open Go
set_option linter.unusedSimpArgs false
set_option linter.unusedVariables false
theorem p_CheckGreatest {n : Net} (hn : NetIn n) : Z30 n = some true := by
 refine Zmb ?_
 unfold Z30
 refine Ok.bind.2 (Ok.mono (s_Some hn (by omega) (by omega) (by omega) (by omega)) fun r hr => ?_)
 obtain ⟨m, hm, hso⟩ := hr.nat
 have hlen := hr.arcs
 have hv := hr.verts
 have hends := hr.ends
 have hk := hr.check
 have hll : lenok r.Arcs.length := by omega
 refine Ok.gd.2 ⟨by constructor <;> omega, ?_⟩
 rw [Int.toNat_natCast]
 refine Ok.bind.2 (Ok.mono (Zm3 hm hk (by omega) (by omega)) ?_)
 rintro ⟨f, ok⟩ ⟨h1, hG, hno⟩
 simp only at h1 hG hno ⊢
 subst h1
 refine Ok.ite.2 ⟨fun h => by simp at h, fun _ => ?_⟩
 refine Ok.bind.2 (Ok.mono (s_From hll) ?_)
 rintro ⟨a, e⟩ (⟨-, e1, a1, a2⟩ | ⟨h, -⟩)
 rotate_left
 · exact absurd hG.all.1 h
 refine Ok.bind.2 (Ok.mono (s_To hll) ?_)
 rintro ⟨b, e'⟩ (⟨-, e2, b1, b2⟩ | ⟨h, -⟩)
 rotate_left
 · exact absurd hG.all.1 h
 simp only at e1 a1 a2 e2 b1 b2 ⊢
 subst e1; subst e2
 have hRa := Zm6 hm hk hG hno (by omega) (fun v hv => a2 v (by omega))
 have hRb := right_to hm hk hG hno (by omega) (fun v hv => b2 v (by omega))
 refine Ok.ite.2 ⟨fun h => absurd rfl h, fun _ => Ok.ite.2 ⟨fun h => absurd rfl h, fun _ => ?_⟩⟩
 refine Ok.bind.2 (Ok.mono (Ziz hm hk hll) ?_)
 rintro ⟨x, p⟩ (⟨p1, -, p2⟩ | ⟨-, h⟩)
 rotate_left
 · exact absurd hRa h
 refine Ok.bind.2 (Ok.mono (Ziz hm hk hll) ?_)
 rintro ⟨y, q⟩ (⟨q1, -, q2⟩ | ⟨-, h⟩)
 rotate_left
 · exact absurd hRb h
 simp only at p1 p2 q1 q2 ⊢
 subst p1; subst q1; subst p2; subst q2
 refine Ok.bind.2 (Ok.mono (s_Value hll) ?_)
 rintro v (⟨-, rfl⟩ | ⟨h, -⟩)
 rotate_left
 · exact absurd hG.all h
 refine Ok.bind.2 (Ok.mono (s_Cap hll) ?_)
 rintro k (⟨-, rfl⟩ | ⟨h, -⟩)
 rotate_left
 · exact absurd hRa.2.1 h
 rw [← hRa.2.2]
 refine Ok.ite.2 ⟨fun _ => ?_, fun h => absurd rfl h⟩
 unfold Z23
 refine Ok.ite.2 ⟨fun _ => ?_, fun h => absurd rfl h⟩
 unfold Z22
 refine Ok.ite.2 ⟨fun _ => ?_, fun h => absurd (by simp) h⟩
 unfold Z21
 refine Ok.ite.2 ⟨fun _ => ?_, fun h => absurd (by simp) h⟩
 unfold Z20
 refine Ok.ite.2 ⟨fun _ => ?_, fun h => absurd (by simp) h⟩
 unfold Z1z
 refine Ok.ite.2 ⟨fun _ => ?_, fun h => absurd (by simp) h⟩
 unfold Z1y
 refine Ok.ite.2 ⟨fun _ => ?_, fun h => absurd (by simp) h⟩
 unfold Z1x
 exact aw24
end Go.Acq
