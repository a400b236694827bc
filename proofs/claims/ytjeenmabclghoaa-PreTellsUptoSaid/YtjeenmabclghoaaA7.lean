/- Texts of this claim, one behind the other. -/
import Derived.Test.YtjeenmabclghoaaA1
import Derived.Test.YtjeenmabclghoaaA6
set_option linter.unusedVariables false
set_option linter.unusedSimpArgs false
namespace Go.Acq
open Go
def hit (a : Arc) (v : Nat) : Nat := if a.fr = a.to then 0 else if a.fr = v ∨ a.to = v then 1 else 0
def cnt (al : List Arc) (v : Nat) : Nat → Nat
  | 0 => 0
  | k + 1 => cnt al v k + hit (al.getD k default) v
def Z1i (al : List Arc) : Nat → Nat
  | 0 => 0
  | v + 1 => Z1i al v + cnt al v al.length
def vtx (a : Arc) (s : Bool) : Int := if s then a.to else a.fr
def pos (al : List Arc) (i : Nat) (s : Bool) : Nat := Z1i al (vtx (al.getD i default) s).toNat + cnt al (vtx (al.getD i default) s).toNat i
def Zap (n : Nat) (al : List Arc) : Prop := ∀ i, i < al.length → ∀ s, 0 ≤ vtx (al.getD i default) s ∧ vtx (al.getD i default) s < n
theorem Zin {α : Type} (xs : List α) (i j : Nat) (v d : α) : (xs.set i v).getD j d = if i = j ∧ i < xs.length then v else xs.getD j d := by
 rw [List.getD_eq_getElem?_getD, List.getD_eq_getElem?_getD, List.getElem?_set]
 split
 ·
  rename_i h; subst h
  split
  · rename_i h2; simp [h2]
  · rename_i h2; simp [h2]
 · rename_i h; simp [h]
theorem Z8i {α : Type} {xs : List α} {i j : Nat} {v d : α} (h : i ≠ j) : (xs.set i v).getD j d = xs.getD j d := by
 rw [Zin, if_neg (fun e => h e.1)]
theorem Zke {α : Type} {xs : List α} {i : Nat} {v d : α} (h : i < xs.length) : (xs.set i v).getD i d = v := by
 rw [Zin, if_pos ⟨rfl, h⟩]
theorem Z4h {α : Type} (n j : Nat) (v : α) : (List.replicate n v).getD j v = v := by
 rw [List.getD_eq_getElem?_getD, List.getElem?_replicate]; split <;> simp
theorem Znq (a : Arc) (v : Nat) : hit a v ≤ 1 := by unfold hit; split; omega; split <;> omega
theorem Zlf {al : List Arc} {v i j : Nat} (h : i ≤ j) : cnt al v i ≤ cnt al v j := by
 induction h with
 | refl => exact Nat.le_refl _
 | step _ ih => exact Nat.le_trans ih (Nat.le_add_right _ _)
theorem cnt_le (al : List Arc) (v k : Nat) : cnt al v k ≤ k := by
 induction k with
 | zero => exact Nat.le_refl _
 | succ k ih => have := Znq (al.getD k default) v; simp only [cnt]; omega
theorem Z7g {al : List Arc} {u v : Nat} (h : u ≤ v) : Z1i al u ≤ Z1i al v := by
 induction h with
 | refl => exact Nat.le_refl _
 | step _ ih => exact Nat.le_trans ih (Nat.le_add_right _ _)
theorem Znu (al : List Arc) (v : Nat) : Z1i al v ≤ v * al.length := by
 induction v with
 | zero => exact Nat.zero_le _
 | succ v ih => have := cnt_le al v al.length; simp only [Z1i, Nat.succ_mul]; omega
theorem hit_vtx {a : Arc} {s : Bool} (h : a.fr ≠ a.to) (h0 : 0 ≤ vtx a s) : hit a (vtx a s).toNat = 1 := by
 unfold hit; rw [if_neg h, if_pos]
 cases s
 · left; simp only [vtx] at h0 ⊢; simp only [Bool.false_eq_true, if_false] at h0 ⊢; omega
 · right; simp only [vtx] at h0 ⊢; simp only [if_true] at h0 ⊢; omega
theorem Zfi {al : List Arc} {i j : Nat} {s : Bool} (hij : i < j) (h : (al.getD i default).fr ≠ (al.getD i default).to) (h0 : 0 ≤ vtx (al.getD i default) s) :
    cnt al (vtx (al.getD i default) s).toNat i < cnt al (vtx (al.getD i default) s).toNat j := by
  have h1 := Zlf (al := al) (v := (vtx (al.getD i default) s).toNat) (i := i + 1) (j := j) hij
  have h2 := hit_vtx h h0
  simp only [cnt] at h1
  omega
theorem Zcx {al : List Arc} {n i : Nat} {s : Bool} (hi : i < al.length) (h : (al.getD i default).fr ≠ (al.getD i default).to) (he : Zap n al) : pos al i s < Z1i al n := by
 have h1 := Zfi (s := s) hi h (he i hi s).1
 have h2 := Z7g (al := al) (u := (vtx (al.getD i default) s).toNat + 1) (v := n) (by have := he i hi s; omega)
 simp only [Z1i] at h2
 unfold pos; omega
theorem Z7w {al : List Arc} {n i j : Nat} {s t : Bool} (he : Zap n al) (hi : i < al.length) (hj : j < al.length) (h : (al.getD i default).fr ≠ (al.getD i default).to) (g : (al.getD j default).fr ≠ (al.getD j default).to)
    (e : pos al i s = pos al j t) : i = j ∧ s = t := by
  have hi1 := Zfi (s := s) hi h (he i hi s).1
  have hj1 := Zfi (s := t) hj g (he j hj t).1
  have hv : (vtx (al.getD i default) s).toNat = (vtx (al.getD j default) t).toNat := by
    rcases Nat.lt_trichotomy (vtx (al.getD i default) s).toNat (vtx (al.getD j default) t).toNat with h1 | h1 | h1
    · have := Z7g (al := al) (u := (vtx (al.getD i default) s).toNat + 1) h1
      simp only [Z1i] at this
      unfold pos at e; omega
    · exact h1
    · have := Z7g (al := al) (u := (vtx (al.getD j default) t).toNat + 1) h1
      simp only [Z1i] at this
      unfold pos at e; omega
  have hij : i = j := by
    rcases Nat.lt_trichotomy i j with h1 | h1 | h1
    · have h2 := Zfi (s := s) h1 h (he i hi s).1
      unfold pos at e; rw [hv] at e h2; omega
    · exact h1
    · have h2 := Zfi (s := t) h1 g (he j hj t).1
      unfold pos at e; rw [hv] at e; omega
  refine ⟨hij, ?_⟩
  subst hij
  have h1 := (he i hi s).1
  have h2 := (he i hi t).1
  cases s <;> cases t <;> first | rfl | (simp only [vtx, Bool.false_eq_true, if_false, if_true] at hv h1 h2; omega)
theorem Zlg {al : List Arc} {v r : Nat} : ∀ {k : Nat}, r < cnt al v k → ∃ i, i < k ∧ cnt al v i = r ∧ hit (al.getD i default) v = 1
 | 0, h => by simp [cnt] at h
 | k + 1, h => by
  by_cases h1 : r < cnt al v k
  · obtain ⟨i, h2, h3⟩ := Zlg h1; exact ⟨i, by omega, h3⟩
  ·
   have := Znq (al.getD k default) v
   simp only [cnt] at h
   exact ⟨k, by omega, by omega, by omega⟩
theorem Zgu {al : List Arc} {p : Nat} : ∀ {n : Nat}, p < Z1i al n → ∃ v, v < n ∧ Z1i al v ≤ p ∧ p < Z1i al (v + 1)
 | 0, h => by simp [Z1i] at h
 | n + 1, h => by
  by_cases h1 : p < Z1i al n
  · obtain ⟨v, h2, h3⟩ := Zgu h1; exact ⟨v, by omega, h3⟩
  · exact ⟨n, by omega, by omega, h⟩
theorem Zg5 {al : List Arc} {n p : Nat} (h : p < Z1i al n) : ∃ i s, i < al.length ∧ (al.getD i default).fr ≠ (al.getD i default).to ∧ pos al i s = p ∧ 0 ≤ vtx (al.getD i default) s ∧ vtx (al.getD i default) s < n ∧
    Z1i al (vtx (al.getD i default) s).toNat ≤ p ∧ p < Z1i al ((vtx (al.getD i default) s).toNat + 1) := by
  obtain ⟨v, hv, h1, h2⟩ := Zgu h
  simp only [Z1i] at h2
  obtain ⟨i, hi, h3, h4⟩ := Zlg (al := al) (v := v) (r := p - Z1i al v) (k := al.length) (by omega)
  unfold hit at h4
  split at h4
  · omega
  · rename_i hne
    split at h4
    · rename_i ho
      rcases ho with ho | ho
      · refine ⟨i, false, hi, hne, ?_, ?_, ?_, ?_, ?_⟩ <;> simp only [pos, vtx, Bool.false_eq_true, if_false, ho, Int.toNat_natCast, Z1i] <;> omega
      · refine ⟨i, true, hi, hne, ?_, ?_, ?_, ?_, ?_⟩ <;> simp only [pos, vtx, if_true, ho, Int.toNat_natCast, Z1i] <;> omega
    · omega
def CsrAt (al : List Arc) (hs rs cs aa : List Int) (bs : List Bool) (k : Nat) : Prop :=
  ∀ i, i < k → (al.getD i default).fr ≠ (al.getD i default).to → ∀ s,
    hs.getD (pos al i s) 0 = vtx (al.getD i default) (!s) ∧ rs.getD (pos al i s) 0 = pos al i (!s) ∧ cs.getD (pos al i s) 0 = (if s then 0 else (al.getD i default).cap) ∧
    aa.getD (pos al i s) 0 = i ∧ bs.getD (pos al i s) false = s
structure CsrOK (al : List Arc) (n : Nat) (fs hs rs cs aa : List Int) (bs : List Bool) : Prop where
  lf : fs.length = n + 1
  lh : hs.length = Z1i al n
  lr : rs.length = Z1i al n
  lc : cs.length = Z1i al n
  la : aa.length = Z1i al n
  lb : bs.length = Z1i al n
  hf : ∀ v, v ≤ n → fs.getD v 0 = Z1i al v
  hat : CsrAt al hs rs cs aa bs al.length
theorem CsrAt.skip {al : List Arc} {hs rs cs aa : List Int} {bs : List Bool} {k : Nat} (h : CsrAt al hs rs cs aa bs k) (e : (al.getD k default).fr = (al.getD k default).to) : CsrAt al hs rs cs aa bs (k + 1) := by
 intro i hi hne s
 rcases Nat.lt_succ_iff_lt_or_eq.1 hi with h1 | h1
 · exact h i h1 hne s
 · subst h1; exact absurd e hne
theorem set2 {α : Type} {xs : List α} {p q j : Nat} {u v d : α} (hp : p < xs.length) (hq : q < xs.length) (hpq : p ≠ q) :
    ((xs.set p u).set q v).getD j d = if j = p then u else if j = q then v else xs.getD j d := by
  rw [Zin, Zin]
  by_cases h1 : j = p
  · subst h1; rw [if_pos rfl, if_neg (fun e => hpq e.1.symm), if_pos ⟨rfl, hp⟩]
  · rw [if_neg h1]
    by_cases h2 : j = q
    · subst h2; rw [if_pos rfl, if_pos ⟨rfl, by simpa using hq⟩]
    · rw [if_neg h2, if_neg (fun e => h2 e.1.symm), if_neg (fun e => h1 e.1.symm)]
theorem CsrAt.put {al : List Arc} {n : Nat} {hs rs cs aa : List Int} {bs : List Bool} {k : Nat} (h : CsrAt al hs rs cs aa bs k) (he : Zap n al) (hk : k < al.length) (hne : (al.getD k default).fr ≠ (al.getD k default).to)
    (lh : hs.length = Z1i al n) (lr : rs.length = Z1i al n) (lc : cs.length = Z1i al n) (la : aa.length = Z1i al n) (lb : bs.length = Z1i al n) :
    CsrAt al ((hs.set (pos al k false) (al.getD k default).to).set (pos al k true) (al.getD k default).fr) ((rs.set (pos al k false) (pos al k true)).set (pos al k true) (pos al k false))
      ((cs.set (pos al k false) (al.getD k default).cap).set (pos al k true) 0) ((aa.set (pos al k false) k).set (pos al k true) k) ((bs.set (pos al k false) false).set (pos al k true) true) (k + 1) := by
  have hp : pos al k false < Z1i al n := Zcx hk hne he
  have hq : pos al k true < Z1i al n := Zcx hk hne he
  have hpq : pos al k false ≠ pos al k true := fun e => by have := (Z7w he hk hk hne hne e).2; cases this
  intro i hi hni s
  have hil : i < al.length := by omega
  rw [set2 (by omega) (by omega) hpq, set2 (by omega) (by omega) hpq, set2 (by omega) (by omega) hpq, set2 (by omega) (by omega) hpq, set2 (by omega) (by omega) hpq]
  by_cases hik : i = k
  · subst hik
    cases s
    · simp [vtx]
    · simp [vtx, hpq.symm]
  · have h1 : pos al i s ≠ pos al k false := fun e => hik (Z7w he hil hk hni hne e).1
    have h2 : pos al i s ≠ pos al k true := fun e => hik (Z7w he hil hk hni hne e).1
    simp only [if_neg h1, if_neg h2]
    exact h i (by omega) hni s
def Counted (al : List Arc) (m k : Nat) (fs : List Int) : Prop := fs.length = m + 1 ∧ fs.getD 0 0 = 0 ∧ ∀ v : Int, 0 ≤ v → v < m → fs.getD (v + 1).toNat 0 = cnt al v.toNat k
def Summed (al : List Arc) (m k : Nat) (fs : List Int) : Prop := fs.length = m + 1 ∧ (∀ u, u ≤ k → fs.getD u 0 = Z1i al u) ∧ ∀ u, k ≤ u → u < m → fs.getD (u + 1) 0 = cnt al u al.length
theorem Zbi {al : List Arc} {v : Nat} (hv : v ≤ 4096) (hl : al.length ≤ 16384) : Z1i al v ≤ 67108864 :=
 Nat.le_trans (Znu al v) (Nat.mul_le_mul hv hl)
theorem Counted.start (al : List Arc) (m : Nat) {p : Nat} (h : p = m + 1) : Counted al m 0 (List.replicate p 0) :=
 ⟨by simp [h], Z4h _ _ _, fun v _ _ => by rw [Z4h]; rfl⟩
theorem Counted.skip {al : List Arc} {m k : Nat} {fs : List Int} (h : Counted al m k fs) (e : (al.getD k default).fr = (al.getD k default).to) : Counted al m (k + 1) fs :=
 ⟨h.1, h.2.1, fun v h0 h1 => by rw [h.2.2 v h0 h1]; simp only [cnt, hit, if_pos e, Nat.add_zero]⟩
theorem Counted.put {al : List Arc} {m k : Nat} {fs : List Int} (h : Counted al m k fs) (he : Zap m al) (hk : k < al.length) (hne : (al.getD k default).fr ≠ (al.getD k default).to) :
    Counted al m (k + 1) ((fs.set ((al.getD k default).fr + 1).toNat (fs.getD ((al.getD k default).fr + 1).toNat 0 + 1)).set ((al.getD k default).to + 1).toNat
      ((fs.set ((al.getD k default).fr + 1).toNat (fs.getD ((al.getD k default).fr + 1).toNat 0 + 1)).getD ((al.getD k default).to + 1).toNat 0 + 1)) := by
  have e0 := he k hk false
  have e1 := he k hk true
  simp only [vtx, Bool.false_eq_true, if_false, if_true] at e0 e1
  obtain ⟨hl, hz, hv⟩ := h
  refine ⟨by simpa using hl, ?_, ?_⟩
  · rw [Z8i (by omega), Z8i (by omega)]; exact hz
  · intro v h0 h1
    have hvv := hv v h0 h1
    rw [Z8i (i := ((al.getD k default).fr + 1).toNat) (j := ((al.getD k default).to + 1).toNat) (by omega), set2 (by omega) (by omega) (by omega)]
    simp only [cnt, hit, if_neg hne]
    by_cases a1 : v = (al.getD k default).fr
    · rw [if_pos (by omega), if_pos (by omega), ← a1, hvv]; omega
    · rw [if_neg (by omega)]
      by_cases a2 : v = (al.getD k default).to
      · rw [if_pos (by omega), if_pos (by omega), ← a2, hvv]; omega
      · rw [if_neg (by omega), if_neg (by omega), hvv]; omega
theorem Summed.put {al : List Arc} {m k : Nat} {fs : List Int} (h : Summed al m k fs) (hk : k < m) {i : Nat} (hi : i = k + 1) : Summed al m (k + 1) (fs.set i (fs.getD i 0 + fs.getD k 0)) := by
 subst hi
 obtain ⟨hl, h1, h2⟩ := h
 refine ⟨by simpa using hl, fun u hu => ?_, fun u h3 h4 => ?_⟩
 ·
  by_cases e : u = k + 1
  · subst e; rw [Zke (by omega), h1 k (Nat.le_refl _), h2 k (Nat.le_refl _) hk]; simp [Z1i]; omega
  · rw [Z8i (by omega)]; exact h1 u (by omega)
 · rw [Z8i (by omega)]; exact h2 u (by omega) h4
theorem Z7f {N S T : Int} {al : List Arc} (h : Zb3 N S T al = 0) : (2 ≤ N ∧ N ≤ 4096) ∧ (al.length : Int) ≤ 16384 ∧ (Z8g N S = true ∧ Z8g N T = true ∧ S ≠ T) ∧ al.all (Zjj N) = true ∧ al.all capB = true ∧ (Zl4 4611686018427387904 al).isSome = true := by
 unfold Zb3 at h
 split at h
 · omega
 ·
  rename_i h1
  split at h
  · omega
  ·
   rename_i h2
   split at h
   · omega
   ·
    rename_i h3
    split at h
    · omega
    ·
     rename_i h4
     split at h
     · omega
     ·
      rename_i h5
      split at h
      · omega
      ·
       rename_i h6
       refine ⟨Classical.not_not.1 h1, Classical.not_not.1 h2, Classical.not_not.1 h3, by simpa using h4, by simpa using h5, ?_⟩
       cases e : Zl4 4611686018427387904 al <;> simp_all
theorem Zgq {m : Nat} {al : List Arc} (h : al.all (Zjj (m : Int)) = true) : Zap m al := by
 intro i hi s
 have h1 := List.all_eq_true.1 h _ (Zbf hi default)
 simp only [Zjj, Z8g, Bool.and_eq_true, decide_eq_true_eq] at h1
 cases s
 · simp only [vtx, Bool.false_eq_true, if_false]; exact h1.1
 · simp only [vtx, if_true]; exact h1.2
def MakeAt (al : List Arc) (m k : Nat) (nx hs rs cs aa : List Int) (bs : List Bool) : Prop :=
  (nx.length = m + 1 ∧ hs.length = Z1i al m ∧ rs.length = Z1i al m ∧ cs.length = Z1i al m ∧ aa.length = Z1i al m ∧ bs.length = Z1i al m) ∧
  CsrAt al hs rs cs aa bs k ∧ ∀ v : Int, 0 ≤ v → v < m → nx.getD v.toNat 0 = Z1i al v.toNat + cnt al v.toNat k
theorem MakeAt.start {al : List Arc} {m : Nat} {fs : List Int} (hl : fs.length = m + 1) (hf : ∀ u, u ≤ m → fs.getD u 0 = Z1i al u) :
    MakeAt al m 0 fs (List.replicate (Z1i al m) 0) (List.replicate (Z1i al m) 0) (List.replicate (Z1i al m) 0) (List.replicate (Z1i al m) 0) (List.replicate (Z1i al m) false) := by
  refine ⟨⟨hl, by simp, by simp, by simp, by simp, by simp⟩, fun i hi => by omega, fun v h0 h1 => ?_⟩
  rw [hf _ (by omega)]; simp [cnt]
theorem MakeAt.skip {al : List Arc} {m k : Nat} {nx hs rs cs aa : List Int} {bs : List Bool} (h : MakeAt al m k nx hs rs cs aa bs) (e : (al.getD k default).fr = (al.getD k default).to) : MakeAt al m (k + 1) nx hs rs cs aa bs :=
 ⟨h.1, h.2.1.skip e, fun v h0 h1 => by rw [h.2.2 v h0 h1]; simp only [cnt, hit, if_pos e, Nat.add_zero]⟩
theorem MakeAt.at {al : List Arc} {m k : Nat} {nx hs rs cs aa : List Int} {bs : List Bool} (h : MakeAt al m k nx hs rs cs aa bs) (he : Zap m al) (hk : k < al.length) (s : Bool) : nx.getD (vtx (al.getD k default) s).toNat 0 = (pos al k s : Nat) := by
 rw [h.2.2 _ (he k hk s).1 (he k hk s).2]; simp only [pos]; omega
theorem MakeAt.put {al : List Arc} {m k : Nat} {nx hs rs cs aa : List Int} {bs : List Bool} (h : MakeAt al m k nx hs rs cs aa bs) (he : Zap m al) (hk : k < al.length) (hne : (al.getD k default).fr ≠ (al.getD k default).to) :
    MakeAt al m (k + 1) ((nx.set (al.getD k default).fr.toNat ((pos al k false : Nat) + 1)).set (al.getD k default).to.toNat ((pos al k true : Nat) + 1))
      ((hs.set (pos al k false) (al.getD k default).to).set (pos al k true) (al.getD k default).fr) ((rs.set (pos al k false) (pos al k true)).set (pos al k true) (pos al k false))
      ((cs.set (pos al k false) (al.getD k default).cap).set (pos al k true) 0) ((aa.set (pos al k false) k).set (pos al k true) k) ((bs.set (pos al k false) false).set (pos al k true) true) := by
  have g0 := h.at he hk false
  have g1 := h.at he hk true
  obtain ⟨⟨l0, l1, l2, l3, l4, l5⟩, hA, hv⟩ := h
  have e0 := he k hk false
  have e1 := he k hk true
  simp only [vtx, Bool.false_eq_true, if_false, if_true] at e0 e1 g0 g1
  refine ⟨⟨by simpa using l0, by simpa using l1, by simpa using l2, by simpa using l3, by simpa using l4, by simpa using l5⟩, hA.put he hk hne l1 l2 l3 l4 l5, fun v h0 h1 => ?_⟩
  have hvv := hv v h0 h1
  rw [set2 (by omega) (by omega) (by omega)]
  simp only [cnt, hit, if_neg hne]
  by_cases a1 : v = (al.getD k default).fr
  · rw [if_pos (by omega), if_pos (by omega), ← g0, ← a1, hvv]; omega
  · rw [if_neg (by omega)]
    by_cases a2 : v = (al.getD k default).to
    · rw [if_pos (by omega), if_pos (by omega), ← g1, ← a2, hvv]; omega
    · rw [if_neg (by omega), if_neg (by omega), hvv]; omega
theorem MakeAt.done {al : List Arc} {m : Nat} {fs nx hs rs cs aa : List Int} {bs : List Bool} (h : MakeAt al m al.length nx hs rs cs aa bs) (hl : fs.length = m + 1) (hf : ∀ u, u ≤ m → fs.getD u 0 = Z1i al u) : CsrOK al m fs hs rs cs aa bs :=
 ⟨hl, h.1.2.1, h.1.2.2.1, h.1.2.2.2.1, h.1.2.2.2.2.1, h.1.2.2.2.2.2, hf, h.2.1⟩
end Go.Acq
namespace Go.Acq
open Go
theorem next_ne {S m : Int} (h0 : 0 ≤ S) (h1 : S < m) (h2 : 2 ≤ m) : 0 ≤ (S + 1).tmod m ∧ (S + 1).tmod m < m ∧ (S + 1).tmod m ≠ S := by
 rw [Int.tmod_eq_emod_of_nonneg (by omega)]
 refine ⟨Int.emod_nonneg _ (by omega), Int.emod_lt_of_pos _ (by omega), ?_⟩
 by_cases h : S + 1 < m
 · rw [Int.emod_eq_of_lt (by omega) h]; omega
 · rw [show S + 1 = m by omega, Int.emod_self]; omega
theorem Zhh {x n : Int} (h : 0 ≤ x) (hn : 0 < n) : 0 ≤ x.tmod n ∧ x.tmod n < n := by
 rw [Int.tmod_eq_emod_of_nonneg h]
 exact ⟨Int.emod_nonneg _ (by omega), Int.emod_lt_of_pos _ hn⟩
def SomeAt (m : Nat) (ol : List Arc) : Prop := ∀ a, a ∈ ol → Zjj m a = true ∧ 0 ≤ a.cap ∧ a.cap < 1125899906842624
theorem SomeAt.put {m : Nat} {ol : List Arc} {a : Arc} (h : SomeAt m ol) (h1 : 0 ≤ a.fr ∧ a.fr < m) (h2 : 0 ≤ a.to ∧ a.to < m) (h3 : 0 ≤ a.cap ∧ a.cap < 1125899906842624) : SomeAt m (ol ++ [a]) := by
 intro b hb
 rcases List.mem_append.1 hb with hb | hb
 · exact h b hb
 ·
  simp only [List.mem_singleton] at hb
  subst hb
  exact ⟨by simp [Zjj, Z8g, h1, h2], h3⟩
theorem Zn5 {m : Nat} {ol : List Arc} {left : Int} (h : SomeAt m ol) (hl : (ol.length : Int) * 1125899906842624 ≤ left) : (Zl4 left ol).isSome = true := by
 induction ol generalizing left with
 | nil => simp [Zl4]
 | cons a ol ih =>
  have ha := (h a (.head _)).2
  simp only [List.length_cons] at hl
  have h2 : (0 : Int) ≤ (ol.length : Int) * 1125899906842624 := by omega
  simp only [Zl4]
  rw [if_neg (by omega)]
  exact ih (fun b hb => h b (.tail _ hb)) (by omega)
theorem Zlx {m : Nat} {S T : Int} {ol : List Arc} (hm : 2 ≤ m) (hm2 : m ≤ 4096) (hS : 0 ≤ S ∧ S < m) (hT : 0 ≤ T ∧ T < m) (hST : T ≠ S) (h : SomeAt m ol) (hl : ol.length ≤ 4096) : Zb3 m S T ol = 0 := by
 have h1 : ol.all (Zjj m) = true := List.all_eq_true.2 fun a ha => (h a ha).1
 have h2 : ol.all capB = true := List.all_eq_true.2 fun a ha => by simp [capB, (h a ha).2.1]
 have h3 : (Zl4 4611686018427387904 ol).isSome = true := Zn5 h (by omega)
 unfold Zb3
 rw [if_neg (by omega), if_neg (by omega), if_neg (by simp [Z8g, hS, hT, Ne.symm hST]), if_neg (by simp [h1]), if_neg (by simp [h2]), if_neg (by
  cases e : Zl4 4611686018427387904 ol with
  | none => rw [e] at h3; cases h3
  | some x => simp)]
def WithinAt (al : List Arc) (n k : Nat) (fl : List Int) : Prop := fl.length = n ∧
  (∀ i, i < k → 0 ≤ fl.getD i 0 ∧ fl.getD i 0 ≤ (al.getD i default).cap ∧ ((al.getD i default).fr = (al.getD i default).to → fl.getD i 0 = 0)) ∧ ∀ i, k ≤ i → fl.getD i 0 = 0
theorem WithinAt.start (al : List Arc) (n : Nat) : WithinAt al n 0 (List.replicate n 0) := ⟨by simp, fun i h => by omega, fun i _ => Z4h _ _ _⟩
theorem WithinAt.skip {al : List Arc} {n k : Nat} {fl : List Int} (h : WithinAt al n k fl) (hc : 0 ≤ (al.getD k default).cap) : WithinAt al n (k + 1) fl := by
 refine ⟨h.1, fun i hi => ?_, fun i hi => h.2.2 i (by omega)⟩
 rcases Nat.lt_succ_iff_lt_or_eq.1 hi with h1 | h1
 · exact h.2.1 i h1
 · subst h1; have := h.2.2 i (Nat.le_refl _); rw [this]; exact ⟨Int.le_refl _, hc, fun _ => rfl⟩
theorem WithinAt.put {al : List Arc} {n k : Nat} {fl : List Int} {v : Int} (h : WithinAt al n k fl) (hk : k < n) (h0 : 0 ≤ v) (h1 : v ≤ (al.getD k default).cap) (hne : (al.getD k default).fr ≠ (al.getD k default).to) : WithinAt al n (k + 1) (fl.set k v) := by
 refine ⟨by simpa using h.1, fun i hi => ?_, fun i hi => by rw [Z8i (by omega)]; exact h.2.2 i (by omega)⟩
 by_cases e : i = k
 · subst e; rw [Zke (by rw [h.1]; exact hk)]; exact ⟨h0, h1, fun e => absurd e hne⟩
 · rw [Z8i (by omega)]; exact h.2.1 i (by omega)
def resOK (aa cs : List Int) (bs : List Bool) (fl : List Int) (j : Nat) : Prop := aa.getD j 0 < fl.length ∧ (bs.getD j false = true ∨ (0 ≤ fl.getD (aa.getD j 0).toNat 0 ∧ fl.getD (aa.getD j 0).toNat 0 ≤ cs.getD j 0))
def resV (aa cs : List Int) (bs : List Bool) (fl : List Int) (j : Nat) : Int := if bs.getD j false = true then fl.getD (aa.getD j 0).toNat 0 else cs.getD j 0 - fl.getD (aa.getD j 0).toNat 0
def ResAt (aa cs : List Int) (bs : List Bool) (fl : List Int) (L k : Nat) (rl : List Int) : Prop := rl.length = L ∧ ∀ j, j < k → resOK aa cs bs fl j ∧ rl.getD j 0 = resV aa cs bs fl j
theorem ResAt.put {aa cs : List Int} {bs : List Bool} {fl : List Int} {L k : Nat} {rl : List Int} {v : Int} (h : ResAt aa cs bs fl L k rl) (hk : k < L) (h1 : resOK aa cs bs fl k) (h2 : v = resV aa cs bs fl k) : ResAt aa cs bs fl L (k + 1) (rl.set k v) := by
 refine ⟨by simpa using h.1, fun j hj => ?_⟩
 by_cases e : j = k
 · subst e; rw [Zke (by rw [h.1]; exact hk)]; exact ⟨h1, h2⟩
 · rw [Z8i (by omega)]; exact h.2 j (by omega)
end Go.Acq
namespace Go.Acq
open Go
theorem CsrOK.place {al : List Arc} {m : Nat} {fs hs rs cs aa : List Int} {bs : List Bool} (h : CsrOK al m fs hs rs cs aa bs) {j : Nat} (hj : j < Z1i al m) :
    ∃ i s, i < al.length ∧ (al.getD i default).fr ≠ (al.getD i default).to ∧ pos al i s = j ∧ hs.getD j 0 = vtx (al.getD i default) (!s) ∧ rs.getD j 0 = pos al i (!s) ∧ cs.getD j 0 = (if s then 0 else (al.getD i default).cap) ∧ aa.getD j 0 = i ∧ bs.getD j false = s := by
  obtain ⟨i, s, hi, hne, hp, _⟩ := Zg5 hj
  have := h.hat i hi hne s
  rw [hp] at this
  exact ⟨i, s, hi, hne, hp, this⟩
end Go.Acq
namespace Go.Acq
open Go
theorem Zbu {α : Type} {m : Option α} {v : α} (h : Ok m (fun a => a = v)) : m = some v := by obtain ⟨a, h1, h2⟩ := h; rw [h1, h2]
theorem Z6y {α : Type} {m : Option α} {v : α} {Q : α → Prop} (h : m = some v) (q : Q v) : Ok m Q := ⟨v, h, q⟩
abbrev lenok (n : Nat) : Prop := n ≤ 9223372036854775807
theorem Zgg {x n : Int} (h1 : n ≤ 4611686018427387904) : Z32 x n = some (Zgv x n) := by
 unfold Z32 Zgv
 by_cases h : n < 1
 · rw [if_pos h, if_pos h]
 ·
  have a1 := Int.tmod_lt_of_pos x (show 0 < n by omega)
  have a2 := Zgl x (show 0 < n by omega)
  rw [if_neg h, if_neg h, Z6p (by omega), Z6p (by constructor <;> omega), Z6p (by omega)]
theorem Zl7 {a b : List Int} (h : lenok a.length) : Z2o a b = some (decide (a = b)) := by
 refine Zbu ?_
 unfold Z2o
 refine Ok.ite.2 ⟨fun hl => Ok.some.2 (decide_eq_false ?_).symm, fun hl => ?_⟩
 · rintro rfl; exact hl rfl
 ·
  refine Ok.bind.2 (Zj3 (fun x => 0 ≤ x ∧ x ≤ a.length ∧ ∀ i, i < x.toNat → a.getD i 0 = b.getD i 0) (fun x => (a.length - x).toNat) ⟨by omega, by omega, fun i hi => by omega⟩ (by unfold Z6b; omega) ?_)
  rintro x ⟨h0, h1, h2⟩
  unfold Z5w
  refine Ok.ite.2 ⟨fun hx => ?_, fun hx => ?_⟩
  ·
   refine Ok.gd.2 ⟨(by omega), Ok.gd.2 ⟨(by omega), Ok.ite.2 ⟨fun hne => ?_, fun hne => ?_⟩⟩⟩
   ·
    refine Ok.some.2 (Ok.some.2 (decide_eq_false ?_).symm)
    rintro rfl; exact hne rfl
   ·
    refine Ok.gd.2 ⟨(by omega), Ok.some.2 ⟨⟨by omega, by omega, fun i hi => ?_⟩, by omega⟩⟩
    rcases Nat.lt_or_ge i x.toNat with h3 | h3
    · exact h2 i h3
    · rw [show i = x.toNat by omega]; exact Classical.not_not.1 hne
  ·
   refine Ok.some.2 (Ok.some.2 (decide_eq_true ?_).symm)
   exact Zdb 0 (by omega) (fun i hi => h2 i (by omega))
theorem Znh {a b : List Int} (h : lenok a.length) : Z4p a b = some (decide (a = b)) := by
 refine Zbu ?_
 unfold Z4p
 refine Ok.ite.2 ⟨fun hl => Ok.some.2 (decide_eq_false ?_).symm, fun hl => ?_⟩
 · rintro rfl; exact hl rfl
 ·
  refine Ok.bind.2 (Zj3 (fun x => 0 ≤ x ∧ x ≤ a.length ∧ ∀ i, i < x.toNat → a.getD i 0 = b.getD i 0) (fun x => (a.length - x).toNat) ⟨by omega, by omega, fun i hi => by omega⟩ (by unfold Z6b; omega) ?_)
  rintro x ⟨h0, h1, h2⟩
  unfold Z5h
  refine Ok.ite.2 ⟨fun hx => ?_, fun hx => ?_⟩
  ·
   refine Ok.gd.2 ⟨(by omega), Ok.gd.2 ⟨(by omega), Ok.ite.2 ⟨fun hne => ?_, fun hne => ?_⟩⟩⟩
   ·
    refine Ok.some.2 (Ok.some.2 (decide_eq_false ?_).symm)
    rintro rfl; exact hne rfl
   ·
    refine Ok.gd.2 ⟨(by omega), Ok.some.2 ⟨⟨by omega, by omega, fun i hi => ?_⟩, by omega⟩⟩
    rcases Nat.lt_or_ge i x.toNat with h3 | h3
    · exact h2 i h3
    · rw [show i = x.toNat by omega]; exact Classical.not_not.1 hne
  ·
   refine Ok.some.2 (Ok.some.2 (decide_eq_true ?_).symm)
   exact Zdb 0 (by omega) (fun i hi => h2 i (by omega))
end Go.Acq
namespace Go.Acq
open Go
set_option linter.unusedSimpArgs false
structure NetIn (n : Net) : Prop where
  nN : i64ok n.N
  nS : i64ok n.S
  nT : i64ok n.T
  arcs : ∀ a, a ∈ n.Arcs → i64ok a.fr ∧ i64ok a.to ∧ i64ok a.cap
  len : n.Arcs.length ≤ 9223372036854775807
structure Made (n : Net) (v a : Int) : Prop where
  check : Zb3 n.N n.S n.T n.Arcs = 0
  rows : SomeAt n.N.toNat n.Arcs
  verts : n.N ≤ v
  arcs : (n.Arcs.length : Int) ≤ a
  ends : 2 ≤ n.N ∧ 0 ≤ n.S ∧ n.S < n.N ∧ 0 ≤ n.T ∧ n.T < n.N ∧ n.S ≠ n.T
theorem Made.nat {n : Net} {v a : Int} (h : Made n v a) : ∃ m : Nat, n.N = m ∧ SomeAt m n.Arcs := ⟨n.N.toNat, by have := h.ends.1; omega, h.rows⟩
theorem Made.caps {n : Net} {m : Nat} (h : SomeAt m n.Arcs) : ∀ i, i < n.Arcs.length → 0 ≤ (n.Arcs.getD i default).cap ∧ (n.Arcs.getD i default).cap < 1125899906842624 := fun _ hi => (h _ (Zbf hi default)).2
theorem s_Some {n : Net} {v a : Int} (h : NetIn n) (hv0 : 2 ≤ v) (hv1 : v ≤ 4096) (ha0 : 0 ≤ a) (ha1 : a ≤ 4096) : Ok (Z74 n v a) (fun r => Made r v a) := by
 have hN := Zb4 (x := n.N) (n := v - 1) (by omega)
 unfold Z74
 refine Ok.gd.2 ⟨(by omega), Ok.bind.2 (Z6y (Zgg (by omega)) (Ok.gd.2 ⟨(by omega), ?_⟩))⟩
 obtain ⟨m, hm⟩ : ∃ m : Nat, 2 + Zgv n.N (v - 1) = m := ⟨(2 + Zgv n.N (v - 1)).toNat, by omega⟩
 rw [hm]
 have hS := Zb4 (x := n.S) (n := (m : Int)) (by omega)
 have hT := Zb4 (x := n.T) (n := (m : Int)) (by omega)
 refine Ok.bind.2 (Z6y (Zgg (by omega)) (Ok.bind.2 (Z6y (Zgg (by omega)) ?_)))
 have key : ∀ t : Int, 0 ≤ t → t < m → t ≠ Zgv n.S m → Ok (Z4t n a (Zgv n.N (v - 1)) (Zgv n.S m) t) (fun r => Made r v a) := by
  intro t t0 t1 t2
  unfold Z4t
  refine Ok.gd.2 ⟨(by omega), Ok.bind.2 ?_⟩
  obtain ⟨q, hq⟩ : ∃ q : Nat, min (n.Arcs.length : Int) a = q := ⟨(min (n.Arcs.length : Int) a).toNat, by omega⟩
  obtain ⟨al, hal⟩ : ∃ l, l = n.Arcs.take (q : Int).toNat := ⟨_, rfl⟩
  have hlen : al.length = q := by rw [hal, List.length_take]; omega
  have hcap : ∀ b, b ∈ al → i64ok b.cap := fun b hb => (h.arcs b (List.mem_of_mem_take (by rw [← hal]; exact hb))).2.2
  refine Z9z (fun s => ∃ k : Nat, s.2 = k ∧ k ≤ q ∧ s.1.length = k ∧ SomeAt m s.1) (fun s => (q - s.2).toNat) ⟨0, rfl, by omega, rfl, fun b hb => by cases hb⟩ (by unfold Z6b; simp only; omega) ?_
  rintro ⟨ol, x⟩ ⟨k, h1, h2, h3, h4⟩ P next exit
  simp only at h1 h2 h3 h4 next ⊢
  subst h1
  unfold Z5v
  rw [hq, ← hal]
  simp only [Int.toNat_natCast]
  refine Ok.ite.2 ⟨fun hx => ?_, fun hx => ?_⟩
  ·
   have hkl : k < al.length := by omega
   have hc := hcap _ (Zbf hkl default)
   have hj : ∀ c : Int, 0 ≤ c → Ok (Z4s n a (Zgv n.N (v - 1)) ol k c) P := by
    intro c hc0
    unfold Z4s
    rw [hq, ← hal, hm]
    refine Ok.bind.2 (Z6y (Zgg (by omega)) (Ok.bind.2 (Z6y (Zgg (by omega)) (Ok.gd.2 ⟨?_, Ok.gd.2 ⟨(by omega), Ok.some.2 (next _ ⟨k + 1, by simp, by omega, by simp [h3], ?_⟩ (by simp only; omega))⟩⟩))))
    · rw [List.length_append, h3]; simp only [List.length_cons, List.length_nil]; constructor <;> omega
    · exact h4.put (Zb4 (by omega)) (Zb4 (by omega)) (Zhh hc0 (by omega))
   refine Ok.gd.2 ⟨(by omega), Ok.ite.2 ⟨fun hn => ?_, fun hn => ?_⟩⟩
   · exact Ok.gd.2 ⟨by constructor <;> omega, Ok.gd.2 ⟨by constructor <;> omega, hj (-((al.getD k default).cap + 1)) (by omega)⟩⟩
   · exact hj (al.getD k default).cap (by omega)
  ·
   refine Ok.some.2 (exit _ ?_)
   unfold Z6z
   refine Ok.some.2 ?_
   rw [hm]
   exact ⟨Zlx (by omega) (by omega) hS ⟨t0, t1⟩ t2 h4 (show ol.length ≤ 4096 by omega), by simpa using h4, by simp only; omega, by show (ol.length : Int) ≤ a; omega, ⟨by simp only; omega, hS.1, hS.2, t0, t1, fun e => t2 e.symm⟩⟩
 refine Ok.ite.2 ⟨fun he => ?_, fun he => ?_⟩
 ·
  refine Ok.gd.2 ⟨(by omega), Ok.gd.2 ⟨by omega, ?_⟩⟩
  obtain ⟨n1, n2, n3⟩ := next_ne hS.1 hS.2 (by omega)
  exact key _ n1 n2 n3
 · exact key _ hT.1 hT.2 (fun e => he e.symm)
structure CsrIs (n : Net) (m : Nat) (c : Csr) : Prop where
  hN : c.N = m
  hS : c.S = n.S
  hT : c.T = n.T
  ok : CsrOK n.Arcs m c.First c.Head c.Rev c.Cap c.Arc c.Back
def Zdq (rs cs : List Int) (res : List Int) (j : Nat) : Prop :=
  0 ≤ res.getD j 0 ∧ res.getD j 0 ≤ max (cs.getD j 0) (cs.getD (rs.getD j 0).toNat 0) ∧ res.getD (rs.getD j 0).toNat 0 = max (cs.getD j 0) (cs.getD (rs.getD j 0).toNat 0) - res.getD j 0
def FlowK (al : List Arc) (a : Nat) (res : List Int) (k : Nat) (fl : List Int) : Prop :=
  fl.length = a ∧ ∀ i, fl.getD i 0 = if i < al.length ∧ (al.getD i default).fr ≠ (al.getD i default).to ∧ pos al i true < k then res.getD (pos al i true) 0 else 0
theorem s_over {l : List Int} {a : Int} (hl : lenok l.length) : Ok (Z2l l a) (fun r => r = decide (∃ j, j < l.length ∧ a ≤ l.getD j 0)) := by
 unfold Z2l Z48
 refine Ok.bind.2 (Ok.bind.2 (Z9z (fun x => ∃ k : Nat, x = k ∧ k ≤ l.length ∧ ∀ j, j < k → ¬ a ≤ l.getD j 0) (fun x => (l.length - x).toNat) ⟨0, rfl, by omega, fun j hj => by omega⟩ (by unfold Z6b; omega) ?_))
 rintro x ⟨k, rfl, g2, g3⟩ P next exit
 unfold Z2k Zbe
 simp only [Int.toNat_natCast]
 refine Ok.ite.2 ⟨fun hx => ?_, fun hx => ?_⟩
 ·
  refine Ok.gd.2 ⟨(by omega), Ok.bind.2 (Ok.some.2 (Ok.ite.2 ⟨fun hd => ?_, fun hd => ?_⟩))⟩
  ·
   have hd := of_decide_eq_true hd
   refine Ok.some.2 (exit _ (Ok.some.2 (Ok.some.2 ?_)))
   rw [decide_eq_true (show (0 : Int) ≤ k by omega)]
   exact (decide_eq_true ⟨k, by omega, hd⟩).symm
  ·
   refine Ok.gd.2 ⟨(by omega), Ok.some.2 (next _ ⟨k + 1, by simp, by omega, fun j hj => ?_⟩ (by omega))⟩
   rcases Nat.lt_or_ge j k with h | h
   · exact g3 j h
   · rw [show j = k by omega]; exact fun h => hd (decide_eq_true h)
 ·
  refine Ok.some.2 (exit _ (Ok.some.2 (Ok.some.2 ?_)))
  refine (decide_eq_false ?_).symm
  rintro ⟨j, hj, hja⟩
  exact g3 j (by omega) hja
end Go.Acq
namespace Go.Acq
open Go
set_option linter.unusedSimpArgs false
def FirstAt (l : List Int) (x : Int) (r : Nat) : Prop := r ≤ l.length ∧ (∀ k, k < r → l.getD k 0 < x) ∧ (r < l.length → x ≤ l.getD r 0)
theorem Zj8 {l : List Int} {x : Int} (hl : l.length ≤ 4611686018427387904) (hm : ∀ i j, i ≤ j → j < l.length → l.getD i 0 ≤ l.getD j 0) : Ok (Z72 l x) (fun r => ∃ n : Nat, r = n ∧ FirstAt l x n) := by
 unfold Z72 Z4y
 refine Ok.bind.2 (Ok.bind.2 (Z9z (fun s => ∃ i j : Nat, s = ((i : Int), (j : Int)) ∧ i ≤ j ∧ j ≤ l.length ∧ (∀ k, k < i → l.getD k 0 < x) ∧ (j < l.length → x ≤ l.getD j 0)) (fun s => (s.2 - s.1).toNat) ⟨0, l.length, rfl, by omega, by omega, fun k h => by omega, fun h => by omega⟩ (by unfold Z6b; omega) ?_))
 rintro s ⟨i, j, rfl, h1, h2, h3, h4⟩ P next exit
 unfold Z2y Z7a
 have next : ∀ i' j' : Nat, i' ≤ j' → j' ≤ l.length → (∀ k, k < i' → l.getD k 0 < x) → (j' < l.length → x ≤ l.getD j' 0) → j' - i' < j - i → P (.inl ((i' : Int), (j' : Int))) := fun i' j' a b c d e => next _ ⟨i', j', rfl, a, b, c, d⟩ (by simp only; omega)
 simp only
 refine Ok.ite.2 ⟨fun hx => ?_, fun hx => Ok.some.2 (exit _ ?_)⟩
 ·
  have hd : Int.fdiv ((i : Int) + j) (2 ^ 1) = ((i + j) / 2 : Nat) := by rw [Int.fdiv_eq_ediv_of_nonneg _ (by omega)]; omega
  simp only [hd, Int.toNat_natCast]
  refine Ok.gd.2 ⟨(by omega), Ok.gd.2 ⟨(by omega), Ok.gd.2 ⟨(by omega), Ok.bind.2 (Ok.gd.2 ⟨(by omega), Ok.some.2 (Ok.ite.2 ⟨fun hb => ?_, fun hb => ?_⟩)⟩)⟩⟩⟩
  ·
   have hb : l.getD ((i + j) / 2) 0 < x := by
    have : ¬ x ≤ l.getD ((i + j) / 2) 0 := by simpa using hb
    omega
   refine Ok.gd.2 ⟨(by omega), Ok.some.2 ?_⟩
   have := next ((i + j) / 2 + 1) j (by omega) h2 (fun k hk => by have := hm k ((i + j) / 2) (by omega) (by omega); omega) h4 (by omega)
   rwa [show (((i + j) / 2 + 1 : Nat) : Int) = (((i + j) / 2 : Nat) : Int) + 1 by omega] at this
  ·
   have hb : x ≤ l.getD ((i + j) / 2) 0 := by
    have : ¬ ¬ x ≤ l.getD ((i + j) / 2) 0 := by simpa using hb
    omega
   exact Ok.some.2 (next i ((i + j) / 2) (by omega) (by omega) h3 (fun _ => hb) (by omega))
 ·
  unfold Z47
  have : i = j := by omega
  subst this
  exact Ok.some.2 (Ok.some.2 ⟨i, rfl, h2, h3, h4⟩)
theorem s_Len (c : Csr) : Zab c = some (c.Head.length : Int) := rfl
theorem s_Tail {n : Net} {m : Nat} {c : Csr} (hc : CsrIs n m c) (he : Zap m n.Arcs) (hm : m ≤ 4096) (hl : n.Arcs.length ≤ 16384) {i : Nat} {s : Bool} (hi : i < n.Arcs.length) (hne : (n.Arcs.getD i default).fr ≠ (n.Arcs.getD i default).to) :
    Z92 c (pos n.Arcs i s : Nat) = some (vtx (n.Arcs.getD i default) s, true) := by
  refine Zbu ?_
  have hp := Zcx (s := s) hi hne he
  have hbs := Zbi (al := n.Arcs) (v := m) (by omega) (by omega)
  have lf := hc.ok.lf
  have lh := hc.ok.lh
  unfold Z92
  refine Ok.ite.2 ⟨fun h => by omega, fun _ => Ok.bind.2 (Z6y (s_Len c) ?_)⟩
  unfold Z8a
  refine Ok.ite.2 ⟨fun h => by have := of_decide_eq_true h; omega, fun _ => Ok.gd.2 ⟨(by omega), ?_⟩⟩
  refine Ok.bind.2 (Ok.mono (Zj8 (by omega) fun a b hab hb => ?_) ?_)
  · rw [hc.ok.hf a (by omega), hc.ok.hf b (by omega)]
    have := Z7g (al := n.Arcs) hab
    omega
  rintro r ⟨k, rfl, g1, g2, g3⟩
  have hv := he i hi s
  obtain ⟨v, hv'⟩ : ∃ v : Nat, vtx (n.Arcs.getD i default) s = v := ⟨(vtx (n.Arcs.getD i default) s).toNat, by omega⟩
  have hcl := Zfi (s := s) hi hne hv.1
  have hpos : pos n.Arcs i s = Z1i n.Arcs v + cnt n.Arcs v i := by unfold pos; rw [hv', Int.toNat_natCast]
  rw [hv'] at hv hcl ⊢
  rw [Int.toNat_natCast] at hcl
  have hb1 : Z1i n.Arcs (v + 1) = Z1i n.Arcs v + cnt n.Arcs v n.Arcs.length := rfl
  have e : k = v + 1 := by
    rcases Nat.lt_trichotomy k (v + 1) with h | h | h
    · have h3 := g3 (by omega)
      rw [hc.ok.hf k (by omega)] at h3
      have := Z7g (al := n.Arcs) (show k ≤ v by omega)
      omega
    · exact h
    · have h3 := g2 (v + 1) h
      rw [hc.ok.hf (v + 1) (by omega)] at h3
      omega
  subst e
  refine Ok.gd.2 ⟨(by omega), Ok.some.2 ?_⟩
  simp
end Go.Acq
namespace Go.Acq
open Go
set_option linter.unusedSimpArgs false
def ex (al : List Arc) (f : List Int) (v : Int) : Nat → Int
  | 0 => 0
  | k + 1 => ex al f v k - (if (al.getD k default).fr = v then f.getD k 0 else 0) + (if (al.getD k default).to = v then f.getD k 0 else 0)
def tot (f : List Int) : Nat → Int
  | 0 => 0
  | k + 1 => tot f k + f.getD k 0
def part (al : List Arc) (f : List Int) (j : Int) : Nat → Int
  | 0 => 0
  | k + 1 => part al f j k - (if (al.getD k default).fr < j then f.getD k 0 else 0) + (if (al.getD k default).to < j then f.getD k 0 else 0)
theorem ex_le {al : List Arc} {f : List Int} (v : Int) {n : Nat} (h : ∀ i, i < n → 0 ≤ f.getD i 0) : ∀ k, k ≤ n → -tot f k ≤ ex al f v k ∧ ex al f v k ≤ tot f k
 | 0, _ => by simp [ex, tot]
 | k + 1, hk => by
  have ih := ex_le (al := al) v h k (by omega)
  have := h k hk
  simp only [ex, tot]
  split <;> split <;> omega
theorem Zid {f : List Int} {n : Nat} (h : ∀ i, i < n → 0 ≤ f.getD i 0) : ∀ j k, j ≤ k → k ≤ n → tot f j ≤ tot f k
  | j, 0, hj, _ => by have : j = 0 := by omega
                      subst this; exact Int.le_refl _
  | j, k + 1, hj, hk => by
    rcases Nat.lt_or_ge j (k + 1) with h1 | h1
    · have := Zid h j k (by omega) (by omega)
      have := h k hk
      simp only [tot]; omega
    · rw [show j = k + 1 by omega]; exact Int.le_refl _
theorem sumL_tot {f : List Int} : ∀ (al : List Arc) (left : Int) (k : Nat), (Zl4 left (al.drop k)).isSome = true → 0 ≤ left → k ≤ al.length → (∀ i, i < al.length → 0 ≤ f.getD i 0 ∧ f.getD i 0 ≤ (al.getD i default).cap) → tot f al.length - tot f k ≤ left := by
 intro al left k
 induction hn : al.length - k generalizing left k with
 | zero =>
  intro _ h0 hk _
  rw [show k = al.length by omega]; omega
 | succ n ih =>
  intro hs h0 hk hf
  have hkl : k < al.length := by omega
  rw [Zn6 hkl] at hs
  by_cases hc : (al.getD k default).cap < 0 ∨ left < (al.getD k default).cap
  · rw [if_pos hc] at hs; cases hs
  ·
   rw [if_neg hc] at hs
   have := ih (left - (al.getD k default).cap) (k + 1) (by omega) hs (by omega) (by omega) hf
   have hfk := hf k hkl
   simp only [tot] at this
   omega
def FwithinP (n : Net) (f : List Int) : Prop := Zb3 n.N n.S n.T n.Arcs = 0 ∧ f.length = n.Arcs.length ∧ ∀ i, i < n.Arcs.length → 0 ≤ f.getD i 0 ∧ f.getD i 0 ≤ (n.Arcs.getD i default).cap
theorem FwithinP.tot {n : Net} {f : List Int} (h : FwithinP n f) : ∀ k, k ≤ n.Arcs.length → 0 ≤ tot f k ∧ tot f k ≤ 4611686018427387904 := by
 intro k hk
 have hz := Z7f h.1
 have h1 := sumL_tot (f := f) n.Arcs 4611686018427387904 0 (by simpa using hz.2.2.2.2.2) (by omega) (by omega) h.2.2
 have h2 := Zid (fun i hi => (h.2.2 i hi).1) k n.Arcs.length hk (Nat.le_refl _)
 have h3 := Zid (fun i hi => (h.2.2 i hi).1) 0 k (by omega) hk
 simp only [Acq.tot] at h1 h3
 omega
theorem Zgt {b : Bool} (h : ¬(!b) = true) : b = true := by cases b; exact absurd rfl h; rfl
def AllP (n : Net) (f : List Int) (so : Int → Prop) (but : List Int) : Prop := FwithinP n f ∧ ∀ v : Nat, v < n.N.toNat → so (ex n.Arcs f v n.Arcs.length) ∨ (v : Int) ∈ but
end Go.Acq
namespace Go.Acq
open Go
set_option linter.unusedSimpArgs false
theorem Z9e {α : Type} {xs ys : List α} {d : α} {i : Nat} (h : i < xs.length) : (xs ++ ys).getD i d = xs.getD i d := by
 rw [List.getD_eq_getElem?_getD, List.getElem?_append_left h, List.getD_eq_getElem?_getD]
theorem Zji {α : Type} {xs ys : List α} {d : α} {i : Nat} (h : xs.length ≤ i) : (xs ++ ys).getD i d = ys.getD (i - xs.length) d := by
 rw [List.getD_eq_getElem?_getD, List.getElem?_append_right h, List.getD_eq_getElem?_getD]
theorem pos_row {al : List Arc} {i v : Nat} {s : Bool} (hi : i < al.length) (hne : (al.getD i default).fr ≠ (al.getD i default).to) (h0 : 0 ≤ vtx (al.getD i default) s) (h1 : Z1i al v ≤ pos al i s) (h2 : pos al i s < Z1i al (v + 1)) : vtx (al.getD i default) s = v ∧ pos al i s = Z1i al v + cnt al v i := by
 obtain ⟨u, hu⟩ : ∃ u : Nat, vtx (al.getD i default) s = u := ⟨(vtx (al.getD i default) s).toNat, by omega⟩
 have hcl := Zfi (s := s) hi hne h0
 have hpos : pos al i s = Z1i al u + cnt al u i := by unfold pos; rw [hu, Int.toNat_natCast]
 rw [hu, Int.toNat_natCast] at hcl
 have hb1 : Z1i al (u + 1) = Z1i al u + cnt al u al.length := rfl
 have : u = v := by
  rcases Nat.lt_trichotomy u v with h | h | h
  · have := Z7g (al := al) (show u + 1 ≤ v by omega); omega
  · exact h
  · have := Z7g (al := al) (show v + 1 ≤ u by omega); omega
 subst this
 exact ⟨hu, hpos⟩
end Go.Acq
namespace Go.Acq
open Go
set_option linter.unusedSimpArgs false
def inS (c : List Bool) (v : Int) : Bool := c.getD v.toNat false
def acK (al : List Arc) (f : List Int) (c : List Bool) : Nat → Int
  | 0 => 0
  | k + 1 => acK al f c k + (if inS c (al.getD k default).fr = true ∧ inS c (al.getD k default).to = false then f.getD k 0 else 0) - (if inS c (al.getD k default).fr = false ∧ inS c (al.getD k default).to = true then f.getD k 0 else 0)
def totC (al : List Arc) : Nat → Int
  | 0 => 0
  | k + 1 => totC al k + (al.getD k default).cap
theorem Zl3 (al : List Arc) : ∀ k, k ≤ al.length → totC al k = tot (al.map (·.cap)) k
 | 0, _ => rfl
 | k + 1, hk => by
  simp only [totC, tot, Zl3 al k (by omega)]
  rw [List.getD_eq_getElem?_getD, List.getD_eq_getElem?_getD, List.getElem?_map, List.getElem?_eq_getElem (show k < al.length by omega)]; rfl
theorem Zns {al : List Arc} {i : Nat} (hi : i < al.length) : (al.map (·.cap)).getD i 0 = (al.getD i default).cap := by
 rw [List.getD_eq_getElem?_getD, List.getD_eq_getElem?_getD, List.getElem?_map, List.getElem?_eq_getElem hi]; rfl
theorem Zkk {n : Net} (h : Zb3 n.N n.S n.T n.Arcs = 0) (hc : ∀ i, i < n.Arcs.length → 0 ≤ (n.Arcs.getD i default).cap) : FwithinP n (n.Arcs.map (·.cap)) :=
 ⟨h, by simp, fun i hi => by rw [Zns hi]; exact ⟨hc i hi, Int.le_refl _⟩⟩
theorem Zdc {n : Net} (h : Zb3 n.N n.S n.T n.Arcs = 0) : ∀ i, i < n.Arcs.length → 0 ≤ (n.Arcs.getD i default).cap := fun i hi => by
 have := List.all_eq_true.1 (Z7f h).2.2.2.2.1 _ (Zbf hi default)
 simpa [capB] using this
theorem Zka {n : Net} (h : Zb3 n.N n.S n.T n.Arcs = 0) : ∀ k, k ≤ n.Arcs.length → 0 ≤ totC n.Arcs k ∧ totC n.Arcs k ≤ 4611686018427387904 := fun k hk => by
 rw [Zl3 _ k hk]
 have := (Zkk h (Zdc h)).tot k (by simpa using hk)
 exact this
theorem cut_ends {n : Net} (h : Zb3 n.N n.S n.T n.Arcs = 0) : ∃ m : Nat, n.N = m ∧ Zap m n.Arcs := by
 have hz := Z7f h
 obtain ⟨m, hm⟩ : ∃ m : Nat, n.N = m := ⟨n.N.toNat, by omega⟩
 exact ⟨m, hm, Zgq (by rw [← hm]; exact hz.2.2.2.1)⟩
end Go.Acq
namespace Go.Acq
open Go
set_option linter.unusedSimpArgs false
inductive Reach (G : Nat → Nat → Prop) (s : Nat) : Nat → Prop
  | refl : Reach G s s
  | step {u v : Nat} : Reach G s u → G u v → Reach G s v
theorem Reach.trans {G : Nat → Nat → Prop} {a b c : Nat} (h : Reach G a b) (g : Reach G b c) : Reach G a c := by
 induction g with
 | refl => exact h
 | step _ h2 ih => exact .step ih h2
theorem Reach.mono {G K : Nat → Nat → Prop} {a b : Nat} (h : Reach G a b) (hk : ∀ u v, G u v → K u v) : Reach K a b := by
 induction h with
 | refl => exact .refl
 | step _ h2 ih => exact .step ih (hk _ _ h2)
def tc (l : List Bool) : Nat → Nat
  | 0 => 0
  | k + 1 => tc l k + if l.getD k false = true then 1 else 0
theorem tc_set {l : List Bool} {i : Nat} (hi : i < l.length) (hf : l.getD i false = false) : ∀ k : Nat, tc (l.set i true) k = tc l k + (if i < k then 1 else 0)
 | 0 => by simp [tc]
 | k + 1 => by
  have ih := tc_set hi hf k
  simp only [tc, ih, Zin]
  by_cases c : i = k
  ·
   subst c
   rw [if_neg (show ¬ i < i by omega), if_pos (show i = i ∧ i < l.length from ⟨rfl, hi⟩), hf, if_pos rfl, if_pos (show i < i + 1 by omega)]; rfl
  ·
   rw [if_neg (show ¬(i = k ∧ i < l.length) from fun h => c h.1)]
   by_cases c2 : i < k
   · rw [if_pos c2, if_pos (show i < k + 1 by omega)]; omega
   · rw [if_neg c2, if_neg (show ¬ i < k + 1 by omega)]; omega
structure MetI (G : Nat → Nat → Prop) (s m : Nat) (xs : List Bool) (row : List Int) : Prop where
  len : xs.length = m
  nat : ∀ q, q < row.length → ∃ v : Nat, row.getD q 0 = v ∧ v < m ∧ xs.getD v false = true ∧ Reach G s v
  has : ∀ v, v < m → xs.getD v false = true → ∃ q, q < row.length ∧ row.getD q 0 = (v : Int)
  cnt : row.length = tc xs m
theorem MetI.put {G : Nat → Nat → Prop} {s m v : Nat} {xs : List Bool} {row : List Int} (h : MetI G s m xs row) (hv : v < m) (hf : xs.getD v false = false) (hr : Reach G s v) : MetI G s m (xs.set v true) (row ++ [(v : Int)]) := by
 have hl := h.len
 refine ⟨by simp [hl], fun q hq => ?_, fun u hu hx => ?_, ?_⟩
 ·
  rw [List.length_append, List.length_singleton] at hq
  rcases Nat.lt_or_ge q row.length with h1 | h1
  ·
   obtain ⟨u, h2, h3, h4, h5⟩ := h.nat q h1
   refine ⟨u, by rw [Z9e h1]; exact h2, h3, ?_, h5⟩
   rw [Zin]; split
   · rfl
   · exact h4
  ·
   refine ⟨v, ?_, hv, by rw [Zin, if_pos ⟨rfl, by omega⟩], hr⟩
   rw [Zji h1, show q - row.length = 0 by omega]; rfl
 ·
  rw [Zin] at hx
  by_cases c : v = u
  ·
   refine ⟨row.length, by simp, ?_⟩
   rw [Zji (Nat.le_refl _), Nat.sub_self, ← c]; rfl
  ·
   rw [if_neg (fun h => c h.1)] at hx
   obtain ⟨q, h1, h2⟩ := h.has u hu hx
   exact ⟨q, by rw [List.length_append]; omega, by rw [Z9e h1]; exact h2⟩
 · rw [List.length_append, List.length_singleton, tc_set (by omega) hf, if_pos hv, h.cnt]
def OpenA (n : Net) (f : List Int) (u v : Nat) : Prop := ∃ i, i < n.Arcs.length ∧ (n.Arcs.getD i default).fr ≠ (n.Arcs.getD i default).to ∧
  (((n.Arcs.getD i default).fr = u ∧ (n.Arcs.getD i default).to = v ∧ f.getD i 0 < (n.Arcs.getD i default).cap) ∨ ((n.Arcs.getD i default).to = u ∧ (n.Arcs.getD i default).fr = v ∧ 0 < f.getD i 0))
end Go.Acq
namespace Go.Acq
open Go
set_option linter.unusedSimpArgs false
def Zgk (al : List Arc) (f : List Int) (c : List Bool) (j : Int) : Nat → Int
  | 0 => 0
  | k + 1 => Zgk al f c j k - (if (al.getD k default).fr < j ∧ inS c (al.getD k default).fr = false then f.getD k 0 else 0) + (if (al.getD k default).to < j ∧ inS c (al.getD k default).to = false then f.getD k 0 else 0)
theorem Zhm {al : List Arc} {f : List Int} {c : List Bool} (j : Int) : ∀ k, Zgk al f c (j + 1) k = Zgk al f c j k + (if inS c j = false then ex al f j k else 0)
 | 0 => by simp [Zgk, ex]
 | k + 1 => by
  have ih := Zhm (al := al) (f := f) (c := c) j k
  simp only [Zgk, ex, ih]
  have e1 : ∀ x : Int, (if x < j + 1 ∧ inS c x = false then f.getD k 0 else 0) = (if x < j ∧ inS c x = false then f.getD k 0 else 0) + (if x = j ∧ inS c j = false then f.getD k 0 else 0) := fun x => by
   by_cases h1 : x < j
   ·
    by_cases h3 : inS c x = false
    · rw [if_pos ⟨by omega, h3⟩, if_pos ⟨h1, h3⟩, if_neg (fun h => by omega)]; omega
    · rw [if_neg (fun h => h3 h.2), if_neg (fun h => h3 h.2), if_neg (fun h => by omega)]; omega
   ·
    by_cases h2 : x = j
    ·
     subst h2
     by_cases h3 : inS c x = false
     · rw [if_pos ⟨by omega, h3⟩, if_neg (fun h => h1 h.1), if_pos ⟨rfl, h3⟩]; omega
     · rw [if_neg (fun h => h3 h.2), if_neg (fun h => h3 h.2), if_neg (fun h => h3 h.2)]; omega
    · rw [if_neg (fun h => by omega), if_neg (fun h => by omega), if_neg (fun h => h2 h.1)]; omega
  rw [e1, e1]
  by_cases h : inS c j = false
  ·
   simp only [h, and_true, if_true]
   omega
  ·
   simp only [h, Bool.not_eq_false, and_false, if_false, ite_false, reduceCtorEq]
   omega
theorem Zhn {al : List Arc} {f : List Int} {c : List Bool} {m : Nat} (he : Zap m al) : ∀ k, k ≤ al.length → Zgk al f c 0 k = 0
 | 0, _ => rfl
 | k + 1, hk => by
  have h0 := he k hk false
  have h1 := he k hk true
  simp only [vtx, Bool.false_eq_true, if_false, if_true] at h0 h1
  simp only [Zgk, Zhn he k (by omega)]
  rw [if_neg (fun h => by omega), if_neg (fun h => by omega)]; rfl
theorem Zjc {al : List Arc} {f : List Int} {c : List Bool} {m : Nat} (he : Zap m al) : ∀ k, k ≤ al.length → Zgk al f c m k = acK al f c k
 | 0, _ => rfl
 | k + 1, hk => by
  have h0 := he k hk false
  have h1 := he k hk true
  simp only [vtx, Bool.false_eq_true, if_false, if_true] at h0 h1
  simp only [Zgk, acK, Zjc he k (by omega)]
  obtain ⟨A, hA⟩ : ∃ A, al.getD k default = A := ⟨_, rfl⟩
  obtain ⟨F, hF⟩ : ∃ F, f.getD k 0 = F := ⟨_, rfl⟩
  rw [hA] at h0 h1 ⊢
  rw [hF]
  cases a : inS c A.fr <;> cases b : inS c A.to <;> simp [h0.2, h1.2] <;> omega
end Go.Acq
namespace Go.Acq
open Go
set_option linter.unusedSimpArgs false
def Z9q (g : Nat → Int) : Nat → Int
  | 0 => 0
  | k + 1 => Z9q g k + g k
theorem Z9p {g h : Nat → Int} : ∀ {k : Nat}, (∀ i, i < k → g i = h i) → Z9q g k = Z9q h k
 | 0, _ => rfl
 | k + 1, e => by simp only [Z9q]; rw [Z9p fun i hi => e i (by omega), e k (by omega)]
theorem Zif (g h : Nat → Int) : ∀ k, Z9q (fun i => g i + h i) k = Z9q g k + Z9q h k
 | 0 => rfl
 | k + 1 => by simp only [Z9q, Zif g h k]; omega
theorem Zgc {g : Nat → Int} {k : Nat} (h : ∀ i, i < k → g i = 0) : Z9q g k = 0 := by
 induction k with
 | zero => rfl
 | succ k ih => simp only [Z9q]; rw [ih fun i hi => h i (by omega), h k (by omega)]; rfl
theorem Zce {g : Nat → Int} {i : Nat} : ∀ {k : Nat}, i < k → (∀ j, j < k → j ≠ i → g j = 0) → Z9q g k = g i
 | 0, h, _ => by omega
 | k + 1, h, e => by
  simp only [Z9q]
  by_cases c : i = k
  · subst c; rw [Zgc fun j hj => e j (by omega) (by omega)]; omega
  · rw [Zce (show i < k by omega) fun j hj hne => e j (by omega) hne, e k (by omega) (fun h => c h.symm)]; omega
theorem Zj6 (F : Nat → Nat → Int) (K : Nat) : ∀ L, Z9q (fun j => Z9q (fun i => F i j) K) L = Z9q (fun i => Z9q (fun j => F i j) L) K
 | 0 => (Zgc fun _ _ => rfl).symm
 | L + 1 => by
  simp only [Z9q]
  rw [Zj6 F K L, ← Zif]
theorem Zn4 {g h : Nat → Int} : ∀ {k : Nat}, (∀ i, i < k → g i ≤ h i) → Z9q g k ≤ Z9q h k
 | 0, _ => Int.le_refl _
 | k + 1, e => by
  have := Zn4 (k := k) fun i hi => e i (by omega)
  have := e k (by omega)
  simp only [Z9q]; omega
theorem Zgd {g : Nat → Int} {k : Nat} : ∀ {l : Nat}, k ≤ l → (∀ i, i < l → 0 ≤ g i) → Z9q g k ≤ Z9q g l
 | 0, h, _ => by rw [show k = 0 by omega]; exact Int.le_refl _
 | l + 1, h, e => by
  by_cases c : k = l + 1
  · subst c; exact Int.le_refl _
  ·
   have := Zgd (show k ≤ l by omega) fun i hi => e i (by omega)
   have := e l (by omega)
   simp only [Z9q]; omega
theorem Zkj (al : List Arc) (f : List Int) (v : Int) : ∀ k, ex al f v k = Z9q (fun i => (if (al.getD i default).to = v then f.getD i 0 else 0) - (if (al.getD i default).fr = v then f.getD i 0 else 0)) k
 | 0 => rfl
 | k + 1 => by simp only [ex, Z9q, Zkj al f v k]; omega
theorem Zic (f : List Int) : ∀ k, tot f k = Z9q (fun i => f.getD i 0) k
 | 0 => rfl
 | k + 1 => by simp only [tot, Z9q, Zic f k]
theorem Zlb {al : List Arc} {m : Nat} (he : Zap m al) (g : Nat → Int) : Z9q g (Z1i al m) = Z9q (fun i => if (al.getD i default).fr = (al.getD i default).to then 0 else g (pos al i false) + g (pos al i true)) al.length := by
 let F : Nat → Nat → Int := fun i j => if (al.getD i default).fr = (al.getD i default).to then 0 else (if pos al i false = j then g j else 0) + (if pos al i true = j then g j else 0)
 have e1 : Z9q g (Z1i al m) = Z9q (fun j => Z9q (fun i => F i j) al.length) (Z1i al m) := by
  refine Z9p fun j hj => ?_
  obtain ⟨i, s, hi, hne, hp, _⟩ := Zg5 (al := al) hj
  rw [Zce (i := i) hi]
  ·
   simp only [F]
   rw [if_neg hne]
   cases s
   ·
    have h2 : pos al i true ≠ j := fun e => by have := (Z7w he hi hi hne hne (hp.trans e.symm)).2; cases this
    rw [if_pos hp, if_neg h2]; omega
   ·
    have h2 : pos al i false ≠ j := fun e => by have := (Z7w he hi hi hne hne (hp.trans e.symm)).2; cases this
    rw [if_neg h2, if_pos hp]; omega
  ·
   intro i' hi' hii
   simp only [F]
   by_cases c : (al.getD i' default).fr = (al.getD i' default).to
   · rw [if_pos c]
   · rw [if_neg c, if_neg fun e => hii (Z7w he hi' hi c hne (e.trans hp.symm)).1, if_neg fun e => hii (Z7w he hi' hi c hne (e.trans hp.symm)).1]; rfl
 rw [e1, Zj6]
 refine Z9p fun i hi => ?_
 by_cases c : (al.getD i default).fr = (al.getD i default).to
 ·
  rw [if_pos c]
  exact Zgc fun j _ => by simp only [F]; rw [if_pos c]
 ·
  rw [if_neg c]
  have e2 : Z9q (fun j => F i j) (Z1i al m) = Z9q (fun j => (if pos al i false = j then g j else 0) + (if pos al i true = j then g j else 0)) (Z1i al m) := Z9p fun j _ => by simp only [F]; rw [if_neg c]
  rw [e2, Zif, Zce (i := pos al i false) (Zcx hi c he) fun j _ hj => if_neg fun e => hj e.symm, Zce (i := pos al i true) (Zcx hi c he) fun j _ hj => if_neg fun e => hj e.symm, if_pos rfl, if_pos rfl]
def hd (c : Csr) (j : Nat) : Nat := (c.Head.getD j 0).toNat
def rv (c : Csr) (j : Nat) : Nat := (c.Rev.getD j 0).toNat
def fs (c : Csr) (v : Nat) : Nat := (c.First.getD v 0).toNat
def tl (c : Csr) (j : Nat) : Nat := hd c (rv c j)
def bk (c : Csr) (j : Nat) : Bool := c.Back.getD j false
def cp (c : Csr) (j : Nat) : Int := max (c.Cap.getD j 0) (c.Cap.getD (rv c j) 0)
structure Row (n : Net) (m L : Nat) (c : Csr) : Prop where
  is : CsrIs n m c
  chk : Zb3 n.N n.S n.T n.Arcs = 0
  hm : n.N = m
  hL : Z1i n.Arcs m = L
section row
variable {n : Net} {m L : Nat} {c : Csr}
theorem Row.he (r : Row n m L c) : Zap m n.Arcs := Zgq (by rw [← r.hm]; exact (Z7f r.chk).2.2.2.1)
theorem Row.bd (r : Row n m L c) : 2 ≤ m ∧ m ≤ 4096 ∧ n.Arcs.length ≤ 16384 ∧ L ≤ 67108864 := by
 have hz := Z7f r.chk
 have := r.hm
 have hb := Zbi (al := n.Arcs) (v := m) (by omega) (by omega)
 have := r.hL
 omega
theorem Row.ends (r : Row n m L c) : (∃ S : Nat, n.S = S ∧ c.S = S ∧ S < m) ∧ (∃ T : Nat, n.T = T ∧ c.T = T ∧ T < m) ∧ n.S ≠ n.T ∧ c.N = m := by
 have hz := Z7f r.chk
 simp only [Z8g, decide_eq_true_eq] at hz
 have h1 := r.hm
 have h2 := r.is.hS
 have h3 := r.is.hT
 exact ⟨⟨n.S.toNat, by omega, by omega, by omega⟩, ⟨n.T.toNat, by omega, by omega, by omega⟩, hz.2.2.1.2.2, r.is.hN⟩
theorem Row.caps (r : Row n m L c) : ∀ i, i < n.Arcs.length → 0 ≤ (n.Arcs.getD i default).cap ∧ (n.Arcs.getD i default).cap ≤ 4611686018427387904 := fun i hi => by
 have h0 := Zdc r.chk i hi
 have h1 := Zka r.chk (i + 1) hi
 have h2 := Zka r.chk i (by omega)
 simp only [totC] at h1
 omega
theorem Row.lens (r : Row n m L c) : c.First.length = m + 1 ∧ c.Head.length = L ∧ c.Rev.length = L ∧ c.Cap.length = L ∧ c.Arc.length = L ∧ c.Back.length = L := by
 have h := r.is.ok
 rw [← r.hL]
 exact ⟨h.lf, h.lh, h.lr, h.lc, h.la, h.lb⟩
theorem Row.at (r : Row n m L c) {j : Nat} (hj : j < L) : ∃ i s, i < n.Arcs.length ∧ (n.Arcs.getD i default).fr ≠ (n.Arcs.getD i default).to ∧ pos n.Arcs i s = j ∧ c.Head.getD j 0 = (hd c j : Nat) ∧ (hd c j : Int) = vtx (n.Arcs.getD i default) (!s) ∧ (tl c j : Int) = vtx (n.Arcs.getD i default) s ∧
    c.Rev.getD j 0 = (rv c j : Nat) ∧ rv c j = pos n.Arcs i (!s) ∧ c.Cap.getD j 0 = (if s then 0 else (n.Arcs.getD i default).cap) ∧ c.Arc.getD j 0 = i ∧ bk c j = s := by
  obtain ⟨i, s, hi, hne, hp, q1, q2, q3, q4, q5⟩ := r.is.ok.place (by rw [r.hL]; exact hj)
  have hv := r.he i hi (!s)
  have hv2 := r.he i hi s
  have hr : rv c j = pos n.Arcs i (!s) := by unfold rv; rw [q2, Int.toNat_natCast]
  refine ⟨i, s, hi, hne, hp, by unfold hd; omega, by unfold hd; omega, ?_, by unfold rv; omega, hr, q3, q4, q5⟩
  unfold tl hd
  rw [hr, (r.is.ok.hat i hi hne (!s)).1, Bool.not_not]; omega
theorem Row.head (r : Row n m L c) {j : Nat} (hj : j < L) : c.Head.getD j 0 = (hd c j : Nat) ∧ hd c j < m := by
 obtain ⟨i, s, hi, hne, hp, q1, q2, q3, q4, q5, q6, q7, q8⟩ := r.at hj
 have hv := r.he i hi (!s)
 exact ⟨q1, by omega⟩
theorem Row.rev (r : Row n m L c) {j : Nat} (hj : j < L) : c.Rev.getD j 0 = (rv c j : Nat) ∧ rv c j < L ∧ rv c (rv c j) = j ∧ rv c j ≠ j := by
 obtain ⟨i, s, hi, hne, hp, q1, q2, q3, q4, q5, q6, q7, q8⟩ := r.at hj
 have hq : pos n.Arcs i (!s) < L := by rw [← r.hL]; exact Zcx hi hne r.he
 refine ⟨q4, by rw [q5]; exact hq, ?_, fun e => ?_⟩
 ·
  have := (r.is.ok.hat i hi hne (!s)).2.1
  rw [q5]; unfold rv; rw [this, Int.toNat_natCast, Bool.not_not, hp]
 ·
  have := (Z7w r.he hi hi hne hne (q5.symm.trans (e.trans hp.symm))).2
  cases s <;> cases this
theorem Row.tlh (r : Row n m L c) {j : Nat} (hj : j < L) : tl c j < m ∧ tl c (rv c j) = hd c j ∧ hd c (rv c j) = tl c j ∧ tl c j ≠ hd c j := by
 obtain ⟨i, s, hi, hne, hp, q1, q2, q3, q4, q5, q6, q7, q8⟩ := r.at hj
 have hv := r.he i hi s
 refine ⟨by omega, ?_, rfl, fun e => ?_⟩
 · unfold tl; rw [(r.rev hj).2.2.1]
 ·
  apply hne
  have : vtx (n.Arcs.getD i default) s = vtx (n.Arcs.getD i default) (!s) := by omega
  cases s <;> simpa [vtx, eq_comm] using this
theorem Row.back (r : Row n m L c) {j : Nat} (hj : j < L) : bk c (rv c j) = !bk c j := by
 obtain ⟨i, s, hi, hne, hp, q1, q2, q3, q4, q5, q6, q7, q8⟩ := r.at hj
 unfold bk at q8 ⊢
 rw [q5, (r.is.ok.hat i hi hne (!s)).2.2.2.2, q8]
theorem Row.first (r : Row n m L c) : (∀ v, v ≤ m → c.First.getD v 0 = (fs c v : Nat) ∧ fs c v = Z1i n.Arcs v) ∧ fs c 0 = 0 ∧ fs c m = L ∧ ∀ v, v < m → fs c v ≤ fs c (v + 1) ∧ fs c (v + 1) ≤ L := by
 have h : ∀ v, v ≤ m → c.First.getD v 0 = (fs c v : Nat) ∧ fs c v = Z1i n.Arcs v := fun v hv => by
  have := r.is.ok.hf v hv
  unfold fs; rw [this, Int.toNat_natCast]; exact ⟨rfl, rfl⟩
 refine ⟨h, by rw [(h 0 (by omega)).2]; rfl, by rw [(h m (Nat.le_refl _)).2]; exact r.hL, fun v hv => ?_⟩
 rw [(h v (by omega)).2, (h (v + 1) (by omega)).2, ← r.hL]
 exact ⟨Z7g (by omega), Z7g (by omega)⟩
theorem Row.range (r : Row n m L c) {j u : Nat} (hj : j < L) (hu : u < m) : (fs c u ≤ j ∧ j < fs c (u + 1)) ↔ tl c j = u := by
 obtain ⟨i, s, hi, hne, hp, q1, q2, q3, q4, q5, q6, q7, q8⟩ := r.at hj
 have hv := r.he i hi s
 have f1 := (r.first.1 u (by omega)).2
 have f2 := (r.first.1 (u + 1) (by omega)).2
 constructor
 ·
  rintro ⟨h1, h2⟩
  have := (pos_row (v := u) hi hne hv.1 (by omega) (by omega)).1
  omega
 ·
  intro h
  have hcl := Zfi (s := s) hi hne hv.1
  have hpos : pos n.Arcs i s = Z1i n.Arcs (vtx (n.Arcs.getD i default) s).toNat + cnt n.Arcs (vtx (n.Arcs.getD i default) s).toNat i := rfl
  have e : (vtx (n.Arcs.getD i default) s).toNat = u := by omega
  rw [e] at hcl hpos
  have hb1 : Z1i n.Arcs (u + 1) = Z1i n.Arcs u + cnt n.Arcs u n.Arcs.length := rfl
  omega
theorem Row.cap (r : Row n m L c) {j : Nat} (hj : j < L) : 0 ≤ c.Cap.getD j 0 ∧ c.Cap.getD j 0 + c.Cap.getD (rv c j) 0 = cp c j ∧ cp c (rv c j) = cp c j ∧ 0 ≤ cp c j ∧ cp c j ≤ 4611686018427387904 ∧ (bk c j = true → c.Cap.getD j 0 = 0) := by
 obtain ⟨i, s, hi, hne, hp, q1, q2, q3, q4, q5, q6, q7, q8⟩ := r.at hj
 have hc := r.caps i hi
 have h2 : c.Cap.getD (rv c j) 0 = if (!s) then 0 else (n.Arcs.getD i default).cap := by rw [q5]; exact (r.is.ok.hat i hi hne (!s)).2.2.1
 have h3 := (r.rev hj).2.2.1
 unfold cp
 rw [h3, q6, h2, q8]
 cases s
 · simp only [Bool.not_false, if_true, Bool.false_eq_true, if_false, false_implies, and_true]; omega
 · simp only [Bool.not_true, if_true, Bool.false_eq_true, if_false, true_implies, and_true]; omega
theorem Row.cpPos (r : Row n m L c) {i : Nat} (hi : i < n.Arcs.length) (hne : (n.Arcs.getD i default).fr ≠ (n.Arcs.getD i default).to) (s : Bool) : cp c (pos n.Arcs i s) = (n.Arcs.getD i default).cap ∧ rv c (pos n.Arcs i s) = pos n.Arcs i (!s) ∧ pos n.Arcs i s < L := by
 have z := r.is.ok.hat i hi hne s
 have z2 := r.is.ok.hat i hi hne (!s)
 have hc := r.caps i hi
 have hr : rv c (pos n.Arcs i s) = pos n.Arcs i (!s) := by unfold rv; rw [z.2.1, Int.toNat_natCast]
 refine ⟨?_, hr, by rw [← r.hL]; exact Zcx hi hne r.he⟩
 unfold cp
 rw [hr, z.2.2.1, z2.2.2.1]
 cases s <;> simp only [Bool.not_true, Bool.not_false, if_true, Bool.false_eq_true, if_false] <;> omega
theorem Row.tailM (r : Row n m L c) {j : Nat} (hj : j < L) : Z92 c (j : Nat) = some (((tl c j : Nat) : Int), true) := by
 obtain ⟨i, s, hi, hne, hp, q1, q2, q3, q4, q5, q6, q7, q8⟩ := r.at hj
 have b := r.bd
 have := s_Tail r.is r.he (by omega) (by omega) (s := s) hi hne
 rw [hp] at this
 rw [this, q3]
theorem Row.tailN (r : Row n m L c) {a : Int} (h : ¬(0 ≤ a ∧ a < L)) : Z92 c a = some (0, false) := by
 have := r.lens.2.1
 unfold Z92 Zab Z8a
 by_cases c1 : a < 0
 · rw [if_pos c1, if_pos rfl]
 ·
  rw [if_neg c1]
  simp only [Option.bind_some]
  rw [if_pos (decide_eq_true (by omega))]
theorem Zhi {S X : Type} {y : S → Int → Option (S ⊕ X)} {s0 : S} {u : Nat} (r : Row n m L c) (hu : u < m) (I : Nat → S → Prop) (J : X → Prop) (h0 : I (fs c u) s0)
    (hstep : ∀ j s, fs c u ≤ j → j < fs c (u + 1) → I j s → Ok (y s (j : Nat)) (fun t => match t with | .inl s' => I (j + 1) s' | .inr x => J x)) :
    Ok (Z5b y c (u : Nat) (.inl s0)) (fun t => match t with | .inl s => I (fs c (u + 1)) s | .inr x => J x) := by
  have lf := r.lens.1
  have b := r.bd
  have f1 := (r.first.1 u (by omega)).1
  have f2 := (r.first.1 (u + 1) (by omega)).1
  have f3 := r.first.2.2.2 u hu
  have e1 : ((u : Int) + 1).toNat = u + 1 := by omega
  unfold Z5b
  simp only [Int.toNat_natCast, f1]
  refine Ok.gd.2 ⟨(by omega), Ok.bind.2 (Z9z (fun s => ∃ (k : Nat) (st : S), s = ((k : Int), Sum.inl st) ∧ fs c u ≤ k ∧ k ≤ fs c (u + 1) ∧ I k st) (fun s => (fs c (u + 1) - s.1).toNat) ⟨fs c u, s0, rfl, Nat.le_refl _, f3.1, h0⟩ (by unfold Z6b; simp only; omega) ?_)⟩
  rintro s ⟨k, st, rfl, hk0, hk, hI⟩ P next exit
  unfold Z7x
  simp only [Int.toNat_natCast, e1, f2]
  refine Ok.gd.2 ⟨(by omega), Ok.gd.2 ⟨(by omega), Ok.ite.2 ⟨fun hx => ?_, fun hx => Ok.some.2 (exit _ (Ok.some.2 ?_))⟩⟩⟩
  · refine Ok.bind.2 ?_
    show Ok (y st _) _
    refine Ok.mono (hstep k st hk0 (by omega) hI) ?_
    rintro (s' | x) hr
    · exact Ok.ite.2 ⟨fun h => by simp at h, fun _ => Ok.gd.2 ⟨(by omega), Ok.some.2 (next _ ⟨k + 1, s', by simp, by omega, by omega, hr⟩ (by simp only; omega))⟩⟩
    · exact Ok.ite.2 ⟨fun _ => Ok.some.2 (exit _ (Ok.some.2 hr)), fun h => by simp at h⟩
  · obtain rfl : k = fs c (u + 1) := by omega
    exact hI
def flN (al : List Arc) (R : List Int) : List Int := (List.range al.length).map fun i => if (al.getD i default).fr = (al.getD i default).to then 0 else R.getD (pos al i true) 0
theorem flN_len (al : List Arc) (R : List Int) : (flN al R).length = al.length := by simp [flN]
theorem Za2 {al : List Arc} {R : List Int} {i : Nat} (h : i < al.length) : (flN al R).getD i 0 = if (al.getD i default).fr = (al.getD i default).to then 0 else R.getD (pos al i true) 0 := by
 unfold flN
 rw [List.getD_eq_getElem?_getD, List.getElem?_map, List.getElem?_range h]; rfl
structure ResOK (n : Net) (m L : Nat) (c : Csr) (R X : List Int) : Prop where
  lr : R.length = L
  lx : X.length = m
  res : ∀ j, j < L → 0 ≤ R.getD j 0 ∧ R.getD j 0 + R.getD (rv c j) 0 = cp c j
  ex : ∀ v : Nat, v < m → X.getD v 0 = ex n.Arcs (flN n.Arcs R) v n.Arcs.length
theorem Zhj {R : List Int} (r : Row n m L c) (h : ∀ j, j < L → 0 ≤ R.getD j 0 ∧ R.getD j 0 + R.getD (rv c j) 0 = cp c j) : FwithinP n (flN n.Arcs R) := by
 refine ⟨r.chk, flN_len _ _, fun i hi => ?_⟩
 rw [Za2 hi]
 have hc := r.caps i hi
 by_cases e : (n.Arcs.getD i default).fr = (n.Arcs.getD i default).to
 · rw [if_pos e]; omega
 ·
  rw [if_neg e]
  obtain ⟨a1, a2, a3⟩ := r.cpPos hi e true
  have h1 := h _ a3
  have h2 := h _ (r.rev a3).2.1
  omega
theorem ResOK.within {R X : List Int} (h : ResOK n m L c R X) (r : Row n m L c) : FwithinP n (flN n.Arcs R) := Zhj r h.res
theorem Zn2 {f : List Int} (hw : FwithinP n f) (v : Int) : -4611686018427387904 ≤ ex n.Arcs f v n.Arcs.length ∧ ex n.Arcs f v n.Arcs.length ≤ 4611686018427387904 := by
 have := ex_le (al := n.Arcs) v (fun i hi => (hw.2.2 i hi).1) n.Arcs.length (Nat.le_refl _)
 have := hw.tot n.Arcs.length (Nat.le_refl _)
 omega
theorem ResOK.bnd {R X : List Int} (h : ResOK n m L c R X) (r : Row n m L c) {v : Nat} (hv : v < m) : -4611686018427387904 ≤ X.getD v 0 ∧ X.getD v 0 ≤ 4611686018427387904 := by
 rw [h.ex v hv]; exact Zn2 (h.within r) v
theorem ResOK.rle {R X : List Int} (h : ResOK n m L c R X) (r : Row n m L c) {j : Nat} (hj : j < L) : 0 ≤ R.getD j 0 ∧ R.getD j 0 ≤ cp c j ∧ R.getD j 0 ≤ 4611686018427387904 := by
 have h1 := h.res j hj
 have h2 := h.res _ (r.rev hj).2.1
 have h3 := r.cap hj
 omega
def mvR (c : Csr) (R : List Int) (j : Nat) (d : Int) : List Int := (R.set j (R.getD j 0 - d)).set (rv c j) (R.getD (rv c j) 0 + d)
def mvX (c : Csr) (X : List Int) (j : Nat) (d : Int) : List Int := (X.set (tl c j) (X.getD (tl c j) 0 - d)).set (hd c j) (X.getD (hd c j) 0 + d)
theorem Zbc {R : List Int} {j k : Nat} {d : Int} (r : Row n m L c) (hl : R.length = L) (hj : j < L) : (mvR c R j d).getD k 0 = if k = rv c j then R.getD (rv c j) 0 + d else if k = j then R.getD j 0 - d else R.getD k 0 := by
 have := r.rev hj
 unfold mvR
 rw [Zin, Zin, List.length_set]
 by_cases c1 : k = rv c j
 · rw [if_pos ⟨c1.symm, by omega⟩, if_pos c1]
 ·
  rw [if_neg fun h => c1 h.1.symm, if_neg c1]
  by_cases c2 : k = j
  · rw [if_pos ⟨c2.symm, by omega⟩, if_pos c2]
  · rw [if_neg fun h => c2 h.1.symm, if_neg c2]
theorem Zd9 {X : List Int} {j k : Nat} {d : Int} (r : Row n m L c) (hl : X.length = m) (hj : j < L) : (mvX c X j d).getD k 0 = X.getD k 0 - (if tl c j = k then d else 0) + (if hd c j = k then d else 0) := by
 have h1 := r.tlh hj
 have h2 := r.head hj
 unfold mvX
 rw [Zin, Zin, List.length_set]
 by_cases c1 : hd c j = k
 ·
  subst c1
  rw [if_pos ⟨rfl, by omega⟩, if_neg h1.2.2.2, if_pos rfl]; omega
 ·
  rw [if_neg fun h => c1 h.1]
  by_cases c2 : tl c j = k
  ·
   subst c2
   rw [if_pos ⟨rfl, by omega⟩, if_pos rfl, if_neg c1]; omega
  · rw [if_neg fun h => c2 h.1, if_neg c2, if_neg c1]; omega
theorem ex_bump {al : List Arc} {f g : List Int} {i : Nat} {δ : Int} {K : Nat} (v : Int) (hi : i < K) (h : ∀ k, k < K → g.getD k 0 = f.getD k 0 + if k = i then δ else 0) :
    ex al g v K = ex al f v K + ((if (al.getD i default).to = v then δ else 0) - (if (al.getD i default).fr = v then δ else 0)) := by
  have key : ∀ k, k ≤ K → ex al g v k = ex al f v k + if i < k then ((if (al.getD i default).to = v then δ else 0) - (if (al.getD i default).fr = v then δ else 0)) else 0 := by
    intro k
    induction k with
    | zero => intro _; rw [if_neg (by omega)]; rfl
    | succ k ih =>
      intro hk
      simp only [ex]
      rw [ih (by omega), h k (by omega)]
      by_cases e : k = i
      · subst e
        rw [if_neg (show ¬ k < k by omega), if_pos rfl, if_pos (show k < k + 1 by omega)]
        split <;> split <;> omega
      · rw [if_neg e]
        by_cases e2 : i < k
        · rw [if_pos e2, if_pos (show i < k + 1 by omega)]; simp only [Int.add_zero]; omega
        · rw [if_neg e2, if_neg (show ¬ i < k + 1 by omega)]; simp only [Int.add_zero]
  rw [key K (Nat.le_refl _), if_pos hi]
theorem ResOK.move {R X : List Int} {j : Nat} {d : Int} (h : ResOK n m L c R X) (r : Row n m L c) (hj : j < L) (d0 : 0 ≤ d) (d1 : d ≤ R.getD j 0) : ResOK n m L c (mvR c R j d) (mvX c X j d) := by
 have hr := r.rev hj
 have hlr := h.lr
 have hlx := h.lx
 refine ⟨by simp [mvR, hlr], by simp [mvX, hlx], fun k hk => ?_, fun v hv => ?_⟩
 ·
  have hk2 := r.rev hk
  have a := h.res k hk
  have a2 := h.res _ hr.2.1
  have a3 := h.res j hj
  have a4 := r.cap hj
  rw [Zbc r hlr hj, Zbc r hlr hj]
  by_cases c1 : k = rv c j
  ·
   subst c1
   rw [if_pos rfl, hr.2.2.1, if_neg fun e => hr.2.2.2 e.symm, if_pos rfl, a4.2.2.1]; omega
  ·
   by_cases c2 : k = j
   ·
    subst c2
    rw [if_neg c1, if_pos rfl, if_pos rfl]; omega
   ·
    have c3 : rv c k ≠ rv c j := fun e => c2 (by rw [← hk2.2.2.1, e, hr.2.2.1])
    have c4 : rv c k ≠ j := fun e => c1 (by rw [← e, hk2.2.2.1])
    rw [if_neg c1, if_neg c2, if_neg c3, if_neg c4]; exact a
 ·
  obtain ⟨i, s, hi, hne, hp, q1, q2, q3, q4, q5, q6, q7, q8⟩ := r.at hj
  rw [Zd9 r hlx hj, h.ex v hv, ex_bump (f := flN n.Arcs R) (g := flN n.Arcs (mvR c R j d)) (i := i) (δ := if s then -d else d) (v : Int) hi fun k hk => ?_]
  ·
   have t1 : (tl c j = v) ↔ vtx (n.Arcs.getD i default) s = (v : Int) := by rw [← q3]; omega
   have t2 : (hd c j = v) ↔ vtx (n.Arcs.getD i default) (!s) = (v : Int) := by rw [← q2]; omega
   simp only [t1, t2]
   cases s <;> simp only [vtx, Bool.not_false, Bool.not_true, if_true, if_false, Bool.false_eq_true] <;> split <;> split <;> omega
  ·
   rw [Za2 hk, Za2 hk]
   by_cases e : (n.Arcs.getD k default).fr = (n.Arcs.getD k default).to
   ·
    have : k ≠ i := fun e2 => by subst e2; exact hne e
    rw [if_pos e, if_pos e, if_neg this]; rfl
   ·
    rw [if_neg e, if_neg e, Zbc r hlr hj]
    by_cases e2 : k = i
    ·
     subst e2
     cases s
     ·
      have b1 : pos n.Arcs k true = rv c j := by rw [q5]; rfl
      rw [if_pos b1, if_pos rfl, b1]; rfl
     ·
      have b1 : pos n.Arcs k true ≠ rv c j := fun e3 => by rw [q5] at e3; have := (Z7w r.he hk hk e e e3).2; cases this
      rw [if_neg b1, if_pos hp, if_pos rfl, hp]; rfl
    ·
     have b1 : pos n.Arcs k true ≠ rv c j := fun e3 => by rw [q5] at e3; exact e2 (Z7w r.he hk hi e hne e3).1
     have b2 : pos n.Arcs k true ≠ j := fun e3 => by rw [← hp] at e3; exact e2 (Z7w r.he hk hi e hne e3).1
     rw [if_neg b1, if_neg b2, if_neg e2, Int.add_zero]
theorem Zne {p : Pre} {j : Nat} {d : Int} (r : Row n m L c) (h : ResOK n m L c p.Res p.Ex) (hj : j < L) (d0 : 0 ≤ d) (d1 : d ≤ p.Res.getD j 0) : Zaw c p (j : Nat) d = some ⟨mvR c p.Res j d, mvX c p.Ex j d, p.H⟩ := by
 refine Zbu ?_
 obtain ⟨-, lh, lr, -, -, -⟩ := r.lens
 have h1 := r.head hj
 have h2 := r.rev hj
 have h3 := r.tlh hj
 have h4 := r.head h2.2.1
 have hlr := h.lr
 have hlx := h.lx
 have hm := h.move r hj d0 d1
 have b1 := h.bnd r h3.1
 have b2 := hm.bnd r h1.2
 have b3 := h.rle r hj
 have b4 := hm.rle r h2.2.1
 have b5 := h.rle r h2.2.1
 rw [Zd9 r hlx hj, if_neg h3.2.2.2, if_pos rfl] at b2
 rw [Zbc r hlr hj, if_pos rfl] at b4
 have e1 : (p.Res.set j (p.Res.getD j 0 - d)).getD (rv c j) 0 = p.Res.getD (rv c j) 0 := Z8i fun e => h2.2.2.2 e.symm
 have e2 : (p.Ex.set (tl c j) (p.Ex.getD (tl c j) 0 - d)).getD (hd c j) 0 = p.Ex.getD (hd c j) 0 := Z8i h3.2.2.2
 have e3 : c.Head.getD (rv c j) 0 = (tl c j : Nat) := h4.1
 unfold Zaw
 simp only [Int.toNat_natCast, h1.1, h2.1, e3, e1, e2, List.length_set, hlr, hlx, lh, lr]
 have i1 : inb (j : Int) L := by constructor <;> omega
 have i2 : inb ((rv c j : Nat) : Int) L := by constructor <;> omega
 have i3 : inb ((tl c j : Nat) : Int) m := by constructor <;> omega
 have i4 : inb ((hd c j : Nat) : Int) m := by constructor <;> omega
 have o1 : i64ok (p.Res.getD j 0 - d) := by constructor <;> omega
 have o2 : i64ok (p.Res.getD (rv c j) 0 + d) := by constructor <;> omega
 have o3 : i64ok (p.Ex.getD (tl c j) 0 - d) := by constructor <;> omega
 have o4 : i64ok (p.Ex.getD (hd c j) 0 + d) := by constructor <;> omega
 refine Ok.gd.2 ⟨i1, Ok.gd.2 ⟨i2, Ok.gd.2 ⟨i1, Ok.gd.2 ⟨o1, Ok.gd.2 ⟨i1, Ok.gd.2 ⟨i1, Ok.gd.2 ⟨i2, Ok.gd.2 ⟨o2, Ok.gd.2 ⟨i2, Ok.gd.2 ⟨i3, Ok.gd.2 ⟨o3, Ok.gd.2 ⟨i3, Ok.gd.2 ⟨i1, Ok.gd.2 ⟨i4, Ok.gd.2 ⟨o4, Ok.gd.2 ⟨i4, Ok.some.2 rfl⟩⟩⟩⟩⟩⟩⟩⟩⟩⟩⟩⟩⟩⟩⟩⟩
theorem Ze7 {xs : List Int} (h : xs.length ≤ 1000000000) : Z3x xs = some xs := by
 refine Zbu ?_
 unfold Z3x
 exact Ok.gd.2 ⟨by constructor <;> omega, Ok.some.2 rfl⟩
theorem s_CloneI {xs : List Int} (h : xs.length ≤ 1000000000) : Z6g xs = some xs := by
 refine Zbu ?_
 unfold Z6g
 exact Ok.gd.2 ⟨by constructor <;> omega, Ok.some.2 rfl⟩
end row
end Go.Acq
namespace Go.Acq
open Go
set_option linter.unusedSimpArgs false
theorem s_FlowG {n : Net} {m a : Nat} {c : Csr} {res : List Int} (h : CsrIs n m c) (he : Zap m n.Arcs) (hm : m ≤ 4096) (hl : n.Arcs.length ≤ 16384) (hal : ∀ j, j < Z1i n.Arcs m → c.Arc.getD j 0 < a) (ha : a ≤ 16384)
    (hcap : ∀ i, i < n.Arcs.length → 0 ≤ (n.Arcs.getD i default).cap ∧ (n.Arcs.getD i default).cap ≤ 4611686018427387904) (hr : res.length = Z1i n.Arcs m) :
    Ok (Zax c res a) (fun r => ((∀ j, j < Z1i n.Arcs m → Zdq c.Rev c.Cap res j) ∧ r.2 = 0 ∧ FlowK n.Arcs a res (Z1i n.Arcs m) r.1) ∨ ((∃ j, j < Z1i n.Arcs m ∧ ¬Zdq c.Rev c.Cap res j) ∧ r = ([], 20))) := by
  have hok := h.ok
  have lh := hok.lh
  have lr := hok.lr
  have lc := hok.lc
  have la := hok.la
  have lb := hok.lb
  have hbs := Zbi (al := n.Arcs) (v := m) hm hl
  unfold Zax Zab
  refine Ok.bind.2 (Ok.some.2 (Ok.ite.2 ⟨fun hx => by omega, fun _ => Ok.ite.2 ⟨fun hx => by omega, fun _ => Ok.ite.2 ⟨fun hx => by omega, fun _ => Ok.bind.2 (Ok.mono (s_over (by omega)) ?_)⟩⟩⟩))
  rintro b rfl
  have hno : ¬ ∃ j, j < c.Arc.length ∧ (a : Int) ≤ c.Arc.getD j 0 := by
    rintro ⟨j, hj, hja⟩
    have := hal j (by omega)
    omega
  unfold Z7c
  refine Ok.ite.2 ⟨fun hx => absurd (of_decide_eq_true hx) hno, fun _ => Ok.gd.2 ⟨(by omega), Ok.bind.2 ?_⟩⟩
  refine Z9z (fun s => ∃ k : Nat, s.2 = k ∧ k ≤ Z1i n.Arcs m ∧ FlowK n.Arcs a res k s.1 ∧ ∀ j, j < k → Zdq c.Rev c.Cap res j) (fun s => (Z1i n.Arcs m - s.2).toNat) ⟨0, rfl, by omega, ⟨by simp, fun i => ?_⟩, fun j hj => by omega⟩ (by unfold Z6b; simp only; omega) ?_
  · simp only [Z4h, Nat.not_lt_zero, and_false, if_false]
  rintro ⟨fl, x⟩ ⟨k, g1, g2, g3, g4⟩ P next exit
  simp only at g1 g2 g3 next ⊢
  subst g1
  unfold Z9c
  simp only [Int.toNat_natCast]
  have hfl := g3.1
  refine Ok.ite.2 ⟨fun hx => ?_, fun hx => ?_⟩
  · have hk : k < Z1i n.Arcs m := by omega
    obtain ⟨i, s, hi, hne, hp, q1, q2, q3, q4, q5⟩ := hok.place hk
    have hq : pos n.Arcs i (!s) < Z1i n.Arcs m := Zcx hi hne he
    have hp2 : pos n.Arcs i s < Z1i n.Arcs m := Zcx hi hne he
    have hci := hcap i hi
    have hia := hal k hk
    rw [q4] at hia
    have r3 : c.Cap.getD (pos n.Arcs i (!s)) 0 = (if (!s) then 0 else (n.Arcs.getD i default).cap) := (hok.hat i hi hne (!s)).2.2.1
    have bad : ¬Zdq c.Rev c.Cap res k → P (.inr (.inl ([], 20))) := fun hr => exit _ (Ok.some.2 (.inr ⟨⟨k, hk, hr⟩, rfl⟩))
    have hmax : max (c.Cap.getD k 0) (c.Cap.getD (c.Rev.getD k 0).toNat 0) = (n.Arcs.getD i default).cap := by
      rw [q2, Int.toNat_natCast, q3, r3]; cases s <;> simp only [Bool.not_false, Bool.not_true, if_true, Bool.false_eq_true, if_false] <;> omega
    have j3 : ∀ t : Bool, (t = true → ¬Zdq c.Rev c.Cap res k) → (t = false → Zdq c.Rev c.Cap res k) → Ok (Z7b c res fl k t) P := by
      intro t t1 t2
      unfold Z7b
      simp only [Int.toNat_natCast]
      refine Ok.ite.2 ⟨fun ht => Ok.some.2 (bad (t1 ht)), fun ht => ?_⟩
      have hfk := t2 (by simpa using ht)
      have hall : ∀ j, j < k + 1 → Zdq c.Rev c.Cap res j := fun j hj => by
        rcases Nat.lt_or_ge j k with h | h
        · exact g4 j h
        · rw [show j = k by omega]; exact hfk
      refine Ok.gd.2 ⟨(by omega), Ok.ite.2 ⟨fun hb => ?_, fun hb => ?_⟩⟩
      · have hs : s = true := by rw [q5] at hb; exact hb
        subst hs
        simp only [q4, Int.toNat_natCast]
        refine Ok.gd.2 ⟨(by omega), Ok.gd.2 ⟨(by omega), Ok.gd.2 ⟨(by omega), Ok.some.2 (next _ ⟨k + 1, by simp, by omega, ⟨by simp [hfl], fun i' => ?_⟩, hall⟩ (by simp only; omega))⟩⟩⟩
        simp only
        rw [Zin]
        by_cases e : i = i'
        · subst e
          rw [if_pos ⟨rfl, by omega⟩, if_pos ⟨hi, hne, by omega⟩, hp]
        · rw [if_neg (fun h => e h.1), g3.2 i']
          by_cases c1 : i' < n.Arcs.length ∧ (n.Arcs.getD i' default).fr ≠ (n.Arcs.getD i' default).to
          · have : pos n.Arcs i' true ≠ k := fun h => e (Z7w he hi c1.1 hne c1.2 (hp.trans h.symm)).1
            by_cases c2 : pos n.Arcs i' true < k
            · rw [if_pos ⟨c1.1, c1.2, c2⟩, if_pos ⟨c1.1, c1.2, by omega⟩]
            · rw [if_neg (fun h => c2 h.2.2), if_neg (fun h => by have := h.2.2; omega)]
          · rw [if_neg (fun h => c1 ⟨h.1, h.2.1⟩), if_neg (fun h => c1 ⟨h.1, h.2.1⟩)]
      · have hs : s = false := by rw [q5] at hb; simpa using hb
        subst hs
        refine Ok.gd.2 ⟨(by omega), Ok.some.2 (next _ ⟨k + 1, by simp, by omega, ⟨hfl, fun i' => ?_⟩, hall⟩ (by simp only; omega))⟩
        rw [g3.2 i']
        by_cases c1 : i' < n.Arcs.length ∧ (n.Arcs.getD i' default).fr ≠ (n.Arcs.getD i' default).to
        · have : pos n.Arcs i' true ≠ k := fun h => by have := (Z7w he hi c1.1 hne c1.2 (hp.trans h.symm)).2; cases this
          by_cases c2 : pos n.Arcs i' true < k
          · rw [if_pos ⟨c1.1, c1.2, c2⟩, if_pos ⟨c1.1, c1.2, by omega⟩]
          · rw [if_neg (fun h => c2 h.2.2), if_neg (fun h => by have := h.2.2; omega)]
        · rw [if_neg (fun h => c1 ⟨h.1, h.2.1⟩), if_neg (fun h => c1 ⟨h.1, h.2.1⟩)]
    have hrev : inb (c.Rev.getD k 0) c.Cap.length := by rw [q2]; constructor <;> omega
    have hrev2 : inb (c.Rev.getD k 0) res.length := by rw [q2]; constructor <;> omega
    refine Ok.gd.2 ⟨(by omega), Ok.gd.2 ⟨(by omega), Ok.gd.2 ⟨(by omega), Ok.gd.2 ⟨hrev, Ok.ite.2 ⟨fun h1 => ?_, fun h1 => Ok.ite.2 ⟨fun h2 => ?_, fun h2 => ?_⟩⟩⟩⟩⟩⟩
    · exact j3 true (fun _ hf => by have := hf.1; omega) (fun h => by cases h)
    · exact j3 true (fun _ hf => by have := hf.2.1; omega) (fun h => by cases h)
    · refine Ok.gd.2 ⟨(by omega), Ok.gd.2 ⟨hrev2, Ok.gd.2 ⟨by rw [hmax]; constructor <;> omega, j3 _ (fun h hf => (of_decide_eq_true h) hf.2.2) (fun h => ⟨by omega, by omega, ?_⟩)⟩⟩⟩
      exact Classical.not_not.1 (of_decide_eq_false h)
  · refine Ok.some.2 (exit _ ?_)
    unfold Zat
    have : k = Z1i n.Arcs m := by omega
    subst this
    exact Ok.some.2 (.inl ⟨g4, rfl, g3⟩)
section row
variable {n : Net} {m L : Nat} {c : Csr}
theorem Zhr {R : List Int} (r : Row n m L c) : (∀ j, j < L → Zdq c.Rev c.Cap R j) ↔ ∀ j, j < L → 0 ≤ R.getD j 0 ∧ R.getD j 0 + R.getD (rv c j) 0 = cp c j := by
 constructor
 ·
  intro h j hj
  have := h j hj
  unfold Zdq at this
  rw [(r.rev hj).1, Int.toNat_natCast] at this
  unfold cp; omega
 ·
  intro h j hj
  have h1 := h j hj
  have h2 := h _ (r.rev hj).2.1
  unfold Zdq
  rw [(r.rev hj).1, Int.toNat_natCast]
  unfold cp at h1; omega
theorem s_most (r : Row n m L c) : Ok (Z37 (fun s => Z6c c s.1 s.2) Z6b (0, 0)) (fun a => 0 ≤ a ∧ a ≤ 16384 ∧ ∀ j, j < L → c.Arc.getD j 0 < a) := by
 have b := r.bd
 have la := r.lens.2.2.2.2.1
 refine Z9z (fun s => ∃ k : Nat, s.2 = k ∧ k ≤ L ∧ 0 ≤ s.1 ∧ s.1 ≤ 16384 ∧ ∀ j, j < k → c.Arc.getD j 0 < s.1) (fun s => (L - s.2).toNat) ⟨0, rfl, by omega, by simp, by simp, fun j hj => by omega⟩ (by unfold Z6b; simp only; omega) ?_
 rintro ⟨a, x⟩ ⟨k, h1, hk, ha0, ha1, ha⟩ P next exit
 simp only at h1 ha0 ha1 ha next ⊢
 subst h1
 unfold Z6c
 simp only [la, Int.toNat_natCast]
 refine Ok.ite.2 ⟨fun hx => ?_, fun hx => Ok.some.2 (exit _ ⟨ha0, ha1, fun j hj => ha j (by omega)⟩)⟩
 obtain ⟨i, s, hi, hne, hp, q1, q2, q3, q4, q5, q6, q7, q8⟩ := r.at (j := k) (by omega)
 refine Ok.gd.2 ⟨(by omega), Ok.gd.2 ⟨by constructor <;> omega, Ok.gd.2 ⟨(by omega), Ok.some.2 (next _ ⟨k + 1, by simp, by omega, by simp only; omega, by simp only; omega, fun j hj => ?_⟩ (by simp only; omega))⟩⟩⟩
 simp only
 rcases Nat.lt_or_ge j k with h | h
 · have := ha j h; omega
 · rw [show j = k by omega]; omega
theorem Zig {g h : Nat → Int} : ∀ {k : Nat}, (∀ i, i < k → -h i ≤ g i ∧ g i ≤ h i) → -Z9q h k ≤ Z9q g k ∧ Z9q g k ≤ Z9q h k
 | 0, _ => by simp [Z9q]
 | k + 1, e => by
  have := Zig (k := k) fun i hi => e i (by omega)
  have := e k (by omega)
  simp only [Z9q]; omega
def exF (c : Csr) (F : Nat → Int) (v : Nat) (j : Nat) : Int := if bk c j = true then 0 else (if hd c j = v then F j else 0) - (if tl c j = v then F j else 0)
theorem exF_all {R : List Int} {F : Nat → Int} (r : Row n m L c) (hF : ∀ i, i < n.Arcs.length → (n.Arcs.getD i default).fr ≠ (n.Arcs.getD i default).to → F (pos n.Arcs i false) = R.getD (pos n.Arcs i true) 0) (v : Nat) :
    Z9q (exF c F v) L = ex n.Arcs (flN n.Arcs R) v n.Arcs.length := by
  rw [← r.hL, Zlb r.he, Zkj]
  refine Z9p fun i hi => ?_
  rw [Za2 hi]
  by_cases e : (n.Arcs.getD i default).fr = (n.Arcs.getD i default).to
  · rw [if_pos e]; simp only [if_pos e, ite_self]; rfl
  · simp only [if_neg e]
    obtain ⟨-, a2, a3⟩ := r.cpPos hi e false
    obtain ⟨-, b2, b3⟩ := r.cpPos hi e true
    have za := r.is.ok.hat i hi e false
    have zb := r.is.ok.hat i hi e true
    have e0 := r.he i hi false
    have e1 := r.he i hi true
    have k1 : bk c (pos n.Arcs i false) = false := za.2.2.2.2
    have k2 : bk c (pos n.Arcs i true) = true := zb.2.2.2.2
    have k3 : (hd c (pos n.Arcs i false) = v) ↔ (n.Arcs.getD i default).to = (v : Int) := by
      unfold hd; rw [za.1]; simp only [vtx, Bool.not_false, if_true, Bool.false_eq_true, if_false] at e0 e1 ⊢; omega
    have k4 : (tl c (pos n.Arcs i false) = v) ↔ (n.Arcs.getD i default).fr = (v : Int) := by
      unfold tl hd; rw [a2]; simp only [Bool.not_false]; rw [zb.1]; simp only [vtx, Bool.not_true, if_true, Bool.false_eq_true, if_false] at e0 e1 ⊢; omega
    unfold exF
    rw [k1, k2, if_neg (by simp), if_pos rfl, hF i hi e]
    simp only [k3, k4]
    omega
theorem sumF_all {R : List Int} {F : Nat → Int} (r : Row n m L c) (hR : ∀ j, j < L → 0 ≤ R.getD j 0 ∧ R.getD j 0 + R.getD (rv c j) 0 = cp c j) (hF : ∀ i, i < n.Arcs.length → (n.Arcs.getD i default).fr ≠ (n.Arcs.getD i default).to → F (pos n.Arcs i false) = R.getD (pos n.Arcs i true) 0) :
    Z9q (fun j => if bk c j = true then 0 else F j) L ≤ 4611686018427387904 := by
  have ht := (Zhj r hR).tot n.Arcs.length (Nat.le_refl _)
  rw [Zic] at ht
  rw [← r.hL, Zlb r.he]
  refine Int.le_trans (Int.le_of_eq (Z9p fun i hi => ?_)) ht.2
  rw [Za2 hi]
  by_cases e : (n.Arcs.getD i default).fr = (n.Arcs.getD i default).to
  · rw [if_pos e, if_pos e]
  · rw [if_neg e, if_neg e]
    have k1 : bk c (pos n.Arcs i false) = false := (r.is.ok.hat i hi e false).2.2.2.2
    have k2 : bk c (pos n.Arcs i true) = true := (r.is.ok.hat i hi e true).2.2.2.2
    rw [k1, k2, if_neg (by simp), if_pos rfl, hF i hi e, Int.add_zero]
theorem Zng {R : List Int} (r : Row n m L c) (hl : lenok R.length) : Ok (Z9a c R) (fun t => ((R.length = L ∧ ∀ j, j < L → 0 ≤ R.getD j 0 ∧ R.getD j 0 + R.getD (rv c j) 0 = cp c j) ∧ t.2 = true ∧ t.1.length = m ∧ ∀ v, v < m → t.1.getD v 0 = ex n.Arcs (flN n.Arcs R) v n.Arcs.length) ∨
    (¬(R.length = L ∧ ∀ j, j < L → 0 ≤ R.getD j 0 ∧ R.getD j 0 + R.getD (rv c j) 0 = cp c j) ∧ t = ([], false))) := by
  have b := r.bd
  obtain ⟨lf, lh, lr, lc, la, lb⟩ := r.lens
  unfold Z9a
  refine Ok.bind.2 (Ok.mono (s_most r) fun a ⟨ha0, ha1, ha⟩ => ?_)
  unfold Z8n
  by_cases hlen : R.length = L
  rotate_left
  · refine Ok.bind.2 ?_
    unfold Zax Zab
    refine Ok.bind.2 (Ok.some.2 (Ok.ite.2 ⟨fun _ => Ok.some.2 ?_, fun h => absurd (by omega) h⟩))
    simp only
    rw [if_pos (by simp)]
    exact Ok.some.2 (.inr ⟨fun h => hlen h.1, rfl⟩)
  obtain ⟨q, hq⟩ : ∃ q : Nat, a = q := ⟨a.toNat, by omega⟩
  subst hq
  refine Ok.bind.2 (Ok.mono (s_FlowG (a := q) r.is r.he (by omega) (by omega) (fun j hj => ha j (by rw [← r.hL]; exact hj)) (by omega) r.caps (by rw [r.hL]; exact hlen)) ?_)
  rw [r.hL]
  rintro ⟨f, e⟩ (⟨h1, h2, h3⟩ | ⟨⟨j, hj, hbad⟩, h2⟩)
  rotate_left
  · injection h2 with h2 h4
    subst h4
    simp only
    rw [if_pos (by simp)]
    exact Ok.some.2 (.inr ⟨fun h => hbad ((Zhr r).2 h.2 j hj), rfl⟩)
  simp only at h2 h3 ⊢
  subst h2
  have hR := (Zhr r).1 h1
  have hF : ∀ i, i < n.Arcs.length → (n.Arcs.getD i default).fr ≠ (n.Arcs.getD i default).to → f.getD (c.Arc.getD (pos n.Arcs i false) 0).toNat 0 = R.getD (pos n.Arcs i true) 0 := fun i hi hne => by
    rw [(r.is.ok.hat i hi hne false).2.2.2.1, Int.toNat_natCast, h3.2 i, if_pos ⟨hi, hne, (r.cpPos hi hne true).2.2⟩]
  have hFn : ∀ j, j < L → bk c j = false → 0 ≤ f.getD (c.Arc.getD j 0).toNat 0 := fun j hj hb => by
    obtain ⟨i, s, hi, hne, hp, q1, q2, q3, q4, q5, q6, q7, q8⟩ := r.at hj
    rw [hb] at q8; subst q8
    rw [← hp, hF i hi hne]
    exact (hR _ (r.cpPos hi hne true).2.2).1
  have hTot := sumF_all (F := fun j => f.getD (c.Arc.getD j 0).toNat 0) r hR hF
  have hbd : ∀ v k, k ≤ L → -4611686018427387904 ≤ Z9q (exF c (fun j => f.getD (c.Arc.getD j 0).toNat 0) v) k ∧ Z9q (exF c (fun j => f.getD (c.Arc.getD j 0).toNat 0) v) k ≤ 4611686018427387904 := fun v k hk => by
    have h5 := Zig (k := k) (g := exF c (fun j => f.getD (c.Arc.getD j 0).toNat 0) v) (h := fun j => if bk c j = true then 0 else f.getD (c.Arc.getD j 0).toNat 0) fun j hj => by
      simp only [exF]
      cases hb : bk c j with
      | true => simp
      | false =>
        have := hFn j (by omega) hb
        simp only [Bool.false_eq_true, if_false]
        split <;> split <;> omega
    have h6 := Zgd (g := fun j => if bk c j = true then 0 else f.getD (c.Arc.getD j 0).toNat 0) hk fun j hj => by
      cases hb : bk c j with
      | true => simp
      | false => simp only [Bool.false_eq_true, if_false]; exact hFn j hj hb
    omega
  rw [if_neg (by simp), r.is.hN]
  simp only [Int.toNat_natCast]
  refine Ok.gd.2 ⟨(by omega), Ok.bind.2 ?_⟩
  refine Z9z (fun s => ∃ k : Nat, s.2 = k ∧ k ≤ L ∧ s.1.length = m ∧ ∀ v, v < m → s.1.getD v 0 = Z9q (exF c (fun j => f.getD (c.Arc.getD j 0).toNat 0) v) k) (fun s => (L - s.2).toNat) ⟨0, rfl, by omega, by simp, fun v hv => by rw [Z4h]; rfl⟩ (by unfold Z6b; simp only; omega) ?_
  rintro ⟨xs, x⟩ ⟨k, h4, hk, hxl, hx⟩ P next exit
  simp only at h4 hxl hx next ⊢
  subst h4
  unfold Z7i
  simp only [lb, Int.toNat_natCast]
  refine Ok.ite.2 ⟨fun hxx => ?_, fun hxx => Ok.some.2 (exit _ ?_)⟩
  · have hkL : k < L := by omega
    obtain ⟨i, s, hi, hne, hp, q1, q2, q3, q4, q5, q6, q7, q8⟩ := r.at hkL
    have g1 := r.head hkL
    have g2 := r.rev hkL
    have g3 := r.tlh hkL
    have g4 := r.head g2.2.1
    have hb1 := hbd (hd c k) k hk
    have hb2 := hbd (tl c k) k hk
    have hb3 := hbd (hd c k) (k + 1) (by omega)
    have hb4 := hbd (tl c k) (k + 1) (by omega)
    have hka := ha k hkL
    have hfl := h3.1
    have e4 : c.Head.getD (rv c k) 0 = (tl c k : Nat) := g4.1
    refine Ok.gd.2 ⟨(by omega), Ok.ite.2 ⟨fun hb => ?_, fun hb => ?_⟩⟩
    · have hbf : bk c k = false := by unfold bk; simpa using hb
      simp only [Z9q, exF, hbf, Bool.false_eq_true, if_false, if_true, g3.2.2.2, Ne.symm g3.2.2.2] at hb3 hb4
      obtain ⟨F, hFe⟩ : ∃ F, f.getD (c.Arc.getD k 0).toNat 0 = F := ⟨_, rfl⟩
      rw [hFe] at hb3 hb4
      have ex1 : (xs.set (hd c k) (xs.getD (hd c k) 0 + F)).getD (tl c k) 0 = xs.getD (tl c k) 0 := Z8i fun e => g3.2.2.2 e.symm
      rw [← hx _ g1.2] at hb3 hb1
      rw [← hx _ g3.1] at hb4 hb2
      have i1 : inb (k : Int) L := by constructor <;> omega
      have i2 : inb ((hd c k : Nat) : Int) m := by constructor <;> omega
      have i3 : inb (c.Arc.getD k 0) f.length := by constructor <;> omega
      have i4 : inb ((rv c k : Nat) : Int) L := by constructor <;> omega
      have i5 : inb ((tl c k : Nat) : Int) m := by constructor <;> omega
      have o1 : i64ok (xs.getD (hd c k) 0 + F) := by constructor <;> omega
      have o2 : i64ok (xs.getD (tl c k) 0 - F) := by constructor <;> omega
      simp only [g1.1, g2.1, e4, Int.toNat_natCast, hFe, ex1, List.length_set, lh, la, lr, hxl]
      refine Ok.gd.2 ⟨i1, Ok.gd.2 ⟨i2, Ok.gd.2 ⟨i1, Ok.gd.2 ⟨i3, Ok.gd.2 ⟨o1, Ok.gd.2 ⟨i2, Ok.gd.2 ⟨i1, Ok.gd.2 ⟨i4, Ok.gd.2 ⟨i5, Ok.gd.2 ⟨i1, Ok.gd.2 ⟨i3, Ok.gd.2 ⟨o2, Ok.gd.2 ⟨i5, Ok.gd.2 ⟨(by omega), Ok.some.2 (next _ ⟨k + 1, by simp, by omega, by simp [hxl], fun v hv => ?_⟩ (by simp only; omega))⟩⟩⟩⟩⟩⟩⟩⟩⟩⟩⟩⟩⟩⟩
      simp only [Z9q, exF, hbf, Bool.false_eq_true, if_false, hFe]
      rw [← hx v hv, Zin, Zin, List.length_set, hxl]
      by_cases c1 : tl c k = v
      · subst c1
        rw [if_pos ⟨rfl, hv⟩, if_neg fun e => g3.2.2.2 e.symm, if_pos rfl]; omega
      · rw [if_neg fun h => c1 h.1, if_neg c1]
        by_cases c2 : hd c k = v
        · subst c2
          rw [if_pos ⟨rfl, hv⟩, if_pos rfl]; omega
        · rw [if_neg fun h => c2 h.1, if_neg c2]; omega
    · have hbt : bk c k = true := by unfold bk; simpa using hb
      refine Ok.gd.2 ⟨(by omega), Ok.some.2 (next _ ⟨k + 1, by simp, by omega, hxl, fun v hv => ?_⟩ (by simp only; omega))⟩
      simp only [Z9q, exF, hbt, if_true]
      rw [hx v hv]; omega
  · obtain rfl : k = L := by omega
    unfold Z8m
    refine Ok.some.2 (.inl ⟨⟨hlen, hR⟩, rfl, hxl, fun v hv => ?_⟩)
    simp only
    rw [hx v hv, exF_all (R := R) r hF]
theorem Zni {a b : List Int} (h : lenok a.length) : Z5s a b = some (decide (a = b)) := by
 refine Zbu ?_
 unfold Z5s
 refine Ok.ite.2 ⟨fun hl => Ok.some.2 (decide_eq_false ?_).symm, fun hl => ?_⟩
 · rintro rfl; exact hl rfl
 ·
  refine Ok.bind.2 (Zj3 (fun x => 0 ≤ x ∧ x ≤ a.length ∧ ∀ i, i < x.toNat → a.getD i 0 = b.getD i 0) (fun x => (a.length - x).toNat) ⟨by omega, by omega, fun i hi => by omega⟩ (by unfold Z6b; omega) ?_)
  rintro x ⟨h0, h1, h2⟩
  unfold Z4i
  refine Ok.ite.2 ⟨fun hx => ?_, fun hx => ?_⟩
  ·
   refine Ok.gd.2 ⟨(by omega), Ok.gd.2 ⟨(by omega), Ok.ite.2 ⟨fun hne => ?_, fun hne => ?_⟩⟩⟩
   ·
    refine Ok.some.2 (Ok.some.2 (decide_eq_false ?_).symm)
    rintro rfl; exact hne rfl
   ·
    refine Ok.gd.2 ⟨(by omega), Ok.some.2 ⟨⟨by omega, by omega, fun i hi => ?_⟩, by omega⟩⟩
    rcases Nat.lt_or_ge i x.toNat with h3 | h3
    · exact h2 i h3
    · rw [show i = x.toNat by omega]; exact Classical.not_not.1 hne
  ·
   refine Ok.some.2 ?_
   unfold Z5x
   exact Ok.some.2 (decide_eq_true (Zdb 0 (by omega) (fun i hi => h2 i (by omega)))).symm
def HeightsP (n : Net) (m : Nat) (h : List Int) : Prop := h.length = m ∧ (∀ s : Nat, n.S = s → h.getD s 0 = m) ∧ (∀ t : Nat, n.T = t → h.getD t 0 = 0) ∧ ∀ v, v < m → 0 ≤ h.getD v 0 ∧ h.getD v 0 < 2 * m
theorem Znf {h : List Int} (r : Row n m L c) (hl : lenok h.length) : Ok (Z99 c h) (fun b => b = true ↔ HeightsP n m h) := by
 have b := r.bd
 obtain ⟨⟨S, hS, hcS, hSm⟩, ⟨T, hT, hcT, hTm⟩, hne, hN⟩ := r.ends
 unfold Z99
 rw [hN, hcS, hcT]
 simp only [Int.toNat_natCast]
 refine Ok.ite.2 ⟨fun h1 => Ok.some.2 ⟨fun h2 => (by cases h2), fun h2 => absurd (by rw [h2.1]) h1⟩, fun h1 => Ok.gd.2 ⟨(by omega), Ok.ite.2 ⟨fun h2 => Ok.some.2 ⟨fun h3 => (by cases h3), fun h3 => absurd (h3.2.1 S hS) h2⟩, fun h2 => Ok.gd.2 ⟨(by omega), Ok.ite.2 ⟨fun h3 => Ok.some.2 ⟨fun h4 => (by cases h4), fun h4 => absurd (h4.2.2.1 T hT) h3⟩, fun h3 => ?_⟩⟩⟩⟩⟩
 have hlm : h.length = m := by omega
 have key : Ok (Z2c h c) (fun b => b = true ↔ ∃ v, v < m ∧ (h.getD v 0 < 0 ∨ 2 * (m : Int) ≤ h.getD v 0)) := by
  unfold Z2c Z38
  refine Ok.bind.2 (Ok.bind.2 (Z9z (fun x => ∃ k : Nat, x = k ∧ k ≤ m ∧ ∀ v, v < k → ¬(h.getD v 0 < 0 ∨ 2 * (m : Int) ≤ h.getD v 0)) (fun x => (m - x).toNat) ⟨0, rfl, by omega, fun v hv => by omega⟩ (by unfold Z6b; omega) ?_))
  rintro x ⟨k, rfl, hk, hv⟩ P next exit
  unfold Z2b Z98
  rw [hN]
  simp only [Int.toNat_natCast]
  have nx : ¬(h.getD k 0 < 0 ∨ 2 * (m : Int) ≤ h.getD k 0) → (k : Int) < h.length → Ok (gd (i64ok ((k : Int) + 1)) <| some (.inl ((k : Int) + 1))) P := fun hg hx => Ok.gd.2 ⟨(by omega), Ok.some.2 (next _ ⟨k + 1, by simp, by omega, fun v hv' => by
   rcases Nat.lt_or_ge v k with h4 | h4
   · exact hv v h4
   · rw [show v = k by omega]; exact hg⟩ (by omega))⟩
  have bad : (h.getD k 0 < 0 ∨ 2 * (m : Int) ≤ h.getD k 0) → (k : Int) < h.length → Ok (some (.inr (.inl (k : Int)))) P := fun hg hx => Ok.some.2 (exit _ (Ok.some.2 (Ok.some.2 ⟨fun _ => ⟨k, by omega, hg⟩, fun _ => decide_eq_true (by omega)⟩)))
  refine Ok.ite.2 ⟨fun hx => Ok.gd.2 ⟨(by omega), Ok.bind.2 (Ok.ite.2 ⟨fun hn => Ok.some.2 (Ok.ite.2 ⟨fun _ => bad (.inl hn) hx, fun h => absurd rfl h⟩), fun hn => Ok.gd.2 ⟨(by omega), Ok.some.2 (Ok.ite.2 ⟨fun hd => bad (.inr (of_decide_eq_true hd)) hx, fun hd => nx (fun h5 => h5.elim hn fun h6 => hd (decide_eq_true h6)) hx⟩)⟩⟩)⟩, fun hx => Ok.some.2 (exit _ ?_)⟩
  unfold Z2w
  refine Ok.some.2 (Ok.some.2 ⟨fun h4 => absurd (of_decide_eq_true h4) (by omega), fun ⟨v, hv1, hv2⟩ => absurd hv2 (hv v (by omega))⟩)
 refine Ok.bind.2 (Ok.mono key fun b hb => Ok.some.2 ?_)
 constructor
 ·
  intro h4
  have hbf : b = false := by simpa using h4
  refine ⟨hlm, fun s hs => ?_, fun t ht => ?_, fun v hv => ?_⟩
  · rw [show s = S by omega]; exact Classical.not_not.1 h2
  · rw [show t = T by omega]; exact Classical.not_not.1 h3
  ·
   have : ¬∃ v, v < m ∧ (h.getD v 0 < 0 ∨ 2 * (m : Int) ≤ h.getD v 0) := fun h5 => by rw [hb.2 h5] at hbf; cases hbf
   have h6 : ¬(h.getD v 0 < 0 ∨ 2 * (m : Int) ≤ h.getD v 0) := fun h7 => this ⟨v, hv, h7⟩
   omega
 ·
  intro h4
  have : b = false := by
   rw [Bool.eq_false_iff]; intro h5
   obtain ⟨v, hv, hg⟩ := hb.1 h5
   have := h4.2.2.2 v hv
   omega
  rw [this]; rfl
structure PreOK (n : Net) (m L : Nat) (c : Csr) (p : Pre) : Prop where
  ok : ResOK n m L c p.Res p.Ex
  nn : ∀ v, v < m → (v : Int) ≠ n.S → 0 ≤ p.Ex.getD v 0
  hs : HeightsP n m p.H
  val : ∀ j, j < L → 0 < p.Res.getD j 0 → p.H.getD (tl c j) 0 ≤ p.H.getD (hd c j) 0 + 1
structure PreLen (p : Pre) : Prop where
  r : lenok p.Res.length
  x : lenok p.Ex.length
  h : lenok p.H.length
theorem PreOK.len {p : Pre} (h : PreOK n m L c p) (r : Row n m L c) : PreLen p := by
 have := r.bd
 have h1 := h.ok.lr
 have h2 := h.ok.lx
 have h3 := h.hs.1
 exact ⟨by omega, by omega, by omega⟩
theorem Zl6 {p : Pre} (r : Row n m L c) (hl : PreLen p) : Ok (Z8u c p) (fun b => b = true ↔ PreOK n m L c p) := by
  have b := r.bd
  obtain ⟨⟨S, hS, hcS, hSm⟩, ⟨T, hT, hcT, hTm⟩, hne, hN⟩ := r.ends
  obtain ⟨lf, lh, -, -, -, -⟩ := r.lens
  unfold Z8u
  refine Ok.bind.2 (Ok.mono (Zng r hl.r) ?_)
  rintro ⟨xs, ok⟩ (⟨⟨hR1, hR2⟩, h2, h3, h4⟩ | ⟨h1, h2⟩)
  rotate_left
  · injection h2 with h2 h3
    subst h3
    simp only
    rw [if_pos (by simp)]
    exact Ok.some.2 ⟨fun h => (by cases h), fun h => absurd ⟨h.ok.lr, h.ok.res⟩ h1⟩
  simp only at h2 h3 h4 ⊢
  subst h2
  rw [if_neg (by simp)]
  refine Ok.bind.2 (Z6y (Zni (by omega)) (Ok.ite.2 ⟨fun h5 => Ok.some.2 ⟨fun h6 => (by cases h6), fun h6 => ?_⟩, fun h5 => ?_⟩))
  · have : xs = p.Ex := Zdb 0 (by rw [h3, h6.ok.lx]) fun i hi => by rw [h4 i (by omega), h6.ok.ex i (by omega)]
    rw [decide_eq_true this] at h5; cases h5
  have hxs : xs = p.Ex := of_decide_eq_true (Zgt h5)
  subst hxs
  have hok : ResOK n m L c p.Res p.Ex := ⟨hR1, h3, hR2, h4⟩
  refine Ok.bind.2 (Ok.mono (Znf r hl.h) fun b2 hb2 => Ok.ite.2 ⟨fun h6 => Ok.some.2 ⟨fun h7 => (by cases h7), fun h7 => (by rw [hb2.2 h7.hs] at h6; cases h6)⟩, fun h6 => ?_⟩)
  have hh := hb2.1 (Zgt h6)
  have hhl := hh.1
  refine Ok.bind.2 (Z9z (fun x => ∃ k : Nat, x = k ∧ k ≤ m ∧ ∀ u, u < k → ((u : Int) ≠ n.S → 0 ≤ p.Ex.getD u 0) ∧ ∀ j, j < L → tl c j = u → 0 < p.Res.getD j 0 → p.H.getD u 0 ≤ p.H.getD (hd c j) 0 + 1) (fun x => (m - x).toNat) ⟨0, rfl, by omega, fun u hu => by omega⟩ (by unfold Z6b; omega) ?_)
  rintro x ⟨k, rfl, hk, hI⟩ P next exit
  unfold Z8k
  rw [hN, hcS]
  simp only [Int.toNat_natCast]
  refine Ok.ite.2 ⟨fun hx => ?_, fun hx => Ok.some.2 (exit _ ?_)⟩
  · have hkm : k < m := by omega
    have y2 : ∀ (y : Unit → Int → Option (Unit ⊕ Unit)), (∀ j, j < L → y () (j : Nat) = if 0 < p.Res.getD j 0 ∧ p.H.getD (hd c j) 0 + 1 < p.H.getD k 0 then some (.inr ()) else some (.inl ())) →
        Ok (Z5b y c (k : Nat) (.inl ())) (fun t => match t with | .inl _ => ∀ j, j < L → tl c j = k → 0 < p.Res.getD j 0 → p.H.getD k 0 ≤ p.H.getD (hd c j) 0 + 1 | .inr _ => ∃ j, j < L ∧ tl c j = k ∧ 0 < p.Res.getD j 0 ∧ ¬p.H.getD k 0 ≤ p.H.getD (hd c j) 0 + 1) := by
      intro y hy
      have hfl := r.first.2.2.2 k hkm
      refine Ok.mono (Zhi r hkm (fun j _ => ∀ i, fs c k ≤ i → i < j → 0 < p.Res.getD i 0 → p.H.getD k 0 ≤ p.H.getD (hd c i) 0 + 1) (fun _ => ∃ j, j < L ∧ tl c j = k ∧ 0 < p.Res.getD j 0 ∧ ¬p.H.getD k 0 ≤ p.H.getD (hd c j) 0 + 1) (fun i h1 h2 => by omega) fun j s h1 h2 h3 => ?_) ?_
      · have hjL : j < L := by omega
        rw [hy j hjL]
        refine Ok.ite.2 ⟨fun h => Ok.some.2 ⟨j, hjL, (r.range hjL hkm).1 ⟨h1, h2⟩, h.1, by omega⟩, fun h => Ok.some.2 fun i h4 h5 h6 => ?_⟩
        rcases Nat.lt_or_ge i j with h7 | h7
        · exact h3 i h4 h7 h6
        · have : i = j := by omega
          subst this
          exact Int.not_lt.1 fun h8 => h ⟨h6, h8⟩
      · rintro (s | x) h
        · exact fun j hj ht h0 => by
            have := (r.range hj hkm).2 ht
            exact h j this.1 this.2 h0
        · exact h
    have hy : ∀ j, j < L → Z64 c p (k : Nat) (j : Nat) = if 0 < p.Res.getD j 0 ∧ p.H.getD (hd c j) 0 + 1 < p.H.getD k 0 then some (.inr ()) else some (.inl ()) := fun j hj => by
      have g1 := r.head hj
      have g2 := hh.2.2.2 _ g1.2
      unfold Z64
      simp only [Int.toNat_natCast, g1.1]
      rw [Z6p (by constructor <;> omega)]
      by_cases h0 : 0 < p.Res.getD j 0
      · rw [if_pos h0, Z6p (by constructor <;> omega), Z6p (by constructor <;> omega), Z6p (by constructor <;> omega), Z6p (by constructor <;> omega)]
        by_cases h1 : p.H.getD (hd c j) 0 + 1 < p.H.getD k 0
        · rw [if_pos h1, if_pos ⟨h0, h1⟩]
        · rw [if_neg h1, if_neg fun h => h1 h.2]
      · rw [if_neg h0, if_neg fun h => h0 h.1]
    have nx : ((k : Int) ≠ n.S → 0 ≤ p.Ex.getD k 0) → (∀ j, j < L → tl c j = k → 0 < p.Res.getD j 0 → p.H.getD k 0 ≤ p.H.getD (hd c j) 0 + 1) → Ok (gd (i64ok ((k : Int) + 1)) <| some (.inl ((k : Int) + 1))) P := fun g1 g2 => Ok.gd.2 ⟨(by omega), Ok.some.2 (next _ ⟨k + 1, by simp, by omega, fun u hu => by
      rcases Nat.lt_or_ge u k with h | h
      · exact hI u h
      · rw [show u = k by omega]; exact ⟨g1, g2⟩⟩ (by omega))⟩
    have bad : (∃ j, j < L ∧ tl c j = k ∧ 0 < p.Res.getD j 0 ∧ ¬p.H.getD k 0 ≤ p.H.getD (hd c j) 0 + 1) → Ok (some (.inr (.inl false))) P := fun ⟨j, g1, g2, g3, g4⟩ => Ok.some.2 (exit _ (Ok.some.2 ⟨fun h => (by cases h), fun h => absurd (by rw [← g2]; exact h.val j g1 g3) g4⟩))
    refine Ok.ite.2 ⟨fun hkS => Ok.gd.2 ⟨(by omega), Ok.ite.2 ⟨fun hx0 => Ok.some.2 (exit _ (Ok.some.2 ⟨fun h => (by cases h), fun h => ?_⟩)), fun hx0 => ?_⟩⟩, fun hkS => ?_⟩
    · have := h.nn k hkm (by omega)
      omega
    · unfold Z57
      refine Ok.bind.2 (Ok.some.2 (Ok.bind.2 (Ok.mono (y2 (fun s v => Z64 c p (k : Nat) v) hy) ?_)))
      rintro (s | x) h
      · exact nx (fun _ => by omega) h
      · exact bad h
    · unfold Z57
      refine Ok.bind.2 (Ok.some.2 (Ok.bind.2 (Ok.mono (y2 (fun s v => Z7n c p (k : Nat) v) hy) ?_)))
      rintro (s | x) h
      · exact nx (fun h1 => absurd (by omega) h1) h
      · exact bad h
  · obtain rfl : k = m := by omega
    unfold Za0
    refine Ok.some.2 ⟨fun _ => ⟨hok, fun v hv hvS => (hI v hv).1 hvS, hh, fun j hj h0 => (hI _ (r.tlh hj).1).2 j hj rfl h0⟩, fun _ => rfl⟩
end row
end Go.Acq
namespace Go.Acq
open Go
set_option linter.unusedSimpArgs false
def Zby (n : Net) (X : List Int) (u : Nat) : Prop := (u : Int) ≠ n.S ∧ (u : Int) ≠ n.T ∧ 0 < X.getD u 0
instance (n : Net) (X : List Int) (u : Nat) : Decidable (Zby n X u) := by unfold Zby; infer_instance
def Zdo (c : Csr) (p : Pre) (u j : Nat) : Prop := 0 < p.Res.getD j 0 ∧ p.H.getD u 0 = p.H.getD (hd c j) 0 + 1
instance (c : Csr) (p : Pre) (u j : Nat) : Decidable (Zdo c p u j) := by unfold Zdo; infer_instance
def Zag (n : Net) (c : Csr) (p : Pre) (u : Nat) : Prop := Zby n p.Ex u ∧ ∀ j, fs c u ≤ j → j < fs c (u + 1) → ¬Zdo c p u j
instance (n : Net) (c : Csr) (p : Pre) (u : Nat) : Decidable (Zag n c p u) :=
  if h : Zby n p.Ex u ∧ ∀ j, j < fs c (u + 1) → fs c u ≤ j → ¬Zdo c p u j then .isTrue ⟨h.1, fun j a b => h.2 j b a⟩ else .isFalse fun g => h ⟨g.1, fun j a b => g.2 j b a⟩
def Zdp (p : Nat → Bool) : Nat → List Int
  | 0 => []
  | k + 1 => Zdp p k ++ (if p k = true then [(k : Int)] else [])
theorem Zas (p : Nat → Bool) : ∀ k, (Zdp p k).length ≤ k
 | 0 => Nat.le_refl _
 | k + 1 => by
  have := Zas p k
  simp only [Zdp, List.length_append]
  split <;> simp <;> omega
theorem mem_selN {p : Nat → Bool} {a : Int} : ∀ {k : Nat}, a ∈ Zdp p k ↔ ∃ i : Nat, i < k ∧ p i = true ∧ a = i
 | 0 => by simp [Zdp]
 | k + 1 => by
  simp only [Zdp, List.mem_append, mem_selN (k := k)]
  constructor
  ·
   rintro (⟨i, h1, h2, h3⟩ | h)
   · exact ⟨i, by omega, h2, h3⟩
   ·
    by_cases c : p k = true
    · rw [if_pos c] at h; exact ⟨k, by omega, c, List.mem_singleton.1 h⟩
    · rw [if_neg c] at h; cases h
  ·
   rintro ⟨i, h1, h2, h3⟩
   rcases Nat.lt_or_ge i k with h | h
   · exact .inl ⟨i, h, h2, h3⟩
   ·
    have : i = k := by omega
    subst this
    right; rw [if_pos h2]; exact List.mem_singleton.2 h3
section row
variable {n : Net} {m L : Nat} {c : Csr}
theorem Zg4 {p : Pre} {u : Nat} (r : Row n m L c) (lx : p.Ex.length = m) (hu : u < m) : Z6i c p (u : Nat) = some (decide (Zby n p.Ex u)) := by
 have h2 := r.is.hS
 have h3 := r.is.hT
 unfold Z6i Zby
 rw [h2, h3]
 by_cases a : (u : Int) ≠ n.S
 ·
  by_cases b : (u : Int) ≠ n.T
  · rw [if_pos a, if_pos b, Z6p (by constructor <;> omega), Int.toNat_natCast]; simp [a, b]
  · rw [if_pos a, if_neg b]; simp [b]
 · rw [if_neg a]; simp [a]
def HtB (m : Nat) (h : List Int) : Prop := h.length = m ∧ ∀ v, v < m → -1000000 ≤ h.getD v 0 ∧ h.getD v 0 ≤ 1000000
theorem HeightsP.hb {h : List Int} (r : Row n m L c) (hh : HeightsP n m h) : HtB m h := ⟨hh.1, fun v hv => by have := hh.2.2.2 v hv; have := r.bd; omega⟩
theorem Zcv {p : Pre} {u j : Nat} (r : Row n m L c) (lr : p.Res.length = L) (hb : HtB m p.H) (hu : u < m) (hj : j < L) : Z5q c p (u : Nat) (j : Nat) = some (decide (Zdo c p u j)) := by
 have g1 := r.head hj
 have g2 := hb.2 _ g1.2
 have := hb.1
 have := r.lens.2.1
 unfold Z5q Zdo
 simp only [Int.toNat_natCast, g1.1]
 rw [Z6p (by constructor <;> omega)]
 by_cases h : 0 < p.Res.getD j 0
 ·
  rw [if_pos h, Z6p (by constructor <;> omega), Z6p (by constructor <;> omega), Z6p (by constructor <;> omega), Z6p (by constructor <;> omega)]
  exact congrArg some (decide_eq_decide.2 ⟨fun e => ⟨h, e⟩, fun e => e.2⟩)
 ·
  rw [if_neg h]
  exact congrArg some (decide_eq_false fun e => h e.1).symm
theorem Zna {p : Pre} {u : Nat} (r : Row n m L c) (lr : p.Res.length = L) (lx : p.Ex.length = m) (hb : HtB m p.H) (hu : u < m) : Ok (Z9s c p (u : Nat)) (fun b => b = decide (Zag n c p u)) := by
 have hfl := r.first.2.2.2 u hu
 unfold Z9s Z57
 refine Ok.bind.2 (Ok.some.2 (Ok.bind.2 (Ok.mono (Zhi r hu (fun j _ => ∀ i, fs c u ≤ i → i < j → ¬Zdo c p u i) (fun _ => ∃ j, fs c u ≤ j ∧ j < fs c (u + 1) ∧ Zdo c p u j) (fun i h1 h2 => by omega) fun j s h1 h2 h3 => ?_) ?_)))
 ·
  unfold Z7m
  refine Ok.bind.2 (Z6y (Zcv r lr hb hu (by omega)) (Ok.ite.2 ⟨fun h => Ok.some.2 ⟨j, h1, h2, of_decide_eq_true h⟩, fun h => Ok.some.2 fun i h4 h5 => ?_⟩))
  rcases Nat.lt_or_ge i j with h6 | h6
  · exact h3 i h4 h6
  · rw [show i = j by omega]; exact fun h7 => h (decide_eq_true h7)
 ·
  rintro (s | x) h
  ·
   refine Ok.bind.2 (Z6y (Zg4 r lx hu) (Ok.some.2 ?_))
   rw [Bool.eq_iff_iff, decide_eq_true_iff, decide_eq_true_iff]
   exact ⟨fun h1 => ⟨h1, h⟩, fun h1 => h1.1⟩
  ·
   obtain ⟨j, h1, h2, h3⟩ := h
   exact Ok.some.2 (decide_eq_false fun h4 => h4.2 j h1 h2 h3).symm
theorem s_all {p : Nat → Bool} {step : List Int → Int → Option ((List Int × Int) ⊕ List Int)} (hm : m ≤ 4096)
    (hs : ∀ (o : List Int) (k : Nat), k ≤ m → o.length ≤ k → step o k = if k < m then (if p k = true then some (.inl (o ++ [(k : Int)], (k : Int) + 1)) else some (.inl (o, (k : Int) + 1))) else some (.inr o)) : Ok (Z37 (fun s => step s.1 s.2) Z6b ([], 0)) (fun o => o = Zdp p m) := by
  refine Z9z (fun s => ∃ k : Nat, s.2 = k ∧ k ≤ m ∧ s.1 = Zdp p k) (fun s => (m - s.2).toNat) ⟨0, rfl, by omega, rfl⟩ (by unfold Z6b; simp only; omega) ?_
  rintro ⟨o, x⟩ ⟨k, h1, hk, ho⟩ P next exit
  simp only at h1 ho next ⊢
  subst h1; subst ho
  rw [hs _ k hk (Zas p k)]
  refine Ok.ite.2 ⟨fun hx => Ok.ite.2 ⟨fun h => Ok.some.2 (next _ ⟨k + 1, by simp, by omega, by simp only [Zdp]; rw [if_pos h]⟩ (by simp only; omega)), fun h => Ok.some.2 (next _ ⟨k + 1, by simp, by omega, by simp only [Zdp]; rw [if_neg h, List.append_nil]⟩ (by simp only; omega))⟩, fun hx => Ok.some.2 (exit _ (by rw [show k = m by omega]))⟩
theorem s_Active {p : Pre} (r : Row n m L c) (lx : p.Ex.length = m) : Z91 c p = some (Zdp (fun u => decide (Zby n p.Ex u)) m) := by
 have b := r.bd
 have hN := r.is.hN
 refine Zbu ?_
 unfold Z91 Z7s
 refine Ok.bind.2 (Ok.bind.2 (Ok.mono (s_all (m := m) (p := fun u => decide (Zby n p.Ex u)) (step := fun o x => Z4a c c p o x) (by omega) fun o k hk ho => ?_) fun o ho => ?_))
 ·
  unfold Z4a Za1
  rw [hN]
  by_cases h : k < m
  ·
   rw [if_pos (by omega), if_pos h, Zg4 r lx h]
   simp only [Option.bind_some]
   by_cases h2 : decide (Zby n p.Ex k) = true
   · rw [if_pos h2, if_pos h2, Z6p (by rw [List.length_append, List.length_singleton]; constructor <;> omega), Z6p (by constructor <;> omega)]
   · rw [if_neg h2, if_neg h2, Z6p (by constructor <;> omega)]
  · rw [if_neg (by omega), if_neg h]
 ·
  unfold Z6h
  exact Ok.some.2 (Ok.some.2 ho)
theorem s_May {p : Pre} (r : Row n m L c) (lr : p.Res.length = L) (lx : p.Ex.length = m) (hb : HtB m p.H) : Zaa c p = some (Zdp (fun j => decide (Zby n p.Ex (tl c j) ∧ Zdo c p (tl c j) j)) L, Zdp (fun u => decide (Zag n c p u)) m) := by
 have b := r.bd
 have hN := r.is.hN
 refine Zbu ?_
 unfold Zaa
 refine Ok.bind.2 (Z9z (fun s => ∃ k : Nat, s.2 = k ∧ k ≤ m ∧ s.1 = Zdp (fun j => decide (Zby n p.Ex (tl c j) ∧ Zdo c p (tl c j) j)) (fs c k)) (fun s => (m - s.2).toNat) ⟨0, rfl, by omega, by rw [r.first.2.1]; rfl⟩ (by unfold Z6b; simp only; omega) ?_)
 rintro ⟨o, x⟩ ⟨k, h1, hk, ho⟩ P next exit
 simp only at h1 ho next ⊢
 subst h1
 unfold Za9
 rw [hN]
 refine Ok.ite.2 ⟨fun hx => ?_, fun hx => Ok.some.2 (exit _ ?_)⟩
 ·
  have hkm : k < m := by omega
  have hfl := r.first.2.2.2 k hkm
  unfold Z57
  refine Ok.bind.2 (Ok.some.2 (Ok.bind.2 (Ok.mono (Zhi r hkm (fun j s => s = Zdp (fun j => decide (Zby n p.Ex (tl c j) ∧ Zdo c p (tl c j) j)) j) (fun _ => False) ho fun j s g1 g2 g3 => ?_) ?_)))
  ·
   have hjL : j < L := by omega
   have ht := (r.range hjL hkm).1 ⟨g1, g2⟩
   subst g3
   have hle := Zas (fun j => decide (Zby n p.Ex (tl c j) ∧ Zdo c p (tl c j) j)) j
   have j3 : ∀ (b : Bool) (P : List Int ⊕ Empty → Prop), (P (.inl (Zdp (fun j => decide (Zby n p.Ex (tl c j) ∧ Zdo c p (tl c j) j)) (j + 1)))) → (b = true ↔ (Zby n p.Ex k ∧ Zdo c p k j)) → Ok (Z8z (Zdp (fun j => decide (Zby n p.Ex (tl c j) ∧ Zdo c p (tl c j) j)) j) (j : Nat) b) P := by
    intro b P hP hb
    unfold Z8z
    have e : decide (Zby n p.Ex (tl c j) ∧ Zdo c p (tl c j) j) = b := by rw [ht, Bool.eq_iff_iff, decide_eq_true_iff]; exact hb.symm
    refine Ok.ite.2 ⟨fun h => Ok.gd.2 ⟨?_, Ok.some.2 ?_⟩, fun h => Ok.some.2 ?_⟩
    · rw [List.length_append, List.length_singleton]; constructor <;> omega
    · simp only [Zdp] at hP; rw [if_pos (e.trans h)] at hP; exact hP
    · simp only [Zdp] at hP; rw [if_neg (by rw [e]; exact h), List.append_nil] at hP; exact hP
   unfold Z8y
   refine Ok.bind.2 (Z6y (Zg4 r lx hkm) (Ok.ite.2 ⟨fun h => Ok.bind.2 (Z6y (Zcv r lr hb hkm hjL) (j3 _ _ rfl ?_)), fun h => j3 false _ rfl ⟨fun h2 => (by cases h2), fun h2 => absurd (decide_eq_true h2.1) h⟩⟩))
   rw [decide_eq_true_iff]
   exact ⟨fun h2 => ⟨of_decide_eq_true h, h2⟩, fun h2 => h2.2⟩
  ·
   rintro (s | x) h
   · exact Ok.gd.2 ⟨(by omega), Ok.some.2 (next _ ⟨k + 1, by simp, by omega, h⟩ (by simp only; omega))⟩
   · exact h.elim
 ·
  obtain rfl : k = m := by omega
  unfold Zbd Z9b
  refine Ok.bind.2 (Ok.bind.2 (Ok.mono (s_all (m := k) (p := fun u => decide (Zag n c p u)) (step := fun o x => Z5k c c p o x) (by omega) fun o q hq hol => ?_) fun o2 ho2 => ?_))
  ·
   unfold Z5k Zcg
   rw [hN]
   by_cases h : q < k
   ·
    obtain ⟨b, hb1, hb2⟩ := Zna r lr lx hb h
    rw [if_pos (by omega), if_pos h, hb1]
    simp only [Option.bind_some]
    rw [hb2]
    by_cases h2 : decide (Zag n c p q) = true
    · rw [if_pos h2, if_pos h2, Z6p (by rw [List.length_append, List.length_singleton]; constructor <;> omega), Z6p (by constructor <;> omega)]
    · rw [if_neg h2, if_neg h2, Z6p (by constructor <;> omega)]
   · rw [if_neg (by omega), if_neg h]
  ·
   unfold Z7r
   refine Ok.some.2 (Ok.some.2 ?_)
   rw [ho, r.first.2.2.1, ho2]
def Zgj (c : Csr) (p : Pre) (j : Nat) : Int := min (p.Ex.getD (tl c j) 0) (p.Res.getD j 0)
def Zhb (c : Csr) (p : Pre) (j : Nat) : Pre := ⟨mvR c p.Res j (Zgj c p j), mvX c p.Ex j (Zgj c p j), p.H⟩
theorem Znj {p : Pre} (h1 : p.Res.length ≤ 1000000000) (h2 : p.Ex.length ≤ 1000000000) (h3 : p.H.length ≤ 1000000000) : Z90 p = some p := by
 unfold Z90
 rw [Ze7 h1, Ze7 h2, s_CloneI h3]; rfl
theorem s_Push {p : Pre} {j : Nat} (r : Row n m L c) (h : ResOK n m L c p.Res p.Ex) (hb : HtB m p.H) (hj : j < L) :
    Z6d c p (j : Nat) = some (if Zby n p.Ex (tl c j) ∧ Zdo c p (tl c j) j then (Zhb c p j, Zgj c p j, 0) else (⟨[], [], []⟩, 0, 30)) := by
  have b := r.bd
  have lr := h.lr
  have lx := h.lx
  have lh := hb.1
  have ht := (r.tlh hj).1
  unfold Z6d
  rw [r.tailM hj]
  simp only [Option.bind_some]
  rw [if_neg (by simp), Zg4 r lx ht]
  simp only [Option.bind_some]
  have j1 : Zby n p.Ex (tl c j) ∧ Zdo c p (tl c j) j → Z6j c p (j : Nat) (tl c j : Nat) false = some (Zhb c p j, Zgj c p j, 0) := fun hA => by
    unfold Z6j
    rw [if_neg (by simp), Znj (by omega) (by omega) (by omega)]
    simp only [Option.bind_some, Int.toNat_natCast]
    have h1 := hA.1.2.2
    have h2 := hA.2.1
    rw [Z6p (by constructor <;> omega), Z6p (by constructor <;> omega), Zne r h hj (by omega) (by omega)]
    rfl
  by_cases hA : Zby n p.Ex (tl c j)
  · rw [if_neg (by simp [hA]), Zcv r lr hb ht hj]
    simp only [Option.bind_some]
    by_cases hB : Zdo c p (tl c j) j
    · rw [if_pos ⟨hA, hB⟩, decide_eq_true hB]; exact j1 ⟨hA, hB⟩
    · rw [if_neg fun h => hB h.2, decide_eq_false hB]
      unfold Z6j; rw [if_pos (by decide)]
  · rw [if_pos (by simp [hA]), if_neg fun h => hA h.1]
    unfold Z6j; rw [if_pos rfl]
theorem s_PushN {p : Pre} {a : Int} (r : Row n m L c) (h : ¬(0 ≤ a ∧ a < L)) : Z6d c p a = some (⟨[], [], []⟩, 0, 2) := by
 unfold Z6d
 rw [r.tailN h]
 simp only [Option.bind_some]
 rw [if_pos (by simp)]
theorem PreOK.push {p : Pre} {j : Nat} (h : PreOK n m L c p) (r : Row n m L c) (hj : j < L) (hA : Zby n p.Ex (tl c j)) (hB : Zdo c p (tl c j) j) : PreOK n m L c (Zhb c p j) := by
 have h1 := hA.2.2
 have h2 := hB.1
 have hD : Zgj c p j = min (p.Ex.getD (tl c j) 0) (p.Res.getD j 0) := rfl
 have hlr := h.ok.lr
 have hlx := h.ok.lx
 have ht := r.tlh hj
 have hr := r.rev hj
 refine ⟨h.ok.move r hj (by omega) (by omega), fun v hv hvS => ?_, h.hs, fun k hk h0 => ?_⟩
 ·
  have := h.nn v hv hvS
  simp only [Zhb]
  rw [Zd9 r hlx hj]
  by_cases c1 : tl c j = v
  ·
   subst c1
   rw [if_pos rfl, if_neg fun e => ht.2.2.2 e.symm]; omega
  · rw [if_neg c1]; split <;> omega
 ·
  simp only [Zhb] at h0 ⊢
  rw [Zbc r hlr hj] at h0
  by_cases c1 : k = rv c j
  ·
   subst c1
   rw [ht.2.1, ht.2.2.1]
   have := hB.2
   omega
  ·
   rw [if_neg c1] at h0
   by_cases c2 : k = j
   · subst c2; exact h.val k hk h2
   · rw [if_neg c2] at h0; exact h.val k hk h0
def Zio (c : Csr) (p : Pre) (m : Nat) (a : Nat) : Nat → Int
  | 0 => 2 * m
  | k + 1 => if 0 < p.Res.getD (a + k) 0 then min (Zio c p m a k) (p.H.getD (hd c (a + k)) 0) else Zio c p m a k
def Zk5 (c : Csr) (p : Pre) (m u : Nat) : Int := Zio c p m (fs c u) (fs c (u + 1) - fs c u)
def Zhe (c : Csr) (p : Pre) (m u : Nat) : Pre := ⟨p.Res, p.Ex, p.H.set u (Zk5 c p m u + 1)⟩
theorem Znp {p : Pre} {a : Nat} : ∀ {k i : Nat}, i < k → 0 < p.Res.getD (a + i) 0 → Zio c p m a k ≤ p.H.getD (hd c (a + i)) 0
 | 0, _, h, _ => by omega
 | k + 1, i, h, h0 => by
  simp only [Zio]
  rcases Nat.lt_or_ge i k with h1 | h1
  ·
   have := Znp h1 h0
   split <;> omega
  ·
   have : i = k := by omega
   subst this
   rw [if_pos h0]; omega
theorem Zkf (p : Pre) (a : Nat) : ∀ k : Nat, Zio c p m a k ≤ 2 * m ∧ (Zio c p m a k = 2 * m ∨ ∃ i, i < k ∧ 0 < p.Res.getD (a + i) 0 ∧ p.H.getD (hd c (a + i)) 0 = Zio c p m a k)
 | 0 => ⟨Int.le_refl _, .inl rfl⟩
 | k + 1 => by
  obtain ⟨h1, h2⟩ := Zkf p a k
  simp only [Zio]
  by_cases h : 0 < p.Res.getD (a + k) 0
  ·
   rw [if_pos h]
   refine ⟨by omega, ?_⟩
   by_cases h3 : p.H.getD (hd c (a + k)) 0 ≤ Zio c p m a k
   · exact .inr ⟨k, by omega, h, by omega⟩
   ·
    rcases h2 with h2 | ⟨i, g1, g2, g3⟩
    · exact .inl (by omega)
    · exact .inr ⟨i, by omega, g2, by omega⟩
  ·
   rw [if_neg h]
   refine ⟨h1, ?_⟩
   rcases h2 with h2 | ⟨i, g1, g2, g3⟩
   · exact .inl h2
   · exact .inr ⟨i, by omega, g2, g3⟩
theorem lowV_le {p : Pre} {u j : Nat} (r : Row n m L c) (hu : u < m) (hj : j < L) (ht : tl c j = u) (h0 : 0 < p.Res.getD j 0) : Zk5 c p m u ≤ p.H.getD (hd c j) 0 := by
 have h1 := (r.range hj hu).2 ht
 have e : fs c u + (j - fs c u) = j := by omega
 have := Znp (c := c) (m := m) (p := p) (a := fs c u) (k := fs c (u + 1) - fs c u) (i := j - fs c u) (by omega) (by rw [e]; exact h0)
 rw [e] at this; exact this
theorem Zgn (p : Pre) {u : Nat} (r : Row n m L c) (hu : u < m) : Zk5 c p m u ≤ 2 * m ∧ (Zk5 c p m u = 2 * m ∨ ∃ j, j < L ∧ tl c j = u ∧ 0 < p.Res.getD j 0 ∧ p.H.getD (hd c j) 0 = Zk5 c p m u) := by
 have hfl := r.first.2.2.2 u hu
 obtain ⟨h1, h2⟩ := Zkf (c := c) (m := m) p (fs c u) (fs c (u + 1) - fs c u)
 refine ⟨h1, ?_⟩
 rcases h2 with h2 | ⟨i, g1, g2, g3⟩
 · exact .inl h2
 · exact .inr ⟨fs c u + i, by omega, (r.range (by omega) hu).1 ⟨by omega, by omega⟩, g2, g3⟩
theorem s_Lift {p : Pre} {u : Nat} (r : Row n m L c) (lr : p.Res.length = L) (lx : p.Ex.length = m) (hb : HtB m p.H) (hu : u < m) :
    Z73 c p (u : Nat) = some (if Zag n c p u then (Zhe c p m u, 0) else (⟨[], [], []⟩, 30)) := by
  have b := r.bd
  have hN := r.is.hN
  have lh := hb.1
  have llh := r.lens.2.1
  have hfl := r.first.2.2.2 u hu
  refine Zbu ?_
  unfold Z73
  rw [if_neg (by omega), hN]
  unfold Z89
  rw [if_neg (by simp; omega), hN]
  refine Ok.bind.2 (Ok.mono (Zna r lr lx hb hu) ?_)
  rintro q rfl
  by_cases hS : Zag n c p u
  · rw [if_neg (by simp [hS]), if_pos hS]
    unfold Z57
    refine Ok.gd.2 ⟨by constructor <;> omega, Ok.bind.2 (Ok.some.2 (Ok.bind.2 (Ok.mono (Zhi r hu (fun j s => s = Zio c p m (fs c u) (j - fs c u)) (fun _ => False) (by rw [Nat.sub_self]; rfl) fun j s h1 h2 h3 => ?_) ?_)))⟩
    · have hjL : j < L := by omega
      have g1 := r.head hjL
      have e1 : j + 1 - fs c u = (j - fs c u) + 1 := by omega
      have e2 : fs c u + (j - fs c u) = j := by omega
      subst h3
      unfold Z88
      simp only [Int.toNat_natCast, g1.1]
      refine Ok.gd.2 ⟨by constructor <;> omega, Ok.ite.2 ⟨fun h0 => Ok.gd.2 ⟨by constructor <;> omega, Ok.gd.2 ⟨by constructor <;> omega, Ok.some.2 ?_⟩⟩, fun h0 => Ok.some.2 ?_⟩⟩
      · rw [e1]; simp only [Zio, e2]; rw [if_pos h0]
      · rw [e1]; simp only [Zio, e2]; rw [if_neg h0]
    · rintro (s | x) h
      · simp only at h
        subst h
        have hv := (Zgn p r hu).1
        have hlow : -1000000 ≤ Zk5 c p m u := by
          rcases (Zgn p r hu).2 with h | ⟨j, h1, -, -, h4⟩
          · omega
          · have := hb.2 _ (r.head h1).2; omega
        unfold Zk5 at hv hlow
        refine Ok.bind.2 (Z6y (Znj (by omega) (by omega) (by omega)) (Ok.gd.2 ⟨by constructor <;> omega, Ok.gd.2 ⟨by constructor <;> omega, Ok.some.2 ?_⟩⟩))
        rw [Int.toNat_natCast]; rfl
      · exact h.elim
  · rw [if_pos (by simp [hS]), if_neg hS]; exact Ok.some.2 rfl
theorem s_LiftN {p : Pre} {a : Int} (r : Row n m L c) (h : ¬(0 ≤ a ∧ a < m)) : Z73 c p a = some (⟨[], [], []⟩, 2) := by
 have hN := r.is.hN
 unfold Z73 Z89
 by_cases h1 : a < 0
 · rw [if_pos h1, if_pos rfl]
 · rw [if_neg h1, if_pos (decide_eq_true (by omega))]
def OpenJ (c : Csr) (L : Nat) (R : List Int) (u v : Nat) : Prop := ∃ j, j < L ∧ tl c j = u ∧ hd c j = v ∧ 0 < R.getD j 0
theorem OpenJ.lt {R : List Int} (r : Row n m L c) {u v : Nat} (h : OpenJ c L R u v) : u < m ∧ v < m := by
 obtain ⟨j, h1, h2, h3, _⟩ := h
 exact ⟨by rw [← h2]; exact (r.tlh h1).1, by rw [← h3]; exact (r.head h1).2⟩
theorem Zgo {H : Nat → Int} {G : Nat → Nat → Prop} (hG : ∀ u v, G u v → H u ≤ H v + 1) {u v : Nat} (hr : Reach G u v) : ∀ k : Int, H v ≤ k → k ≤ H u → ∃ w, Reach G u w ∧ H w = k := by
 induction hr with
 | refl => intro k h1 h2; exact ⟨u, .refl, by omega⟩
 | step h1 h2 ih =>
  rename_i x y
  intro k h3 h4
  by_cases c : H x ≤ k
  · exact ih k c h4
  ·
   have := hG _ _ h2
   exact ⟨y, .step h1 h2, by omega⟩
theorem pigeon : ∀ (m : Nat) (f : Nat → Nat), (∀ k, k ≤ m → f k < m) → ∃ i j, i < j ∧ j ≤ m ∧ f i = f j
 | 0, f, h => absurd (h 0 (Nat.le_refl _)) (by omega)
 | m + 1, f, h => by
  by_cases e : ∃ i, i ≤ m ∧ f i = f (m + 1)
  ·
   obtain ⟨i, h1, h2⟩ := e
   exact ⟨i, m + 1, by omega, by omega, h2⟩
  ·
   have ne : ∀ i, i ≤ m → f i ≠ f (m + 1) := fun i hi h2 => e ⟨i, hi, h2⟩
   obtain ⟨i, j, h1, h2, h3⟩ := pigeon m (fun k => if f (m + 1) < f k then f k - 1 else f k) fun k hk => by
    have a := h k (by omega)
    have a2 := h (m + 1) (by omega)
    have a3 := ne k hk
    split <;> omega
   have a1 := ne i (by omega)
   have a2 := ne j (by omega)
   refine ⟨i, j, h1, by omega, ?_⟩
   split at h3 <;> split at h3 <;> omega
theorem Zho {H : Nat → Int} {a : Int} (h : ∀ k : Nat, k ≤ m → ∃ w, w < m ∧ H w = a + k) : False := by
 have : ∀ k : Nat, ∃ w, k ≤ m → w < m ∧ H w = a + k := fun k => by
  by_cases c : k ≤ m
  · obtain ⟨w, hw⟩ := h k c; exact ⟨w, fun _ => hw⟩
  · exact ⟨0, fun h => absurd h c⟩
 obtain ⟨f, hf⟩ := Classical.axiomOfChoice this
 obtain ⟨i, j, h1, h2, h3⟩ := pigeon m f fun k hk => (hf k hk).1
 have a1 := (hf i (by omega)).2
 have a2 := (hf j h2).2
 rw [h3] at a1
 omega
theorem Zla {R : List Int} (r : Row n m L c) {u v : Nat} (hu : u < m) (h : Reach (OpenJ c L R) u v) : v < m := by
 induction h with
 | refl => exact hu
 | step _ h2 _ => exact (h2.lt r).2
theorem Zhf {R X : List Int} {S u : Nat} (r : Row n m L c) (h : ResOK n m L c R X) (hS : n.S = S) (nn : ∀ v, v < m → v ≠ S → 0 ≤ X.getD v 0) (hu : u < m) (hx : 0 < X.getD u 0) : Reach (OpenJ c L R) u S := by
 refine Classical.byContradiction fun hno => ?_
 let q : Nat → Bool := fun v => @decide (¬Reach (OpenJ c L R) u v) (Classical.propDecidable _)
 have hq : ∀ v, q v = true ↔ ¬Reach (OpenJ c L R) u v := fun v => @decide_eq_true_iff _ (Classical.propDecidable _)
 obtain ⟨cl, hcl⟩ : ∃ cl : List Bool, cl = (List.range m).map q := ⟨_, rfl⟩
 have inc : ∀ v : Nat, v < m → (inS cl v = true ↔ ¬Reach (OpenJ c L R) u v) := fun v hv => by
  unfold inS
  rw [hcl, Int.toNat_natCast, List.getD_eq_getElem?_getD, List.getElem?_map, List.getElem?_range hv]
  exact hq v
 have inf : ∀ v : Nat, v < m → (inS cl v = false ↔ Reach (OpenJ c L R) u v) := fun v hv => by
  rw [Bool.eq_false_iff, ne_eq, inc v hv]; exact Classical.not_not
 have he := r.he
 have hw := h.within r
 have hac : ∀ k, k ≤ n.Arcs.length → acK n.Arcs (flN n.Arcs R) cl k ≤ 0 := by
  intro k
  induction k with
  | zero => intro _; simp [acK]
  | succ k ih =>
   intro hk
   have h0 := he k hk false
   have h1 := he k hk true
   simp only [vtx, Bool.false_eq_true, if_false, if_true] at h0 h1
   have hf := (hw.2.2 k hk).1
   have ih := ih (by omega)
   simp only [acK]
   by_cases c1 : inS cl (n.Arcs.getD k default).fr = true ∧ inS cl (n.Arcs.getD k default).to = false
   ·
    have hz : (flN n.Arcs R).getD k 0 = 0 := by
     rw [Za2 hk]
     by_cases e : (n.Arcs.getD k default).fr = (n.Arcs.getD k default).to
     · rw [if_pos e]
     ·
      rw [if_neg e]
      obtain ⟨-, a2, a3⟩ := r.cpPos hk e true
      have z := r.is.ok.hat k hk e true
      have z2 := r.is.ok.hat k hk e false
      have nnR := (h.res _ a3).1
      refine Int.le_antisymm (Int.not_lt.1 fun hpos => ?_) nnR
      obtain ⟨p, hp⟩ : ∃ p : Nat, (n.Arcs.getD k default).fr = p := ⟨(n.Arcs.getD k default).fr.toNat, by omega⟩
      obtain ⟨t, ht⟩ : ∃ t : Nat, (n.Arcs.getD k default).to = t := ⟨(n.Arcs.getD k default).to.toNat, by omega⟩
      rw [hp, ht] at c1
      have r1 := (inf t (by omega)).1 c1.2
      refine (inc p (by omega)).1 c1.1 (.step r1 ⟨_, a3, ?_, ?_, hpos⟩)
      · unfold tl hd; rw [a2]; simp only [Bool.not_true]; rw [z2.1]; simp only [vtx, Bool.not_false, if_true, ht]; omega
      · unfold hd; rw [z.1]; simp only [vtx, Bool.not_true, Bool.false_eq_true, if_false, hp]; omega
    rw [if_pos c1, hz]; split <;> omega
   · rw [if_neg c1]; split <;> omega
 have hpc : ∀ j, j ≤ m → 0 ≤ Zgk n.Arcs (flN n.Arcs R) cl j n.Arcs.length ∧ (u < j → 0 < Zgk n.Arcs (flN n.Arcs R) cl j n.Arcs.length) := by
  intro j
  induction j with
  | zero => intro _; rw [show ((0 : Nat) : Int) = 0 from rfl, Zhn he _ (Nat.le_refl _)]; exact ⟨Int.le_refl _, fun h => by omega⟩
  | succ j ih =>
   intro hj
   obtain ⟨i1, i2⟩ := ih (by omega)
   rw [Int.natCast_succ, Zhm]
   by_cases c1 : inS cl j = false
   ·
    rw [if_pos c1, ← h.ex j (by omega)]
    have hjS : j ≠ S := fun e => hno (by rw [← e]; exact (inf j (by omega)).1 c1)
    have := nn j (by omega) hjS
    refine ⟨by omega, fun hlt => ?_⟩
    by_cases e : u = j
    · subst e; omega
    · have := i2 (by omega); omega
   ·
    rw [if_neg c1]
    refine ⟨by omega, fun hlt => ?_⟩
    by_cases e : u = j
    · subst e; exact absurd ((inf u hu).2 .refl) c1
    · have := i2 (by omega); omega
 have := (hpc m (Nat.le_refl _)).2 hu
 rw [Zjc he _ (Nat.le_refl _)] at this
 have := hac _ (Nat.le_refl _)
 omega
theorem Zje {R : List Int} {H : Nat → Int} {S u : Nat} (r : Row n m L c) (hu : u < m) (hval : ∀ j, j < L → 0 < R.getD j 0 → H (tl c j) ≤ H (hd c j) + 1) (hHS : H S = m) (hr : Reach (OpenJ c L R) u S) : H u < 2 * m := by
 refine Int.not_le.1 fun hge => ?_
 refine Zho (m := m) (H := H) (a := m) fun k hk => ?_
 obtain ⟨w, h1, h2⟩ := Zgo (H := H) (G := OpenJ c L R) (fun a b ⟨j, g1, g2, g3, g4⟩ => by rw [← g2, ← g3]; exact hval j g1 g4) hr (m + k) (by omega) (by omega)
 exact ⟨w, Zla r hu h1, h2⟩
theorem PreOK.lift {p : Pre} {u : Nat} (h : PreOK n m L c p) (r : Row n m L c) (hu : u < m) (hS : Zag n c p u) : PreOK n m L c (Zhe c p m u) ∧ p.H.getD u 0 ≤ Zk5 c p m u := by
 obtain ⟨⟨S, hnS, -, hSm⟩, ⟨T, hnT, -, hTm⟩, -, -⟩ := r.ends
 have lh := h.hs.1
 obtain ⟨⟨hA1, hA2, hA3⟩, hB⟩ := hS
 have huS : u ≠ S := by omega
 have huT : u ≠ T := by omega
 have hlow : p.H.getD u 0 ≤ Zk5 c p m u := by
  have h2 := h.hs.2.2.2 u hu
  rcases (Zgn p r hu).2 with h1 | ⟨j, h1, h3, h4, h5⟩
  · omega
  ·
   have h6 := h.val j h1 h4
   rw [h3] at h6
   have h7 := (r.range h1 hu).2 h3
   have h8 := hB j h7.1 h7.2
   have : p.H.getD u 0 ≠ p.H.getD (hd c j) 0 + 1 := fun e => h8 ⟨h4, e⟩
   omega
 have hHu : ∀ v, (p.H.set u (Zk5 c p m u + 1)).getD v 0 = if v = u then Zk5 c p m u + 1 else p.H.getD v 0 := fun v => by
  rw [Zin]
  by_cases e : v = u
  · rw [if_pos ⟨e.symm, by omega⟩, if_pos e]
  · rw [if_neg fun h => e h.1.symm, if_neg e]
 have hval : ∀ j, j < L → 0 < p.Res.getD j 0 → (p.H.set u (Zk5 c p m u + 1)).getD (tl c j) 0 ≤ (p.H.set u (Zk5 c p m u + 1)).getD (hd c j) 0 + 1 := fun j hj h0 => by
  have ht := r.tlh hj
  rw [hHu, hHu]
  by_cases c1 : tl c j = u
  ·
   have := lowV_le r hu hj c1 h0
   rw [if_pos c1, if_neg fun e => ht.2.2.2 (c1.trans e.symm)]; omega
  ·
   rw [if_neg c1]
   have := h.val j hj h0
   by_cases c2 : hd c j = u
   · rw [if_pos c2]; rw [c2] at this; omega
   · rw [if_neg c2]; exact this
 have hreach := Zhf r h.ok hnS (fun v hv hvS => h.nn v hv (by omega)) hu hA3
 have hbound := Zje (H := fun v => (p.H.set u (Zk5 c p m u + 1)).getD v 0) r hu hval (by simp only [hHu]; rw [if_neg fun e => huS e.symm]; exact h.hs.2.1 S hnS) hreach
 simp only [hHu, if_true] at hbound
 refine ⟨⟨h.ok, h.nn, ⟨by simp [Zhe, lh], fun s hs => ?_, fun t ht => ?_, fun v hv => ?_⟩, hval⟩, hlow⟩
 · simp only [Zhe]; rw [hHu, if_neg (by omega)]; exact h.hs.2.1 s hs
 · simp only [Zhe]; rw [hHu, if_neg (by omega)]; exact h.hs.2.2.1 t ht
 ·
  have h1 := h.hs.2.2.2 v hv
  have h2 := h.hs.2.2.2 u hu
  simp only [Zhe]; rw [hHu]
  by_cases e : v = u
  · rw [if_pos e]; omega
  · rw [if_neg e]; exact h1
end row
end Go.Acq
namespace Go.Acq
open Go
set_option linter.unusedSimpArgs false
theorem Zjf {α : Type} {z v : α} {k i : Int} : ∀ mp : List (Int × α), Znr z i (putM k v mp) = if i = k then v else Znr z i mp
 | [] => by simp only [putM, Znr]
 | x :: mp => by
  simp only [putM]
  by_cases h : k = x.1
  ·
   rw [if_pos h]; simp only [Znr]
   by_cases e : i = k
   · rw [if_pos e, if_pos e]
   · rw [if_neg e, if_neg e, if_neg (by omega)]
  ·
   rw [if_neg h]; simp only [Znr]
   by_cases e : i = x.1
   · rw [if_pos e, if_pos e, if_neg (by omega)]
   · rw [if_neg e, if_neg e, Zjf mp]
theorem Zil {α : Type} {v : α} {k : Int} : ∀ {mp : List (Int × α)} {x : Int × α}, x ∈ putM k v mp → x.1 = k ∨ ∃ y, y ∈ mp ∧ y.1 = x.1
 | [], x, h => by simp only [putM, List.mem_singleton] at h; left; rw [h]
 | y :: mp, x, h => by
  simp only [putM] at h
  by_cases e : k = y.1
  ·
   rw [if_pos e] at h
   rcases List.mem_cons.1 h with h | h
   · left; rw [h]
   · exact .inr ⟨x, List.mem_cons_of_mem _ h, rfl⟩
  ·
   rw [if_neg e] at h
   rcases List.mem_cons.1 h with h | h
   · exact .inr ⟨y, List.mem_cons_self, by rw [h]⟩
   ·
    rcases Zil h with h | ⟨z, h1, h2⟩
    · exact .inl h
    · exact .inr ⟨z, List.mem_cons_of_mem _ h1, h2⟩
def Apart {α : Type} : List (Int × α) → Prop
  | [] => True
  | x :: mp => (∀ y, y ∈ mp → y.1 ≠ x.1) ∧ Apart mp
theorem Apart.put {α : Type} {v : α} {k : Int} : ∀ {mp : List (Int × α)}, Apart mp → Apart (putM k v mp)
 | [], _ => ⟨fun y h => (by cases h), trivial⟩
 | x :: mp, h => by
  simp only [putM]
  by_cases e : k = x.1
  · rw [if_pos e]; exact ⟨fun y hy => by rw [e]; exact h.1 y hy, h.2⟩
  ·
   rw [if_neg e]
   refine ⟨fun y hy => ?_, Apart.put h.2⟩
   rcases Zil hy with h1 | ⟨z, h1, h2⟩
   · rw [h1]; exact e
   · rw [← h2]; exact h.1 z h1
theorem Apart.at {α : Type} {z : α} (d : Int × α) : ∀ {mp : List (Int × α)} {j : Nat}, Apart mp → j < mp.length → Znr z (mp.getD j d).1 mp = (mp.getD j d).2
 | [], j, _, h => by simp at h
 | x :: mp, 0, _, _ => by simp [Znr]
 | x :: mp, j + 1, h, hj => by
  have hj' : j < mp.length := by simpa using hj
  have hm := h.1 _ (Zbf hj' d)
  show Znr z (mp.getD j d).1 (x :: mp) = (mp.getD j d).2
  simp only [Znr]
  rw [if_neg hm]; exact Apart.at d h.2 hj'
def hfr (n : Net) (h : Hop) : Int := if h.Back = true then (n.Arcs.getD h.Arc.toNat default).to else (n.Arcs.getD h.Arc.toNat default).fr
def hto (n : Net) (h : Hop) : Int := if h.Back = true then (n.Arcs.getD h.Arc.toNat default).fr else (n.Arcs.getD h.Arc.toNat default).to
def hok (n : Net) (h : Hop) : Prop := 0 ≤ h.Arc ∧ h.Arc < n.Arcs.length
def WayK (n : Net) (l : List Hop) (k : Nat) : Prop := (∀ i, i < k → hok n (l.getD i default)) ∧ ∀ i, i + 1 < k → hfr n (l.getD (i + 1) default) = hto n (l.getD i default)
def Zmy (l : List Hop) (i : Int) : Nat → Int
  | 0 => 0
  | k + 1 => Zmy l i k + (if (l.getD k default).Arc = i then (if (l.getD k default).Back = true then -1 else 1) else 0)
structure MapIs (n : Net) (mp : List (Int × Int)) (l : List Hop) (k : Nat) : Prop where
  val : ∀ i, Znr 0 i mp = Zmy l i k
  key : ∀ x, x ∈ mp → 0 ≤ x.1 ∧ x.1 < n.Arcs.length
  apart : Apart mp
theorem MapIs.put {n : Net} {mp : List (Int × Int)} {l : List Hop} {k : Nat} (h : MapIs n mp l k) (hk : hok n (l.getD k default)) {v : Int} (hv : v = Zmy l (l.getD k default).Arc k + (if (l.getD k default).Back = true then -1 else 1)) : MapIs n (putM (l.getD k default).Arc v mp) l (k + 1) := by
 refine ⟨fun i => ?_, fun x hx => ?_, h.apart.put⟩
 ·
  rw [Zjf]
  simp only [Zmy]
  by_cases e : i = (l.getD k default).Arc
  · rw [if_pos e, if_pos e.symm, hv, e]
  · rw [if_neg e, if_neg (fun h => e h.symm), h.val, Int.add_zero]
 ·
  rcases Zil hx with h1 | ⟨y, h1, h2⟩
  · rw [h1]; exact hk
  · rw [← h2]; exact h.key y h1
end Go.Acq
namespace Go.Acq
open Go
set_option linter.unusedSimpArgs false
def fits (n : Net) (f : List Int) (i : Nat) (c d : Int) : Prop := 0 ≤ f.getD i 0 + d * c ∧ f.getD i 0 + d * c ≤ (n.Arcs.getD i default).cap
theorem Zn3 {a b : Int} (ha : 0 ≤ a) (hb : 0 < b) : 0 ≤ a.tdiv b ∧ a.tdiv b ≤ a := by
 rw [Int.tdiv_eq_ediv_of_nonneg ha]
 exact ⟨Int.ediv_nonneg ha (by omega), Int.ediv_le_self b ha⟩
end Go.Acq
namespace Go.Acq
open Go
set_option linter.unusedSimpArgs false
section row
variable {n : Net} {m L : Nat} {c : Csr}
theorem Zki {al : List Arc} {f : List Int} {v : Int} : ∀ {k : Nat}, (∀ i, i < k → f.getD i 0 = 0) → ex al f v k = 0
 | 0, _ => rfl
 | k + 1, h => by simp only [ex]; rw [Zki fun i hi => h i (by omega), h k (by omega)]; simp
theorem s_Begin (r : Row n m L c) : Ok (Z7y c) (fun p => PreOK n m L c p) := by
 have b := r.bd
 obtain ⟨⟨S, hS, hcS, hSm⟩, ⟨T, hT, hcT, hTm⟩, hne, hN⟩ := r.ends
 obtain ⟨-, -, -, lc, -, -⟩ := r.lens
 have hfl := r.first.2.2.2 S hSm
 unfold Z7y
 refine Ok.bind.2 (Z6y (Ze7 (by omega)) ?_)
 rw [hN, hcS]
 simp only [Int.toNat_natCast]
 obtain ⟨H0, hH0⟩ : ∃ H0, (List.replicate m (0 : Int)).set S m = H0 := ⟨_, rfl⟩
 have hHl : H0.length = m := by rw [← hH0]; simp
 have hHv : ∀ v, H0.getD v 0 = if v = S then (m : Int) else 0 := fun v => by
  rw [← hH0, Zin, List.length_replicate, Z4h]
  by_cases e : v = S
  · rw [if_pos ⟨e.symm, hSm⟩, if_pos e]
  · rw [if_neg fun h => e h.1.symm, if_neg e]
 rw [hH0]
 unfold Z57
 refine Ok.gd.2 ⟨(by omega), Ok.gd.2 ⟨(by omega), Ok.gd.2 ⟨by rw [List.length_replicate]; constructor <;> omega, Ok.bind.2 (Ok.some.2 (Ok.bind.2 (Ok.mono (Zhi r hSm
  (fun k s => ResOK n m L c s.1 s.2 ∧ (∀ v, v < m → v ≠ S → 0 ≤ s.2.getD v 0) ∧ ∀ i, fs c S ≤ i → i < k → s.1.getD i 0 = 0) (fun _ => False) ⟨⟨lc, by simp, fun j hj => ?_, fun v hv => ?_⟩, fun v hv _ => by rw [Z4h]; exact Int.le_refl _, fun i h1 h2 => by omega⟩ fun j s h1 h2 h3 => ?_) ?_)))⟩⟩⟩
 · have := r.cap hj; exact ⟨this.1, this.2.1⟩
 ·
  rw [Z4h, Zki fun i hi => ?_]
  rw [Za2 hi]
  by_cases e : (n.Arcs.getD i default).fr = (n.Arcs.getD i default).to
  · rw [if_pos e]
  · rw [if_neg e, (r.is.ok.hat i hi e true).2.2.1]; rfl
 ·
  obtain ⟨xs, ys⟩ := s
  obtain ⟨g1, g2, g3⟩ := h3
  simp only at g1 g2 g3
  have hjL : j < L := by omega
  have ht := (r.range hjL hSm).1 ⟨h1, h2⟩
  have htl := r.tlh hjL
  have hrv := r.rev hjL
  have hle := g1.rle r hjL
  have hxl := g1.lr
  unfold Z6w
  rw [hN, hcS]
  simp only [Int.toNat_natCast, hH0]
  refine Ok.gd.2 ⟨(by omega), Ok.bind.2 (Z6y (Zne (p := ⟨xs, ys, H0⟩) r g1 hjL hle.1 (Int.le_refl _)) (Ok.some.2 ⟨g1.move r hjL hle.1 (Int.le_refl _), fun v hv hvS => ?_, fun i h4 h5 => ?_⟩))⟩
  ·
   simp only
   rw [Zd9 r g1.lx hjL, ht, if_neg fun e => hvS e.symm]
   have := g2 v hv hvS
   split <;> omega
  ·
   simp only
   have hiL : i < L := by omega
   have hti := (r.range hiL hSm).1 ⟨h4, by omega⟩
   rw [Zbc r hxl hjL, if_neg fun e => by rw [e, htl.2.1] at hti; exact htl.2.2.2 (ht.trans hti.symm)]
   by_cases e : i = j
   · rw [if_pos e]; omega
   · rw [if_neg e]; exact g3 i h4 (by omega)
 ·
  rintro (⟨xs, ys⟩ | x) h
  ·
   obtain ⟨g1, g2, g3⟩ := h
   simp only at g1 g2 g3
   refine Ok.some.2 ⟨g1, fun v hv hvS => g2 v hv (by omega), ⟨hHl, fun s hs => ?_, fun t ht => ?_, fun v hv => ?_⟩, fun j hj h0 => ?_⟩
   · simp only; rw [hHv, if_pos (by omega)]
   · simp only; rw [hHv, if_neg (by omega)]
   · simp only; rw [hHv]; split <;> omega
   ·
    simp only at h0 ⊢
    rw [hHv, hHv]
    by_cases e : tl c j = S
    ·
     have := (r.range hj hSm).2 e
     rw [g3 j this.1 this.2] at h0; omega
    · rw [if_neg e]; split <;> omega
  · exact h.elim
def StepP (n : Net) (m L : Nat) (c : Csr) (was p : Pre) : Prop :=
  (∃ j, j < L ∧ Zby n was.Ex (tl c j) ∧ Zdo c was (tl c j) j ∧ p = Zhb c was j) ∨ (∃ u, u < m ∧ Zag n c was u ∧ p = Zhe c was m u)
theorem PreOK.hb {p : Pre} (h : PreOK n m L c p) (r : Row n m L c) : HtB m p.H := h.hs.hb r
theorem PreOK.step {was p : Pre} (h : PreOK n m L c was) (r : Row n m L c) (hs : StepP n m L c was p) : PreOK n m L c p := by
 rcases hs with ⟨j, h1, h2, h3, rfl⟩ | ⟨u, h1, h2, rfl⟩
 · exact h.push r h1 h2 h3
 · exact (h.lift r h1 h2).1
def Zc1 (n : Net) (L : Nat) (c : Csr) (p : Pre) : List Int := Zdp (fun j => decide (Zby n p.Ex (tl c j) ∧ Zdo c p (tl c j) j)) L
def Zaj (n : Net) (m : Nat) (c : Csr) (p : Pre) : List Int := Zdp (fun u => decide (Zag n c p u)) m
theorem PreOK.may {p : Pre} (h : PreOK n m L c p) (r : Row n m L c) : Zaa c p = some (Zc1 n L c p, Zaj n m c p) := s_May r h.ok.lr h.ok.lx (h.hb r)
theorem idx_lt {k : Int} {l : List Int} (hk : 0 ≤ k) (hl : 0 < l.length) : inb ((k.tdiv 2).tmod (l.length : Int)) l.length := by
 have h1 : 0 ≤ k.tdiv 2 := (Zn3 hk (by omega)).1
 have := Zhh h1 (show (0 : Int) < l.length by omega)
 exact ⟨this.1, this.2⟩
theorem push_at {p : Pre} {i : Nat} (h : PreOK n m L c p) (r : Row n m L c) (hi : i < (Zc1 n L c p).length) : ∃ j, j < L ∧ Zby n p.Ex (tl c j) ∧ Zdo c p (tl c j) j ∧ (Zc1 n L c p).getD i 0 = (j : Nat) ∧ Z6d c p ((Zc1 n L c p).getD i 0) = some (Zhb c p j, Zgj c p j, 0) := by
 obtain ⟨j, h1, h2, h3⟩ := mem_selN.1 (Zbf hi 0)
 have h2 := of_decide_eq_true h2
 refine ⟨j, h1, h2.1, h2.2, h3, ?_⟩
 have h3' : (Zc1 n L c p).getD i 0 = (j : Nat) := h3
 rw [h3', s_Push r h.ok (h.hb r) h1, if_pos h2]
theorem lift_at {p : Pre} {i : Nat} (h : PreOK n m L c p) (r : Row n m L c) (hi : i < (Zaj n m c p).length) : ∃ u, u < m ∧ Zag n c p u ∧ (Zaj n m c p).getD i 0 = (u : Nat) ∧ Z73 c p ((Zaj n m c p).getD i 0) = some (Zhe c p m u, 0) := by
 obtain ⟨u, h1, h2, h3⟩ := mem_selN.1 (Zbf hi 0)
 have h2 := of_decide_eq_true h2
 have h3' : (Zaj n m c p).getD i 0 = (u : Nat) := h3
 refine ⟨u, h1, h2, h3', ?_⟩
 rw [h3', s_Lift r h.ok.lr h.ok.lx (h.hb r) h1, if_pos h2]
theorem row_of {m : Nat} (hc : CsrIs n m c) (hm : n.N = m) (hk : Zb3 n.N n.S n.T n.Arcs = 0) : Row n m (Z1i n.Arcs m) c := ⟨hc, hk, hm, rfl⟩
end row
end Go.Acq
namespace Go.Acq
open Go
set_option linter.unusedSimpArgs false
set_option linter.unusedVariables false
section row
variable {n : Net} {m L : Nat} {c : Csr}
theorem open_j {R : List Int} (r : Row n m L c) (hR : ∀ j, j < L → 0 ≤ R.getD j 0 ∧ R.getD j 0 + R.getD (rv c j) 0 = cp c j) {u v : Nat} (h : OpenA n (flN n.Arcs R) u v) : OpenJ c L R u v := by
 obtain ⟨i, hi, hne, h⟩ := h
 rw [Za2 hi, if_neg hne] at h
 have ha : ∀ s, hd c (pos n.Arcs i s) = (vtx (n.Arcs.getD i default) (!s)).toNat := fun s => by unfold hd; rw [(r.is.ok.hat i hi hne s).1]
 have ht : ∀ s, tl c (pos n.Arcs i s) = (vtx (n.Arcs.getD i default) s).toNat := fun s => by unfold tl; rw [(r.cpPos hi hne s).2.1, ha, Bool.not_not]
 have e0 := r.he i hi false
 have e1 := r.he i hi true
 obtain ⟨c1, c2, c3⟩ := r.cpPos hi hne false
 obtain ⟨d1, d2, d3⟩ := r.cpPos hi hne true
 have hf := hR _ c3
 simp only [Bool.not_false, Bool.not_true] at c2 d2
 rw [c2, c1] at hf
 rcases h with ⟨a1, a2, a3⟩ | ⟨a1, a2, a3⟩
 ·
  refine ⟨pos n.Arcs i false, c3, ?_, ?_, by omega⟩
  · rw [ht]; simp only [vtx, Bool.false_eq_true, if_false]; omega
  · rw [ha]; simp only [vtx, Bool.not_false, if_true]; omega
 ·
  refine ⟨pos n.Arcs i true, d3, ?_, ?_, by omega⟩
  · rw [ht]; simp only [vtx, if_true]; omega
  · rw [ha]; simp only [vtx, Bool.not_true, Bool.false_eq_true, if_false]; omega
theorem PreOK.far {p : Pre} {S T : Nat} (h : PreOK n m L c p) (r : Row n m L c) (hS : n.S = S) (hT : n.T = T) : ¬Reach (OpenA n (flN n.Arcs p.Res)) S T := fun hr => by
 obtain ⟨⟨S', hS', -, hSm⟩, ⟨T', hT', -, hTm⟩, -, -⟩ := r.ends
 have hr2 : Reach (OpenJ c L p.Res) S T := hr.mono fun u v ho => open_j r h.ok.res ho
 have hp := Zgo (H := fun v => p.H.getD v 0) (G := OpenJ c L p.Res) (fun u v ⟨j, hj, h1, h2, h3⟩ => by have := h.val j hj h3; rw [h1, h2] at this; exact this) hr2
 have h1 := h.hs.2.1 S hS
 have h2 := h.hs.2.2.1 T hT
 simp only [h1, h2] at hp
 refine Zho (m := m) (H := fun v => p.H.getD v 0) (a := 0) fun k hk => ?_
 obtain ⟨w, hw, he⟩ := hp k (by omega) (by omega)
 exact ⟨w, Zla r (by omega) hw, by omega⟩
theorem PreOK.flow {p : Pre} (h : PreOK n m L c p) (r : Row n m L c) (ha : ∀ u, u < m → ¬Zby n p.Ex u) : AllP n (flN n.Arcs p.Res) (fun x => x = 0) [n.S, n.T] := by
 refine ⟨h.ok.within r, fun v hv => ?_⟩
 have hm := r.hm
 by_cases hc : (v : Int) ∈ [n.S, n.T]
 · exact .inr hc
 ·
  left
  simp only [List.mem_cons, List.not_mem_nil, or_false, not_or] at hc
  have hvm : v < m := by omega
  have h1 := h.nn v hvm hc.1
  have h2 := h.ok.ex v hvm
  have h3 : ¬0 < p.Ex.getD v 0 := fun h0 => ha v hvm ⟨hc.1, hc.2, h0⟩
  omega
end row
end Go.Acq
namespace Go.Acq
open Go
set_option linter.unusedSimpArgs false
end Go.Acq
namespace Go.Acq
open Go
set_option linter.unusedSimpArgs false
structure ByteRow (l : List Int) : Prop where
  row : ∀ x, x ∈ l → u8ok x
  len : l.length ≤ 9223372036854775807
theorem Zeb {α : Type} {xs : List α} {y d : α} {i : Nat} (h : i < xs.length) : (xs ++ [y]).getD i d = xs.getD i d := by
 rw [List.getD_eq_getElem?_getD, List.getElem?_append_left h, List.getD_eq_getElem?_getD]
theorem Z80 {α : Type} {xs : List α} {y d : α} {i : Nat} (h : i = xs.length) : (xs ++ [y]).getD i d = y := by
 subst h
 rw [List.getD_eq_getElem?_getD, List.getElem?_append_right (Nat.le_refl _)]; simp
structure PathP (n : Net) (v : Int) (l : List Hop) (w : Int) : Prop where
  way : WayK n l l.length
  start : 0 < l.length → hfr n (l.getD 0 default) = v
  fin : w = if l.length = 0 then v else hto n (l.getD (l.length - 1) default)
theorem PathP.nil (n : Net) (v : Int) : PathP n v [] v := ⟨⟨fun i h => by simp at h, fun i h => by simp at h⟩, fun h => by simp at h, rfl⟩
theorem PathP.app {n : Net} {v w : Int} {l : List Hop} (h : PathP n v l w) {p : Hop} (hp : hok n p) (hw : hfr n p = w) : PathP n v (l ++ [p]) (hto n p) := by
 refine ⟨⟨fun i hi => ?_, fun i hi => ?_⟩, fun _ => ?_, ?_⟩
 ·
  rw [List.length_append, List.length_singleton] at hi
  rcases Nat.lt_or_ge i l.length with h1 | h1
  · rw [Zeb h1]; exact h.way.1 i h1
  · rw [Z80 (by omega)]; exact hp
 ·
  rw [List.length_append, List.length_singleton] at hi
  rcases Nat.lt_or_ge (i + 1) l.length with h1 | h1
  · rw [Zeb h1, Zeb (by omega)]; exact h.way.2 i h1
  · rw [Z80 (by omega), Zeb (by omega), hw, h.fin, if_neg (by omega), show l.length - 1 = i by omega]
 ·
  rcases Nat.lt_or_ge 0 l.length with h1 | h1
  · rw [Zeb h1]; exact h.start h1
  · rw [Z80 (by omega), hw, h.fin, if_pos (by omega)]
 · rw [List.length_append, List.length_singleton, if_neg (by omega), Nat.add_sub_cancel, Z80 rfl]
def one (a b : Int) : Int := if a = b then 1 else 0
def Zm0 (h : Hop) : Hop := ⟨h.Arc, !h.Back⟩
theorem hfr_flip (n : Net) (h : Hop) : hfr n (Zm0 h) = hto n h := by
 unfold hfr hto Zm0
 cases hB : h.Back <;> simp
theorem hto_flip (n : Net) (h : Hop) : hto n (Zm0 h) = hfr n h := by
 unfold hfr hto Zm0
 cases hB : h.Back <;> simp
def BackIs (l b : List Hop) : Prop := b.length = l.length ∧ ∀ q, q < l.length → b.getD q default = Zm0 (l.getD (l.length - 1 - q) default)
theorem BackIs.way {n : Net} {l b : List Hop} (h : BackIs l b) (hw : WayK n l l.length) : WayK n b b.length := by
 rw [h.1]
 refine ⟨fun i hi => ?_, fun i hi => ?_⟩
 · rw [h.2 i hi]; exact hw.1 _ (by omega)
 ·
  rw [h.2 i (by omega), h.2 (i + 1) hi, hfr_flip, hto_flip]
  have := hw.2 (l.length - 1 - (i + 1)) (by omega)
  rw [show l.length - 1 - (i + 1) + 1 = l.length - 1 - i by omega] at this
  exact this.symm
theorem BackIs.cnt {l b : List Hop} (h : BackIs l b) (i : Int) : Zmy b i b.length = -Zmy l i l.length := by
 have key : ∀ q, q ≤ l.length → Zmy b i q = Zmy l i (l.length - q) - Zmy l i l.length := by
  intro q
  induction q with
  | zero => intro _; simp only [Zmy, Nat.sub_zero]; omega
  | succ q ih =>
   intro hq
   have e : l.length - q = (l.length - 1 - q) + 1 := by omega
   have ih := ih (by omega)
   rw [e] at ih
   simp only [Zmy] at ih ⊢
   rw [ih, h.2 q (by omega), show l.length - (q + 1) = l.length - 1 - q by omega]
   simp only [Zm0]
   by_cases c : (l.getD (l.length - 1 - q) default).Arc = i
   ·
    by_cases hB : (l.getD (l.length - 1 - q) default).Back = true
    · simp only [c, hB, if_true, Bool.not_true, Bool.false_eq_true, if_false]; omega
    · simp only [c, if_true, Bool.eq_false_iff.2 hB, Bool.not_false, Bool.false_eq_true, if_false]; omega
   · simp only [c, if_false]; omega
 rw [h.1, key _ (Nat.le_refl _), Nat.sub_self]
 simp only [Zmy]; omega
end Go.Acq
namespace Go.Acq
open Go
set_option linter.unusedSimpArgs false
set_option linter.unusedVariables false
theorem Ze6 {n : Net} {v : Int} : Z2t n v = some (Z8g n.N v) := by
 unfold Z2t Z8g
 refine Zbu ?_
 refine Ok.ite.2 ⟨fun h => Ok.some.2 ?_, fun h => Ok.some.2 ?_⟩
 · rw [Bool.eq_iff_iff, decide_eq_true_iff, decide_eq_true_iff]; omega
 · exact (decide_eq_false (by omega)).symm
theorem s_rSum {n : Net} (h : Zb3 n.N n.S n.T n.Arcs = 0) : Ok (Z6o n) (fun t => t.2 = true) := by
 have hz := Z7f h
 have ht := Zka h
 have hc := Zdc h
 unfold Z6o
 refine Ok.bind.2 (Z9z (fun s => ∃ k : Nat, s.2 = k ∧ k ≤ n.Arcs.length ∧ s.1 = totC n.Arcs k) (fun s => (n.Arcs.length - s.2).toNat) ⟨0, rfl, by omega, rfl⟩ (by unfold Z6b; simp only; omega) ?_)
 rintro ⟨s, x⟩ ⟨k, h1, h2, h3⟩ P next exit
 simp only at h1 h3 next ⊢
 subst h1; subst h3
 unfold Z5f
 simp only [Int.toNat_natCast]
 refine Ok.ite.2 ⟨fun hx => ?_, fun hx => Ok.some.2 (exit _ (by unfold Z6n; exact Ok.some.2 rfl))⟩
 have c1 := hc k (by omega)
 have t1 := ht k (by omega)
 have t2 := ht (k + 1) (by omega)
 simp only [totC] at t2
 refine Ok.gd.2 ⟨(by omega), Ok.ite.2 ⟨fun h => by omega, fun _ => Ok.gd.2 ⟨(by omega), ?_⟩⟩⟩
 unfold Z5g
 rw [if_neg (by simp only [decide_eq_true_eq]; omega)]
 simp only [Int.toNat_natCast]
 exact Ok.gd.2 ⟨(by omega), Ok.gd.2 ⟨(by omega), Ok.some.2 (next _ ⟨k + 1, by simp, by omega, by simp only [totC]⟩ (by simp only; omega))⟩⟩
theorem s_rCheck {n : Net} (h : Zb3 n.N n.S n.T n.Arcs = 0) : Z5u n = some 0 := by
 have hz := Z7f h
 have hc := Zdc h
 obtain ⟨m, hm, he⟩ := cut_ends h
 refine Zbu ?_
 unfold Z5u
 rw [if_neg (by omega), if_neg (by omega), if_neg (by omega), Ze6, Ze6, hz.2.2.1.1, hz.2.2.1.2.1]
 simp only [Option.bind_some]
 rw [if_neg (by simp), if_neg (by simp), if_neg hz.2.2.1.2.2]
 refine Ok.bind.2 (Z9z (fun s => ∃ k : Nat, s.2 = k ∧ k ≤ n.Arcs.length ∧ s.1 = false) (fun s => (n.Arcs.length - s.2).toNat) ⟨0, rfl, by omega, rfl⟩ (by unfold Z6b; simp only; omega) ?_)
 rintro ⟨s, x⟩ ⟨k, h1, h2, h3⟩ P next exit
 simp only at h1 h3 next ⊢
 subst h1; subst h3
 unfold Z4o
 simp only [Int.toNat_natCast]
 refine Ok.ite.2 ⟨fun hx => ?_, fun hx => Ok.some.2 (exit _ ?_)⟩
 ·
  have e0 := he k (by omega) false
  have e1 := he k (by omega) true
  simp only [vtx, Bool.false_eq_true, if_false, if_true] at e0 e1
  have c1 := hc k (by omega)
  have v0 : Z8g n.N (n.Arcs.getD k default).fr = true := decide_eq_true (by omega)
  have v1 : Z8g n.N (n.Arcs.getD k default).to = true := decide_eq_true (by omega)
  refine Ok.gd.2 ⟨(by omega), Ok.bind.2 ?_⟩
  rw [Ze6, v0]
  refine Ok.some.2 ?_
  rw [if_neg (by simp), Ze6, v1]
  refine Ok.bind.2 (Ok.some.2 ?_)
  rw [if_neg (by simp), if_neg (by simp)]
  exact Ok.gd.2 ⟨(by omega), Ok.some.2 (next _ ⟨k + 1, by simp, by omega, decide_eq_false (by omega)⟩ (by simp only; omega))⟩
 ·
  simp only
  unfold Z60
  rw [if_neg (by simp)]
  refine Ok.bind.2 (Ok.mono (s_rSum h) ?_)
  rintro ⟨a, b⟩ hb
  simp only at hb
  subst hb
  simp only
  rw [if_neg (by simp)]
  exact Ok.some.2 rfl
structure RM (al : List Arc) (d : Nat) (hs cs aa : List Int) (bs : List Bool) : Prop where
  lh : hs.length = d
  lc : cs.length = d
  la : aa.length = d
  lb : bs.length = d
  at' : ∀ i s, i < al.length → (al.getD i default).fr ≠ (al.getD i default).to → pos al i s < d → hs.getD (pos al i s) 0 = vtx (al.getD i default) (!s) ∧ cs.getD (pos al i s) 0 = (if s then 0 else (al.getD i default).cap) ∧ aa.getD (pos al i s) 0 = i ∧ bs.getD (pos al i s) false = s
theorem RM.put {al : List Arc} {m d k : Nat} {hs cs aa : List Int} {bs : List Bool} {s : Bool} (h : RM al d hs cs aa bs) (he : Zap m al) (hk : k < al.length) (hne : (al.getD k default).fr ≠ (al.getD k default).to) (hp : pos al k s = d) :
    RM al (d + 1) (hs ++ [vtx (al.getD k default) (!s)]) (cs ++ [if s then 0 else (al.getD k default).cap]) (aa ++ [(k : Int)]) (bs ++ [s]) := by
  obtain ⟨lh, lc, la, lb, ha⟩ := h
  refine ⟨by simp [lh], by simp [lc], by simp [la], by simp [lb], fun i t hi hni hlt => ?_⟩
  by_cases e : pos al i t < d
  · rw [Z9e (by omega), Z9e (by omega), Z9e (by omega), Z9e (by omega)]
    exact ha i t hi hni e
  · have e2 : pos al i t = d := by omega
    obtain ⟨rfl, rfl⟩ := Z7w he hi hk hni hne (e2.trans hp.symm)
    rw [e2, Z80 lh.symm, Z80 lc.symm, Z80 la.symm, Z80 lb.symm]
    exact ⟨rfl, rfl, rfl, rfl⟩
theorem s_rMake {n : Net} {m : Nat} (hm : n.N = m) (hk : Zb3 n.N n.S n.T n.Arcs = 0) : Ok (Z59 n) (fun t => CsrIs n m t.1 ∧ t.2 = 0) := by
 have hz := Z7f hk
 have he : Zap m n.Arcs := Zgq (by rw [← hm]; exact hz.2.2.2.1)
 have hmb : m ≤ 4096 := by omega
 have hlb : n.Arcs.length ≤ 16384 := by omega
 have hbs : ∀ v, v ≤ m → Z1i n.Arcs v ≤ 67108864 := fun v hv => Zbi (by omega) hlb
 unfold Z59
 rw [s_rCheck hk]
 simp only [Option.bind_some]
 rw [if_neg (by simp)]
 refine Ok.bind.2 (Z9z (fun s => ∃ v : Nat, s.2.2.2.2.2 = v ∧ v ≤ m ∧ s.1.length = v ∧ (∀ u, u < v → s.1.getD u 0 = Z1i n.Arcs u) ∧ RM n.Arcs (Z1i n.Arcs v) s.2.1 s.2.2.1 s.2.2.2.1 s.2.2.2.2.1) (fun s => (m - s.2.2.2.2.2).toNat)
  ⟨0, rfl, by omega, rfl, fun u hu => by omega, ⟨rfl, rfl, rfl, rfl, fun i s _ _ h => by simp [Z1i] at h⟩⟩ (by unfold Z6b; simp only; omega) ?_)
 rintro ⟨F, H, C, A, B, x⟩ ⟨v, h1, h2, h3, h4, h5⟩ P next exit
 simp only at h1 h3 h4 h5 next ⊢
 subst h1
 unfold Z56
 rw [hm]
 have lh := h5.lh
 refine Ok.ite.2 ⟨fun hx => ?_, fun hx => Ok.some.2 (exit _ ?_)⟩
 ·
  have hv : v < m := by omega
  have hb1 := hbs (v + 1) (by omega)
  simp only [Z1i] at hb1
  refine Ok.gd.2 ⟨by simp only [List.length_append, List.length_singleton]; constructor <;> omega, Ok.bind.2 ?_⟩
  refine Z9z (fun s => ∃ k : Nat, s.2.2.2.2 = k ∧ k ≤ n.Arcs.length ∧ RM n.Arcs (Z1i n.Arcs v + cnt n.Arcs v k) s.1 s.2.1 s.2.2.1 s.2.2.2.1) (fun s => (n.Arcs.length - s.2.2.2.2).toNat) ⟨0, rfl, by omega, by simpa [cnt] using h5⟩ (by unfold Z6b; simp only; omega) ?_
  rintro ⟨H', C', A', B', y⟩ ⟨k, g1, g2, g3⟩ P' next' exit'
  simp only at g1 g3 next' ⊢
  subst g1
  unfold Z55
  simp only [Int.toNat_natCast]
  have gl := g3.lh
  have gc := g3.lc
  have ga := g3.la
  have gb := g3.lb
  refine Ok.ite.2 ⟨fun hy => Ok.gd.2 ⟨(by omega), ?_⟩, fun hy => Ok.some.2 (exit' _ ?_)⟩
  ·
   have hkl : k < n.Arcs.length := by omega
   have hcm := Zlf (al := n.Arcs) (v := v) (i := k + 1) (j := n.Arcs.length) (by omega)
   have hhit := Znq (n.Arcs.getD k default) v
   have hcs : cnt n.Arcs v (k + 1) = cnt n.Arcs v k + hit (n.Arcs.getD k default) v := rfl
   refine Ok.ite.2 ⟨fun e => Ok.gd.2 ⟨(by omega), Ok.some.2 (next' _ ⟨k + 1, by simp, by omega, ?_⟩ (by simp only; omega))⟩, fun hne => Ok.ite.2 ⟨fun e => ?_, fun e => ?_⟩⟩
   · rw [hcs, show hit (n.Arcs.getD k default) v = 0 by unfold hit; rw [if_pos e]]; exact g3
   ·
    have hh : hit (n.Arcs.getD k default) v = 1 := by unfold hit; rw [if_neg hne, if_pos (.inl e)]
    have hp : pos n.Arcs k false = Z1i n.Arcs v + cnt n.Arcs v k := by unfold pos vtx; simp only [Bool.false_eq_true, if_false, e, Int.toNat_natCast]
    have hput := g3.put he hkl hne hp
    refine Ok.gd.2 ⟨by simp only [List.length_append, List.length_singleton]; constructor <;> omega, Ok.gd.2 ⟨by simp only [List.length_append, List.length_singleton]; constructor <;> omega, Ok.gd.2 ⟨by simp only [List.length_append, List.length_singleton]; constructor <;> omega, Ok.gd.2 ⟨by simp only [List.length_append, List.length_singleton]; constructor <;> omega, ?_⟩⟩⟩⟩
    unfold Z44
    simp only [Int.toNat_natCast]
    rw [if_neg (fun e2 => hne (by omega))]
    refine Ok.gd.2 ⟨(by omega), Ok.some.2 (next' _ ⟨k + 1, by simp, by omega, ?_⟩ (by simp only; omega))⟩
    rw [hcs, hh]
    simpa [vtx, Nat.add_assoc] using hput
   ·
    unfold Z44
    simp only [Int.toNat_natCast]
    refine Ok.ite.2 ⟨fun e2 => ?_, fun e2 => Ok.gd.2 ⟨(by omega), Ok.some.2 (next' _ ⟨k + 1, by simp, by omega, ?_⟩ (by simp only; omega))⟩⟩
    ·
     have hh : hit (n.Arcs.getD k default) v = 1 := by unfold hit; rw [if_neg hne, if_pos (.inr e2)]
     have hp : pos n.Arcs k true = Z1i n.Arcs v + cnt n.Arcs v k := by unfold pos vtx; simp only [if_true, e2, Int.toNat_natCast]
     have hput := g3.put he hkl hne hp
     refine Ok.gd.2 ⟨by simp only [List.length_append, List.length_singleton]; constructor <;> omega, Ok.gd.2 ⟨by simp only [List.length_append, List.length_singleton]; constructor <;> omega, Ok.gd.2 ⟨by simp only [List.length_append, List.length_singleton]; constructor <;> omega, Ok.gd.2 ⟨by simp only [List.length_append, List.length_singleton]; constructor <;> omega, Ok.gd.2 ⟨(by omega), Ok.some.2 (next' _ ⟨k + 1, by simp, by omega, ?_⟩ (by simp only; omega))⟩⟩⟩⟩⟩
     rw [hcs, hh]
     simpa [vtx, Nat.add_assoc] using hput
    · rw [hcs, show hit (n.Arcs.getD k default) v = 0 by unfold hit; rw [if_neg hne, if_neg (fun h => h.elim e e2)]]; exact g3
  ·
   obtain rfl : k = n.Arcs.length := by omega
   simp only
   unfold Z6a
   refine Ok.gd.2 ⟨(by omega), Ok.some.2 (next _ ⟨v + 1, by simp, by omega, by simp [h3], fun u hu => ?_, g3⟩ (by simp only; omega))⟩
   simp only
   by_cases e : u < v
   · rw [Z9e (by omega)]; exact h4 u e
   ·
    obtain rfl : u = v := by omega
    rw [Z80 h3.symm, lh]
 ·
  obtain rfl : v = m := by omega
  simp only
  unfold Z69
  have hb1 := hbs v (Nat.le_refl _)
  have la := h5.la
  refine Ok.gd.2 ⟨by simp only [List.length_append, List.length_singleton]; constructor <;> omega, Ok.bind.2 ?_⟩
  refine Z9z (fun s => ∃ k : Nat, s.2 = k ∧ k ≤ Z1i n.Arcs v ∧ s.1.length = k ∧ ∀ i s', i < n.Arcs.length → (n.Arcs.getD i default).fr ≠ (n.Arcs.getD i default).to → pos n.Arcs i s' < k → s.1.getD (pos n.Arcs i s') 0 = pos n.Arcs i (!s')) (fun s => (Z1i n.Arcs v - s.2).toNat) ⟨0, rfl, by omega, rfl, fun i s _ _ h => by omega⟩ (by unfold Z6b; simp only; omega) ?_
  rintro ⟨R, y⟩ ⟨k, g1, g2, g3, g4⟩ P' next' exit'
  simp only at g1 g3 g4 next' ⊢
  subst g1
  unfold Z54
  refine Ok.ite.2 ⟨fun hy => Ok.bind.2 ?_, fun hy => Ok.some.2 (exit' _ ?_)⟩
  ·
   have hkL : k < Z1i n.Arcs v := by omega
   obtain ⟨a, s, ha, hna, hpa, -⟩ := Zg5 hkL
   have hq : pos n.Arcs a (!s) < Z1i n.Arcs v := Zcx ha hna he
   have hqk : pos n.Arcs a (!s) ≠ k := fun e => by have := (Z7w he ha ha hna hna (e.trans hpa.symm)).2; cases s <;> cases this
   have hak : A.getD k 0 = (a : Int) := by rw [← hpa]; exact (h5.at' a s ha hna (by omega)).2.2.1
   refine Z9z (fun z => ∃ j : Nat, z.2 = j ∧ j ≤ Z1i n.Arcs v ∧ z.1 = R ++ (if pos n.Arcs a (!s) < j then [((pos n.Arcs a (!s) : Nat) : Int)] else [])) (fun z => (Z1i n.Arcs v - z.2).toNat) ⟨0, rfl, by omega, by simp⟩ (by unfold Z6b; simp only; omega) ?_
   rintro ⟨R', z⟩ ⟨j, f1, f2, f3⟩ P2 next2 exit2
   simp only at f1 f3 next2 ⊢
   subst f1; subst f3
   unfold Z53
   simp only [Int.toNat_natCast]
   refine Ok.ite.2 ⟨fun hj => Ok.gd.2 ⟨(by omega), Ok.gd.2 ⟨(by omega), ?_⟩⟩, fun hj => Ok.some.2 (exit2 _ ?_)⟩
   ·
    have hjL : j < Z1i n.Arcs v := by omega
    obtain ⟨b, t, hb, hnb, hpb, -⟩ := Zg5 hjL
    have haj : A.getD j 0 = (b : Int) := by rw [← hpb]; exact (h5.at' b t hb hnb (by omega)).2.2.1
    simp only [hak, haj]
    have hlen : (R ++ (if pos n.Arcs a (!s) < j then [((pos n.Arcs a (!s) : Nat) : Int)] else [])).length ≤ 67108865 := by rw [List.length_append]; split <;> simp <;> omega
    have key : ((a : Int) = (b : Int) ∧ (k : Int) ≠ (j : Int)) ↔ pos n.Arcs a (!s) = j := by
     constructor
     ·
      rintro ⟨e1, e2⟩
      obtain rfl : a = b := by omega
      rw [← hpb]
      cases s <;> cases t <;> first | rfl | (exfalso; rw [hpa] at hpb; omega)
     ·
      intro e
      obtain ⟨e1, e2⟩ := Z7w he ha hb hna hnb (e.trans hpb.symm)
      exact ⟨by omega, by omega⟩
    have j8 : ∀ q : Bool, (q = true ↔ pos n.Arcs a (!s) = j) → Ok (Z43 (R ++ (if pos n.Arcs a (!s) < j then [((pos n.Arcs a (!s) : Nat) : Int)] else [])) j q) P2 := fun q hq => by
     unfold Z43
     refine Ok.ite.2 ⟨fun h => Ok.gd.2 ⟨by rw [List.length_append, List.length_singleton]; constructor <;> omega, Ok.gd.2 ⟨(by omega), Ok.some.2 (next2 _ ⟨j + 1, by simp, by omega, ?_⟩ (by simp only; omega))⟩⟩, fun h => Ok.gd.2 ⟨(by omega), Ok.some.2 (next2 _ ⟨j + 1, by simp, by omega, ?_⟩ (by simp only; omega))⟩⟩
     ·
      have e := hq.1 h
      simp only
      rw [if_neg (by omega), if_pos (by omega), List.append_nil, e]
     ·
      have e : pos n.Arcs a (!s) ≠ j := fun e => h (hq.2 e)
      simp only
      by_cases e2 : pos n.Arcs a (!s) < j
      · rw [if_pos e2, if_pos (by omega)]
      · rw [if_neg e2, if_neg (by omega)]
    refine Ok.ite.2 ⟨fun e => j8 _ ?_, fun e => j8 _ ⟨fun h => (by cases h), fun h => absurd (key.2 h).1 e⟩⟩
    rw [decide_eq_true_iff, ← key]
    exact ⟨fun h => ⟨e, h⟩, fun h => h.2⟩
   ·
    obtain rfl : j = Z1i n.Arcs v := by omega
    unfold Z68
    rw [if_pos hq]
    refine Ok.gd.2 ⟨(by omega), Ok.some.2 (next' _ ⟨k + 1, by simp, by omega, by simp [g3], fun i s' hi hni hlt => ?_⟩ (by simp only; omega))⟩
    simp only
    by_cases e : pos n.Arcs i s' < k
    · rw [Z9e (by omega)]; exact g4 i s' hi hni e
    ·
     have e2 : pos n.Arcs i s' = k := by omega
     obtain ⟨rfl, rfl⟩ := Z7w he hi ha hni hna (e2.trans hpa.symm)
     rw [e2, Z80 g3.symm]
  ·
   obtain rfl : k = Z1i n.Arcs v := by omega
   unfold Z5z
   refine Ok.some.2 ⟨⟨hm, rfl, rfl, ⟨by simp [h3], lh, g3, h5.lc, la, h5.lb, fun u hu => ?_, fun i hi hni s => ?_⟩⟩, rfl⟩
   ·
    simp only
    by_cases e : u < v
    · rw [Z9e (by omega)]; exact h4 u e
    ·
     obtain rfl : u = v := by omega
     rw [Z80 h3.symm, lh]
   ·
    have hlt := Zcx (s := s) hi hni he
    obtain ⟨z1, z2, z3, z4⟩ := h5.at' i s hi hni hlt
    exact ⟨z1, g4 i s hi hni hlt, z2, z3, z4⟩
end Go.Acq
namespace Go.Acq
open Go
set_option linter.unusedSimpArgs false
set_option linter.unusedVariables false
section row
variable {n : Net} {m L : Nat} {c : Csr}
theorem Zih {j : Nat} (r : Row n m L c) (hj : j < L) : Z3a c (j : Nat) = some ((tl c j : Nat) : Int) := by
 have b := r.bd
 have hN := r.is.hN
 have lf := r.lens.1
 have ht := (r.tlh hj).1
 refine Zbu ?_
 unfold Z3a
 refine Ok.bind.2 (Z9z (fun v => ∃ k : Nat, v = k ∧ k ≤ tl c j) (fun v => (m - v).toNat) ⟨0, rfl, by omega⟩ (by unfold Z6b; omega) ?_)
 rintro v ⟨k, rfl, hk⟩ P next exit
 have f1 := (r.first.1 k (by omega)).1
 have f2 := (r.first.1 (k + 1) (by omega)).1
 have e1 : ((k : Int) + 1).toNat = k + 1 := by omega
 have hr := r.range (u := k) hj (by omega)
 unfold Z52
 rw [hN]
 simp only [Int.toNat_natCast, e1, f1, f2]
 refine Ok.ite.2 ⟨fun hx => Ok.gd.2 ⟨(by omega), ?_⟩, fun hx => by omega⟩
 have j2 : ∀ b : Bool, (b = true ↔ tl c j = k) → Ok (Z42 k b) P := fun b hb => by
  unfold Z42
  refine Ok.ite.2 ⟨fun h => Ok.some.2 (exit _ (Ok.some.2 (by rw [hb.1 h]))), fun h => Ok.gd.2 ⟨(by omega), Ok.some.2 (next _ ⟨k + 1, by simp, ?_⟩ (by omega))⟩⟩
  have : tl c j ≠ k := fun e => h (hb.2 e)
  omega
 refine Ok.ite.2 ⟨fun h => Ok.gd.2 ⟨(by omega), Ok.gd.2 ⟨(by omega), j2 _ ?_⟩⟩, fun h => j2 _ ⟨fun h2 => (by cases h2), fun h2 => absurd (hr.2 h2).1 (by omega)⟩⟩
 rw [decide_eq_true_iff, ← hr]
 omega
theorem Znd {p : Pre} (r : Row n m L c) (lx : p.Ex.length = m) : Z5e c p = some (Zdp (fun u => decide (Zby n p.Ex u)) m) := by
 have b := r.bd
 have hN := r.is.hN
 obtain ⟨⟨S, hS, hcS, hSm⟩, ⟨T, hT, hcT, hTm⟩, -, -⟩ := r.ends
 refine Zbu ?_
 unfold Z5e
 refine Ok.bind.2 (Z9z (fun s => ∃ k : Nat, s = (Zdp (fun u => decide (Zby n p.Ex u)) k, (k : Int)) ∧ k ≤ m) (fun s => (m - s.2).toNat) ⟨0, rfl, by omega⟩ (by unfold Z6b; simp only; omega) ?_)
 rintro s ⟨k, rfl, hk⟩ P next exit
 unfold Z4e
 rw [hN, hcS, hcT]
 simp only [Int.toNat_natCast]
 refine Ok.ite.2 ⟨fun hx => ?_, fun hx => Ok.some.2 (exit _ (by unfold Z5m; exact Ok.some.2 (by rw [show k = m by omega])))⟩
 have hsl := Zas (fun u => decide (Zby n p.Ex u)) k
 have j2 : ∀ b : Bool, (b = true ↔ Zby n p.Ex k) → Ok (Z2n (Zdp (fun u => decide (Zby n p.Ex u)) k) k b) P := fun b hb => by
  unfold Z2n
  refine Ok.ite.2 ⟨fun h => Ok.gd.2 ⟨by rw [List.length_append, List.length_singleton]; constructor <;> omega, Ok.gd.2 ⟨(by omega), Ok.some.2 (next _ ⟨k + 1, ?_, by omega⟩ (by simp only; omega))⟩⟩, fun h => Ok.gd.2 ⟨(by omega), Ok.some.2 (next _ ⟨k + 1, ?_, by omega⟩ (by simp only; omega))⟩⟩
  · simp only [Zdp]; rw [if_pos (decide_eq_true (hb.1 h))]; simp
  · simp only [Zdp]; rw [if_neg (by simp only [decide_eq_true_eq]; exact fun e => h (hb.2 e))]; simp
 refine Ok.ite.2 ⟨fun h1 => Ok.ite.2 ⟨fun h2 => Ok.gd.2 ⟨(by omega), j2 _ ?_⟩, fun h2 => j2 _ ⟨fun h => (by cases h), fun h => absurd h.2.1 (by omega)⟩⟩, fun h1 => j2 _ ⟨fun h => (by cases h), fun h => absurd h.1 (by omega)⟩⟩
 rw [decide_eq_true_iff]
 exact ⟨fun h => ⟨by omega, by omega, h⟩, fun h => h.2.2⟩
theorem Zge {p : Pre} {j : Nat} (r : Row n m L c) (lr : p.Res.length = L) (lx : p.Ex.length = m) (hb : HtB m p.H) (hj : j < L) : Z39 c p (j : Nat) = some (decide (Zby n p.Ex (tl c j) ∧ Zdo c p (tl c j) j)) := by
 obtain ⟨⟨S, hS, hcS, hSm⟩, ⟨T, hT, hcT, hTm⟩, -, -⟩ := r.ends
 have ht := r.tlh hj
 have g1 := r.head hj
 have lh := hb.1
 have llh := r.lens.2.1
 have hbh := hb.2 _ g1.2
 refine Zbu ?_
 unfold Z39
 rw [Zih r hj, hcS, hcT]
 refine Ok.bind.2 (Ok.some.2 ?_)
 have j3 : ∀ b : Bool, (b = true ↔ Zby n p.Ex (tl c j) ∧ 0 < p.Res.getD j 0) → Ok (Z35 c p j (tl c j : Nat) b) (fun t => t = decide (Zby n p.Ex (tl c j) ∧ Zdo c p (tl c j) j)) := fun b hb2 => by
  unfold Z35
  simp only [Int.toNat_natCast, g1.1]
  refine Ok.ite.2 ⟨fun h => Ok.gd.2 ⟨(by omega), Ok.gd.2 ⟨(by omega), Ok.gd.2 ⟨(by omega), Ok.gd.2 ⟨(by omega), Ok.some.2 (decide_eq_decide.2 ?_)⟩⟩⟩⟩, fun h => Ok.some.2 (decide_eq_false fun e => h (hb2.2 ⟨e.1, e.2.1⟩)).symm⟩
  have := hb2.1 h
  exact ⟨fun e => ⟨this.1, this.2, e⟩, fun e => e.2.2⟩
 have j2 : ∀ b : Bool, (b = true ↔ Zby n p.Ex (tl c j)) → Ok (Z36 c p j (tl c j : Nat) b) (fun t => t = decide (Zby n p.Ex (tl c j) ∧ Zdo c p (tl c j) j)) := fun b hb2 => by
  unfold Z36
  simp only [Int.toNat_natCast]
  refine Ok.ite.2 ⟨fun h => Ok.gd.2 ⟨(by omega), j3 _ ?_⟩, fun h => j3 _ ⟨fun h2 => (by cases h2), fun h2 => absurd (hb2.2 h2.1) h⟩⟩
  rw [decide_eq_true_iff]
  exact ⟨fun e => ⟨hb2.1 h, e⟩, fun e => e.2⟩
 unfold Z4b
 simp only [Int.toNat_natCast]
 refine Ok.ite.2 ⟨fun h1 => Ok.ite.2 ⟨fun h2 => Ok.gd.2 ⟨(by omega), j2 _ ?_⟩, fun h2 => j2 _ ⟨fun h => (by cases h), fun h => absurd (decide_eq_true (show ((tl c j : Nat) : Int) ≠ T by have := h.2.1; omega)) h2⟩⟩, fun h1 => Ok.ite.2 ⟨fun h2 => (by cases h2), fun h2 => j2 _ ⟨fun h => (by cases h), fun h => absurd h.1 (by omega)⟩⟩⟩
 have := of_decide_eq_true h2
 rw [decide_eq_true_iff]
 exact ⟨fun h => ⟨by omega, by omega, h⟩, fun h => h.2.2⟩
end row
end Go.Acq
namespace Go.Acq
open Go
set_option linter.unusedSimpArgs false
set_option linter.unusedVariables false
section row
variable {n : Net} {m L : Nat} {c : Csr}
theorem Znc {p : Pre} (h1 : p.Res.length ≤ 1000000000) (h2 : p.Ex.length ≤ 1000000000) (h3 : p.H.length ≤ 1000000000) : Z58 p = some p := by
 unfold Z58
 rw [Z6p (by constructor <;> omega), Z6p (by constructor <;> omega), Z6p (by constructor <;> omega)]
theorem Zkb {p : Pre} {u : Nat} (r : Row n m L c) (lr : p.Res.length = L) (lx : p.Ex.length = m) (hb : HtB m p.H) (hu : u < m) :
    Z2h c p (u : Nat) = some (if Zag n c p u then (Zhe c p m u, 0) else (⟨[], [], []⟩, 30)) := by
  have b := r.bd
  have hN := r.is.hN
  have lf := r.lens.1
  have llh := r.lens.2.1
  have lh := hb.1
  have f1 := (r.first.1 u (by omega)).1
  have f2 := (r.first.1 (u + 1) (by omega)).1
  have f3 := r.first.2.2.2 u hu
  have e1 : ((u : Int) + 1).toNat = u + 1 := by omega
  obtain ⟨⟨S, hS, hcS, hSm⟩, ⟨T, hT, hcT, hTm⟩, -, -⟩ := r.ends
  refine Zbu ?_
  unfold Z2h
  rw [if_neg (by omega), hN]
  unfold Z41
  rw [if_neg (by simp only [decide_eq_true_eq]; omega), hcS, hcT]
  have j2 : ∀ q : Bool, (q = true ↔ ¬Zby n p.Ex u) → Ok (Z30 c p (u : Nat) q) (fun t => t = if Zag n c p u then (Zhe c p m u, 0) else (⟨[], [], []⟩, 30)) := fun q hq => by
    unfold Z30
    refine Ok.ite.2 ⟨fun h => Ok.some.2 (by rw [if_neg fun hS => hq.1 h hS.1]), fun h => ?_⟩
    have hA : Zby n p.Ex u := Classical.byContradiction fun e => h (hq.2 e)
    rw [hN]
    simp only [Int.toNat_natCast, f1]
    refine Ok.gd.2 ⟨(by omega), Ok.gd.2 ⟨(by omega), Ok.bind.2 ?_⟩⟩
    refine Z9z (fun s => ∃ k : Nat, s = (Zio c p m (fs c u) (k - fs c u), (k : Int)) ∧ fs c u ≤ k ∧ k ≤ fs c (u + 1) ∧ ∀ j, fs c u ≤ j → j < k → ¬Zdo c p u j) (fun s => (fs c (u + 1) - s.2).toNat) ⟨fs c u, by rw [Nat.sub_self]; rfl, Nat.le_refl _, f3.1, fun j h1 h2 => by omega⟩ (by unfold Z6b; simp only; omega) ?_
    rintro s ⟨k, rfl, hk0, hk, hno⟩ P next exit
    have hlow := Zkf (c := c) (m := m) p (fs c u) (k - fs c u)
    unfold Z50
    simp only [Int.toNat_natCast, e1, f2]
    refine Ok.gd.2 ⟨(by omega), Ok.gd.2 ⟨(by omega), Ok.ite.2 ⟨fun hx => ?_, fun hx => Ok.some.2 (exit _ ?_)⟩⟩⟩
    · have hkL : k < L := by omega
      have htl := (r.range hkL hu).1 ⟨hk0, by omega⟩
      have g1 := r.head hkL
      have hbh := hb.2 _ g1.2
      have ek : k + 1 - fs c u = (k - fs c u) + 1 := by omega
      have ek2 : fs c u + (k - fs c u) = k := by omega
      rw [Zge r lr lx hb hkL, htl]
      refine Ok.bind.2 (Ok.some.2 ?_)
      by_cases hAd : Zdo c p u k
      · rw [if_pos (decide_eq_true ⟨hA, hAd⟩)]
        refine Ok.some.2 (exit _ (Ok.some.2 ?_))
        rw [if_neg fun hS => hS.2 k hk0 (by omega) hAd]
      · rw [if_neg (by simp only [decide_eq_true_eq]; exact fun h => hAd h.2)]
        have hno2 : ∀ j, fs c u ≤ j → j < k + 1 → ¬Zdo c p u j := fun j h1 h2 => by
          by_cases e : j = k
          · subst e; exact hAd
          · exact hno j h1 (by omega)
        unfold Z51
        simp only [Int.toNat_natCast, g1.1]
        refine Ok.gd.2 ⟨(by omega), Ok.ite.2 ⟨fun h0 => Ok.gd.2 ⟨(by omega), Ok.gd.2 ⟨(by omega), Ok.ite.2 ⟨fun h5 => Ok.gd.2 ⟨(by omega), Ok.gd.2 ⟨(by omega), Ok.gd.2 ⟨(by omega), Ok.some.2 (next _ ⟨k + 1, ?_, by omega, by omega, hno2⟩ (by simp only; omega))⟩⟩⟩, fun h5 => Ok.gd.2 ⟨(by omega), Ok.some.2 (next _ ⟨k + 1, ?_, by omega, by omega, hno2⟩ (by simp only; omega))⟩⟩⟩⟩, fun h0 => Ok.ite.2 ⟨fun h5 => (by cases h5), fun h5 => Ok.gd.2 ⟨(by omega), Ok.some.2 (next _ ⟨k + 1, ?_, by omega, by omega, hno2⟩ (by simp only; omega))⟩⟩⟩⟩
        · have h5 := of_decide_eq_true h5
          rw [ek]; simp only [Zio, ek2]; rw [if_pos h0, Int.min_eq_right (by omega)]; simp
        · have h5 : ¬ p.H.getD (hd c k) 0 < Zio c p m (fs c u) (k - fs c u) := fun e => h5 (decide_eq_true e)
          rw [ek]; simp only [Zio, ek2]; rw [if_pos h0, Int.min_eq_left (by omega)]; simp
        · rw [ek]; simp only [Zio, ek2]; rw [if_neg h0]; simp
    · obtain rfl : k = fs c (u + 1) := by omega
      have hge : -1000000 ≤ Zk5 c p m u := by
        rcases (Zgn p r hu).2 with h | ⟨j, h1, -, -, h4⟩
        · omega
        · have := hb.2 _ (r.head h1).2; omega
      have hlv : Zio c p m (fs c u) (fs c (u + 1) - fs c u) = Zk5 c p m u := rfl
      have hle := (Zgn p r hu).1
      simp only
      unfold Z67
      rw [hlv, if_pos (show Zag n c p u from ⟨hA, fun j h1 h2 => hno j h1 h2⟩)]
      simp only [Int.toNat_natCast]
      refine Ok.bind.2 (Z6y (Znc (by omega) (by omega) (by omega)) ?_)
      exact Ok.gd.2 ⟨(by omega), Ok.gd.2 ⟨(by omega), Ok.some.2 rfl⟩⟩
  simp only [Int.toNat_natCast]
  refine Ok.ite.2 ⟨fun h1 => j2 _ ⟨fun _ hA => hA.1 (by omega), fun _ => rfl⟩, fun h1 => Ok.ite.2 ⟨fun h2 => j2 _ ⟨fun _ hA => hA.2.1 (by omega), fun _ => rfl⟩, fun h2 => Ok.gd.2 ⟨(by omega), j2 _ ?_⟩⟩⟩
  rw [decide_eq_true_iff]
  exact ⟨fun h hA => by have := hA.2.2; omega, fun h => Int.not_lt.1 fun h3 => h ⟨by omega, by omega, h3⟩⟩
theorem s_rLiftN {p : Pre} {a : Int} (r : Row n m L c) (h : ¬(0 ≤ a ∧ a < m)) : Z2h c p a = some (⟨[], [], []⟩, 2) := by
 have hN := r.is.hN
 unfold Z2h Z41
 by_cases h1 : a < 0
 · rw [if_pos h1, if_pos rfl]
 · rw [if_neg h1, if_pos (decide_eq_true (by omega))]
theorem s_rMay {p : Pre} (r : Row n m L c) (lr : p.Res.length = L) (lx : p.Ex.length = m) (hb : HtB m p.H) : Z6m c p = some (Zc1 n L c p, Zaj n m c p) := by
 have b := r.bd
 have hN := r.is.hN
 have llh := r.lens.2.1
 refine Zbu ?_
 unfold Z6m Zc1 Zaj
 refine Ok.bind.2 (Z9z (fun s => ∃ k : Nat, s = (Zdp (fun j => decide (Zby n p.Ex (tl c j) ∧ Zdo c p (tl c j) j)) k, (k : Int)) ∧ k ≤ L) (fun s => (L - s.2).toNat) ⟨0, rfl, by omega⟩ (by unfold Z6b; simp only; omega) ?_)
 rintro s ⟨k, rfl, hk⟩ P next exit
 unfold Z5d
 refine Ok.ite.2 ⟨fun hx => ?_, fun hx => Ok.some.2 (exit _ ?_)⟩
 ·
  have hkL : k < L := by omega
  have hsl := Zas (fun j => decide (Zby n p.Ex (tl c j) ∧ Zdo c p (tl c j) j)) k
  rw [Zge r lr lx hb hkL]
  refine Ok.bind.2 (Ok.some.2 (Ok.ite.2 ⟨fun h => Ok.gd.2 ⟨by simp only [List.length_append, List.length_singleton]; constructor <;> omega, Ok.gd.2 ⟨(by omega), Ok.some.2 (next _ ⟨k + 1, ?_, by omega⟩ (by simp only; omega))⟩⟩, fun h => Ok.gd.2 ⟨(by omega), Ok.some.2 (next _ ⟨k + 1, ?_, by omega⟩ (by simp only; omega))⟩⟩))
  · simp only [Zdp]; rw [if_pos h]; simp
  · simp only [Zdp]; rw [if_neg h]; simp
 obtain rfl : k = L := by omega
 simp only
 unfold Z6l
 refine Ok.bind.2 (Z9z (fun s => ∃ u : Nat, s = (Zdp (fun u => decide (Zag n c p u)) u, (u : Int)) ∧ u ≤ m) (fun s => (m - s.2).toNat) ⟨0, rfl, by omega⟩ (by unfold Z6b; simp only; omega) ?_)
 rintro s ⟨u, rfl, hu⟩ P next exit
 unfold Z5c
 rw [hN]
 refine Ok.ite.2 ⟨fun hx => ?_, fun hx => Ok.some.2 (exit _ ?_)⟩
 ·
  have hsl := Zas (fun u => decide (Zag n c p u)) u
  rw [Zkb r lr lx hb (show u < m by omega)]
  by_cases hS : Zag n c p u
  ·
   rw [if_pos hS]
   refine Ok.bind.2 (Ok.some.2 ?_)
   simp only
   rw [if_pos trivial]
   refine Ok.gd.2 ⟨by simp only [List.length_append, List.length_singleton]; constructor <;> omega, Ok.gd.2 ⟨(by omega), Ok.some.2 (next _ ⟨u + 1, ?_, by omega⟩ (by simp only; omega))⟩⟩
   simp only [Zdp]; rw [if_pos (decide_eq_true hS)]; simp
  ·
   rw [if_neg hS]
   refine Ok.bind.2 (Ok.some.2 ?_)
   simp only
   rw [if_neg (by decide)]
   refine Ok.gd.2 ⟨(by omega), Ok.some.2 (next _ ⟨u + 1, ?_, by omega⟩ (by simp only; omega))⟩
   simp only [Zdp]; rw [if_neg (by simp [hS])]; simp
 ·
  obtain rfl : u = m := by omega
  unfold Z6k
  exact Ok.some.2 rfl
end row
end Go.Acq
namespace Go.Acq
open Go
set_option linter.unusedSimpArgs false
set_option linter.unusedVariables false
section row
variable {n : Net} {m L : Nat} {c : Csr}
theorem Znb {p : Pre} {j : Nat} (r : Row n m L c) (h : ResOK n m L c p.Res p.Ex) (hb : HtB m p.H) (hj : j < L) :
    Z2x c p (j : Nat) = some (if Zby n p.Ex (tl c j) ∧ Zdo c p (tl c j) j then (Zhb c p j, Zgj c p j, 0) else (⟨[], [], []⟩, 0, 30)) := by
  have b := r.bd
  have lr := h.lr
  have lx := h.lx
  have lh := hb.1
  obtain ⟨-, llh, llr, -, -, -⟩ := r.lens
  have g1 := r.head hj
  have g2 := r.rev hj
  have g3 := r.tlh hj
  refine Zbu ?_
  unfold Z2x
  rw [if_neg (by omega)]
  unfold Z40
  rw [if_neg (by simp only [decide_eq_true_eq]; omega), Zge r lr lx hb hj]
  refine Ok.bind.2 (Ok.some.2 ?_)
  by_cases hA : Zby n p.Ex (tl c j) ∧ Zdo c p (tl c j) j
  rotate_left
  · rw [if_pos (by simp [hA]), if_neg hA]; exact Ok.some.2 rfl
  rw [if_neg (by simp [hA]), if_pos hA, Zih r hj]
  have h1 := hA.1.2.2
  have h2 := hA.2.1
  have j2 : ∀ d, d = Zgj c p j → Ok (Z3z c p (j : Nat) (tl c j : Nat) d) (fun t => t = (Zhb c p j, Zgj c p j, 0)) := fun d hde => by
    have hD : Zgj c p j = min (p.Ex.getD (tl c j) 0) (p.Res.getD j 0) := rfl
    have d0 : 0 ≤ d := by omega
    have d1 : d ≤ p.Res.getD j 0 := by omega
    have hm := h.move r hj d0 d1
    have b1 := h.bnd r g3.1
    have b2 := hm.bnd r g1.2
    have b3 := h.rle r hj
    have b4 := hm.rle r g2.2.1
    have b5 := h.rle r g2.2.1
    rw [Zd9 r lx hj, if_neg g3.2.2.2, if_pos rfl] at b2
    rw [Zbc r lr hj, if_pos rfl] at b4
    have e1 : (p.Res.set j (p.Res.getD j 0 - d)).getD (rv c j) 0 = p.Res.getD (rv c j) 0 := Z8i fun e => g2.2.2.2 e.symm
    have e2 : (p.Ex.set (tl c j) (p.Ex.getD (tl c j) 0 - d)).getD (hd c j) 0 = p.Ex.getD (hd c j) 0 := Z8i g3.2.2.2
    unfold Z3z
    refine Ok.bind.2 (Z6y (Znc (by omega) (by omega) (by omega)) ?_)
    simp only [Int.toNat_natCast, g1.1, g2.1, e1, e2, List.length_set, lr, lx, llh, llr]
    have i1 : inb (j : Int) L := by constructor <;> omega
    have i2 : inb ((rv c j : Nat) : Int) L := by constructor <;> omega
    have i3 : inb ((tl c j : Nat) : Int) m := by constructor <;> omega
    have i4 : inb ((hd c j : Nat) : Int) m := by constructor <;> omega
    have o1 : i64ok (p.Res.getD j 0 - d) := by constructor <;> omega
    have o2 : i64ok (p.Res.getD (rv c j) 0 + d) := by constructor <;> omega
    have o3 : i64ok (p.Ex.getD (tl c j) 0 - d) := by constructor <;> omega
    have o4 : i64ok (p.Ex.getD (hd c j) 0 + d) := by constructor <;> omega
    refine Ok.gd.2 ⟨i1, Ok.gd.2 ⟨o1, Ok.gd.2 ⟨i1, Ok.gd.2 ⟨i1, Ok.gd.2 ⟨i1, Ok.gd.2 ⟨i2, Ok.gd.2 ⟨o2, Ok.gd.2 ⟨i2, Ok.gd.2 ⟨i3, Ok.gd.2 ⟨o3, Ok.gd.2 ⟨i3, Ok.gd.2 ⟨i1, Ok.gd.2 ⟨i1, Ok.gd.2 ⟨i4, Ok.gd.2 ⟨o4, Ok.gd.2 ⟨i4, Ok.some.2 ?_⟩⟩⟩⟩⟩⟩⟩⟩⟩⟩⟩⟩⟩⟩⟩⟩
    rw [← hde]
    unfold Zhb mvR mvX
    rw [← hde]
  refine Ok.bind.2 (Ok.some.2 ?_)
  simp only [Int.toNat_natCast]
  have hD : Zgj c p j = min (p.Ex.getD (tl c j) 0) (p.Res.getD j 0) := rfl
  exact Ok.gd.2 ⟨(by omega), Ok.gd.2 ⟨(by omega), Ok.ite.2 ⟨fun hlt => Ok.gd.2 ⟨(by omega), j2 _ (by omega)⟩, fun hlt => j2 _ (by omega)⟩⟩⟩
theorem s_rPushN {p : Pre} {a : Int} (r : Row n m L c) (h : ¬(0 ≤ a ∧ a < L)) : Z2x c p a = some (⟨[], [], []⟩, 0, 2) := by
 have := r.lens.2.1
 unfold Z2x Z40
 by_cases h1 : a < 0
 · rw [if_pos h1, if_pos rfl]
 · rw [if_neg h1, if_pos (decide_eq_true (by omega))]
def Zcs (c : Csr) (S m : Nat) : Nat → List Int × List Int
  | 0 => (c.Cap, List.replicate m 0)
  | k + 1 => if tl c k = S then (mvR c (Zcs c S m k).1 k ((Zcs c S m k).1.getD k 0), mvX c (Zcs c S m k).2 k ((Zcs c S m k).1.getD k 0)) else Zcs c S m k
def begQ (c : Csr) (S m L : Nat) : Pre := ⟨(Zcs c S m L).1, (Zcs c S m L).2, (List.replicate m (0 : Int)).set S m⟩
theorem Zkl {S : Nat} (r : Row n m L c) : ∀ k, k ≤ L → ResOK n m L c (Zcs c S m k).1 (Zcs c S m k).2
 | 0, _ => by
  refine ⟨r.lens.2.2.2.1, List.length_replicate, fun j hj => ?_, fun v hv => ?_⟩
  · have := r.cap hj; exact ⟨this.1, this.2.1⟩
  ·
   simp only [Zcs]
   rw [Z4h, Zki fun i hi => ?_]
   rw [Za2 hi]
   by_cases e : (n.Arcs.getD i default).fr = (n.Arcs.getD i default).to
   · rw [if_pos e]
   · rw [if_neg e, (r.is.ok.hat i hi e true).2.2.1]; rfl
 | k + 1, hk => by
  have ih := Zkl (S := S) r k (by omega)
  simp only [Zcs]
  split
  ·
   have hle := ih.rle r (show k < L by omega)
   exact ih.move r (by omega) hle.1 (Int.le_refl _)
  · exact ih
theorem Zit {S a : Nat} : ∀ d, (∀ j, a ≤ j → j < a + d → tl c j ≠ S) → Zcs c S m (a + d) = Zcs c S m a
 | 0, _ => rfl
 | d + 1, h => by
  show Zcs c S m (a + d + 1) = _
  simp only [Zcs]
  rw [if_neg (h (a + d) (by omega) (by omega))]
  exact Zit d fun j h1 h2 => h j h1 (by omega)
theorem Zl8 {S : Nat} (r : Row n m L c) (hS : n.S = S) : Z7y c = some (begQ c S m L) := by
 have b := r.bd
 obtain ⟨⟨S', hS', hcS, hSm⟩, ⟨T, hT, hcT, hTm⟩, hne, hN⟩ := r.ends
 obtain rfl : S' = S := by omega
 obtain ⟨-, -, -, lc, -, -⟩ := r.lens
 have hfl := r.first.2.2.2 S' hSm
 refine Zbu ?_
 unfold Z7y
 refine Ok.bind.2 (Z6y (Ze7 (by omega)) ?_)
 rw [hN, hcS]
 simp only [Int.toNat_natCast]
 unfold Z57
 have h0 : Zcs c S' m (fs c S') = (c.Cap, List.replicate m 0) := by
  have := Zit (c := c) (m := m) (S := S') (a := 0) (fs c S') fun j _ h2 e => by
   have := (r.range (show j < L by omega) hSm).2 e; omega
  rw [Nat.zero_add] at this; exact this
 refine Ok.gd.2 ⟨(by omega), Ok.gd.2 ⟨(by omega), Ok.gd.2 ⟨by rw [List.length_replicate]; constructor <;> omega, Ok.bind.2 (Ok.some.2 (Ok.bind.2 (Ok.mono (Zhi r hSm
  (fun k s => s = Zcs c S' m k) (fun _ => False) h0.symm fun j s h1 h2 h3 => ?_) ?_)))⟩⟩⟩
 ·
  subst h3
  have hjL : j < L := by omega
  have ht := (r.range hjL hSm).1 ⟨h1, h2⟩
  have g1 := Zkl (S := S') r j (by omega)
  have hle := g1.rle r hjL
  have hxl := g1.lr
  unfold Z6w
  rw [hN, hcS]
  simp only [Int.toNat_natCast]
  refine Ok.gd.2 ⟨(by omega), Ok.bind.2 (Z6y (Zne (p := ⟨(Zcs c S' m j).1, (Zcs c S' m j).2, _⟩) r g1 hjL hle.1 (Int.le_refl _)) (Ok.some.2 ?_))⟩
  simp only [Zcs]
  rw [if_pos ht]
 ·
  rintro (s | x) h
  ·
   simp only at h
   subst h
   have := Zit (c := c) (m := m) (S := S') (a := fs c (S' + 1)) (L - fs c (S' + 1)) fun j h1 h2 e => by
    have := (r.range (show j < L by omega) hSm).2 e; omega
   rw [show fs c (S' + 1) + (L - fs c (S' + 1)) = L by omega] at this
   refine Ok.some.2 ?_
   unfold begQ
   rw [this]
  · exact h.elim
theorem s_rBegin {S : Nat} (r : Row n m L c) (hS : n.S = S) : Z5t c = some (begQ c S m L) := by
 have b := r.bd
 obtain ⟨⟨S', hS', hcS, hSm⟩, ⟨T, hT, hcT, hTm⟩, hne, hN⟩ := r.ends
 obtain rfl : S' = S := by omega
 obtain ⟨-, llh, llr, lc, -, -⟩ := r.lens
 refine Zbu ?_
 unfold Z5t
 rw [hN, hcS]
 simp only [Int.toNat_natCast]
 refine Ok.gd.2 ⟨(by omega), Ok.gd.2 ⟨(by omega), Ok.gd.2 ⟨(by omega), Ok.gd.2 ⟨by rw [List.length_replicate]; constructor <;> omega, Ok.bind.2 ?_⟩⟩⟩⟩
 refine Z9z (fun s => ∃ k : Nat, s = ((Zcs c S' m k).1, (Zcs c S' m k).2, (k : Int)) ∧ k ≤ L) (fun s => (L - s.2.2).toNat) ⟨0, rfl, by omega⟩ (by unfold Z6b; simp only; omega) ?_
 rintro s ⟨k, rfl, hk⟩ P next exit
 have g1 := Zkl (S := S') r k hk
 have lr := g1.lr
 have lx := g1.lx
 unfold Z4n
 rw [hcS]
 refine Ok.ite.2 ⟨fun hx => ?_, fun hx => Ok.some.2 (exit _ ?_)⟩ <;> simp only at hx
 ·
  have hkL : k < L := by omega
  have q1 := r.head hkL
  have q2 := r.rev hkL
  have q3 := r.tlh hkL
  simp only
  rw [Zih r hkL]
  refine Ok.bind.2 (Ok.some.2 (Ok.ite.2 ⟨fun hne => Ok.gd.2 ⟨(by omega), Ok.some.2 (next _ ⟨k + 1, ?_, by omega⟩ (by simp only; omega))⟩, fun he => ?_⟩))
  · simp only [Zcs]; rw [if_neg (by omega)]; simp
  ·
   have ht : tl c k = S' := by omega
   have hle := g1.rle r hkL
   have hm := g1.move r hkL hle.1 (Int.le_refl _)
   have b1 := g1.bnd r q3.1
   have b2 := hm.bnd r q1.2
   have b4 := hm.rle r q2.2.1
   rw [Zd9 r lx hkL, if_neg q3.2.2.2, if_pos rfl] at b2
   rw [Zbc r lr hkL, if_pos rfl] at b4
   rw [ht] at b1
   have e1 : ((Zcs c S' m k).1.set k 0).getD (rv c k) 0 = (Zcs c S' m k).1.getD (rv c k) 0 := Z8i fun e => q2.2.2.2 e.symm
   have e2 : ((Zcs c S' m k).2.set S' ((Zcs c S' m k).2.getD S' 0 - (Zcs c S' m k).1.getD k 0)).getD (hd c k) 0 = (Zcs c S' m k).2.getD (hd c k) 0 := Z8i (by rw [← ht]; exact q3.2.2.2)
   simp only [Int.toNat_natCast, q1.1, q2.1, e1, e2, List.length_set, lr, lx, llh, llr]
   have i1 : inb (k : Int) L := by constructor <;> omega
   have i2 : inb ((rv c k : Nat) : Int) L := by constructor <;> omega
   have i3 : inb (S' : Int) m := by constructor <;> omega
   have i4 : inb ((hd c k : Nat) : Int) m := by constructor <;> omega
   have o2 : i64ok ((Zcs c S' m k).1.getD (rv c k) 0 + (Zcs c S' m k).1.getD k 0) := by constructor <;> omega
   have o3 : i64ok ((Zcs c S' m k).2.getD S' 0 - (Zcs c S' m k).1.getD k 0) := by constructor <;> omega
   have o4 : i64ok ((Zcs c S' m k).2.getD (hd c k) 0 + (Zcs c S' m k).1.getD k 0) := by constructor <;> omega
   refine Ok.gd.2 ⟨i1, Ok.gd.2 ⟨i1, Ok.gd.2 ⟨i1, Ok.gd.2 ⟨i1, Ok.gd.2 ⟨i2, Ok.gd.2 ⟨o2, Ok.gd.2 ⟨i2, Ok.gd.2 ⟨i3, Ok.gd.2 ⟨o3, Ok.gd.2 ⟨i3, Ok.gd.2 ⟨i1, Ok.gd.2 ⟨i1, Ok.gd.2 ⟨i4, Ok.gd.2 ⟨o4, Ok.gd.2 ⟨i4, Ok.gd.2 ⟨(by omega), Ok.some.2 (next _ ⟨k + 1, ?_, by omega⟩ (by simp only; omega))⟩⟩⟩⟩⟩⟩⟩⟩⟩⟩⟩⟩⟩⟩⟩⟩
   simp only [Zcs]
   rw [if_pos ht]
   simp only [mvR, mvX, ht, Int.sub_self]
   simp
 ·
  obtain rfl : k = L := by omega
  simp only
  unfold Z5y
  rw [hN, hcS]
  exact Ok.some.2 rfl
end row
end Go.Acq
namespace Go.Acq
open Go
set_option linter.unusedSimpArgs false
set_option linter.unusedVariables false
section row
variable {n : Net} {m L : Nat} {c : Csr}
def exB (c : Csr) (R : List Int) (v : Nat) (j : Nat) : Int := if bk c j = true then (if tl c j = v then R.getD j 0 else 0) - (if hd c j = v then R.getD j 0 else 0) else 0
theorem exB_all {R : List Int} (r : Row n m L c) (v : Nat) : Z9q (exB c R v) L = ex n.Arcs (flN n.Arcs R) v n.Arcs.length := by
 rw [← r.hL, Zlb r.he, Zkj]
 refine Z9p fun i hi => ?_
 rw [Za2 hi]
 by_cases e : (n.Arcs.getD i default).fr = (n.Arcs.getD i default).to
 · rw [if_pos e]; simp only [if_pos e, ite_self]; rfl
 ·
  simp only [if_neg e]
  obtain ⟨-, a2, a3⟩ := r.cpPos hi e false
  obtain ⟨-, b2, b3⟩ := r.cpPos hi e true
  have za := r.is.ok.hat i hi e false
  have zb := r.is.ok.hat i hi e true
  have e0 := r.he i hi false
  have e1 := r.he i hi true
  have k1 : bk c (pos n.Arcs i false) = false := za.2.2.2.2
  have k2 : bk c (pos n.Arcs i true) = true := zb.2.2.2.2
  have k3 : (hd c (pos n.Arcs i true) = v) ↔ (n.Arcs.getD i default).fr = (v : Int) := by
   unfold hd; rw [zb.1]; simp only [vtx, Bool.not_true, if_true, Bool.false_eq_true, if_false] at e0 e1 ⊢; omega
  have k4 : (tl c (pos n.Arcs i true) = v) ↔ (n.Arcs.getD i default).to = (v : Int) := by
   unfold tl hd; rw [b2]; simp only [Bool.not_true]; rw [za.1]; simp only [vtx, Bool.not_false, if_true, Bool.false_eq_true, if_false] at e0 e1 ⊢; omega
  unfold exB
  rw [k1, k2, if_neg (by simp), if_pos rfl]
  simp only [k3, k4]
  omega
theorem capBk (r : Row n m L c) : Z9q (fun j => if bk c j = true then cp c j else 0) L ≤ 4611686018427387904 := by
 have hw : FwithinP n (n.Arcs.map (·.cap)) := ⟨r.chk, by simp, fun i hi => by
  have := (r.caps i hi).1
  have e : (n.Arcs.map (·.cap)).getD i 0 = (n.Arcs.getD i default).cap := by simp [List.getD_eq_getElem?_getD, List.getElem?_map, List.getElem?_eq_getElem hi]
  rw [e]; omega⟩
 have ht := hw.tot n.Arcs.length (Nat.le_refl _)
 rw [Zic] at ht
 rw [← r.hL, Zlb r.he]
 refine Int.le_trans (Zn4 fun i hi => ?_) ht.2
 have h1 := hw.2.2 i hi
 have e : (n.Arcs.map (·.cap)).getD i 0 = (n.Arcs.getD i default).cap := by simp [List.getD_eq_getElem?_getD, List.getElem?_map, List.getElem?_eq_getElem hi]
 by_cases h : (n.Arcs.getD i default).fr = (n.Arcs.getD i default).to
 · rw [if_pos h]; omega
 ·
  rw [if_neg h]
  have k1 : bk c (pos n.Arcs i false) = false := (r.is.ok.hat i hi h false).2.2.2.2
  have k2 : bk c (pos n.Arcs i true) = true := (r.is.ok.hat i hi h true).2.2.2.2
  rw [k1, k2, if_neg (by simp), if_pos rfl, (r.cpPos hi h true).1, e]; omega
theorem exB_bd {R : List Int} (r : Row n m L c) (v : Nat) {k : Nat} (hk : k ≤ L) (h : ∀ j, j < k → 0 ≤ R.getD j 0 ∧ R.getD j 0 ≤ cp c j) : -4611686018427387904 ≤ Z9q (exB c R v) k ∧ Z9q (exB c R v) k ≤ 4611686018427387904 := by
 have h5 := Zig (k := k) (g := exB c R v) (h := fun j => if bk c j = true then cp c j else 0) fun j hj => by
  have := h j hj
  simp only [exB]
  split
  · split <;> split <;> omega
  · omega
 have h6 := Zgd (g := fun j => if bk c j = true then cp c j else 0) hk fun j hj => by
  have := (r.cap hj).2.2.2.1
  split <;> omega
 have := capBk r
 omega
theorem s_rR10 {p : Pre} (r : Row n m L c) (hok : ResOK n m L c p.Res p.Ex) (hnn : ∀ v, v < m → (v : Int) ≠ n.S → 0 ≤ p.Ex.getD v 0) (hl : p.H.length = m) (hb : ∀ v, v < m → 0 ≤ p.H.getD v 0 ∧ p.H.getD v 0 < 2 * m) : Ok (Z4d c p) (fun b => b = true ↔ PreOK n m L c p) := by
 have b := r.bd
 obtain ⟨⟨S, hS, hcS, hSm⟩, ⟨T, hT, hcT, hTm⟩, hne, hN⟩ := r.ends
 have lr := hok.lr
 obtain ⟨-, llh, llr, -, -, -⟩ := r.lens
 unfold Z4d
 refine Ok.bind.2 (Z9z (fun x => ∃ k : Nat, x = k ∧ k ≤ L ∧ ∀ j, j < k → 0 < p.Res.getD j 0 → p.H.getD (tl c j) 0 ≤ p.H.getD (hd c j) 0 + 1) (fun x => (L - x).toNat) ⟨0, rfl, by omega, fun j hj => by omega⟩ (by unfold Z6b; omega) ?_)
 rintro x ⟨k, rfl, hk, hI⟩ P next exit
 unfold Z4c
 simp only [Int.toNat_natCast]
 refine Ok.ite.2 ⟨fun hx => ?_, fun hx => Ok.some.2 (exit _ ?_)⟩
 ·
  have hkL : k < L := by omega
  have g1 := r.head hkL
  have g3 := r.tlh hkL
  have b1 := hb _ g1.2
  have b2 := hb _ g3.1
  have nx : (0 < p.Res.getD k 0 → p.H.getD (tl c k) 0 ≤ p.H.getD (hd c k) 0 + 1) → Ok (gd (i64ok ((k : Int) + 1)) <| some (.inl ((k : Int) + 1))) P := fun h => Ok.gd.2 ⟨(by omega), Ok.some.2 (next _ ⟨k + 1, by simp, by omega, fun j hj h0 => by
   rcases Nat.lt_or_ge j k with h4 | h4
   · exact hI j h4 h0
   · rw [show j = k by omega] at h0 ⊢; exact h h0⟩ (by omega))⟩
  rw [Zih r hkL]
  simp only [g1.1, Int.toNat_natCast]
  refine Ok.gd.2 ⟨(by omega), Ok.ite.2 ⟨fun h0 => Ok.bind.2 (Ok.some.2 ?_), fun h0 => nx fun h => absurd h h0⟩⟩
  simp only [Int.toNat_natCast]
  refine Ok.gd.2 ⟨(by omega), Ok.gd.2 ⟨(by omega), Ok.gd.2 ⟨(by omega), Ok.gd.2 ⟨(by omega), Ok.ite.2 ⟨fun h1 => Ok.some.2 (exit _ (Ok.some.2 ⟨fun h => (by cases h), fun h => ?_⟩)), fun h1 => nx fun _ => by omega⟩⟩⟩⟩⟩
  have := h.val k hkL h0
  omega
 ·
  obtain rfl : k = L := by omega
  unfold Z5l
  rw [hcS, hcT, hN]
  simp only [Int.toNat_natCast]
  refine Ok.gd.2 ⟨(by omega), Ok.ite.2 ⟨fun h1 => Ok.gd.2 ⟨(by omega), Ok.some.2 ⟨fun h2 => ⟨hok, hnn, ⟨hl, fun s hs => ?_, fun t ht => ?_, hb⟩, hI⟩, fun h => decide_eq_true (h.hs.2.2.1 T hT)⟩⟩, fun h1 => Ok.some.2 ⟨fun h => (by cases h), fun h => absurd (h.hs.2.1 S hS) h1⟩⟩⟩
  · rw [show s = S by omega]; exact h1
  · rw [show t = T by omega]; exact of_decide_eq_true h2
theorem s_rR5 {p : Pre} {xs : List Int} (r : Row n m L c) (hR1 : p.Res.length = L) (hR2 : ∀ j, j < L → 0 ≤ p.Res.getD j 0 ∧ p.Res.getD j 0 + p.Res.getD (rv c j) 0 = cp c j) (lx : p.Ex.length = m) (lh : p.H.length = m) (hxl : xs.length = m) (hx : ∀ v, v < m → xs.getD v 0 = ex n.Arcs (flN n.Arcs p.Res) v n.Arcs.length) : Ok (Z4m c p xs) (fun b => b = true ↔ PreOK n m L c p) := by
 have b := r.bd
 obtain ⟨⟨S, hS, hcS, hSm⟩, ⟨T, hT, hcT, hTm⟩, hne, hN⟩ := r.ends
 unfold Z4m
 refine Ok.bind.2 (Z9z (fun x => ∃ k : Nat, x = k ∧ k ≤ m ∧ ∀ v, v < k → xs.getD v 0 = p.Ex.getD v 0 ∧ ((v : Int) ≠ n.S → 0 ≤ p.Ex.getD v 0) ∧ 0 ≤ p.H.getD v 0 ∧ p.H.getD v 0 < 2 * m) (fun x => (m - x).toNat) ⟨0, rfl, by omega, fun j hj => by omega⟩ (by unfold Z6b; omega) ?_)
 rintro x ⟨k, rfl, hk, hI⟩ P next exit
 unfold Z4j
 rw [hN, hcS]
 simp only [Int.toNat_natCast]
 refine Ok.ite.2 ⟨fun hxx => ?_, fun hxx => Ok.some.2 (exit _ ?_)⟩
 ·
  have hkm : k < m := by omega
  have hxk := hx k hkm
  have bad : ¬(xs.getD k 0 = p.Ex.getD k 0 ∧ ((k : Int) ≠ n.S → 0 ≤ p.Ex.getD k 0) ∧ 0 ≤ p.H.getD k 0 ∧ p.H.getD k 0 < 2 * m) → P (.inr (.inl false)) := fun h => exit _ (Ok.some.2 ⟨fun h => (by cases h), fun h2 => absurd ⟨by rw [hxk, h2.ok.ex k hkm], h2.nn k hkm, h2.hs.2.2.2 k hkm⟩ h⟩)
  have j9 : ∀ b, (b = true → ¬(xs.getD k 0 = p.Ex.getD k 0 ∧ ((k : Int) ≠ n.S → 0 ≤ p.Ex.getD k 0) ∧ 0 ≤ p.H.getD k 0)) → (b = false → (xs.getD k 0 = p.Ex.getD k 0 ∧ ((k : Int) ≠ n.S → 0 ≤ p.Ex.getD k 0) ∧ 0 ≤ p.H.getD k 0)) → Ok (Z3e c p (k : Nat) b) P := fun b h1 h2 => by
   unfold Z3e
   rw [hN]
   simp only [Int.toNat_natCast]
   refine Ok.ite.2 ⟨fun h => Ok.some.2 (bad fun h3 => h1 h ⟨h3.1, h3.2.1, h3.2.2.1⟩), fun h => Ok.gd.2 ⟨(by omega), Ok.gd.2 ⟨(by omega), Ok.ite.2 ⟨fun h3 => Ok.some.2 (bad fun h4 => by omega), fun h3 => Ok.gd.2 ⟨(by omega), Ok.some.2 (next _ ⟨k + 1, by simp, by omega, fun v hv => ?_⟩ (by omega))⟩⟩⟩⟩⟩
   have h4 := h2 (by simpa using h)
   rcases Nat.lt_or_ge v k with h5 | h5
   · exact hI v h5
   · rw [show v = k by omega]; exact ⟨h4.1, h4.2.1, h4.2.2, by omega⟩
  have j7 : ∀ b, (b = true → ¬(xs.getD k 0 = p.Ex.getD k 0 ∧ ((k : Int) ≠ n.S → 0 ≤ p.Ex.getD k 0))) → (b = false → (xs.getD k 0 = p.Ex.getD k 0 ∧ ((k : Int) ≠ n.S → 0 ≤ p.Ex.getD k 0))) → Ok (Z3f c p (k : Nat) b) P := fun b h1 h2 => by
   unfold Z3f
   simp only [Int.toNat_natCast]
   refine Ok.ite.2 ⟨fun h => j9 _ (fun _ h3 => h1 h ⟨h3.1, h3.2.1⟩) (fun h3 => (by cases h3)), fun h => Ok.gd.2 ⟨(by omega), j9 _ (fun h3 h4 => ?_) fun h3 => ?_⟩⟩
   · have := of_decide_eq_true h3; omega
   ·
    have := of_decide_eq_false h3
    have h4 := h2 (by simpa using h)
    exact ⟨h4.1, h4.2, by omega⟩
  unfold Z4l
  refine Ok.gd.2 ⟨(by omega), Ok.gd.2 ⟨(by omega), Ok.ite.2 ⟨fun h => j7 _ (fun _ h3 => h h3.1) (fun h3 => (by cases h3)), fun h => Ok.ite.2 ⟨fun h1 => Ok.gd.2 ⟨(by omega), j7 _ (fun h3 h4 => ?_) fun h3 => ?_⟩, fun h1 => j7 _ (fun h3 => (by cases h3)) fun _ => ⟨by omega, fun h4 => by omega⟩⟩⟩⟩⟩
  ·
   have := of_decide_eq_true h3
   have := h4.2 (by omega)
   omega
  ·
   have := of_decide_eq_false h3
   exact ⟨by omega, fun _ => by omega⟩
 ·
  obtain rfl : k = m := by omega
  exact s_rR10 r ⟨hR1, lx, hR2, fun v hv => by rw [← (hI v hv).1, hx v hv]⟩ (fun v hv => (hI v hv).2.1) lh fun v hv => (hI v hv).2.2
theorem Zl5 {p : Pre} (r : Row n m L c) (hcap : ∀ j, j < L → cp c j ≤ 1125899906842624) : Ok (Z4r c p) (fun b => b = true ↔ PreOK n m L c p) := by
 have b := r.bd
 obtain ⟨⟨S, hS, hcS, hSm⟩, ⟨T, hT, hcT, hTm⟩, hne, hN⟩ := r.ends
 obtain ⟨-, llh, llr, llc, -, llb⟩ := r.lens
 unfold Z4r
 refine Ok.ite.2 ⟨fun h => Ok.some.2 ⟨fun h => (by cases h), fun h2 => absurd (by rw [h2.ok.lr, llh]) h⟩, fun h1 => Ok.ite.2 ⟨fun h => Ok.some.2 ⟨fun h => (by cases h), fun h2 => absurd (by rw [h2.ok.lx, hN]) h⟩, fun h2 => Ok.ite.2 ⟨fun h => Ok.some.2 ⟨fun h => (by cases h), fun h2 => absurd (by rw [h2.hs.1, hN]) h⟩, fun h3 => ?_⟩⟩⟩
 have lr : p.Res.length = L := by omega
 have lx : p.Ex.length = m := by omega
 have lh : p.H.length = m := by omega
 rw [hN]
 simp only [Int.toNat_natCast]
 refine Ok.gd.2 ⟨by constructor <;> omega, Ok.bind.2 ?_⟩
 refine Z9z (fun s => ∃ k : Nat, s.2 = k ∧ k ≤ L ∧ s.1.length = m ∧ (∀ v, v < m → s.1.getD v 0 = Z9q (exB c p.Res v) k) ∧ ∀ j, j < k → 0 ≤ p.Res.getD j 0 ∧ p.Res.getD j 0 + p.Res.getD (rv c j) 0 = cp c j ∧ p.Res.getD j 0 ≤ cp c j) (fun s => (L - s.2).toNat) ⟨0, rfl, by omega, by simp, fun v hv => by rw [Z4h]; rfl, fun j hj => by omega⟩ (by unfold Z6b; simp only; omega) ?_
 rintro ⟨xs, x⟩ ⟨k, h4, hk, hxl, hx, hI⟩ P next exit
 simp only at h4 hxl hx next ⊢
 subst h4
 unfold Z4k
 simp only [llh, Int.toNat_natCast]
 refine Ok.ite.2 ⟨fun hxx => ?_, fun hxx => Ok.some.2 (exit _ ?_)⟩
 ·
  have hkL : k < L := by omega
  have g1 := r.head hkL
  have g2 := r.rev hkL
  have g3 := r.tlh hkL
  have g4 := r.head g2.2.1
  have e4 : c.Head.getD (rv c k) 0 = (tl c k : Nat) := g4.1
  have gc := r.cap hkL
  have hc := hcap k hkL
  have bad : ¬(0 ≤ p.Res.getD k 0 ∧ p.Res.getD k 0 ≤ cp c k ∧ 0 ≤ p.Res.getD (rv c k) 0 ∧ p.Res.getD k 0 + p.Res.getD (rv c k) 0 = cp c k) → P (.inr (.inl false)) := fun h => exit _ (Ok.some.2 ⟨fun h => (by cases h), fun h2 => by
   have h3 := h2.ok.res k hkL
   have h4 := h2.ok.res _ g2.2.1
   exact absurd ⟨h3.1, by omega, h4.1, h3.2⟩ h⟩)
  have j4 : ∀ t : Bool, (t = true → ¬(0 ≤ p.Res.getD k 0 ∧ p.Res.getD k 0 ≤ cp c k ∧ 0 ≤ p.Res.getD (rv c k) 0 ∧ p.Res.getD (rv c k) 0 ≤ cp c k)) → (t = false → (0 ≤ p.Res.getD k 0 ∧ p.Res.getD k 0 ≤ cp c k ∧ 0 ≤ p.Res.getD (rv c k) 0 ∧ p.Res.getD (rv c k) 0 ≤ cp c k)) → Ok (Z3g c p xs (k : Nat) t) P := fun t t1 t2 => by
   unfold Z3g
   simp only [Int.toNat_natCast, g1.1, g2.1, e4, lr, llh, llb, hxl, List.length_set]
   refine Ok.ite.2 ⟨fun h => Ok.some.2 (bad fun h5 => t1 h ⟨h5.1, h5.2.1, h5.2.2.1, by omega⟩), fun h => ?_⟩
   have h5 := t2 (by simpa using h)
   have i1 : inb (k : Int) L := by constructor <;> omega
   have i2 : inb ((rv c k : Nat) : Int) L := by constructor <;> omega
   have i3 : inb ((tl c k : Nat) : Int) m := by constructor <;> omega
   have i4 : inb ((hd c k : Nat) : Int) m := by constructor <;> omega
   refine Ok.gd.2 ⟨i1, Ok.gd.2 ⟨i2, Ok.gd.2 ⟨by constructor <;> omega, Ok.ite.2 ⟨fun h6 => Ok.some.2 (bad fun h7 => by omega), fun h6 => Ok.gd.2 ⟨i1, ?_⟩⟩⟩⟩⟩
   have hI' : ∀ j, j < k + 1 → 0 ≤ p.Res.getD j 0 ∧ p.Res.getD j 0 + p.Res.getD (rv c j) 0 = cp c j ∧ p.Res.getD j 0 ≤ cp c j := fun j hj => by
    rcases Nat.lt_or_ge j k with h | h
    · exact hI j h
    · rw [show j = k by omega]; exact ⟨h5.1, by omega, h5.2.1⟩
   have hb1 := exB_bd (R := p.Res) r (hd c k) hk fun j hj => ⟨(hI j hj).1, (hI j hj).2.2⟩
   have hb2 := exB_bd (R := p.Res) r (tl c k) hk fun j hj => ⟨(hI j hj).1, (hI j hj).2.2⟩
   refine Ok.ite.2 ⟨fun hb => ?_, fun hb => ?_⟩
   ·
    have hbt : bk c k = true := hb
    rw [← hx _ g1.2] at hb1
    rw [← hx _ g3.1] at hb2
    have o1 : i64ok (xs.getD (hd c k) 0 - p.Res.getD k 0) := by constructor <;> omega
    have o2 : i64ok (xs.getD (tl c k) 0 + p.Res.getD k 0) := by constructor <;> omega
    have ex1 : (xs.set (hd c k) (xs.getD (hd c k) 0 - p.Res.getD k 0)).getD (tl c k) 0 = xs.getD (tl c k) 0 := Z8i fun e => g3.2.2.2 e.symm
    simp only [ex1]
    refine Ok.gd.2 ⟨i1, Ok.gd.2 ⟨i1, Ok.gd.2 ⟨i4, Ok.gd.2 ⟨i1, Ok.gd.2 ⟨o1, Ok.gd.2 ⟨i4, Ok.gd.2 ⟨i2, Ok.gd.2 ⟨i2, Ok.gd.2 ⟨i3, Ok.gd.2 ⟨i1, Ok.gd.2 ⟨o2, Ok.gd.2 ⟨i3, Ok.gd.2 ⟨(by omega), Ok.some.2 (next _ ⟨k + 1, by simp, by omega, by simp [hxl], fun v hv => ?_, hI'⟩ (by simp only; omega))⟩⟩⟩⟩⟩⟩⟩⟩⟩⟩⟩⟩⟩
    simp only [Z9q, exB, hbt, if_true]
    rw [← hx v hv, Zin, Zin, List.length_set, hxl]
    by_cases c1 : tl c k = v
    ·
     subst c1
     rw [if_pos ⟨rfl, hv⟩, if_pos rfl, if_neg fun e => g3.2.2.2 e.symm]; omega
    ·
     rw [if_neg fun h => c1 h.1, if_neg c1]
     by_cases c2 : hd c k = v
     ·
      subst c2
      rw [if_pos ⟨rfl, hv⟩, if_pos rfl]; omega
     · rw [if_neg fun h => c2 h.1, if_neg c2]; omega
   ·
    have hbf : bk c k = false := by unfold bk; simpa using hb
    refine Ok.gd.2 ⟨(by omega), Ok.some.2 (next _ ⟨k + 1, by simp, by omega, hxl, fun v hv => ?_, hI'⟩ (by simp only; omega))⟩
    simp only [Z9q, exB, hbf, Bool.false_eq_true, if_false]
    rw [hx v hv]; omega
  have ce : c.Cap.getD k 0 + c.Cap.getD (rv c k) 0 = cp c k := gc.2.1
  have i2 : inb ((rv c k : Nat) : Int) L := by constructor <;> omega
  have j3 : ∀ t : Bool, (t = true → ¬(0 ≤ p.Res.getD k 0 ∧ p.Res.getD k 0 ≤ cp c k ∧ 0 ≤ p.Res.getD (rv c k) 0)) → (t = false → (0 ≤ p.Res.getD k 0 ∧ p.Res.getD k 0 ≤ cp c k ∧ 0 ≤ p.Res.getD (rv c k) 0)) → Ok (Z3h c p xs (k : Nat) t) P := fun t t1 t2 => by
   unfold Z3h
   simp only [Int.toNat_natCast, g2.1, lr, ce]
   refine Ok.ite.2 ⟨fun h => j4 _ (fun _ h3 => t1 h ⟨h3.1, h3.2.1, h3.2.2.1⟩) (fun h3 => (by cases h3)), fun h => Ok.gd.2 ⟨i2, j4 _ (fun h3 h4 => ?_) fun h3 => ?_⟩⟩
   · have := of_decide_eq_true h3; omega
   ·
    have := of_decide_eq_false h3
    have h4 := t2 (by simpa using h)
    exact ⟨h4.1, h4.2.1, h4.2.2, by omega⟩
  have j2 : ∀ t : Bool, (t = true → ¬(0 ≤ p.Res.getD k 0 ∧ p.Res.getD k 0 ≤ cp c k)) → (t = false → (0 ≤ p.Res.getD k 0 ∧ p.Res.getD k 0 ≤ cp c k)) → Ok (Z3i c p xs (k : Nat) t) P := fun t t1 t2 => by
   unfold Z3i
   simp only [Int.toNat_natCast, g2.1, lr, ce]
   refine Ok.ite.2 ⟨fun h => j3 _ (fun _ h3 => t1 h ⟨h3.1, h3.2.1⟩) (fun h3 => (by cases h3)), fun h => Ok.gd.2 ⟨i2, j3 _ (fun h3 h4 => ?_) fun h3 => ?_⟩⟩
   · have := of_decide_eq_true h3; omega
   ·
    have := of_decide_eq_false h3
    have h4 := t2 (by simpa using h)
    exact ⟨h4.1, h4.2, by omega⟩
  simp only [g2.1, lr, llr, llc, ce, Int.toNat_natCast]
  have i1 : inb (k : Int) L := by constructor <;> omega
  refine Ok.gd.2 ⟨i1, Ok.gd.2 ⟨i1, Ok.gd.2 ⟨i2, Ok.gd.2 ⟨by constructor <;> omega, Ok.gd.2 ⟨i1, Ok.ite.2 ⟨fun h => j2 _ (fun _ h3 => by omega) (fun h3 => (by cases h3)), fun h => Ok.gd.2 ⟨i1, j2 _ (fun h3 h4 => ?_) fun h3 => ?_⟩⟩⟩⟩⟩⟩⟩
  · have := of_decide_eq_true h3; omega
  ·
   have := of_decide_eq_false h3
   exact ⟨by omega, by omega⟩
 ·
  obtain rfl : k = L := by omega
  refine s_rR5 r lr (fun j hj => ⟨(hI j hj).1, (hI j hj).2.1⟩) lx lh hxl fun v hv => ?_
  rw [hx v hv, exB_all r]
end row
end Go.Acq
namespace Go.Acq
open Go
set_option linter.unusedSimpArgs false
set_option linter.unusedVariables false
theorem Zno : Z71 = some true := by decide +kernel
theorem Zgf {p : Pre} (h1 : lenok p.Res.length) (h2 : lenok p.Ex.length) (h3 : lenok p.H.length) : Z28 p p = some true := by
 unfold Z28
 simp [Znh h1, Znh h2, Zl7 h3]
section row
variable {n : Net} {m L : Nat} {c : Csr}
theorem s_rPush2 {p : Pre} (a : Int) (h : PreOK n m L c p) (r : Row n m L c) : ∃ t, Z6d c p a = some t ∧ Z2x c p a = some t ∧ (t.1 = ⟨[], [], []⟩ ∨ PreOK n m L c t.1) := by
 by_cases ha : 0 ≤ a ∧ a < L
 ·
  obtain ⟨j, rfl⟩ : ∃ j : Nat, a = j := ⟨a.toNat, by omega⟩
  refine ⟨_, s_Push r h.ok (h.hb r) (by omega), Znb r h.ok (h.hb r) (by omega), ?_⟩
  split
  · rename_i hA; exact .inr (h.push r (by omega) hA.1 hA.2)
  · exact .inl rfl
 · exact ⟨_, s_PushN r ha, s_rPushN r ha, .inl rfl⟩
theorem s_rLift2 {p : Pre} (a : Int) (h : PreOK n m L c p) (r : Row n m L c) : ∃ t, Z73 c p a = some t ∧ Z2h c p a = some t ∧ (t.1 = ⟨[], [], []⟩ ∨ PreOK n m L c t.1) := by
 by_cases ha : 0 ≤ a ∧ a < m
 ·
  obtain ⟨j, rfl⟩ : ∃ j : Nat, a = j := ⟨a.toNat, by omega⟩
  refine ⟨_, s_Lift r h.ok.lr h.ok.lx (h.hb r) (by omega), Zkb r h.ok.lr h.ok.lx (h.hb r) (by omega), ?_⟩
  split
  · rename_i hA; exact .inr (h.lift r (by omega) hA).1
  · exact .inl rfl
 · exact ⟨_, s_LiftN r ha, s_rLiftN r ha, .inl rfl⟩
theorem PreOK.same {p : Pre} (h : PreOK n m L c p) (r : Row n m L c) : Z28 p p = some true := Zgf (h.len r).r (h.len r).x (h.len r).h
theorem Zn9 {p : Pre} (h : p = ⟨[], [], []⟩ ∨ PreOK n m L c p) (r : Row n m L c) : Z28 p p = some true := by
 rcases h with h | h
 · subst h; exact Zgf (by constructor <;> simp) (by constructor <;> simp) (by constructor <;> simp)
 · exact h.same r
theorem s_PTj4 {R X H : List Int} {a u : Int} (h : PreOK n m L c ⟨R, X, H⟩) (r : Row n m L c) : Ok (Z3t a u c R X H R X H) (fun b => b = true) := by
 have b := r.bd
 have h1 : R.length = L := h.ok.lr
 have h2 : X.length = m := h.ok.lx
 have h3 : H.length = m := h.hs.1
 obtain ⟨⟨q, d, e⟩, p1, p2, p3⟩ := s_rPush2 a h r
 obtain ⟨⟨l, f⟩, l1, l2, l3⟩ := s_rLift2 u h r
 unfold Z3t Z70
 rw [Z6p (by simp only [List.length_set, List.length_replicate]; omega), Z6p (by simp only [List.length_set, List.length_replicate]; omega), Z6p (by simp only [List.length_set, List.length_replicate]; omega)]
 refine Ok.bind.2 (Ok.some.2 (Ok.bind.2 (Z6y p1 (Ok.bind.2 (Z6y p2 (Ok.bind.2 (Z6y l1 (Ok.bind.2 (Z6y l2 ?_)))))))))
 simp only
 rw [if_pos trivial]
 unfold Z3s
 rw [if_pos (by simp)]
 refine Ok.bind.2 (Z6y (Zn9 p3 r) ?_)
 unfold Z3r
 rw [if_pos rfl]
 unfold Z3q
 rw [if_pos (by simp)]
 refine Ok.bind.2 (Z6y (Zn9 l3 r) ?_)
 unfold Z3p
 rw [if_pos rfl]
 refine Ok.bind.2 (Z6y (h.same r) ?_)
 unfold Z3o
 rw [if_pos rfl]
 refine Ok.bind.2 (Z6y Zno ?_)
 unfold Z3b
 exact Ok.some.2 rfl
theorem s_PTj1 {R X H mv : List Int} {a u : Int} (h : PreOK n m L c ⟨R, X, H⟩) (r : Row n m L c) (hb : ∀ x, x ∈ mv → u8ok x) : Ok (Z2v mv a u c R X H R X H) (fun b => b = true) := by
 unfold Z2v
 obtain ⟨l, hl⟩ : ∃ l, mv.take (min (mv.length : Int) 60).toNat = l := ⟨_, rfl⟩
 have hll : l.length ≤ 60 := by rw [← hl, List.length_take]; omega
 have hlb : ∀ x, x ∈ l → u8ok x := fun x hx => hb x (List.mem_of_mem_take (hl ▸ hx))
 refine Ok.gd.2 ⟨(by omega), Ok.bind.2 ?_⟩
 refine Z9z (fun s => ∃ (k : Nat) (R X H : List Int), s = (R, X, H, R, X, H, (k : Int)) ∧ k ≤ l.length ∧ PreOK n m L c ⟨R, X, H⟩) (fun s => (l.length - s.2.2.2.2.2.2).toNat) ⟨0, R, X, H, rfl, by omega, h⟩ (by unfold Z6b; simp only; omega) ?_
 rintro s ⟨k, R, X, H, rfl, hk, hp⟩ P next exit
 have b := r.bd
 unfold Z3n
 simp only [hl, Int.toNat_natCast]
 refine Ok.ite.2 ⟨fun hx => ?_, fun hx => Ok.some.2 (exit _ (s_PTj4 hp r))⟩
 have hbk := hlb _ (Zbf (show k < l.length by omega) 0)
 have hdv := Zn3 (show 0 ≤ l.getD k 0 by omega) (show (0 : Int) < 2 by omega)
 have hA : (Zc1 n L c ⟨R, X, H⟩).length ≤ L := Zas _ _
 have hV : (Zaj n m c ⟨R, X, H⟩).length ≤ m := Zas _ _
 have hC := Zas (fun u => decide (Zby n X u)) m
 refine Ok.gd.2 ⟨(by omega), Ok.bind.2 (Z6y (hp.may r) (Ok.bind.2 (Z6y (s_rMay r hp.ok.lr hp.ok.lx (hp.hb r)) (Ok.bind.2 (Z6y (hp.same r) ?_)))))⟩
 simp only
 rw [if_neg (by simp)]
 refine Ok.bind.2 (Z6y (Zl7 ?_) ?_)
 · omega
 rw [if_neg (by simp)]
 refine Ok.bind.2 (Z6y (Zl7 ?_) ?_)
 · omega
 rw [if_neg (by simp)]
 refine Ok.bind.2 (Z6y (s_Active r hp.ok.lx) (Ok.bind.2 (Z6y (Znd r hp.ok.lx) (Ok.bind.2 (Z6y (Zl7 ?_) ?_)))))
 · first | exact Nat.le_trans hC (by omega) | exact Int.le_trans (Int.ofNat_le.2 hC) (by omega)
 rw [if_neg (by simp)]
 refine Ok.bind.2 (Ok.mono (Zl6 r (hp.len r)) fun t ht => ?_)
 rw [if_neg (by rw [ht.2 hp]; simp)]
 have nx : ∀ q : Pre, PreOK n m L c q → Ok (gd (i64ok ((k : Int) + 1)) <| some (.inl (q.Res, q.Ex, q.H, q.Res, q.Ex, q.H, (k : Int) + 1))) P := fun q hq => Ok.gd.2 ⟨(by omega), Ok.some.2 (next _ ⟨k + 1, q.Res, q.Ex, q.H, by simp, by omega, hq⟩ (by simp only; omega))⟩
 have j3 : ∀ t : Bool, (t = true → 0 < (Zc1 n L c ⟨R, X, H⟩).length) → Ok (Z2g mv c R X H R X H k (Zc1 n L c ⟨R, X, H⟩) (Zaj n m c ⟨R, X, H⟩) t) P := fun t ht => by
  unfold Z2g
  simp only [hl, Int.toNat_natCast]
  refine Ok.ite.2 ⟨fun h => ?_, fun h => Ok.ite.2 ⟨fun h2 => ?_, fun h2 => nx ⟨R, X, H⟩ hp⟩⟩
  ·
   have hlen := ht h
   have hi := idx_lt (k := l.getD k 0) (by omega) hlen
   obtain ⟨i, hie⟩ : ∃ i : Nat, ((l.getD k 0).tdiv 2).tmod ((Zc1 n L c ⟨R, X, H⟩).length : Int) = i := ⟨_, (Int.toNat_of_nonneg hi.1).symm⟩
   rw [hie] at hi
   simp only [hie, Int.toNat_natCast]
   obtain ⟨j, g1, g2, g3, g5, g4⟩ := push_at hp r (show i < (Zc1 n L c ⟨R, X, H⟩).length by have := hi.2; omega)
   have gg : 2 ≠ (0 : Int) ∧ i64ok ((l.getD k 0).tdiv 2) := ⟨by omega, by constructor <;> omega⟩
   rw [g5] at g4
   have g6 := Znb r hp.ok (hp.hb r) g1
   rw [if_pos ⟨g2, g3⟩] at g6
   rw [g5]
   refine Ok.gd.2 ⟨gg, Ok.gd.2 ⟨(by omega), Ok.gd.2 ⟨hi, Ok.bind.2 (Z6y g4 (Ok.gd.2 ⟨gg, Ok.gd.2 ⟨(by omega), Ok.gd.2 ⟨hi, Ok.bind.2 (Z6y g6 ?_)⟩⟩⟩))⟩⟩⟩
   simp only
   rw [if_neg (by simp), if_neg (by simp)]
   exact nx _ (hp.push r g1 g2 g3)
  ·
   have hi := idx_lt (k := l.getD k 0) (by omega) (show 0 < (Zaj n m c ⟨R, X, H⟩).length by omega)
   obtain ⟨i, hie⟩ : ∃ i : Nat, ((l.getD k 0).tdiv 2).tmod ((Zaj n m c ⟨R, X, H⟩).length : Int) = i := ⟨_, (Int.toNat_of_nonneg hi.1).symm⟩
   rw [hie] at hi
   simp only [hie, Int.toNat_natCast]
   obtain ⟨j, g1, g2, g5, g4⟩ := lift_at hp r (show i < (Zaj n m c ⟨R, X, H⟩).length by have := hi.2; omega)
   have gg : 2 ≠ (0 : Int) ∧ i64ok ((l.getD k 0).tdiv 2) := ⟨by omega, by constructor <;> omega⟩
   rw [g5] at g4
   have g6 := Zkb r hp.ok.lr hp.ok.lx (hp.hb r) g1
   rw [if_pos g2] at g6
   rw [g5]
   refine Ok.gd.2 ⟨gg, Ok.gd.2 ⟨(by omega), Ok.gd.2 ⟨hi, Ok.bind.2 (Z6y g4 (Ok.gd.2 ⟨gg, Ok.gd.2 ⟨(by omega), Ok.gd.2 ⟨hi, Ok.bind.2 (Z6y g6 ?_)⟩⟩⟩))⟩⟩⟩
   simp only
   rw [if_neg (by simp)]
   exact nx _ (hp.lift r g1 g2).1
 refine Ok.gd.2 ⟨by constructor <;> omega, Ok.ite.2 ⟨fun h => (have h' : 0 < ((Zc1 n L c ⟨R, X, H⟩).length : Int) := h; Ok.ite.2 ⟨fun _ => j3 true fun _ => by omega, fun _ => j3 _ fun _ => by omega⟩), fun h => j3 false fun h2 => by cases h2⟩⟩
end row
theorem p_PreTells {n : Net} {mv : List Int} {p : Pre} {a u : Int} (hn : NetIn n) (hmv : ByteRow mv) (h1 : p.Res.length ≤ 1048576) (h2 : p.Ex.length ≤ 1048576) (h3 : p.H.length ≤ 1048576) : Z63 n mv p a u = some true := by
 refine Zbu ?_
 unfold Z63
 refine Ok.bind.2 (Ok.mono (s_Some hn (by omega) (by omega) (by omega) (by omega)) fun q hr => ?_)
 obtain ⟨m, hm, hso⟩ := hr.nat
 have hlen := hr.arcs
 have hll : lenok q.Arcs.length := by omega
 refine Ok.bind.2 (Ok.mono (s_rMake hm hr.check) ?_)
 rintro ⟨c, e⟩ ⟨hc, h0⟩
 simp only at hc h0 ⊢
 subst h0
 have r := row_of hc hm hr.check
 obtain ⟨L, hL⟩ : ∃ L, Z1i q.Arcs m = L := ⟨_, rfl⟩
 rw [hL] at r
 have hcap : ∀ j, j < L → cp c j ≤ 1125899906842624 := fun j hj => by
  obtain ⟨i, s, hi, hne, hp, -⟩ := r.at hj
  rw [← hp, (r.cpPos hi hne s).1]
  have := (Made.caps hso i hi).2
  omega
 obtain ⟨⟨S, hS, hcS, hSm⟩, -, -, -⟩ := r.ends
 have l1 : PreLen p := ⟨by omega, by omega, by omega⟩
 have hq : PreOK q m L c (begQ c S m L) := by
  have := s_Begin r
  rw [Zl8 r hS] at this
  exact Ok.some.1 this
 rw [if_neg (by simp)]
 refine Ok.bind.2 (Z6y (Zl8 r hS) (Ok.bind.2 (Z6y (s_rBegin r hS) (Ok.bind.2 (Ok.mono (Zl6 r l1) fun t ht => Ok.bind.2 (Ok.mono (Zl5 (p := p) r hcap) fun t2 ht2 => ?_))))))
 have et : t = t2 := by
  cases t <;> cases t2 <;> simp_all
 subst et
 rw [if_neg (by simp)]
 refine Ok.bind.2 (Z6y (Znj (by omega) (by omega) (by omega)) (Ok.bind.2 (Z6y (Zgf l1.r l1.x l1.h) ?_)))
 rw [if_neg (by simp)]
 refine Ok.bind.2 (Ok.mono (Zl5 (p := p) r hcap) fun t3 ht3 => Ok.ite.2 ⟨fun h => s_PTj1 (ht3.1 h) r hmv.row, fun h => s_PTj1 hq r hmv.row⟩)
end Go.Acq
