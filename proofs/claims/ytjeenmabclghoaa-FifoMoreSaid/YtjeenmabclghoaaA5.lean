/- Texts of this claim, one behind the other. -/
import Derived.Test.YtjeenmabclghoaaA1
import Derived.Test.YtjeenmabclghoaaA2
import Derived.Test.YtjeenmabclghoaaA4
set_option linter.unusedVariables false
set_option linter.unusedSimpArgs false
namespace Go.Acq
open Go
def hit (a : Arc) (v : Nat) : Nat := if a.fr = a.to then 0 else if a.fr = v ∨ a.to = v then 1 else 0
def cnt (al : List Arc) (v : Nat) : Nat → Nat
  | 0 => 0
  | k + 1 => cnt al v k + hit (al.getD k default) v
def Z0s (al : List Arc) : Nat → Nat
  | 0 => 0
  | v + 1 => Z0s al v + cnt al v al.length
def vtx (a : Arc) (s : Bool) : Int := if s then a.to else a.fr
def pos (al : List Arc) (i : Nat) (s : Bool) : Nat := Z0s al (vtx (al.getD i default) s).toNat + cnt al (vtx (al.getD i default) s).toNat i
def Z58 (n : Nat) (al : List Arc) : Prop := ∀ i, i < al.length → ∀ s, 0 ≤ vtx (al.getD i default) s ∧ vtx (al.getD i default) s < n
theorem Zbn {α : Type} (xs : List α) (i j : Nat) (v d : α) : (xs.set i v).getD j d = if i = j ∧ i < xs.length then v else xs.getD j d := by
 rw [List.getD_eq_getElem?_getD, List.getD_eq_getElem?_getD, List.getElem?_set]
 split
 ·
  rename_i h; subst h
  split
  · rename_i h2; simp [h2]
  · rename_i h2; simp [h2]
 · rename_i h; simp [h]
theorem Z42 {α : Type} {xs : List α} {i j : Nat} {v d : α} (h : i ≠ j) : (xs.set i v).getD j d = xs.getD j d := by
 rw [Zbn, if_neg (fun e => h e.1)]
theorem Zb6 {α : Type} {xs : List α} {i : Nat} {v d : α} (h : i < xs.length) : (xs.set i v).getD i d = v := by
 rw [Zbn, if_pos ⟨rfl, h⟩]
theorem Z1m {α : Type} (n j : Nat) (v : α) : (List.replicate n v).getD j v = v := by
 rw [List.getD_eq_getElem?_getD, List.getElem?_replicate]; split <;> simp
theorem hit_le (a : Arc) (v : Nat) : hit a v ≤ 1 := by unfold hit; split; omega; split <;> omega
theorem cnt_mono {al : List Arc} {v i j : Nat} (h : i ≤ j) : cnt al v i ≤ cnt al v j := by
 induction h with
 | refl => exact Nat.le_refl _
 | step _ ih => exact Nat.le_trans ih (Nat.le_add_right _ _)
theorem Zjo (al : List Arc) (v k : Nat) : cnt al v k ≤ k := by
 induction k with
 | zero => exact Nat.le_refl _
 | succ k ih => have := hit_le (al.getD k default) v; simp only [cnt]; omega
theorem Z3d {al : List Arc} {u v : Nat} (h : u ≤ v) : Z0s al u ≤ Z0s al v := by
 induction h with
 | refl => exact Nat.le_refl _
 | step _ ih => exact Nat.le_trans ih (Nat.le_add_right _ _)
theorem Zmi (al : List Arc) (v : Nat) : Z0s al v ≤ v * al.length := by
 induction v with
 | zero => exact Nat.zero_le _
 | succ v ih => have := Zjo al v al.length; simp only [Z0s, Nat.succ_mul]; omega
theorem hit_vtx {a : Arc} {s : Bool} (h : a.fr ≠ a.to) (h0 : 0 ≤ vtx a s) : hit a (vtx a s).toNat = 1 := by
 unfold hit; rw [if_neg h, if_pos]
 cases s
 · left; simp only [vtx] at h0 ⊢; simp only [Bool.false_eq_true, if_false] at h0 ⊢; omega
 · right; simp only [vtx] at h0 ⊢; simp only [if_true] at h0 ⊢; omega
theorem Zcn {al : List Arc} {i j : Nat} {s : Bool} (hij : i < j) (h : (al.getD i default).fr ≠ (al.getD i default).to) (h0 : 0 ≤ vtx (al.getD i default) s) :
    cnt al (vtx (al.getD i default) s).toNat i < cnt al (vtx (al.getD i default) s).toNat j := by
  have h1 := cnt_mono (al := al) (v := (vtx (al.getD i default) s).toNat) (i := i + 1) (j := j) hij
  have h2 := hit_vtx h h0
  simp only [cnt] at h1
  omega
theorem Za4 {al : List Arc} {n i : Nat} {s : Bool} (hi : i < al.length) (h : (al.getD i default).fr ≠ (al.getD i default).to) (he : Z58 n al) : pos al i s < Z0s al n := by
 have h1 := Zcn (s := s) hi h (he i hi s).1
 have h2 := Z3d (al := al) (u := (vtx (al.getD i default) s).toNat + 1) (v := n) (by have := he i hi s; omega)
 simp only [Z0s] at h2
 unfold pos; omega
theorem Z8r {al : List Arc} {n i j : Nat} {s t : Bool} (he : Z58 n al) (hi : i < al.length) (hj : j < al.length) (h : (al.getD i default).fr ≠ (al.getD i default).to) (g : (al.getD j default).fr ≠ (al.getD j default).to)
    (e : pos al i s = pos al j t) : i = j ∧ s = t := by
  have hi1 := Zcn (s := s) hi h (he i hi s).1
  have hj1 := Zcn (s := t) hj g (he j hj t).1
  have hv : (vtx (al.getD i default) s).toNat = (vtx (al.getD j default) t).toNat := by
    rcases Nat.lt_trichotomy (vtx (al.getD i default) s).toNat (vtx (al.getD j default) t).toNat with h1 | h1 | h1
    · have := Z3d (al := al) (u := (vtx (al.getD i default) s).toNat + 1) h1
      simp only [Z0s] at this
      unfold pos at e; omega
    · exact h1
    · have := Z3d (al := al) (u := (vtx (al.getD j default) t).toNat + 1) h1
      simp only [Z0s] at this
      unfold pos at e; omega
  have hij : i = j := by
    rcases Nat.lt_trichotomy i j with h1 | h1 | h1
    · have h2 := Zcn (s := s) h1 h (he i hi s).1
      unfold pos at e; rw [hv] at e h2; omega
    · exact h1
    · have h2 := Zcn (s := t) h1 g (he j hj t).1
      unfold pos at e; rw [hv] at e; omega
  refine ⟨hij, ?_⟩
  subst hij
  have h1 := (he i hi s).1
  have h2 := (he i hi t).1
  cases s <;> cases t <;> first | rfl | (simp only [vtx, Bool.false_eq_true, if_false, if_true] at hv h1 h2; omega)
theorem Zjp {al : List Arc} {v r : Nat} : ∀ {k : Nat}, r < cnt al v k → ∃ i, i < k ∧ cnt al v i = r ∧ hit (al.getD i default) v = 1
 | 0, h => by simp [cnt] at h
 | k + 1, h => by
  by_cases h1 : r < cnt al v k
  · obtain ⟨i, h2, h3⟩ := Zjp h1; exact ⟨i, by omega, h3⟩
  ·
   have := hit_le (al.getD k default) v
   simp only [cnt] at h
   exact ⟨k, by omega, by omega, by omega⟩
theorem Zdv {al : List Arc} {p : Nat} : ∀ {n : Nat}, p < Z0s al n → ∃ v, v < n ∧ Z0s al v ≤ p ∧ p < Z0s al (v + 1)
 | 0, h => by simp [Z0s] at h
 | n + 1, h => by
  by_cases h1 : p < Z0s al n
  · obtain ⟨v, h2, h3⟩ := Zdv h1; exact ⟨v, by omega, h3⟩
  · exact ⟨n, by omega, by omega, h⟩
theorem pos_surj {al : List Arc} {n p : Nat} (h : p < Z0s al n) : ∃ i s, i < al.length ∧ (al.getD i default).fr ≠ (al.getD i default).to ∧ pos al i s = p ∧ 0 ≤ vtx (al.getD i default) s ∧ vtx (al.getD i default) s < n ∧
    Z0s al (vtx (al.getD i default) s).toNat ≤ p ∧ p < Z0s al ((vtx (al.getD i default) s).toNat + 1) := by
  obtain ⟨v, hv, h1, h2⟩ := Zdv h
  simp only [Z0s] at h2
  obtain ⟨i, hi, h3, h4⟩ := Zjp (al := al) (v := v) (r := p - Z0s al v) (k := al.length) (by omega)
  unfold hit at h4
  split at h4
  · omega
  · rename_i hne
    split at h4
    · rename_i ho
      rcases ho with ho | ho
      · refine ⟨i, false, hi, hne, ?_, ?_, ?_, ?_, ?_⟩ <;> simp only [pos, vtx, Bool.false_eq_true, if_false, ho, Int.toNat_natCast, Z0s] <;> omega
      · refine ⟨i, true, hi, hne, ?_, ?_, ?_, ?_, ?_⟩ <;> simp only [pos, vtx, if_true, ho, Int.toNat_natCast, Z0s] <;> omega
    · omega
def CsrAt (al : List Arc) (hs rs cs aa : List Int) (bs : List Bool) (k : Nat) : Prop :=
  ∀ i, i < k → (al.getD i default).fr ≠ (al.getD i default).to → ∀ s,
    hs.getD (pos al i s) 0 = vtx (al.getD i default) (!s) ∧ rs.getD (pos al i s) 0 = pos al i (!s) ∧ cs.getD (pos al i s) 0 = (if s then 0 else (al.getD i default).cap) ∧
    aa.getD (pos al i s) 0 = i ∧ bs.getD (pos al i s) false = s
structure CsrOK (al : List Arc) (n : Nat) (fs hs rs cs aa : List Int) (bs : List Bool) : Prop where
  lf : fs.length = n + 1
  lh : hs.length = Z0s al n
  lr : rs.length = Z0s al n
  lc : cs.length = Z0s al n
  la : aa.length = Z0s al n
  lb : bs.length = Z0s al n
  hf : ∀ v, v ≤ n → fs.getD v 0 = Z0s al v
  hat : CsrAt al hs rs cs aa bs al.length
theorem CsrAt.skip {al : List Arc} {hs rs cs aa : List Int} {bs : List Bool} {k : Nat} (h : CsrAt al hs rs cs aa bs k) (e : (al.getD k default).fr = (al.getD k default).to) : CsrAt al hs rs cs aa bs (k + 1) := by
 intro i hi hne s
 rcases Nat.lt_succ_iff_lt_or_eq.1 hi with h1 | h1
 · exact h i h1 hne s
 · subst h1; exact absurd e hne
theorem set2 {α : Type} {xs : List α} {p q j : Nat} {u v d : α} (hp : p < xs.length) (hq : q < xs.length) (hpq : p ≠ q) :
    ((xs.set p u).set q v).getD j d = if j = p then u else if j = q then v else xs.getD j d := by
  rw [Zbn, Zbn]
  by_cases h1 : j = p
  · subst h1; rw [if_pos rfl, if_neg (fun e => hpq e.1.symm), if_pos ⟨rfl, hp⟩]
  · rw [if_neg h1]
    by_cases h2 : j = q
    · subst h2; rw [if_pos rfl, if_pos ⟨rfl, by simpa using hq⟩]
    · rw [if_neg h2, if_neg (fun e => h2 e.1.symm), if_neg (fun e => h1 e.1.symm)]
theorem CsrAt.put {al : List Arc} {n : Nat} {hs rs cs aa : List Int} {bs : List Bool} {k : Nat} (h : CsrAt al hs rs cs aa bs k) (he : Z58 n al) (hk : k < al.length) (hne : (al.getD k default).fr ≠ (al.getD k default).to)
    (lh : hs.length = Z0s al n) (lr : rs.length = Z0s al n) (lc : cs.length = Z0s al n) (la : aa.length = Z0s al n) (lb : bs.length = Z0s al n) :
    CsrAt al ((hs.set (pos al k false) (al.getD k default).to).set (pos al k true) (al.getD k default).fr) ((rs.set (pos al k false) (pos al k true)).set (pos al k true) (pos al k false))
      ((cs.set (pos al k false) (al.getD k default).cap).set (pos al k true) 0) ((aa.set (pos al k false) k).set (pos al k true) k) ((bs.set (pos al k false) false).set (pos al k true) true) (k + 1) := by
  have hp : pos al k false < Z0s al n := Za4 hk hne he
  have hq : pos al k true < Z0s al n := Za4 hk hne he
  have hpq : pos al k false ≠ pos al k true := fun e => by have := (Z8r he hk hk hne hne e).2; cases this
  intro i hi hni s
  have hil : i < al.length := by omega
  rw [set2 (by omega) (by omega) hpq, set2 (by omega) (by omega) hpq, set2 (by omega) (by omega) hpq, set2 (by omega) (by omega) hpq, set2 (by omega) (by omega) hpq]
  by_cases hik : i = k
  · subst hik
    cases s
    · simp [vtx]
    · simp [vtx, hpq.symm]
  · have h1 : pos al i s ≠ pos al k false := fun e => hik (Z8r he hil hk hni hne e).1
    have h2 : pos al i s ≠ pos al k true := fun e => hik (Z8r he hil hk hni hne e).1
    simp only [if_neg h1, if_neg h2]
    exact h i (by omega) hni s
def Counted (al : List Arc) (m k : Nat) (fs : List Int) : Prop := fs.length = m + 1 ∧ fs.getD 0 0 = 0 ∧ ∀ v : Int, 0 ≤ v → v < m → fs.getD (v + 1).toNat 0 = cnt al v.toNat k
def Summed (al : List Arc) (m k : Nat) (fs : List Int) : Prop := fs.length = m + 1 ∧ (∀ u, u ≤ k → fs.getD u 0 = Z0s al u) ∧ ∀ u, k ≤ u → u < m → fs.getD (u + 1) 0 = cnt al u al.length
theorem Z4y {al : List Arc} {v : Nat} (hv : v ≤ 4096) (hl : al.length ≤ 16384) : Z0s al v ≤ 67108864 :=
 Nat.le_trans (Zmi al v) (Nat.mul_le_mul hv hl)
theorem Counted.start (al : List Arc) (m : Nat) {p : Nat} (h : p = m + 1) : Counted al m 0 (List.replicate p 0) :=
 ⟨by simp [h], Z1m _ _ _, fun v _ _ => by rw [Z1m]; rfl⟩
theorem Counted.skip {al : List Arc} {m k : Nat} {fs : List Int} (h : Counted al m k fs) (e : (al.getD k default).fr = (al.getD k default).to) : Counted al m (k + 1) fs :=
 ⟨h.1, h.2.1, fun v h0 h1 => by rw [h.2.2 v h0 h1]; simp only [cnt, hit, if_pos e, Nat.add_zero]⟩
theorem Counted.put {al : List Arc} {m k : Nat} {fs : List Int} (h : Counted al m k fs) (he : Z58 m al) (hk : k < al.length) (hne : (al.getD k default).fr ≠ (al.getD k default).to) :
    Counted al m (k + 1) ((fs.set ((al.getD k default).fr + 1).toNat (fs.getD ((al.getD k default).fr + 1).toNat 0 + 1)).set ((al.getD k default).to + 1).toNat
      ((fs.set ((al.getD k default).fr + 1).toNat (fs.getD ((al.getD k default).fr + 1).toNat 0 + 1)).getD ((al.getD k default).to + 1).toNat 0 + 1)) := by
  have e0 := he k hk false
  have e1 := he k hk true
  simp only [vtx, Bool.false_eq_true, if_false, if_true] at e0 e1
  obtain ⟨hl, hz, hv⟩ := h
  refine ⟨by simpa using hl, ?_, ?_⟩
  · rw [Z42 (by omega), Z42 (by omega)]; exact hz
  · intro v h0 h1
    have hvv := hv v h0 h1
    rw [Z42 (i := ((al.getD k default).fr + 1).toNat) (j := ((al.getD k default).to + 1).toNat) (by omega), set2 (by omega) (by omega) (by omega)]
    simp only [cnt, hit, if_neg hne]
    by_cases a1 : v = (al.getD k default).fr
    · rw [if_pos (by omega), if_pos (by omega), ← a1, hvv]; omega
    · rw [if_neg (by omega)]
      by_cases a2 : v = (al.getD k default).to
      · rw [if_pos (by omega), if_pos (by omega), ← a2, hvv]; omega
      · rw [if_neg (by omega), if_neg (by omega), hvv]; omega
theorem Counted.summed {al : List Arc} {m : Nat} {fs : List Int} (h : Counted al m al.length fs) : Summed al m 0 fs :=
 ⟨h.1, fun u hu => by rw [Nat.le_zero.1 hu]; exact h.2.1, fun u _ hu => by have := h.2.2 u (by omega) (by omega); rw [show ((u : Int) + 1).toNat = u + 1 by omega] at this; simpa using this⟩
theorem Summed.put {al : List Arc} {m k : Nat} {fs : List Int} (h : Summed al m k fs) (hk : k < m) {i : Nat} (hi : i = k + 1) : Summed al m (k + 1) (fs.set i (fs.getD i 0 + fs.getD k 0)) := by
 subst hi
 obtain ⟨hl, h1, h2⟩ := h
 refine ⟨by simpa using hl, fun u hu => ?_, fun u h3 h4 => ?_⟩
 ·
  by_cases e : u = k + 1
  · subst e; rw [Zb6 (by omega), h1 k (Nat.le_refl _), h2 k (Nat.le_refl _) hk]; simp [Z0s]; omega
  · rw [Z42 (by omega)]; exact h1 u (by omega)
 · rw [Z42 (by omega)]; exact h2 u (by omega) h4
theorem Z31 {N S T : Int} {al : List Arc} (h : Z4h N S T al = 0) : (2 ≤ N ∧ N ≤ 4096) ∧ (al.length : Int) ≤ 16384 ∧ (Z3f N S = true ∧ Z3f N T = true ∧ S ≠ T) ∧ al.all (Z92 N) = true ∧ al.all Zki = true ∧ (Zde 4611686018427387904 al).isSome = true := by
 unfold Z4h at h
 split at h
 · omega
 ·
  rename_i h1
  split at h
  · omega
  ·
   rename_i h2
   split at h
   · omega
   ·
    rename_i h3
    split at h
    · omega
    ·
     rename_i h4
     split at h
     · omega
     ·
      rename_i h5
      split at h
      · omega
      ·
       rename_i h6
       refine ⟨Classical.not_not.1 h1, Classical.not_not.1 h2, Classical.not_not.1 h3, by simpa using h4, by simpa using h5, ?_⟩
       cases e : Zde 4611686018427387904 al <;> simp_all
theorem Zbr {m : Nat} {al : List Arc} (h : al.all (Z92 (m : Int)) = true) : Z58 m al := by
 intro i hi s
 have h1 := List.all_eq_true.1 h _ (Z6r hi default)
 simp only [Z92, Z3f, Bool.and_eq_true, decide_eq_true_eq] at h1
 cases s
 · simp only [vtx, Bool.false_eq_true, if_false]; exact h1.1
 · simp only [vtx, if_true]; exact h1.2
def MakeAt (al : List Arc) (m k : Nat) (nx hs rs cs aa : List Int) (bs : List Bool) : Prop :=
  (nx.length = m + 1 ∧ hs.length = Z0s al m ∧ rs.length = Z0s al m ∧ cs.length = Z0s al m ∧ aa.length = Z0s al m ∧ bs.length = Z0s al m) ∧
  CsrAt al hs rs cs aa bs k ∧ ∀ v : Int, 0 ≤ v → v < m → nx.getD v.toNat 0 = Z0s al v.toNat + cnt al v.toNat k
theorem MakeAt.start {al : List Arc} {m : Nat} {fs : List Int} (hl : fs.length = m + 1) (hf : ∀ u, u ≤ m → fs.getD u 0 = Z0s al u) :
    MakeAt al m 0 fs (List.replicate (Z0s al m) 0) (List.replicate (Z0s al m) 0) (List.replicate (Z0s al m) 0) (List.replicate (Z0s al m) 0) (List.replicate (Z0s al m) false) := by
  refine ⟨⟨hl, by simp, by simp, by simp, by simp, by simp⟩, fun i hi => by omega, fun v h0 h1 => ?_⟩
  rw [hf _ (by omega)]; simp [cnt]
theorem MakeAt.skip {al : List Arc} {m k : Nat} {nx hs rs cs aa : List Int} {bs : List Bool} (h : MakeAt al m k nx hs rs cs aa bs) (e : (al.getD k default).fr = (al.getD k default).to) : MakeAt al m (k + 1) nx hs rs cs aa bs :=
 ⟨h.1, h.2.1.skip e, fun v h0 h1 => by rw [h.2.2 v h0 h1]; simp only [cnt, hit, if_pos e, Nat.add_zero]⟩
theorem MakeAt.at {al : List Arc} {m k : Nat} {nx hs rs cs aa : List Int} {bs : List Bool} (h : MakeAt al m k nx hs rs cs aa bs) (he : Z58 m al) (hk : k < al.length) (s : Bool) : nx.getD (vtx (al.getD k default) s).toNat 0 = (pos al k s : Nat) := by
 rw [h.2.2 _ (he k hk s).1 (he k hk s).2]; simp only [pos]; omega
theorem MakeAt.put {al : List Arc} {m k : Nat} {nx hs rs cs aa : List Int} {bs : List Bool} (h : MakeAt al m k nx hs rs cs aa bs) (he : Z58 m al) (hk : k < al.length) (hne : (al.getD k default).fr ≠ (al.getD k default).to) :
    MakeAt al m (k + 1) ((nx.set (al.getD k default).fr.toNat ((pos al k false : Nat) + 1)).set (al.getD k default).to.toNat ((pos al k true : Nat) + 1))
      ((hs.set (pos al k false) (al.getD k default).to).set (pos al k true) (al.getD k default).fr) ((rs.set (pos al k false) (pos al k true)).set (pos al k true) (pos al k false))
      ((cs.set (pos al k false) (al.getD k default).cap).set (pos al k true) 0) ((aa.set (pos al k false) k).set (pos al k true) k) ((bs.set (pos al k false) false).set (pos al k true) true) := by
  have g0 := h.at he hk false
  have g1 := h.at he hk true
  obtain ⟨⟨l0, l1, l2, l3, l4, l5⟩, hA, hv⟩ := h
  have e0 := he k hk false
  have e1 := he k hk true
  simp only [vtx, Bool.false_eq_true, if_false, if_true] at e0 e1 g0 g1
  refine ⟨⟨by simpa using l0, by simpa using l1, by simpa using l2, by simpa using l3, by simpa using l4, by simpa using l5⟩, hA.put he hk hne l1 l2 l3 l4 l5, fun v h0 h1 => ?_⟩
  have hvv := hv v h0 h1
  rw [set2 (by omega) (by omega) (by omega)]
  simp only [cnt, hit, if_neg hne]
  by_cases a1 : v = (al.getD k default).fr
  · rw [if_pos (by omega), if_pos (by omega), ← g0, ← a1, hvv]; omega
  · rw [if_neg (by omega)]
    by_cases a2 : v = (al.getD k default).to
    · rw [if_pos (by omega), if_pos (by omega), ← g1, ← a2, hvv]; omega
    · rw [if_neg (by omega), if_neg (by omega), hvv]; omega
theorem MakeAt.done {al : List Arc} {m : Nat} {fs nx hs rs cs aa : List Int} {bs : List Bool} (h : MakeAt al m al.length nx hs rs cs aa bs) (hl : fs.length = m + 1) (hf : ∀ u, u ≤ m → fs.getD u 0 = Z0s al u) : CsrOK al m fs hs rs cs aa bs :=
 ⟨hl, h.1.2.1, h.1.2.2.1, h.1.2.2.2.1, h.1.2.2.2.2.1, h.1.2.2.2.2.2, hf, h.2.1⟩
end Go.Acq
namespace Go.Acq
open Go
theorem next_ne {S m : Int} (h0 : 0 ≤ S) (h1 : S < m) (h2 : 2 ≤ m) : 0 ≤ (S + 1).tmod m ∧ (S + 1).tmod m < m ∧ (S + 1).tmod m ≠ S := by
 rw [Int.tmod_eq_emod_of_nonneg (by omega)]
 refine ⟨Int.emod_nonneg _ (by omega), Int.emod_lt_of_pos _ (by omega), ?_⟩
 by_cases h : S + 1 < m
 · rw [Int.emod_eq_of_lt (by omega) h]; omega
 · rw [show S + 1 = m by omega, Int.emod_self]; omega
theorem Zk8 {x n : Int} (h : 0 ≤ x) (hn : 0 < n) : 0 ≤ x.tmod n ∧ x.tmod n < n := by
 rw [Int.tmod_eq_emod_of_nonneg h]
 exact ⟨Int.emod_nonneg _ (by omega), Int.emod_lt_of_pos _ hn⟩
def SomeAt (m : Nat) (ol : List Arc) : Prop := ∀ a, a ∈ ol → Z92 m a = true ∧ 0 ≤ a.cap ∧ a.cap < 1125899906842624
theorem SomeAt.put {m : Nat} {ol : List Arc} {a : Arc} (h : SomeAt m ol) (h1 : 0 ≤ a.fr ∧ a.fr < m) (h2 : 0 ≤ a.to ∧ a.to < m) (h3 : 0 ≤ a.cap ∧ a.cap < 1125899906842624) : SomeAt m (ol ++ [a]) := by
 intro b hb
 rcases List.mem_append.1 hb with hb | hb
 · exact h b hb
 ·
  simp only [List.mem_singleton] at hb
  subst hb
  exact ⟨by simp [Z92, Z3f, h1, h2], h3⟩
theorem Zm0 {m : Nat} {ol : List Arc} {left : Int} (h : SomeAt m ol) (hl : (ol.length : Int) * 1125899906842624 ≤ left) : (Zde left ol).isSome = true := by
 induction ol generalizing left with
 | nil => simp [Zde]
 | cons a ol ih =>
  have ha := (h a (.head _)).2
  simp only [List.length_cons] at hl
  have h2 : (0 : Int) ≤ (ol.length : Int) * 1125899906842624 := by omega
  simp only [Zde]
  rw [if_neg (by omega)]
  exact ih (fun b hb => h b (.tail _ hb)) (by omega)
theorem Zk9 {m : Nat} {S T : Int} {ol : List Arc} (hm : 2 ≤ m) (hm2 : m ≤ 4096) (hS : 0 ≤ S ∧ S < m) (hT : 0 ≤ T ∧ T < m) (hST : T ≠ S) (h : SomeAt m ol) (hl : ol.length ≤ 4096) : Z4h m S T ol = 0 := by
 have h1 : ol.all (Z92 m) = true := List.all_eq_true.2 fun a ha => (h a ha).1
 have h2 : ol.all Zki = true := List.all_eq_true.2 fun a ha => by simp [Zki, (h a ha).2.1]
 have h3 : (Zde 4611686018427387904 ol).isSome = true := Zm0 h (by omega)
 unfold Z4h
 rw [if_neg (by omega), if_neg (by omega), if_neg (by simp [Z3f, hS, hT, Ne.symm hST]), if_neg (by simp [h1]), if_neg (by simp [h2]), if_neg (by
  cases e : Zde 4611686018427387904 ol with
  | none => rw [e] at h3; cases h3
  | some x => simp)]
def WithinAt (al : List Arc) (n k : Nat) (fl : List Int) : Prop := fl.length = n ∧
  (∀ i, i < k → 0 ≤ fl.getD i 0 ∧ fl.getD i 0 ≤ (al.getD i default).cap ∧ ((al.getD i default).fr = (al.getD i default).to → fl.getD i 0 = 0)) ∧ ∀ i, k ≤ i → fl.getD i 0 = 0
theorem WithinAt.start (al : List Arc) (n : Nat) : WithinAt al n 0 (List.replicate n 0) := ⟨by simp, fun i h => by omega, fun i _ => Z1m _ _ _⟩
theorem WithinAt.skip {al : List Arc} {n k : Nat} {fl : List Int} (h : WithinAt al n k fl) (hc : 0 ≤ (al.getD k default).cap) : WithinAt al n (k + 1) fl := by
 refine ⟨h.1, fun i hi => ?_, fun i hi => h.2.2 i (by omega)⟩
 rcases Nat.lt_succ_iff_lt_or_eq.1 hi with h1 | h1
 · exact h.2.1 i h1
 · subst h1; have := h.2.2 i (Nat.le_refl _); rw [this]; exact ⟨Int.le_refl _, hc, fun _ => rfl⟩
theorem WithinAt.put {al : List Arc} {n k : Nat} {fl : List Int} {v : Int} (h : WithinAt al n k fl) (hk : k < n) (h0 : 0 ≤ v) (h1 : v ≤ (al.getD k default).cap) (hne : (al.getD k default).fr ≠ (al.getD k default).to) : WithinAt al n (k + 1) (fl.set k v) := by
 refine ⟨by simpa using h.1, fun i hi => ?_, fun i hi => by rw [Z42 (by omega)]; exact h.2.2 i (by omega)⟩
 by_cases e : i = k
 · subst e; rw [Zb6 (by rw [h.1]; exact hk)]; exact ⟨h0, h1, fun e => absurd e hne⟩
 · rw [Z42 (by omega)]; exact h.2.1 i (by omega)
def Zin (aa cs : List Int) (bs : List Bool) (fl : List Int) (j : Nat) : Prop := aa.getD j 0 < fl.length ∧ (bs.getD j false = true ∨ (0 ≤ fl.getD (aa.getD j 0).toNat 0 ∧ fl.getD (aa.getD j 0).toNat 0 ≤ cs.getD j 0))
def resV (aa cs : List Int) (bs : List Bool) (fl : List Int) (j : Nat) : Int := if bs.getD j false = true then fl.getD (aa.getD j 0).toNat 0 else cs.getD j 0 - fl.getD (aa.getD j 0).toNat 0
def ResAt (aa cs : List Int) (bs : List Bool) (fl : List Int) (L k : Nat) (rl : List Int) : Prop := rl.length = L ∧ ∀ j, j < k → Zin aa cs bs fl j ∧ rl.getD j 0 = resV aa cs bs fl j
theorem ResAt.put {aa cs : List Int} {bs : List Bool} {fl : List Int} {L k : Nat} {rl : List Int} {v : Int} (h : ResAt aa cs bs fl L k rl) (hk : k < L) (h1 : Zin aa cs bs fl k) (h2 : v = resV aa cs bs fl k) : ResAt aa cs bs fl L (k + 1) (rl.set k v) := by
 refine ⟨by simpa using h.1, fun j hj => ?_⟩
 by_cases e : j = k
 · subst e; rw [Zb6 (by rw [h.1]; exact hk)]; exact ⟨h1, h2⟩
 · rw [Z42 (by omega)]; exact h.2 j (by omega)
end Go.Acq
namespace Go.Acq
open Go
theorem CsrOK.place {al : List Arc} {m : Nat} {fs hs rs cs aa : List Int} {bs : List Bool} (h : CsrOK al m fs hs rs cs aa bs) {j : Nat} (hj : j < Z0s al m) :
    ∃ i s, i < al.length ∧ (al.getD i default).fr ≠ (al.getD i default).to ∧ pos al i s = j ∧ hs.getD j 0 = vtx (al.getD i default) (!s) ∧ rs.getD j 0 = pos al i (!s) ∧ cs.getD j 0 = (if s then 0 else (al.getD i default).cap) ∧ aa.getD j 0 = i ∧ bs.getD j false = s := by
  obtain ⟨i, s, hi, hne, hp, _⟩ := pos_surj hj
  have := h.hat i hi hne s
  rw [hp] at this
  exact ⟨i, s, hi, hne, hp, this⟩
theorem CsrOK.aa0 {al : List Arc} {m : Nat} {fs hs rs cs aa : List Int} {bs : List Bool} (h : CsrOK al m fs hs rs cs aa bs) : ∀ j, j < Z0s al m → 0 ≤ aa.getD j 0 := by
 intro j hj
 obtain ⟨i, s, _, _, _, _, _, _, h4, _⟩ := h.place hj
 omega
end Go.Acq
namespace Go.Acq
open Go
theorem Zf4 {α : Type} {m : Option α} {v : α} (h : Ok m (fun a => a = v)) : m = some v := by obtain ⟨a, h1, h2⟩ := h; rw [h1, h2]
theorem Z8a {α : Type} {m : Option α} {v : α} {Q : α → Prop} (h : m = some v) (q : Q v) : Ok m Q := ⟨v, h, q⟩
abbrev lenok (n : Nat) : Prop := n ≤ 9223372036854775807
theorem Zdg {x n : Int} (h1 : n ≤ 4611686018427387904) : Z1u x n = some (Zdw x n) := by
 unfold Z1u Zdw
 by_cases h : n < 1
 · rw [if_pos h, if_pos h]
 ·
  have a1 := Int.tmod_lt_of_pos x (show 0 < n by omega)
  have a2 := Zdn x (show 0 < n by omega)
  rw [if_neg h, if_neg h, Z7e (by omega), Z7e (by constructor <;> omega), Z7e (by omega)]
theorem Zd5 (n : Net) (v : Int) : Z47 n v = some (Z3f n.N v) := by
 unfold Z47 Z3f
 by_cases h : 0 ≤ v <;> simp [h]
theorem s_rules4 (n : Net) (a : Arc) : Z5z n a = some (Z92 n.N a) := by
 unfold Z5z Z92
 rw [Zd5, Zd5]
 simp only [Option.bind_some]
 cases Z3f n.N a.fr <;> simp
theorem s_of4 (n : Net) (h : lenok n.Arcs.length) : Z3j n = some (n.Arcs.all (Z92 n.N)) := by
 refine Zf4 ?_
 unfold Z3j Z1f Z1l
 refine Ok.bind.2 (Ok.bind.2 (Ok.bind.2 (Zgy (fun x => 0 ≤ x ∧ x ≤ n.Arcs.length ∧ ∀ i, i < x.toNat → Z92 n.N (n.Arcs.getD i default) = true) (fun x => (n.Arcs.length - x).toNat) ⟨by omega, by omega, fun i hi => by omega⟩ (by unfold Z4q; omega) ?_)))
 rintro x ⟨h0, h1, h2⟩
 unfold Z18 Z3v
 refine Ok.ite.2 ⟨fun hx => ?_, fun hx => ?_⟩
 ·
  refine Ok.gd.2 ⟨(by omega), Ok.bind.2 (Ok.bind.2 (Z8a (s_rules4 _ _) (Ok.some.2 (Ok.ite.2 ⟨fun hb => ?_, fun hb => ?_⟩))))⟩
  ·
   refine Ok.some.2 (Ok.some.2 (Ok.some.2 (Ok.some.2 ?_)))
   simp only [h0, decide_true, Bool.not_true]
   refine Eq.symm (Bool.eq_false_iff.2 fun hall => ?_)
   have := List.all_eq_true.1 hall _ (Z6r (show x.toNat < n.Arcs.length by omega) default)
   rw [this] at hb; cases hb
  ·
   refine Ok.gd.2 ⟨(by omega), Ok.some.2 ⟨⟨by omega, by omega, fun i hi => ?_⟩, by omega⟩⟩
   rcases Nat.lt_or_ge i x.toNat with h3 | h3
   · exact h2 i h3
   · rw [show i = x.toNat by omega]; simpa using hb
 ·
  refine Ok.some.2 (Ok.some.2 (Ok.some.2 (Ok.some.2 ?_)))
  refine Eq.symm (List.all_eq_true.2 fun a ha => ?_)
  obtain ⟨i, hi, rfl⟩ := List.getElem_of_mem ha
  have := h2 i (by omega)
  rwa [List.getD_eq_getElem?_getD, List.getElem?_eq_getElem hi] at this
theorem s_of5 (n : Net) (h : lenok n.Arcs.length) : Z3i n = some (n.Arcs.all Zki) := by
 refine Zf4 ?_
 unfold Z3i Z1e Z1k
 refine Ok.bind.2 (Ok.bind.2 (Ok.bind.2 (Zgy (fun x => 0 ≤ x ∧ x ≤ n.Arcs.length ∧ ∀ i, i < x.toNat → Zki (n.Arcs.getD i default) = true) (fun x => (n.Arcs.length - x).toNat) ⟨by omega, by omega, fun i hi => by omega⟩ (by unfold Z4q; omega) ?_)))
 rintro x ⟨h0, h1, h2⟩
 unfold Z17 Z3u Z7g
 refine Ok.ite.2 ⟨fun hx => ?_, fun hx => ?_⟩
 ·
  refine Ok.gd.2 ⟨(by omega), Ok.bind.2 (Ok.bind.2 (Ok.some.2 (Ok.some.2 (Ok.ite.2 ⟨fun hb => ?_, fun hb => ?_⟩))))⟩
  ·
   refine Ok.some.2 (Ok.some.2 (Ok.some.2 (Ok.some.2 ?_)))
   simp only [h0, decide_true, Bool.not_true]
   refine Eq.symm (Bool.eq_false_iff.2 fun hall => ?_)
   have := List.all_eq_true.1 hall _ (Z6r (show x.toNat < n.Arcs.length by omega) default)
   simp only [Zki] at this
   rw [this] at hb; cases hb
  ·
   refine Ok.gd.2 ⟨(by omega), Ok.some.2 ⟨⟨by omega, by omega, fun i hi => ?_⟩, by omega⟩⟩
   rcases Nat.lt_or_ge i x.toNat with h3 | h3
   · exact h2 i h3
   · rw [show i = x.toNat by omega]; simpa [Zki] using hb
 ·
  refine Ok.some.2 (Ok.some.2 (Ok.some.2 (Ok.some.2 ?_)))
  refine Eq.symm (List.all_eq_true.2 fun a ha => ?_)
  obtain ⟨i, hi, rfl⟩ := List.getElem_of_mem ha
  have := h2 i (by omega)
  rwa [List.getD_eq_getElem?_getD, List.getElem?_eq_getElem hi] at this
theorem s_Sum (n : Net) (h : lenok n.Arcs.length) : Za6 n = some (match Zde 4611686018427387904 n.Arcs with | some l => (4611686018427387904 - l, true) | none => (0, false)) := by
 refine Zf4 ?_
 unfold Za6
 refine Ok.bind.2 (Zgy (fun s => 0 ≤ s.2 ∧ s.2 ≤ n.Arcs.length ∧ 0 ≤ s.1 ∧ s.1 ≤ 4611686018427387904 ∧ Zde 4611686018427387904 n.Arcs = Zde s.1 (n.Arcs.drop s.2.toNat)) (fun s => (n.Arcs.length - s.2).toNat) ⟨by simp, by simp, by simp, by simp, by simp⟩ (by unfold Z4q; simp; omega) ?_)
 rintro ⟨left, x⟩ ⟨h0, h1, h2, h3, h4⟩
 simp only at h0 h1 h2 h3 h4 ⊢
 unfold Z6v Z6w
 refine Ok.ite.2 ⟨fun hx => ?_, fun hx => ?_⟩
 ·
  rw [Zh8 (by omega)] at h4
  refine Ok.gd.2 ⟨(by omega), Ok.ite.2 ⟨fun hb => ?_, fun hb => ?_⟩⟩
  ·
   rw [if_pos rfl]
   refine Ok.some.2 (Ok.some.2 ?_)
   rw [h4, if_pos (.inl hb)]
  ·
   by_cases hc : left < (n.Arcs.getD x.toNat default).cap
   ·
    rw [if_pos (decide_eq_true hc)]
    refine Ok.some.2 (Ok.some.2 ?_)
    rw [h4, if_pos (.inr hc)]
   ·
    rw [if_neg (by simpa using hc)]
    refine Ok.gd.2 ⟨(by omega), Ok.gd.2 ⟨(by omega), Ok.some.2 ⟨⟨by simp only; omega, by simp only; omega, by simp only; omega, by simp only; omega, ?_⟩, by simp only; omega⟩⟩⟩
    rw [h4, if_neg (by omega)]
    simp only
    rw [show (x + 1).toNat = x.toNat + 1 by omega]
 ·
  unfold Z8i
  refine Ok.some.2 (Ok.gd.2 ⟨(by omega), Ok.some.2 ?_⟩)
  rw [h4, List.drop_eq_nil_of_le (by omega)]
  rfl
theorem Zm5 (n : Net) (h : lenok n.Arcs.length) : Z6h n = some (Z4h n.N n.S n.T n.Arcs) := by
 unfold Z6h Z9e Z5h Z5g Z7j Z7i Z7h Z7f Z6p
 rw [Zd5, Zd5, s_of4 n h, s_of5 n h, s_Sum n h]
 unfold Z4h
 simp only [Option.bind_some]
 by_cases h1 : 2 ≤ n.N ∧ n.N ≤ 4096
 ·
  rw [if_pos h1.1, if_neg (not_not_intro h1)]
  simp only [Option.bind_some, decide_eq_true h1.2, Bool.not_true, Bool.false_eq_true, if_false]
  by_cases h2 : (n.Arcs.length : Int) ≤ 16384
  ·
   rw [if_neg (by simp [h2]), if_neg (not_not_intro h2)]
   by_cases h3 : Z3f n.N n.S = true ∧ Z3f n.N n.T = true ∧ n.S ≠ n.T
   ·
    rw [if_pos h3.1, if_pos h3.2.1, if_neg (not_not_intro h3)]
    simp only [Option.bind_some, decide_eq_true h3.2.2, Bool.not_true, Bool.false_eq_true, if_false]
    cases h4 : n.Arcs.all (Z92 n.N)
    · simp
    ·
     cases h5 : n.Arcs.all Zki
     · simp
     · cases h6 : Zde 4611686018427387904 n.Arcs <;> simp
   ·
    rw [if_pos h3]
    by_cases a1 : Z3f n.N n.S = true
    ·
     by_cases a2 : Z3f n.N n.T = true
     ·
      have a3 : ¬ n.S ≠ n.T := fun e => h3 ⟨a1, a2, e⟩
      simp [a1, a2, a3]
     · simp [a1, a2]
    · simp [a1]
  · rw [if_pos (by simp [h2]), if_pos h2]
 ·
  rw [if_pos h1]
  by_cases a1 : 2 ≤ n.N
  ·
   have a2 : ¬ n.N ≤ 4096 := fun e => h1 ⟨a1, e⟩
   simp [a1, a2]
  · simp [a1]
end Go.Acq
namespace Go.Acq
open Go
set_option linter.unusedSimpArgs false
structure NetIn (n : Net) : Prop where
  nN : i64ok n.N
  nS : i64ok n.S
  nT : i64ok n.T
  arcs : ∀ a, a ∈ n.Arcs → i64ok a.fr ∧ i64ok a.to ∧ i64ok a.cap
  len : n.Arcs.length ≤ 9223372036854775807
structure Made (n : Net) (v a : Int) : Prop where
  check : Z4h n.N n.S n.T n.Arcs = 0
  rows : SomeAt n.N.toNat n.Arcs
  verts : n.N ≤ v
  arcs : (n.Arcs.length : Int) ≤ a
  ends : 2 ≤ n.N ∧ 0 ≤ n.S ∧ n.S < n.N ∧ 0 ≤ n.T ∧ n.T < n.N ∧ n.S ≠ n.T
theorem Made.nat {n : Net} {v a : Int} (h : Made n v a) : ∃ m : Nat, n.N = m ∧ SomeAt m n.Arcs := ⟨n.N.toNat, by have := h.ends.1; omega, h.rows⟩
theorem Made.caps {n : Net} {m : Nat} (h : SomeAt m n.Arcs) : ∀ i, i < n.Arcs.length → 0 ≤ (n.Arcs.getD i default).cap ∧ (n.Arcs.getD i default).cap < 1125899906842624 := fun _ hi => (h _ (Z6r hi default)).2
theorem s_Some {n : Net} {v a : Int} (h : NetIn n) (hv0 : 2 ≤ v) (hv1 : v ≤ 4096) (ha0 : 0 ≤ a) (ha1 : a ≤ 4096) : Ok (Z41 n v a) (fun r => Made r v a) := by
 have hN := Z84 (x := n.N) (n := v - 1) (by omega)
 unfold Z41
 refine Ok.gd.2 ⟨(by omega), Ok.bind.2 (Z8a (Zdg (by omega)) (Ok.gd.2 ⟨(by omega), ?_⟩))⟩
 obtain ⟨m, hm⟩ : ∃ m : Nat, 2 + Zdw n.N (v - 1) = m := ⟨(2 + Zdw n.N (v - 1)).toNat, by omega⟩
 rw [hm]
 have hS := Z84 (x := n.S) (n := (m : Int)) (by omega)
 have hT := Z84 (x := n.T) (n := (m : Int)) (by omega)
 refine Ok.bind.2 (Z8a (Zdg (by omega)) (Ok.bind.2 (Z8a (Zdg (by omega)) ?_)))
 have key : ∀ t : Int, 0 ≤ t → t < m → t ≠ Zdw n.S m → Ok (Z2k n a (Zdw n.N (v - 1)) (Zdw n.S m) t) (fun r => Made r v a) := by
  intro t t0 t1 t2
  unfold Z2k
  refine Ok.gd.2 ⟨(by omega), Ok.bind.2 ?_⟩
  obtain ⟨q, hq⟩ : ∃ q : Nat, min (n.Arcs.length : Int) a = q := ⟨(min (n.Arcs.length : Int) a).toNat, by omega⟩
  obtain ⟨al, hal⟩ : ∃ l, l = n.Arcs.take (q : Int).toNat := ⟨_, rfl⟩
  have hlen : al.length = q := by rw [hal, List.length_take]; omega
  have hcap : ∀ b, b ∈ al → i64ok b.cap := fun b hb => (h.arcs b (List.mem_of_mem_take (by rw [← hal]; exact hb))).2.2
  refine Z9s (fun s => ∃ k : Nat, s.2 = k ∧ k ≤ q ∧ s.1.length = k ∧ SomeAt m s.1) (fun s => (q - s.2).toNat) ⟨0, rfl, by omega, rfl, fun b hb => by cases hb⟩ (by unfold Z4q; simp only; omega) ?_
  rintro ⟨ol, x⟩ ⟨k, h1, h2, h3, h4⟩ P next exit
  simp only at h1 h2 h3 h4 next ⊢
  subst h1
  unfold Z33
  rw [hq, ← hal]
  simp only [Int.toNat_natCast]
  refine Ok.ite.2 ⟨fun hx => ?_, fun hx => ?_⟩
  ·
   have hkl : k < al.length := by omega
   have hc := hcap _ (Z6r hkl default)
   have hj : ∀ c : Int, 0 ≤ c → Ok (Z2j n a (Zdw n.N (v - 1)) ol k c) P := by
    intro c hc0
    unfold Z2j
    rw [hq, ← hal, hm]
    refine Ok.bind.2 (Z8a (Zdg (by omega)) (Ok.bind.2 (Z8a (Zdg (by omega)) (Ok.gd.2 ⟨?_, Ok.gd.2 ⟨(by omega), Ok.some.2 (next _ ⟨k + 1, by simp, by omega, by simp [h3], ?_⟩ (by simp only; omega))⟩⟩))))
    · rw [List.length_append, h3]; simp only [List.length_cons, List.length_nil]; constructor <;> omega
    · exact h4.put (Z84 (by omega)) (Z84 (by omega)) (Zk8 hc0 (by omega))
   refine Ok.gd.2 ⟨(by omega), Ok.ite.2 ⟨fun hn => ?_, fun hn => ?_⟩⟩
   · exact Ok.gd.2 ⟨by constructor <;> omega, Ok.gd.2 ⟨by constructor <;> omega, hj (-((al.getD k default).cap + 1)) (by omega)⟩⟩
   · exact hj (al.getD k default).cap (by omega)
  ·
   refine Ok.some.2 (exit _ ?_)
   unfold Z3w
   refine Ok.some.2 ?_
   rw [hm]
   exact ⟨Zk9 (by omega) (by omega) hS ⟨t0, t1⟩ t2 h4 (show ol.length ≤ 4096 by omega), by simpa using h4, by simp only; omega, by show (ol.length : Int) ≤ a; omega, ⟨by simp only; omega, hS.1, hS.2, t0, t1, fun e => t2 e.symm⟩⟩
 refine Ok.ite.2 ⟨fun he => ?_, fun he => ?_⟩
 ·
  refine Ok.gd.2 ⟨(by omega), Ok.gd.2 ⟨by omega, ?_⟩⟩
  obtain ⟨n1, n2, n3⟩ := next_ne hS.1 hS.2 (by omega)
  exact key _ n1 n2 n3
 · exact key _ hT.1 hT.2 (fun e => he e.symm)
theorem Zm2 {n : Net} {m : Nat} (hN : n.N = m) (hm : m ≤ 4096) (hl : n.Arcs.length ≤ 16384) (he : Z58 m n.Arcs) :
    Ok (Z64 n) (fun fs => fs.length = m + 1 ∧ ∀ u, u ≤ m → fs.getD u 0 = Z0s n.Arcs u) := by
  unfold Z64
  simp only [hN]
  refine Ok.gd.2 ⟨(by omega), Ok.gd.2 ⟨(by omega), Ok.bind.2 (Z9s (fun s => ∃ k : Nat, s.2 = k ∧ k ≤ n.Arcs.length ∧ Counted n.Arcs m k s.1) (fun s => (n.Arcs.length - s.2).toNat) ⟨0, rfl, by omega, Counted.start n.Arcs m (by omega)⟩ (by unfold Z4q; simp only; omega) ?_)⟩⟩
  rintro ⟨fs, x⟩ ⟨k, h1, h2, h3⟩ P next exit
  simp only at h1 h2 h3 next ⊢
  subst h1
  unfold Z4g
  simp only [Int.toNat_natCast]
  refine Ok.ite.2 ⟨fun hx => ?_, fun hx => ?_⟩
  · have hkl : k < n.Arcs.length := by omega
    have hfl := h3.1
    have e0 := he k hkl false
    have e1 := he k hkl true
    simp only [vtx, Bool.false_eq_true, if_false, if_true] at e0 e1
    have c0 := h3.2.2 _ e0.1 e0.2
    have c1 := h3.2.2 _ e1.1 e1.2
    have d0 := Zjo n.Arcs (n.Arcs.getD k default).fr.toNat k
    have d1 := Zjo n.Arcs (n.Arcs.getD k default).to.toNat k
    refine Ok.gd.2 ⟨(by omega), Ok.ite.2 ⟨fun hne => ?_, fun hne => ?_⟩⟩
    · have c2 : (fs.set ((n.Arcs.getD k default).fr + 1).toNat (fs.getD ((n.Arcs.getD k default).fr + 1).toNat 0 + 1)).getD ((n.Arcs.getD k default).to + 1).toNat 0 = cnt n.Arcs (n.Arcs.getD k default).to.toNat k := by rw [Z42 (by omega)]; exact c1
      refine Ok.gd.2 ⟨(by omega), Ok.gd.2 ⟨(by omega), Ok.gd.2 ⟨(by omega), Ok.gd.2 ⟨(by omega), Ok.gd.2 ⟨(by omega), Ok.gd.2 ⟨(by simp only [List.length_set, List.length_replicate]; omega), Ok.gd.2 ⟨(by omega), Ok.gd.2 ⟨(by simp only [List.length_set, List.length_replicate]; omega), Ok.gd.2 ⟨(by omega), Ok.some.2 (next _ ⟨k + 1, by simp, by omega, ?_⟩ (by simp only; omega))⟩⟩⟩⟩⟩⟩⟩⟩⟩
      exact h3.put he hkl hne
    · refine Ok.gd.2 ⟨(by omega), Ok.some.2 (next _ ⟨k + 1, by simp, by omega, h3.skip (Classical.not_not.1 hne)⟩ (by simp only; omega))⟩
  · refine Ok.some.2 (exit _ ?_)
    have hk : k = n.Arcs.length := by omega
    subst hk
    unfold Z5k
    refine Ok.bind.2 (Z9s (fun s => ∃ v : Nat, s.2 = v ∧ v ≤ m ∧ Summed n.Arcs m v s.1) (fun s => (m - s.2).toNat) ⟨0, rfl, by omega, h3.summed⟩ (by unfold Z4q; simp only; omega) ?_)
    rintro ⟨gs, y⟩ ⟨v, g1, g2, g3⟩ P2 next2 exit2
    simp only at g1 g2 g3 next2 ⊢
    subst g1
    unfold Z4f
    simp only [hN, Int.toNat_natCast]
    have hgl := g3.1
    have b0 := g3.2.1 v (Nat.le_refl _)
    refine Ok.ite.2 ⟨fun hv => ?_, fun hv => ?_⟩
    · have b1 := g3.2.2 v (Nat.le_refl _) (by omega)
      have b2 := Z4y (al := n.Arcs) (v := v) (by omega) hl
      have b3 := Zjo n.Arcs v n.Arcs.length
      have b5 : ((v : Int) + 1).toNat = v + 1 := by omega
      simp only [b5]
      refine Ok.gd.2 ⟨(by omega), Ok.gd.2 ⟨(by omega), Ok.gd.2 ⟨(by omega), Ok.gd.2 ⟨(by omega), Ok.gd.2 ⟨(by omega), Ok.gd.2 ⟨(by omega), Ok.some.2 (next2 _ ⟨v + 1, by simp, by omega, ?_⟩ (by simp only; omega))⟩⟩⟩⟩⟩⟩
      exact g3.put (by omega) rfl
    · refine Ok.some.2 (exit2 _ ?_)
      unfold Z5j
      have : v = m := by omega
      subst this
      exact Ok.some.2 ⟨hgl, g3.2.1⟩
structure CsrIs (n : Net) (m : Nat) (c : Csr) : Prop where
  hN : c.N = m
  hS : c.S = n.S
  hT : c.T = n.T
  ok : CsrOK n.Arcs m c.First c.Head c.Rev c.Cap c.Arc c.Back
theorem s_Make {n : Net} {m : Nat} (hN : n.N = m) (hc : Z4h n.N n.S n.T n.Arcs = 0) (hl : lenok n.Arcs.length) :
    Ok (Z7r n) (fun r => CsrIs n m r.1 ∧ r.2 = 0) := by
  have hz := Z31 hc
  have hm : m ≤ 4096 := by omega
  have he : Z58 m n.Arcs := Zbr (by rw [← hN]; exact hz.2.2.2.1)
  unfold Z7r
  refine Ok.bind.2 (Z8a (Zm5 n hl) (Ok.ite.2 ⟨fun h => absurd hc h, fun _ => Ok.bind.2 (Ok.mono (Zm2 hN hm (by omega) he) ?_)⟩))
  rintro fs ⟨hfl, hfs⟩
  simp only [hN, Int.toNat_natCast, hfs m (Nat.le_refl _)]
  have hbs := Z4y (al := n.Arcs) (v := m) hm (by omega)
  unfold Z2e
  refine Ok.gd.2 ⟨(by omega), Ok.gd.2 ⟨(by omega), Ok.gd.2 ⟨(by omega), Ok.gd.2 ⟨(by omega), Ok.gd.2 ⟨(by omega), Ok.gd.2 ⟨(by omega), Ok.bind.2 (Ok.gd.2 ⟨(by omega), Ok.some.2 (Ok.bind.2 ?_)⟩)⟩⟩⟩⟩⟩⟩
  refine Z9s (fun s => ∃ k : Nat, s.2.2.2.2.2.2 = k ∧ k ≤ n.Arcs.length ∧ MakeAt n.Arcs m k s.2.2.2.2.2.1 s.1 s.2.1 s.2.2.1 s.2.2.2.1 s.2.2.2.2.1) (fun s => (n.Arcs.length - s.2.2.2.2.2.2).toNat) ⟨0, rfl, by omega, MakeAt.start hfl hfs⟩ (by unfold Z4q; simp only; omega) ?_
  rintro ⟨hs, rs, cs, aa, bs, nx, x⟩ ⟨k, h1, h2, h3⟩ P next exit
  simp only at h1 h2 h3 next ⊢
  subst h1
  unfold Z65
  simp only [Int.toNat_natCast]
  refine Ok.ite.2 ⟨fun hx => ?_, fun hx => ?_⟩
  · have hkl : k < n.Arcs.length := by omega
    refine Ok.gd.2 ⟨(by omega), Ok.ite.2 ⟨fun heq => ?_, fun hne => ?_⟩⟩
    · exact Ok.gd.2 ⟨(by omega), Ok.some.2 (next _ ⟨k + 1, by simp, by omega, h3.skip heq⟩ (by simp only; omega))⟩
    · have e0 := he k hkl false
      have e1 := he k hkl true
      have n0 := h3.at he hkl false
      have n1 := h3.at he hkl true
      have p0 : pos n.Arcs k false < Z0s n.Arcs m := Za4 hkl hne he
      have p1 : pos n.Arcs k true < Z0s n.Arcs m := Za4 hkl hne he
      simp only [vtx, Bool.false_eq_true, if_false, if_true] at e0 e1 n0 n1
      have hh := h3
      obtain ⟨⟨l0, l1, l2, l3, l4, l5⟩, _, _⟩ := h3
      unfold Z6y
      simp only [n0, Int.toNat_natCast]
      have n2 : (nx.set (n.Arcs.getD k default).fr.toNat ((pos n.Arcs k false : Int) + 1)).getD (n.Arcs.getD k default).to.toNat 0 = (pos n.Arcs k true : Nat) := by rw [Z42 (by omega)]; exact n1
      refine Ok.bind.2 (Ok.gd.2 ⟨(by omega), Ok.gd.2 ⟨(by omega), Ok.gd.2 ⟨(by omega), Ok.gd.2 ⟨(by omega), Ok.gd.2 ⟨(by omega), Ok.gd.2 ⟨(by omega), Ok.gd.2 ⟨(by omega), Ok.gd.2 ⟨(by omega), Ok.some.2 (Ok.bind.2 ?_)⟩⟩⟩⟩⟩⟩⟩⟩)
      simp only [n2, Int.toNat_natCast]
      refine Ok.gd.2 ⟨(by simp only [List.length_set, List.length_replicate]; omega), Ok.gd.2 ⟨(by simp only [List.length_set, List.length_replicate]; omega), Ok.gd.2 ⟨(by omega), Ok.gd.2 ⟨(by simp only [List.length_set, List.length_replicate]; omega), Ok.gd.2 ⟨(by simp only [List.length_set, List.length_replicate]; omega), Ok.gd.2 ⟨(by simp only [List.length_set, List.length_replicate]; omega), Ok.gd.2 ⟨(by simp only [List.length_set, List.length_replicate]; omega), Ok.gd.2 ⟨(by simp only [List.length_set, List.length_replicate]; omega), Ok.some.2 (Ok.gd.2 ⟨(by omega), Ok.gd.2 ⟨(by simp only [List.length_set, List.length_replicate]; omega), Ok.gd.2 ⟨(by omega), Ok.some.2 (next _ ⟨k + 1, by simp, by omega, ?_⟩ (by simp only; omega))⟩⟩⟩)⟩⟩⟩⟩⟩⟩⟩⟩
      exact hh.put he hkl hne
  · refine Ok.some.2 (exit _ ?_)
    unfold Z7l
    have hk : k = n.Arcs.length := by omega
    subst hk
    exact Ok.some.2 ⟨⟨hN, rfl, rfl, h3.done hfl hfs⟩, rfl⟩
theorem s_Res {c : Csr} {f : List Int} {L : Nat} (hh : c.Head.length = L) (hc : c.Cap.length = L) (ha : c.Arc.length = L) (hb : c.Back.length = L) (hL : L ≤ 67108864)
    (h0 : ∀ j, j < L → 0 ≤ c.Arc.getD j 0) (h1 : ∀ j, j < L → 0 ≤ c.Cap.getD j 0 ∧ c.Cap.getD j 0 ≤ 9223372036854775807) :
    Ok (Za7 c f) (fun r => ((∀ j, j < L → Zin c.Arc c.Cap c.Back f j) ∧ r.2 = 0 ∧ ResAt c.Arc c.Cap c.Back f L L r.1) ∨ ((∃ j, j < L ∧ ¬Zin c.Arc c.Cap c.Back f j) ∧ r = ([], 20))) := by
  unfold Za7 Z90
  simp only [hh]
  refine Ok.bind.2 (Ok.some.2 (Ok.gd.2 ⟨(by omega), Ok.bind.2 (Z9s (fun s => ∃ k : Nat, s.2 = k ∧ k ≤ L ∧ ResAt c.Arc c.Cap c.Back f L k s.1) (fun s => (L - s.2).toNat) ⟨0, rfl, by omega, by simp, fun j hj => by omega⟩ (by unfold Z4q; simp only; omega) ?_)⟩))
  rintro ⟨rl, x⟩ ⟨k, g1, g2, g3⟩ P next exit
  simp only at g1 g2 g3 next ⊢
  subst g1
  unfold Z6x
  simp only [Int.toNat_natCast, List.length_replicate]
  have hrl := g3.1
  refine Ok.ite.2 ⟨fun hx => ?_, fun hx => ?_⟩
  · have hkl : k < L := by omega
    have a0 := h0 k hkl
    have c1 := h1 k hkl
    have bad : ¬Zin c.Arc c.Cap c.Back f k → P (.inr (.inl ([], 20))) := fun hr => exit _ (Ok.some.2 (.inr ⟨⟨k, hkl, hr⟩, rfl⟩))
    have step : ∀ v : Int, Zin c.Arc c.Cap c.Back f k → v = resV c.Arc c.Cap c.Back f k → Ok (gd (i64ok ((k : Int) + 1)) (some (.inl (rl.set k v, (k : Int) + 1)))) P := fun v hr hv =>
      Ok.gd.2 ⟨(by omega), Ok.some.2 (next _ ⟨k + 1, by simp, by omega, g3.put hkl hr hv⟩ (by simp only; omega))⟩
    refine Ok.gd.2 ⟨(by omega), Ok.ite.2 ⟨fun hk => ?_, fun hk => ?_⟩⟩
    · exact Ok.some.2 (bad fun hr => by have := hr.1; omega)
    · refine Ok.gd.2 ⟨(by omega), Ok.ite.2 ⟨fun hbk => ?_, fun hbk => ?_⟩⟩
      · exact Ok.gd.2 ⟨(by omega), Ok.gd.2 ⟨(by omega), step _ ⟨by omega, .inl hbk⟩ (by unfold resV; rw [if_pos hbk])⟩⟩
      · refine Ok.gd.2 ⟨(by omega), Ok.ite.2 ⟨fun hn => ?_, fun hn => ?_⟩⟩
        · unfold Z5s
          rw [if_pos rfl]
          exact Ok.some.2 (bad fun hr => by rcases hr.2 with h | h; exact hbk h; omega)
        · refine Ok.gd.2 ⟨(by omega), Ok.gd.2 ⟨(by omega), ?_⟩⟩
          unfold Z5s
          simp only [Int.toNat_natCast]
          refine Ok.ite.2 ⟨fun hd => ?_, fun hd => ?_⟩
          · have hd := of_decide_eq_true hd
            exact Ok.some.2 (bad fun hr => by rcases hr.2 with h | h; exact hbk h; omega)
          · have hd : ¬ c.Cap.getD k 0 < f.getD (c.Arc.getD k 0).toNat 0 := fun h => hd (decide_eq_true h)
            exact Ok.gd.2 ⟨(by omega), Ok.gd.2 ⟨(by omega), Ok.gd.2 ⟨(by omega), Ok.gd.2 ⟨(by omega), step _ ⟨by omega, .inr ⟨by omega, by omega⟩⟩ (by unfold resV; rw [if_neg hbk])⟩⟩⟩⟩
  · refine Ok.some.2 (exit _ ?_)
    unfold Z8j
    have : k = L := by omega
    subst this
    exact Ok.some.2 (.inl ⟨fun j hj => (g3.2 j hj).1, rfl, g3⟩)
def Zax (rs cs : List Int) (res : List Int) (j : Nat) : Prop :=
  0 ≤ res.getD j 0 ∧ res.getD j 0 ≤ max (cs.getD j 0) (cs.getD (rs.getD j 0).toNat 0) ∧ res.getD (rs.getD j 0).toNat 0 = max (cs.getD j 0) (cs.getD (rs.getD j 0).toNat 0) - res.getD j 0
def FlowK (al : List Arc) (a : Nat) (res : List Int) (k : Nat) (fl : List Int) : Prop :=
  fl.length = a ∧ ∀ i, fl.getD i 0 = if i < al.length ∧ (al.getD i default).fr ≠ (al.getD i default).to ∧ pos al i true < k then res.getD (pos al i true) 0 else 0
theorem s_over {l : List Int} {a : Int} (hl : lenok l.length) : Ok (Z1i l a) (fun r => r = decide (∃ j, j < l.length ∧ a ≤ l.getD j 0)) := by
 unfold Z1i Z26
 refine Ok.bind.2 (Ok.bind.2 (Z9s (fun x => ∃ k : Nat, x = k ∧ k ≤ l.length ∧ ∀ j, j < k → ¬ a ≤ l.getD j 0) (fun x => (l.length - x).toNat) ⟨0, rfl, by omega, fun j hj => by omega⟩ (by unfold Z4q; omega) ?_))
 rintro x ⟨k, rfl, g2, g3⟩ P next exit
 unfold Z1h Z8k
 simp only [Int.toNat_natCast]
 refine Ok.ite.2 ⟨fun hx => ?_, fun hx => ?_⟩
 ·
  refine Ok.gd.2 ⟨(by omega), Ok.bind.2 (Ok.some.2 (Ok.ite.2 ⟨fun hd => ?_, fun hd => ?_⟩))⟩
  ·
   have hd := of_decide_eq_true hd
   refine Ok.some.2 (exit _ (Ok.some.2 (Ok.some.2 ?_)))
   rw [decide_eq_true (show (0 : Int) ≤ k by omega)]
   exact (decide_eq_true ⟨k, by omega, hd⟩).symm
  ·
   refine Ok.gd.2 ⟨(by omega), Ok.some.2 (next _ ⟨k + 1, by simp, by omega, fun j hj => ?_⟩ (by omega))⟩
   rcases Nat.lt_or_ge j k with h | h
   · exact g3 j h
   · rw [show j = k by omega]; exact fun h => hd (decide_eq_true h)
 ·
  refine Ok.some.2 (exit _ (Ok.some.2 (Ok.some.2 ?_)))
  refine (decide_eq_false ?_).symm
  rintro ⟨j, hj, hja⟩
  exact g3 j (by omega) hja
end Go.Acq
namespace Go.Acq
open Go
set_option linter.unusedSimpArgs false
end Go.Acq
namespace Go.Acq
open Go
set_option linter.unusedSimpArgs false
def ex (al : List Arc) (f : List Int) (v : Int) : Nat → Int
  | 0 => 0
  | k + 1 => ex al f v k - (if (al.getD k default).fr = v then f.getD k 0 else 0) + (if (al.getD k default).to = v then f.getD k 0 else 0)
def tot (f : List Int) : Nat → Int
  | 0 => 0
  | k + 1 => tot f k + f.getD k 0
def part (al : List Arc) (f : List Int) (j : Int) : Nat → Int
  | 0 => 0
  | k + 1 => part al f j k - (if (al.getD k default).fr < j then f.getD k 0 else 0) + (if (al.getD k default).to < j then f.getD k 0 else 0)
theorem ex_le {al : List Arc} {f : List Int} (v : Int) {n : Nat} (h : ∀ i, i < n → 0 ≤ f.getD i 0) : ∀ k, k ≤ n → -tot f k ≤ ex al f v k ∧ ex al f v k ≤ tot f k
 | 0, _ => by simp [ex, tot]
 | k + 1, hk => by
  have ih := ex_le (al := al) v h k (by omega)
  have := h k hk
  simp only [ex, tot]
  split <;> split <;> omega
theorem Zg7 {f : List Int} {n : Nat} (h : ∀ i, i < n → 0 ≤ f.getD i 0) : ∀ j k, j ≤ k → k ≤ n → tot f j ≤ tot f k
  | j, 0, hj, _ => by have : j = 0 := by omega
                      subst this; exact Int.le_refl _
  | j, k + 1, hj, hk => by
    rcases Nat.lt_or_ge j (k + 1) with h1 | h1
    · have := Zg7 h j k (by omega) (by omega)
      have := h k hk
      simp only [tot]; omega
    · rw [show j = k + 1 by omega]; exact Int.le_refl _
theorem sumL_tot {f : List Int} : ∀ (al : List Arc) (left : Int) (k : Nat), (Zde left (al.drop k)).isSome = true → 0 ≤ left → k ≤ al.length → (∀ i, i < al.length → 0 ≤ f.getD i 0 ∧ f.getD i 0 ≤ (al.getD i default).cap) → tot f al.length - tot f k ≤ left := by
 intro al left k
 induction hn : al.length - k generalizing left k with
 | zero =>
  intro _ h0 hk _
  rw [show k = al.length by omega]; omega
 | succ n ih =>
  intro hs h0 hk hf
  have hkl : k < al.length := by omega
  rw [Zh8 hkl] at hs
  by_cases hc : (al.getD k default).cap < 0 ∨ left < (al.getD k default).cap
  · rw [if_pos hc] at hs; cases hs
  ·
   rw [if_neg hc] at hs
   have := ih (left - (al.getD k default).cap) (k + 1) (by omega) hs (by omega) (by omega) hf
   have hfk := hf k hkl
   simp only [tot] at this
   omega
def FwithinP (n : Net) (f : List Int) : Prop := Z4h n.N n.S n.T n.Arcs = 0 ∧ f.length = n.Arcs.length ∧ ∀ i, i < n.Arcs.length → 0 ≤ f.getD i 0 ∧ f.getD i 0 ≤ (n.Arcs.getD i default).cap
theorem FwithinP.tot {n : Net} {f : List Int} (h : FwithinP n f) : ∀ k, k ≤ n.Arcs.length → 0 ≤ tot f k ∧ tot f k ≤ 4611686018427387904 := by
 intro k hk
 have hz := Z31 h.1
 have h1 := sumL_tot (f := f) n.Arcs 4611686018427387904 0 (by simpa using hz.2.2.2.2.2) (by omega) (by omega) h.2.2
 have h2 := Zg7 (fun i hi => (h.2.2 i hi).1) k n.Arcs.length hk (Nat.le_refl _)
 have h3 := Zg7 (fun i hi => (h.2.2 i hi).1) 0 k (by omega) hk
 simp only [Acq.tot] at h1 h3
 omega
theorem Zm4 {n : Net} {f : List Int} (hl : lenok n.Arcs.length) : Ok (Z60 n f) (fun b => b = true ↔ FwithinP n f) := by
 unfold Z60
 refine Ok.bind.2 (Z8a (Zm5 n hl) (Ok.ite.2 ⟨fun h => Ok.some.2 ⟨fun h2 => (by cases h2), fun h2 => absurd h2.1 h⟩, fun h1 => Ok.ite.2 ⟨fun h => Ok.some.2 ⟨fun h2 => (by cases h2), fun h2 => absurd h2.2.1 (by omega)⟩, fun h2 => Ok.bind.2 ?_⟩⟩))
 have hz := Z31 (Classical.not_not.1 h1)
 refine Z9s (fun x => ∃ k : Nat, x = k ∧ k ≤ n.Arcs.length ∧ ∀ i, i < k → 0 ≤ f.getD i 0 ∧ f.getD i 0 ≤ (n.Arcs.getD i default).cap) (fun x => (n.Arcs.length - x).toNat) ⟨0, rfl, by omega, fun i hi => by omega⟩ (by unfold Z4q; omega) ?_
 rintro x ⟨k, rfl, hk, h3⟩ P next exit
 unfold Z4e
 simp only [Int.toNat_natCast]
 refine Ok.ite.2 ⟨fun hx => ?_, fun hx => ?_⟩
 ·
  refine Ok.gd.2 ⟨(by omega), Ok.gd.2 ⟨(by omega), Ok.ite.2 ⟨fun h => Ok.some.2 (exit _ (Ok.some.2 ⟨fun h2 => (by cases h2), fun h2 => by have := h2.2.2 k (by omega); omega⟩)), fun h4 => Ok.gd.2 ⟨(by omega), Ok.ite.2 ⟨fun h => Ok.some.2 (exit _ (Ok.some.2 ⟨fun h2 => (by cases h2), fun h2 => by have := h2.2.2 k (by omega); omega⟩)), fun h5 => Ok.gd.2 ⟨(by omega), Ok.some.2 (next _ ⟨k + 1, by simp, by omega, fun i hi => ?_⟩ (by omega))⟩⟩⟩⟩⟩⟩
  rcases Nat.lt_or_ge i k with h | h
  · exact h3 i h
  · rw [show i = k by omega]; omega
 ·
  refine Ok.some.2 (exit _ ?_)
  unfold Z5i
  exact Ok.some.2 ⟨fun _ => ⟨Classical.not_not.1 h1, by omega, fun i hi => h3 i (by omega)⟩, fun _ => rfl⟩
theorem Ziy {b : Bool} (h : ¬(!b) = true) : b = true := by cases b; exact absurd rfl h; rfl
def AllP (n : Net) (f : List Int) (so : Int → Prop) (but : List Int) : Prop := FwithinP n f ∧ ∀ v : Nat, v < n.N.toNat → so (ex n.Arcs f v n.Arcs.length) ∨ (v : Int) ∈ but
end Go.Acq
namespace Go.Acq
open Go
set_option linter.unusedSimpArgs false
theorem Z4x {α : Type} {xs ys : List α} {d : α} {i : Nat} (h : i < xs.length) : (xs ++ ys).getD i d = xs.getD i d := by
 rw [List.getD_eq_getElem?_getD, List.getElem?_append_left h, List.getD_eq_getElem?_getD]
theorem Za8 {α : Type} {xs ys : List α} {d : α} {i : Nat} (h : xs.length ≤ i) : (xs ++ ys).getD i d = ys.getD (i - xs.length) d := by
 rw [List.getD_eq_getElem?_getD, List.getElem?_append_right h, List.getD_eq_getElem?_getD]
theorem Zm7 {al : List Arc} {i v : Nat} {s : Bool} (hi : i < al.length) (hne : (al.getD i default).fr ≠ (al.getD i default).to) (h0 : 0 ≤ vtx (al.getD i default) s) (h1 : Z0s al v ≤ pos al i s) (h2 : pos al i s < Z0s al (v + 1)) : vtx (al.getD i default) s = v ∧ pos al i s = Z0s al v + cnt al v i := by
 obtain ⟨u, hu⟩ : ∃ u : Nat, vtx (al.getD i default) s = u := ⟨(vtx (al.getD i default) s).toNat, by omega⟩
 have hcl := Zcn (s := s) hi hne h0
 have hpos : pos al i s = Z0s al u + cnt al u i := by unfold pos; rw [hu, Int.toNat_natCast]
 rw [hu, Int.toNat_natCast] at hcl
 have hb1 : Z0s al (u + 1) = Z0s al u + cnt al u al.length := rfl
 have : u = v := by
  rcases Nat.lt_trichotomy u v with h | h | h
  · have := Z3d (al := al) (show u + 1 ≤ v by omega); omega
  · exact h
  · have := Z3d (al := al) (show v + 1 ≤ u by omega); omega
 subst this
 exact ⟨hu, hpos⟩
end Go.Acq
namespace Go.Acq
open Go
set_option linter.unusedSimpArgs false
def inS (c : List Bool) (v : Int) : Bool := c.getD v.toNat false
def CutR (n : Net) (c : List Bool) : Prop := Z4h n.N n.S n.T n.Arcs = 0 ∧ (c.length : Int) = n.N ∧ inS c n.S = true ∧ inS c n.T = false
def Zff (al : List Arc) (c : List Bool) : Nat → Int
  | 0 => 0
  | k + 1 => Zff al c k + (if inS c (al.getD k default).fr = true ∧ inS c (al.getD k default).to = false then (al.getD k default).cap else 0)
def acK (al : List Arc) (f : List Int) (c : List Bool) : Nat → Int
  | 0 => 0
  | k + 1 => acK al f c k + (if inS c (al.getD k default).fr = true ∧ inS c (al.getD k default).to = false then f.getD k 0 else 0) - (if inS c (al.getD k default).fr = false ∧ inS c (al.getD k default).to = true then f.getD k 0 else 0)
def Zk7 (al : List Arc) : Nat → Int
  | 0 => 0
  | k + 1 => Zk7 al k + (al.getD k default).cap
theorem Zix {al : List Arc} {c : List Bool} (h : ∀ i, i < al.length → 0 ≤ (al.getD i default).cap) : ∀ k, k ≤ al.length → 0 ≤ Zff al c k ∧ Zff al c k ≤ Zk7 al k
 | 0, _ => by simp [Zff, Zk7]
 | k + 1, hk => by
  have ih := Zix (c := c) h k (by omega)
  have := h k (by omega)
  simp only [Zff, Zk7]
  split <;> omega
theorem Zjc (al : List Arc) : ∀ k, k ≤ al.length → Zk7 al k = tot (al.map (·.cap)) k
 | 0, _ => rfl
 | k + 1, hk => by
  simp only [Zk7, tot, Zjc al k (by omega)]
  rw [List.getD_eq_getElem?_getD, List.getD_eq_getElem?_getD, List.getElem?_map, List.getElem?_eq_getElem (show k < al.length by omega)]; rfl
theorem Zmg {al : List Arc} {i : Nat} (hi : i < al.length) : (al.map (·.cap)).getD i 0 = (al.getD i default).cap := by
 rw [List.getD_eq_getElem?_getD, List.getD_eq_getElem?_getD, List.getElem?_map, List.getElem?_eq_getElem hi]; rfl
theorem Ziw {n : Net} (h : Z4h n.N n.S n.T n.Arcs = 0) (hc : ∀ i, i < n.Arcs.length → 0 ≤ (n.Arcs.getD i default).cap) : FwithinP n (n.Arcs.map (·.cap)) :=
 ⟨h, by simp, fun i hi => by rw [Zmg hi]; exact ⟨hc i hi, Int.le_refl _⟩⟩
theorem Zca {n : Net} (h : Z4h n.N n.S n.T n.Arcs = 0) : ∀ i, i < n.Arcs.length → 0 ≤ (n.Arcs.getD i default).cap := fun i hi => by
 have := List.all_eq_true.1 (Z31 h).2.2.2.2.1 _ (Z6r hi default)
 simpa [Zki] using this
theorem Zdc {n : Net} (h : Z4h n.N n.S n.T n.Arcs = 0) : ∀ k, k ≤ n.Arcs.length → 0 ≤ Zk7 n.Arcs k ∧ Zk7 n.Arcs k ≤ 4611686018427387904 := fun k hk => by
 rw [Zjc _ k hk]
 have := (Ziw h (Zca h)).tot k (by simpa using hk)
 exact this
theorem Zjn {n : Net} (h : Z4h n.N n.S n.T n.Arcs = 0) : ∃ m : Nat, n.N = m ∧ Z58 m n.Arcs := by
 have hz := Z31 h
 obtain ⟨m, hm⟩ : ∃ m : Nat, n.N = m := ⟨n.N.toNat, by omega⟩
 exact ⟨m, hm, Zbr (by rw [← hm]; exact hz.2.2.2.1)⟩
def Zav (al : List Arc) (f : List Int) (c : List Bool) (i : Nat) : Prop :=
  (inS c (al.getD i default).fr = true → inS c (al.getD i default).to = false → (al.getD i default).cap ≤ f.getD i 0) ∧ (inS c (al.getD i default).fr = false → inS c (al.getD i default).to = true → f.getD i 0 ≤ 0)
end Go.Acq
namespace Go.Acq
open Go
set_option linter.unusedSimpArgs false
inductive Reach (G : Nat → Nat → Prop) (s : Nat) : Nat → Prop
  | refl : Reach G s s
  | step {u v : Nat} : Reach G s u → G u v → Reach G s v
theorem Reach.trans {G : Nat → Nat → Prop} {a b c : Nat} (h : Reach G a b) (g : Reach G b c) : Reach G a c := by
 induction g with
 | refl => exact h
 | step _ h2 ih => exact .step ih h2
theorem Reach.flip {G : Nat → Nat → Prop} {a b : Nat} (h : Reach G a b) : Reach (fun u v => G v u) b a := by
 induction h with
 | refl => exact .refl
 | step _ h2 ih => exact Reach.trans (.step .refl h2) ih
theorem Reach.mono {G K : Nat → Nat → Prop} {a b : Nat} (h : Reach G a b) (hk : ∀ u v, G u v → K u v) : Reach K a b := by
 induction h with
 | refl => exact .refl
 | step _ h2 ih => exact .step ih (hk _ _ h2)
def tc (l : List Bool) : Nat → Nat
  | 0 => 0
  | k + 1 => tc l k + if l.getD k false = true then 1 else 0
theorem tc_le (l : List Bool) : ∀ k, tc l k ≤ k
 | 0 => Nat.le_refl _
 | k + 1 => by have := tc_le l k; simp only [tc]; split <;> omega
theorem Zh4 {l : List Bool} {i : Nat} (hi : i < l.length) (hf : l.getD i false = false) : ∀ k : Nat, tc (l.set i true) k = tc l k + (if i < k then 1 else 0)
 | 0 => by simp [tc]
 | k + 1 => by
  have ih := Zh4 hi hf k
  simp only [tc, ih, Zbn]
  by_cases c : i = k
  ·
   subst c
   rw [if_neg (show ¬ i < i by omega), if_pos (show i = i ∧ i < l.length from ⟨rfl, hi⟩), hf, if_pos rfl, if_pos (show i < i + 1 by omega)]; rfl
  ·
   rw [if_neg (show ¬(i = k ∧ i < l.length) from fun h => c h.1)]
   by_cases c2 : i < k
   · rw [if_pos c2, if_pos (show i < k + 1 by omega)]; omega
   · rw [if_neg c2, if_neg (show ¬ i < k + 1 by omega)]; omega
theorem Zil (n : Nat) : ∀ k, tc (List.replicate n false) k = 0
 | 0 => rfl
 | k + 1 => by simp only [tc, Zil n k, Z1m]; rfl
def g_s2 (c0 : Csr) (my : Int → Option Bool) (i25 : Int) (xs29 : List Bool) (row31 : List Int) (a41 : Int) : Option ((List Bool × List Int × Int) ⊕ (List Bool × List Int)) :=
  gd (inb i25 row31.length) <|
  gd (i64ok ((row31.getD i25.toNat 0) + 1)) <|
  gd (inb ((row31.getD i25.toNat 0) + 1) c0.First.length) <|
  if a41 < (c0.First.getD ((row31.getD i25.toNat 0) + 1).toNat 0) then
  (Option.bind (my a41) fun r46 =>
  if r46 = true then
  (gd (inb a41 c0.Head.length) <|
  Option.bind (Z82 (c0.Head.getD a41.toNat 0) xs29 row31) fun (r50, r51) =>
  gd (i64ok (a41 + 1)) <|
  some (.inl (r50, r51, (a41 + 1))))
  else
  gd (i64ok (a41 + 1)) <|
  some (.inl (xs29, row31, (a41 + 1))))
  else
  some (.inr (xs29, row31))
def g_s1 (c0 : Csr) (my : Int → Option Bool) (xs13 : List Bool) (row15 : List Int) (i25 : Int) : Option ((List Bool × List Int × Int) ⊕ (List Bool)) :=
  if i25 < (row15.length : Int) then
  (gd (inb i25 row15.length) <|
  gd (inb (row15.getD i25.toNat 0) c0.First.length) <|
  Option.bind (Z2o (fun s => g_s2 c0 my i25 s.1 s.2.1 s.2.2) Z4q (xs13, row15, (c0.First.getD (row15.getD i25.toNat 0).toNat 0))) fun (p2_0_0, p2_0_1) => gd (i64ok (i25 + 1)) <| some (.inl (p2_0_0, p2_0_1, (i25 + 1))))
  else
  some (.inr xs13)
def g_met (c0 : Csr) (from1 : Int) (my : Int → Option Bool) : Option (List Bool) :=
  gd (mkok c0.N) <|
  gd (inb from1 (List.replicate c0.N.toNat (false : Bool)).length) <|
  Option.bind (Z2o (fun s => g_s1 c0 my s.1 s.2.1 s.2.2) Z4q (((List.replicate c0.N.toNat (false : Bool)).set from1.toNat true), [from1], 0)) fun p1_0_0 => some p1_0_0
theorem g_To (c : Csr) (s : Int) (r : List Int) (d : Csr) : Z6q c s r d = g_met c s (fun a => Z8z a r d) := rfl
structure MetI (G : Nat → Nat → Prop) (s m : Nat) (xs : List Bool) (row : List Int) : Prop where
  len : xs.length = m
  nat : ∀ q, q < row.length → ∃ v : Nat, row.getD q 0 = v ∧ v < m ∧ xs.getD v false = true ∧ Reach G s v
  has : ∀ v, v < m → xs.getD v false = true → ∃ q, q < row.length ∧ row.getD q 0 = (v : Int)
  cnt : row.length = tc xs m
theorem MetI.le {G : Nat → Nat → Prop} {s m : Nat} {xs : List Bool} {row : List Int} (h : MetI G s m xs row) : row.length ≤ m := by rw [h.cnt]; exact tc_le _ _
theorem MetI.put {G : Nat → Nat → Prop} {s m v : Nat} {xs : List Bool} {row : List Int} (h : MetI G s m xs row) (hv : v < m) (hf : xs.getD v false = false) (hr : Reach G s v) : MetI G s m (xs.set v true) (row ++ [(v : Int)]) := by
 have hl := h.len
 refine ⟨by simp [hl], fun q hq => ?_, fun u hu hx => ?_, ?_⟩
 ·
  rw [List.length_append, List.length_singleton] at hq
  rcases Nat.lt_or_ge q row.length with h1 | h1
  ·
   obtain ⟨u, h2, h3, h4, h5⟩ := h.nat q h1
   refine ⟨u, by rw [Z4x h1]; exact h2, h3, ?_, h5⟩
   rw [Zbn]; split
   · rfl
   · exact h4
  ·
   refine ⟨v, ?_, hv, by rw [Zbn, if_pos ⟨rfl, by omega⟩], hr⟩
   rw [Za8 h1, show q - row.length = 0 by omega]; rfl
 ·
  rw [Zbn] at hx
  by_cases c : v = u
  ·
   refine ⟨row.length, by simp, ?_⟩
   rw [Za8 (Nat.le_refl _), Nat.sub_self, ← c]; rfl
  ·
   rw [if_neg (fun h => c h.1)] at hx
   obtain ⟨q, h1, h2⟩ := h.has u hu hx
   exact ⟨q, by rw [List.length_append]; omega, by rw [Z4x h1]; exact h2⟩
 · rw [List.length_append, List.length_singleton, Zh4 (by omega) hf, if_pos hv, h.cnt]
theorem s_met {n : Net} {m s : Nat} {c : Csr} {my : Int → Option Bool} {mb : Nat → Bool} (hc : CsrIs n m c) (he : Z58 m n.Arcs) (hm : m ≤ 4096) (hl : n.Arcs.length ≤ 16384) (hs : s < m) (hmy : ∀ j : Nat, j < Z0s n.Arcs m → my j = some (mb j)) :
    Ok (g_met c s my) (fun r => r.length = m ∧ ∀ v, v < m → (r.getD v false = true ↔ Reach (fun u w => ∃ j, Z0s n.Arcs u ≤ j ∧ j < Z0s n.Arcs (u + 1) ∧ mb j = true ∧ c.Head.getD j 0 = w) s v)) := by
  obtain ⟨G, hG⟩ : ∃ G : Nat → Nat → Prop, (fun (u w : Nat) => ∃ j, Z0s n.Arcs u ≤ j ∧ j < Z0s n.Arcs (u + 1) ∧ mb j = true ∧ c.Head.getD j 0 = (w : Int)) = G := ⟨_, rfl⟩
  rw [hG]
  have hbs := Z4y (al := n.Arcs) (v := m) hm hl
  have lf := hc.ok.lf
  have lh := hc.ok.lh
  have hf := hc.ok.hf
  unfold g_met
  rw [hc.hN]
  simp only [Int.toNat_natCast]
  refine Ok.gd.2 ⟨(by omega), Ok.gd.2 ⟨by rw [List.length_replicate]; constructor <;> omega, Ok.bind.2 ?_⟩⟩
  refine Z9s (fun st => ∃ k : Nat, st.2.2 = k ∧ k ≤ st.2.1.length ∧ MetI G s m st.1 st.2.1 ∧ st.1.getD s false = true ∧ ∀ q, q < k → ∀ w, w < m → G (st.2.1.getD q 0).toNat w → st.1.getD w false = true) (fun st => (m - st.2.2).toNat)
    ⟨0, rfl, by omega, ⟨by simp, fun q hq => ?_, fun v hv hx => ?_, ?_⟩, by rw [Zbn, if_pos ⟨rfl, by simpa using hs⟩], fun q hq => by omega⟩ (by unfold Z4q; simp only; omega) ?_
  · have : q = 0 := by simp at hq; exact hq
    subst this
    exact ⟨s, rfl, hs, by rw [Zbn, if_pos ⟨rfl, by simpa using hs⟩], .refl⟩
  · rw [Zbn] at hx
    by_cases c1 : s = v
    · exact ⟨0, by simp, by rw [← c1]; rfl⟩
    · rw [if_neg (fun h => c1 h.1), Z1m] at hx; cases hx
  · rw [Zh4 (by simpa using hs) (Z1m _ _ _), Zil, if_pos hs]; rfl
  rintro ⟨xs, row, x⟩ ⟨k, h1, hk, hI, hS, hP⟩ P next exit
  simp only at h1 hk hI hS hP next ⊢
  subst h1
  unfold g_s1
  have hle := hI.le
  simp only [Int.toNat_natCast]
  refine Ok.ite.2 ⟨fun hx => ?_, fun hx => Ok.some.2 (exit _ (Ok.some.2 ?_))⟩
  · obtain ⟨u, hu, hum, -, hur⟩ := hI.nat k (by omega)
    simp only [hu, Int.toNat_natCast, hf u (by omega)]
    refine Ok.gd.2 ⟨(by omega), Ok.gd.2 ⟨(by omega), Ok.bind.2 ?_⟩⟩
    have hmo := Z3d (al := n.Arcs) (show u ≤ u + 1 by omega)
    have hmo2 := Z3d (al := n.Arcs) (show u + 1 ≤ m by omega)
    refine Z9s (fun st => ∃ j : Nat, st.2.2 = j ∧ Z0s n.Arcs u ≤ j ∧ j ≤ Z0s n.Arcs (u + 1) ∧ MetI G s m st.1 st.2.1 ∧ st.1.getD s false = true ∧ k < st.2.1.length ∧ st.2.1.getD k 0 = u ∧ (∀ q, q < k → ∀ w, w < m → G (st.2.1.getD q 0).toNat w → st.1.getD w false = true) ∧
      ∀ i, Z0s n.Arcs u ≤ i → i < j → mb i = true → ∀ w : Nat, c.Head.getD i 0 = (w : Int) → st.1.getD w false = true) (fun st => (Z0s n.Arcs (u + 1) - st.2.2).toNat) ⟨_, rfl, Nat.le_refl _, hmo, hI, hS, by simp only; omega, hu, hP, fun i h1 h2 => by omega⟩ (by unfold Z4q; simp only; omega) ?_
    rintro ⟨ys, rw', y⟩ ⟨j, h1, hj0, hj1, hI2, hS2, hkl, hku, hP2, hA⟩ P2 next2 exit2
    simp only at h1 hI2 hS2 hkl hku hP2 hA next2 ⊢
    subst h1
    unfold g_s2
    have eu : ((u : Int) + 1).toNat = u + 1 := by omega
    have hle2 := hI2.le
    have hyl := hI2.len
    simp only [Int.toNat_natCast, hku, eu, hf (u + 1) (by omega)]
    refine Ok.gd.2 ⟨(by omega), Ok.gd.2 ⟨(by omega), Ok.gd.2 ⟨(by omega), Ok.ite.2 ⟨fun hy => ?_, fun hy => Ok.some.2 (exit2 _ ?_)⟩⟩⟩⟩
    · refine Ok.bind.2 (Z8a (hmy j (by omega)) (Ok.ite.2 ⟨fun hb => ?_, fun hb => ?_⟩))
      · obtain ⟨i, t, hi, hne, hp, q1, -, -, -, -⟩ := hc.ok.place (j := j) (by omega)
        have hv := he i hi (!t)
        obtain ⟨v, hvv⟩ : ∃ v : Nat, vtx (n.Arcs.getD i default) (!t) = v := ⟨(vtx (n.Arcs.getD i default) (!t)).toNat, by omega⟩
        rw [hvv] at q1 hv
        have hGu : G u v := by rw [← hG]; exact ⟨j, hj0, by omega, hb, q1⟩
        simp only [q1]
        refine Ok.gd.2 ⟨(by omega), Ok.bind.2 ?_⟩
        unfold Z82
        simp only [Int.toNat_natCast]
        refine Ok.gd.2 ⟨(by omega), Ok.ite.2 ⟨fun hn => ?_, fun hn => Ok.some.2 (Ok.gd.2 ⟨(by omega), Ok.some.2 (next2 _ ⟨j + 1, by simp, by omega, by omega, hI2, hS2, hkl, hku, hP2, fun i' h1 h2 h3 w hw => ?_⟩ (by simp only; omega))⟩)⟩⟩
        · have hn' : ys.getD v false = false := by simpa using hn
          have hI3 := hI2.put (by omega) hn' (.step hur hGu)
          have up : ∀ w, ys.getD w false = true → (ys.set v true).getD w false = true := fun w hw => by
            rw [Zbn]; split
            · rfl
            · exact hw
          refine Ok.gd.2 ⟨(by omega), Ok.gd.2 ⟨?_, Ok.some.2 (Ok.gd.2 ⟨(by omega), Ok.some.2 (next2 _ ⟨j + 1, by simp, by omega, by omega, hI3, up _ hS2, by rw [List.length_append]; omega, by rw [Z4x hkl]; exact hku, fun q hq w hw hg => ?_, fun i' h1 h2 h3 w hw => ?_⟩ (by simp only; omega))⟩)⟩⟩
          · rw [List.length_append, List.length_singleton]; constructor <;> omega
          · simp only at hg ⊢
            rw [Z4x (by omega)] at hg
            exact up w (hP2 q hq w hw hg)
          · simp only
            rcases Nat.lt_or_ge i' j with h4 | h4
            · exact up w (hA i' h1 h4 h3 w hw)
            · rw [show i' = j by omega, q1] at hw
              have : v = w := by omega
              subst this
              rw [Zbn, if_pos ⟨rfl, by omega⟩]
        · simp only
          rcases Nat.lt_or_ge i' j with h4 | h4
          · exact hA i' h1 h4 h3 w hw
          · rw [show i' = j by omega, q1] at hw
            have : v = w := by omega
            subst this
            simpa using hn
      · refine Ok.gd.2 ⟨(by omega), Ok.some.2 (next2 _ ⟨j + 1, by simp, by omega, by omega, hI2, hS2, hkl, hku, hP2, fun i' h1 h2 h3 w hw => ?_⟩ (by simp only; omega))⟩
        rcases Nat.lt_or_ge i' j with h4 | h4
        · exact hA i' h1 h4 h3 w hw
        · rw [show i' = j by omega] at h3; exact absurd h3 hb
    · obtain rfl : j = Z0s n.Arcs (u + 1) := by omega
      refine Ok.gd.2 ⟨(by omega), Ok.some.2 (next _ ⟨k + 1, by simp, by simp only; omega, hI2, hS2, fun q hq w hw hg => ?_⟩ (by simp only; omega))⟩
      simp only at hg ⊢
      rcases Nat.lt_or_ge q k with h4 | h4
      · exact hP2 q h4 w hw hg
      · rw [show q = k by omega, hku, Int.toNat_natCast, ← hG] at hg
        obtain ⟨i, h5, h6, h7, h8⟩ := hg
        exact hA i h5 h6 h7 w h8
  · obtain rfl : k = row.length := by omega
    refine ⟨hI.len, fun v hv => ⟨fun hx => ?_, fun hr => ?_⟩⟩
    · obtain ⟨q, hq, hqv⟩ := hI.has v hv hx
      obtain ⟨u, h1, h2, h3, h4⟩ := hI.nat q hq
      have : u = v := by omega
      subst this; exact h4
    · clear hv
      have : v < m ∧ xs.getD v false = true := by
        induction hr with
        | refl => exact ⟨hs, hS⟩
        | step _ hg ih =>
          obtain ⟨h1, h2⟩ := ih
          rename_i u w _
          have hw : w < m := by
            rw [← hG] at hg
            obtain ⟨i, h5, h6, h7, h8⟩ := hg
            have := Z3d (al := n.Arcs) (show u + 1 ≤ m by omega)
            obtain ⟨i', t, hi, hne, hp, q1, -, -, -, -⟩ := hc.ok.place (j := i) (by omega)
            have hv := he i' hi (!t)
            omega
          obtain ⟨q, hq, hqv⟩ := hI.has u h1 h2
          refine ⟨hw, hP q hq w hw ?_⟩
          rw [hqv, Int.toNat_natCast]; exact hg
      exact this.2
def Zd3 (n : Net) (f : List Int) (u v : Nat) : Prop := ∃ i, i < n.Arcs.length ∧ (n.Arcs.getD i default).fr ≠ (n.Arcs.getD i default).to ∧
  (((n.Arcs.getD i default).fr = u ∧ (n.Arcs.getD i default).to = v ∧ f.getD i 0 < (n.Arcs.getD i default).cap) ∨ ((n.Arcs.getD i default).to = u ∧ (n.Arcs.getD i default).fr = v ∧ 0 < f.getD i 0))
theorem s_left {n : Net} {f : List Int} (hl : lenok n.Arcs.length) : Ok (Z8y n f) (fun r => (FwithinP n f ∧ r.2.2 = 0 ∧ CsrIs n n.N.toNat r.1 ∧ ResAt r.1.Arc r.1.Cap r.1.Back f (Z0s n.Arcs n.N.toNat) (Z0s n.Arcs n.N.toNat) r.2.1) ∨ (¬FwithinP n f ∧ r.2.2 = 20)) := by
 unfold Z8y
 refine Ok.bind.2 (Ok.mono (Zm4 hl) fun b hb => Ok.ite.2 ⟨fun h => Ok.some.2 (.inr ⟨fun h2 => (by rw [hb.2 h2] at h; cases h), rfl⟩), fun h => ?_⟩)
 have hw := hb.1 (Ziy h)
 have hz := Z31 hw.1
 obtain ⟨m, hm, he⟩ := Zjn hw.1
 refine Ok.bind.2 (Ok.mono (s_Make hm hw.1 hl) ?_)
 rintro ⟨c, e⟩ ⟨hc, rfl⟩
 have hc : CsrIs n m c := hc
 simp only
 rw [if_neg (by simp)]
 have hbs := Z4y (al := n.Arcs) (v := m) (by omega) (by omega)
 have hcaps := Zca hw.1
 have hcapt : ∀ i, i < n.Arcs.length → (n.Arcs.getD i default).cap ≤ 4611686018427387904 := fun i hi => by
  have h1 := Zdc hw.1 (i + 1) hi
  have h2 := Zdc hw.1 i (by omega)
  simp only [Zk7] at h1
  omega
 refine Ok.bind.2 (Ok.mono (s_Res (L := Z0s n.Arcs m) hc.ok.lh hc.ok.lc hc.ok.la hc.ok.lb hbs hc.ok.aa0 fun j hj => ?_) ?_)
 ·
  obtain ⟨i, s, hi, hne, hp, q1, q2, q3, q4, q5⟩ := hc.ok.place hj
  have := hcaps i hi
  have := hcapt i hi
  rw [q3]; split <;> omega
 ·
  rintro ⟨r, e⟩ (⟨-, h1, h2⟩ | ⟨⟨j, hj, hbad⟩, -⟩)
  ·
   refine Ok.some.2 (.inl ⟨hw, h1, ?_, ?_⟩)
   · rw [hm, Int.toNat_natCast]; exact hc
   · rw [hm, Int.toNat_natCast]; exact h2
  ·
   exfalso
   obtain ⟨i, s, hi, hne, hp, q1, q2, q3, q4, q5⟩ := hc.ok.place hj
   refine hbad ?_
   unfold Zin
   rw [q3, q4, q5]
   have := hw.2.1
   refine ⟨by omega, ?_⟩
   cases s
   · right; simp only [Int.toNat_natCast, Bool.false_eq_true, if_false]; exact hw.2.2 i hi
   · exact .inl rfl
theorem Zhc {n : Net} {m : Nat} {c : Csr} {f r : List Int} (hc : CsrIs n m c) (he : Z58 m n.Arcs) (hr : ResAt c.Arc c.Cap c.Back f (Z0s n.Arcs m) (Z0s n.Arcs m) r) {i : Nat} {s : Bool} (hi : i < n.Arcs.length) (hne : (n.Arcs.getD i default).fr ≠ (n.Arcs.getD i default).to) :
    r.getD (pos n.Arcs i s) 0 = if s then f.getD i 0 else (n.Arcs.getD i default).cap - f.getD i 0 := by
  obtain ⟨z1, z2, z3, z4, z5⟩ := hc.ok.hat i hi hne s
  rw [(hr.2 _ (Za4 hi hne he)).2]
  unfold resV
  rw [z3, z4, z5]
  cases s <;> simp
theorem Zma {n : Net} {m : Nat} {c : Csr} {f r : List Int} (hc : CsrIs n m c) (he : Z58 m n.Arcs) (hr : ResAt c.Arc c.Cap c.Back f (Z0s n.Arcs m) (Z0s n.Arcs m) r) {u v : Nat} (hu : u < m) (t : Bool) :
    (∃ j, Z0s n.Arcs u ≤ j ∧ j < Z0s n.Arcs (u + 1) ∧ (decide (0 < r.getD (if t then (c.Rev.getD j 0).toNat else j) 0)) = true ∧ c.Head.getD j 0 = (v : Int)) ↔ (if t then Zd3 n f v u else Zd3 n f u v) := by
  have hmo := Z3d (al := n.Arcs) (show u + 1 ≤ m by omega)
  constructor
  · rintro ⟨j, h1, h2, h3, h4⟩
    obtain ⟨i, s, hi, hne, hp, q1, q2, q3, q4, q5⟩ := hc.ok.place (j := j) (by omega)
    have hv := he i hi s
    obtain ⟨p1, p2⟩ := Zm7 (v := u) hi hne hv.1 (by omega) (by omega)
    have h3 := of_decide_eq_true h3
    rw [q1] at h4
    have ha : (if t then (c.Rev.getD j 0).toNat else j) = pos n.Arcs i (if t then !s else s) := by
      cases t
      · exact hp.symm
      · show (c.Rev.getD j 0).toNat = _
        rw [q2, Int.toNat_natCast]; rfl
    rw [ha, Zhc hc he hr hi hne] at h3
    cases t <;> cases s <;> simp only [Bool.not_true, Bool.not_false, if_true, if_false, Bool.false_eq_true, vtx] at h3 h4 p1 ⊢
    · exact ⟨i, hi, hne, .inl ⟨p1, h4, by omega⟩⟩
    · exact ⟨i, hi, hne, .inr ⟨p1, h4, h3⟩⟩
    · exact ⟨i, hi, hne, .inr ⟨h4, p1, h3⟩⟩
    · exact ⟨i, hi, hne, .inl ⟨h4, p1, by omega⟩⟩
  · intro h
    have key : ∀ (i : Nat) (s : Bool), i < n.Arcs.length → (n.Arcs.getD i default).fr ≠ (n.Arcs.getD i default).to → vtx (n.Arcs.getD i default) s = (u : Int) → vtx (n.Arcs.getD i default) (!s) = (v : Int) → 0 < r.getD (pos n.Arcs i (if t then !s else s)) 0 →
        ∃ j, Z0s n.Arcs u ≤ j ∧ j < Z0s n.Arcs (u + 1) ∧ (decide (0 < r.getD (if t then (c.Rev.getD j 0).toNat else j) 0)) = true ∧ c.Head.getD j 0 = (v : Int) := by
      intro i s hi hne hu' hv' h0
      have hcl := Zcn (s := s) hi hne (by omega)
      have hpos : pos n.Arcs i s = Z0s n.Arcs u + cnt n.Arcs u i := by unfold pos; rw [hu', Int.toNat_natCast]
      rw [hu', Int.toNat_natCast] at hcl
      have hb1 : Z0s n.Arcs (u + 1) = Z0s n.Arcs u + cnt n.Arcs u n.Arcs.length := rfl
      obtain ⟨z1, z2, z3, z4, z5⟩ := hc.ok.hat i hi hne s
      refine ⟨pos n.Arcs i s, by omega, by omega, decide_eq_true ?_, by rw [z1]; exact hv'⟩
      rw [z2]
      cases t
      · simpa using h0
      · simpa using h0
    cases t
    · simp only [Bool.false_eq_true, if_false] at h key ⊢
      obtain ⟨i, hi, hne, ⟨a1, a2, a3⟩ | ⟨a1, a2, a3⟩⟩ := h
      · refine key i false hi hne (by simpa [vtx] using a1) (by simpa [vtx] using a2) ?_
        rw [Zhc hc he hr hi hne]; simp only [Bool.false_eq_true, if_false]; omega
      · refine key i true hi hne (by simpa [vtx] using a1) (by simpa [vtx] using a2) ?_
        rw [Zhc hc he hr hi hne]; simpa using a3
    · simp only [if_true] at h key ⊢
      obtain ⟨i, hi, hne, ⟨a1, a2, a3⟩ | ⟨a1, a2, a3⟩⟩ := h
      · refine key i true hi hne (by simpa [vtx] using a2) (by simpa [vtx] using a1) ?_
        rw [Zhc hc he hr hi hne]; simp only [Bool.not_true, Bool.false_eq_true, if_false]; omega
      · refine key i false hi hne (by simpa [vtx] using a2) (by simpa [vtx] using a1) ?_
        rw [Zhc hc he hr hi hne]; simpa using a3
theorem Zip {n : Net} {m : Nat} {f : List Int} (he : Z58 m n.Arcs) {G : Nat → Nat → Prop} {s : Nat} (hs : s < m) (h : ∀ u v, u < m → (G u v ↔ Zd3 n f v u)) {v : Nat} : Reach G s v ↔ Reach (Zd3 n f) v s := by
 have lt : ∀ {u w}, Zd3 n f u w → u < m ∧ w < m := by
  rintro u w ⟨i, hi, _, h1⟩
  have h0 := he i hi false
  have h2 := he i hi true
  simp only [vtx, Bool.false_eq_true, if_false, if_true] at h0 h2
  omega
 constructor
 ·
  intro hr
  have : v < m ∧ Reach (fun a b => Zd3 n f b a) s v := by
   induction hr with
   | refl => exact ⟨hs, .refl⟩
   | step _ hg ih => have ho := (h _ _ ih.1).1 hg; exact ⟨(lt ho).1, .step ih.2 ho⟩
  exact this.2.flip
 ·
  intro hr
  exact hr.flip.mono fun u w ho => (h u w (lt ho).2).2 ho
theorem s_To {n : Net} {f : List Int} (hl : lenok n.Arcs.length) : Ok (Zbm n f) (fun r => (FwithinP n f ∧ r.2 = 0 ∧ r.1.length = n.N.toNat ∧ ∀ v, v < n.N.toNat → (r.1.getD v false = true ↔ ¬Reach (Zd3 n f) v n.T.toNat)) ∨ (¬FwithinP n f ∧ r = ([], 20))) := by
 unfold Zbm
 refine Ok.bind.2 (Ok.mono (s_left hl) ?_)
 rintro ⟨c, r, e⟩ (⟨hw, h1, hc, hr⟩ | ⟨hw, h1⟩)
 rotate_left
 ·
  simp only at h1
  subst h1
  exact Ok.ite.2 ⟨fun _ => Ok.some.2 (.inr ⟨hw, rfl⟩), fun h => absurd (by omega) h⟩
 simp only at h1 hc hr
 subst h1
 simp only
 rw [if_neg (by simp)]
 have hz := Z31 hw.1
 simp only [Z3f, decide_eq_true_eq] at hz
 obtain ⟨m, hm, he⟩ := Zjn hw.1
 obtain ⟨t, ht⟩ : ∃ t : Nat, n.T = t := ⟨n.T.toNat, by omega⟩
 rw [hm, Int.toNat_natCast] at hc hr
 have hbs := Z4y (al := n.Arcs) (v := m) (by omega) (by omega)
 have hrl := hr.1
 have hlr := hc.ok.lr
 rw [g_To, ht]
 refine Ok.bind.2 (Ok.mono (s_met (mb := fun j => decide (0 < r.getD (c.Rev.getD j 0).toNat 0)) hc he (by omega) (by omega) (show t < m by omega) fun j hj => ?_) fun x hx => Ok.bind.2 ?_)
 ·
  unfold Z8z
  obtain ⟨i, s, hi, hne, hp, q1, q2, q3, q4, q5⟩ := hc.ok.place hj
  have hq : pos n.Arcs i (!s) < Z0s n.Arcs m := Za4 hi hne he
  simp only [Int.toNat_natCast, q2]
  rw [Z7e (by constructor <;> omega), Z7e (by constructor <;> omega)]
 have hxl := hx.1
 refine Z9s (fun s => ∃ k : Nat, s.2 = k ∧ k ≤ m ∧ s.1.length = m ∧ ∀ v, v < m → s.1.getD v false = if v < k then !x.getD v false else x.getD v false) (fun s => (m - s.2).toNat) ⟨0, rfl, by omega, hxl, fun v hv => by rw [if_neg (by omega)]⟩ (by unfold Z4q; simp only; omega) ?_
 rintro ⟨ys, y⟩ ⟨k, h1, hk, hyl, hy⟩ P next exit
 simp only at h1 hyl hy next ⊢
 subst h1
 unfold Z83
 simp only [Int.toNat_natCast]
 refine Ok.ite.2 ⟨fun h => Ok.gd.2 ⟨(by omega), Ok.gd.2 ⟨(by omega), Ok.gd.2 ⟨(by omega), Ok.some.2 (next _ ⟨k + 1, by simp, by omega, by simp [hyl], fun v hv => ?_⟩ (by simp only; omega))⟩⟩⟩, fun h => Ok.some.2 (exit _ ?_)⟩
 ·
  simp only [Zbn]
  by_cases c1 : k = v
  ·
   subst c1
   rw [if_pos ⟨rfl, by omega⟩, if_pos (by omega), hy k hv, if_neg (by omega)]
  ·
   rw [if_neg (fun h => c1 h.1), hy v hv]
   by_cases c2 : v < k
   · rw [if_pos c2, if_pos (by omega)]
   · rw [if_neg c2, if_neg (by omega)]
 ·
  obtain rfl : k = m := by omega
  unfold Z9f
  refine Ok.some.2 (.inl ⟨hw, rfl, by simp only [hm, Int.toNat_natCast]; exact hyl, fun v hv => ?_⟩)
  rw [hm, Int.toNat_natCast] at hv
  simp only
  rw [hy v hv, if_pos hv, Int.toNat_natCast]
  have h2 := (hx.2 v hv).trans (Zip he (by omega) fun u w hu => by simpa using Zma (v := w) hc he hr hu true)
  rw [← h2]
  cases x.getD v false <;> simp
end Go.Acq
namespace Go.Acq
open Go
set_option linter.unusedSimpArgs false
def Zcz (al : List Arc) (f : List Int) (c : List Bool) (j : Int) : Nat → Int
  | 0 => 0
  | k + 1 => Zcz al f c j k - (if (al.getD k default).fr < j ∧ inS c (al.getD k default).fr = false then f.getD k 0 else 0) + (if (al.getD k default).to < j ∧ inS c (al.getD k default).to = false then f.getD k 0 else 0)
theorem Zc6 {al : List Arc} {f : List Int} {c : List Bool} (j : Int) : ∀ k, Zcz al f c (j + 1) k = Zcz al f c j k + (if inS c j = false then ex al f j k else 0)
 | 0 => by simp [Zcz, ex]
 | k + 1 => by
  have ih := Zc6 (al := al) (f := f) (c := c) j k
  simp only [Zcz, ex, ih]
  have e1 : ∀ x : Int, (if x < j + 1 ∧ inS c x = false then f.getD k 0 else 0) = (if x < j ∧ inS c x = false then f.getD k 0 else 0) + (if x = j ∧ inS c j = false then f.getD k 0 else 0) := fun x => by
   by_cases h1 : x < j
   ·
    by_cases h3 : inS c x = false
    · rw [if_pos ⟨by omega, h3⟩, if_pos ⟨h1, h3⟩, if_neg (fun h => by omega)]; omega
    · rw [if_neg (fun h => h3 h.2), if_neg (fun h => h3 h.2), if_neg (fun h => by omega)]; omega
   ·
    by_cases h2 : x = j
    ·
     subst h2
     by_cases h3 : inS c x = false
     · rw [if_pos ⟨by omega, h3⟩, if_neg (fun h => h1 h.1), if_pos ⟨rfl, h3⟩]; omega
     · rw [if_neg (fun h => h3 h.2), if_neg (fun h => h3 h.2), if_neg (fun h => h3 h.2)]; omega
    · rw [if_neg (fun h => by omega), if_neg (fun h => by omega), if_neg (fun h => h2 h.1)]; omega
  rw [e1, e1]
  by_cases h : inS c j = false
  ·
   simp only [h, and_true, if_true]
   omega
  ·
   simp only [h, Bool.not_eq_false, and_false, if_false, ite_false, reduceCtorEq]
   omega
theorem Zc7 {al : List Arc} {f : List Int} {c : List Bool} {m : Nat} (he : Z58 m al) : ∀ k, k ≤ al.length → Zcz al f c 0 k = 0
 | 0, _ => rfl
 | k + 1, hk => by
  have h0 := he k hk false
  have h1 := he k hk true
  simp only [vtx, Bool.false_eq_true, if_false, if_true] at h0 h1
  simp only [Zcz, Zc7 he k (by omega)]
  rw [if_neg (fun h => by omega), if_neg (fun h => by omega)]; rfl
theorem Zdl {al : List Arc} {f : List Int} {c : List Bool} {m : Nat} (he : Z58 m al) : ∀ k, k ≤ al.length → Zcz al f c m k = acK al f c k
 | 0, _ => rfl
 | k + 1, hk => by
  have h0 := he k hk false
  have h1 := he k hk true
  simp only [vtx, Bool.false_eq_true, if_false, if_true] at h0 h1
  simp only [Zcz, acK, Zdl he k (by omega)]
  obtain ⟨A, hA⟩ : ∃ A, al.getD k default = A := ⟨_, rfl⟩
  obtain ⟨F, hF⟩ : ∃ F, f.getD k 0 = F := ⟨_, rfl⟩
  rw [hA] at h0 h1 ⊢
  rw [hF]
  cases a : inS c A.fr <;> cases b : inS c A.to <;> simp [h0.2, h1.2] <;> omega
theorem Zmj {al : List Arc} {f : List Int} {c : List Bool} (h : ∀ i, i < al.length → 0 ≤ f.getD i 0 ∧ f.getD i 0 ≤ (al.getD i default).cap) : ∀ k, k ≤ al.length → acK al f c k ≤ Zff al c k ∧ (acK al f c k = Zff al c k ↔ ∀ i, i < k → Zav al f c i)
 | 0, _ => ⟨Int.le_refl _, fun _ i hi => by omega, fun _ => rfl⟩
 | k + 1, hk => by
  obtain ⟨g1, g2⟩ := Zmj (c := c) h k (by omega)
  have hf := h k (by omega)
  have key : (∀ i, i < k + 1 → Zav al f c i) ↔ (∀ i, i < k → Zav al f c i) ∧ Zav al f c k :=
   ⟨fun hh => ⟨fun i hi => hh i (by omega), hh k (by omega)⟩, fun hh i hi => by
    rcases Nat.lt_or_ge i k with h1 | h1
    · exact hh.1 i h1
    · rw [show i = k by omega]; exact hh.2⟩
  rw [key, ← g2]
  simp only [acK, Zff, Zav]
  obtain ⟨A, hA⟩ : ∃ A, al.getD k default = A := ⟨_, rfl⟩
  obtain ⟨F, hF⟩ : ∃ F, f.getD k 0 = F := ⟨_, rfl⟩
  rw [hA, hF] at hf
  rw [hA, hF]
  cases a : inS c A.fr <;> cases b : inS c A.to <;> simp <;> omega
theorem Ziu {n : Net} {f : List Int} {c : List Bool} {m : Nat} (hm : n.N = m) (he : Z58 m n.Arcs) (hA : AllP n f (fun x => x = 0) [n.S, n.T]) (hc : CutR n c) : acK n.Arcs f c n.Arcs.length = ex n.Arcs f n.T n.Arcs.length := by
 have hz := Z31 hc.1
 simp only [Z3f, decide_eq_true_eq] at hz
 have hj : ∀ j : Nat, j ≤ m → Zcz n.Arcs f c j n.Arcs.length = if n.T < j then ex n.Arcs f n.T n.Arcs.length else 0 := by
  intro j
  induction j with
  | zero => intro _; rw [show ((0 : Nat) : Int) = 0 from rfl, Zc7 he _ (Nat.le_refl _), if_neg (by omega)]
  | succ j ih =>
   intro hj
   rw [Int.natCast_succ, Zc6, ih (by omega)]
   by_cases c1 : n.T = j
   · rw [← c1, if_neg (by omega), if_pos hc.2.2.2, if_pos (by omega)]; omega
   ·
    have hz : (if inS c j = false then ex n.Arcs f j n.Arcs.length else 0) = 0 := by
     by_cases c2 : inS c j = false
     ·
      rw [if_pos c2]
      rcases hA.2 j (by omega) with h7 | h7
      · exact h7
      ·
       simp only [List.mem_cons, List.not_mem_nil, or_false] at h7
       rcases h7 with h7 | h7
       · rw [h7, hc.2.2.1] at c2; cases c2
       · exact absurd h7.symm c1
     · rw [if_neg c2]
    rw [hz]
    by_cases c3 : n.T < j
    · rw [if_pos c3, if_pos (by omega)]; omega
    · rw [if_neg c3, if_neg (by omega)]; rfl
 have := hj m (Nat.le_refl _)
 rw [Zdl he _ (Nat.le_refl _), if_pos (by omega)] at this
 exact this
end Go.Acq
namespace Go.Acq
open Go
set_option linter.unusedSimpArgs false
def Z6f (g : Nat → Int) : Nat → Int
  | 0 => 0
  | k + 1 => Z6f g k + g k
theorem Zf9 {g h : Nat → Int} : ∀ {k : Nat}, (∀ i, i < k → g i = h i) → Z6f g k = Z6f h k
 | 0, _ => rfl
 | k + 1, e => by simp only [Z6f]; rw [Zf9 fun i hi => e i (by omega), e k (by omega)]
theorem Zga (g h : Nat → Int) : ∀ k, Z6f (fun i => g i + h i) k = Z6f g k + Z6f h k
 | 0 => rfl
 | k + 1 => by simp only [Z6f, Zga g h k]; omega
theorem Zlz {g : Nat → Int} {k : Nat} (h : ∀ i, i < k → g i = 0) : Z6f g k = 0 := by
 induction k with
 | zero => rfl
 | succ k ih => simp only [Z6f]; rw [ih fun i hi => h i (by omega), h k (by omega)]; rfl
theorem Z9d {g : Nat → Int} {i : Nat} : ∀ {k : Nat}, i < k → (∀ j, j < k → j ≠ i → g j = 0) → Z6f g k = g i
 | 0, h, _ => by omega
 | k + 1, h, e => by
  simp only [Z6f]
  by_cases c : i = k
  · subst c; rw [Zlz fun j hj => e j (by omega) (by omega)]; omega
  · rw [Z9d (show i < k by omega) fun j hj hne => e j (by omega) hne, e k (by omega) (fun h => c h.symm)]; omega
theorem Zdd {g h : Nat → Int} : ∀ {k : Nat}, (∀ i, i < k → g i ≤ h i) → Z6f g k ≤ Z6f h k
 | 0, _ => Int.le_refl _
 | k + 1, e => by
  have := Zdd (k := k) fun i hi => e i (by omega)
  have := e k (by omega)
  simp only [Z6f]; omega
theorem Zh6 {g : Nat → Int} {k : Nat} : ∀ {l : Nat}, k ≤ l → (∀ i, i < l → 0 ≤ g i) → Z6f g k ≤ Z6f g l
 | 0, h, _ => by rw [show k = 0 by omega]; exact Int.le_refl _
 | l + 1, h, e => by
  by_cases c : k = l + 1
  · subst c; exact Int.le_refl _
  ·
   have := Zh6 (show k ≤ l by omega) fun i hi => e i (by omega)
   have := e l (by omega)
   simp only [Z6f]; omega
theorem sumN_nn {g : Nat → Int} {k : Nat} (h : ∀ i, i < k → 0 ≤ g i) : 0 ≤ Z6f g k := Zh6 (Nat.zero_le k) h
def hd (c : Csr) (j : Nat) : Nat := (c.Head.getD j 0).toNat
def rv (c : Csr) (j : Nat) : Nat := (c.Rev.getD j 0).toNat
def fs (c : Csr) (v : Nat) : Nat := (c.First.getD v 0).toNat
def tl (c : Csr) (j : Nat) : Nat := hd c (rv c j)
def bk (c : Csr) (j : Nat) : Bool := c.Back.getD j false
def cp (c : Csr) (j : Nat) : Int := max (c.Cap.getD j 0) (c.Cap.getD (rv c j) 0)
structure Row (n : Net) (m L : Nat) (c : Csr) : Prop where
  is : CsrIs n m c
  chk : Z4h n.N n.S n.T n.Arcs = 0
  hm : n.N = m
  hL : Z0s n.Arcs m = L
section row
variable {n : Net} {m L : Nat} {c : Csr}
theorem Row.he (r : Row n m L c) : Z58 m n.Arcs := Zbr (by rw [← r.hm]; exact (Z31 r.chk).2.2.2.1)
theorem Row.bd (r : Row n m L c) : 2 ≤ m ∧ m ≤ 4096 ∧ n.Arcs.length ≤ 16384 ∧ L ≤ 67108864 := by
 have hz := Z31 r.chk
 have := r.hm
 have hb := Z4y (al := n.Arcs) (v := m) (by omega) (by omega)
 have := r.hL
 omega
theorem Row.ends (r : Row n m L c) : (∃ S : Nat, n.S = S ∧ c.S = S ∧ S < m) ∧ (∃ T : Nat, n.T = T ∧ c.T = T ∧ T < m) ∧ n.S ≠ n.T ∧ c.N = m := by
 have hz := Z31 r.chk
 simp only [Z3f, decide_eq_true_eq] at hz
 have h1 := r.hm
 have h2 := r.is.hS
 have h3 := r.is.hT
 exact ⟨⟨n.S.toNat, by omega, by omega, by omega⟩, ⟨n.T.toNat, by omega, by omega, by omega⟩, hz.2.2.1.2.2, r.is.hN⟩
theorem Row.caps (r : Row n m L c) : ∀ i, i < n.Arcs.length → 0 ≤ (n.Arcs.getD i default).cap ∧ (n.Arcs.getD i default).cap ≤ 4611686018427387904 := fun i hi => by
 have h0 := Zca r.chk i hi
 have h1 := Zdc r.chk (i + 1) hi
 have h2 := Zdc r.chk i (by omega)
 simp only [Zk7] at h1
 omega
theorem Row.lens (r : Row n m L c) : c.First.length = m + 1 ∧ c.Head.length = L ∧ c.Rev.length = L ∧ c.Cap.length = L ∧ c.Arc.length = L ∧ c.Back.length = L := by
 have h := r.is.ok
 rw [← r.hL]
 exact ⟨h.lf, h.lh, h.lr, h.lc, h.la, h.lb⟩
theorem Row.at (r : Row n m L c) {j : Nat} (hj : j < L) : ∃ i s, i < n.Arcs.length ∧ (n.Arcs.getD i default).fr ≠ (n.Arcs.getD i default).to ∧ pos n.Arcs i s = j ∧ c.Head.getD j 0 = (hd c j : Nat) ∧ (hd c j : Int) = vtx (n.Arcs.getD i default) (!s) ∧ (tl c j : Int) = vtx (n.Arcs.getD i default) s ∧
    c.Rev.getD j 0 = (rv c j : Nat) ∧ rv c j = pos n.Arcs i (!s) ∧ c.Cap.getD j 0 = (if s then 0 else (n.Arcs.getD i default).cap) ∧ c.Arc.getD j 0 = i ∧ bk c j = s := by
  obtain ⟨i, s, hi, hne, hp, q1, q2, q3, q4, q5⟩ := r.is.ok.place (by rw [r.hL]; exact hj)
  have hv := r.he i hi (!s)
  have hv2 := r.he i hi s
  have hr : rv c j = pos n.Arcs i (!s) := by unfold rv; rw [q2, Int.toNat_natCast]
  refine ⟨i, s, hi, hne, hp, by unfold hd; omega, by unfold hd; omega, ?_, by unfold rv; omega, hr, q3, q4, q5⟩
  unfold tl hd
  rw [hr, (r.is.ok.hat i hi hne (!s)).1, Bool.not_not]; omega
theorem Row.head (r : Row n m L c) {j : Nat} (hj : j < L) : c.Head.getD j 0 = (hd c j : Nat) ∧ hd c j < m := by
 obtain ⟨i, s, hi, hne, hp, q1, q2, q3, q4, q5, q6, q7, q8⟩ := r.at hj
 have hv := r.he i hi (!s)
 exact ⟨q1, by omega⟩
theorem Row.rev (r : Row n m L c) {j : Nat} (hj : j < L) : c.Rev.getD j 0 = (rv c j : Nat) ∧ rv c j < L ∧ rv c (rv c j) = j ∧ rv c j ≠ j := by
 obtain ⟨i, s, hi, hne, hp, q1, q2, q3, q4, q5, q6, q7, q8⟩ := r.at hj
 have hq : pos n.Arcs i (!s) < L := by rw [← r.hL]; exact Za4 hi hne r.he
 refine ⟨q4, by rw [q5]; exact hq, ?_, fun e => ?_⟩
 ·
  have := (r.is.ok.hat i hi hne (!s)).2.1
  rw [q5]; unfold rv; rw [this, Int.toNat_natCast, Bool.not_not, hp]
 ·
  have := (Z8r r.he hi hi hne hne (q5.symm.trans (e.trans hp.symm))).2
  cases s <;> cases this
theorem Row.tlh (r : Row n m L c) {j : Nat} (hj : j < L) : tl c j < m ∧ tl c (rv c j) = hd c j ∧ hd c (rv c j) = tl c j ∧ tl c j ≠ hd c j := by
 obtain ⟨i, s, hi, hne, hp, q1, q2, q3, q4, q5, q6, q7, q8⟩ := r.at hj
 have hv := r.he i hi s
 refine ⟨by omega, ?_, rfl, fun e => ?_⟩
 · unfold tl; rw [(r.rev hj).2.2.1]
 ·
  apply hne
  have : vtx (n.Arcs.getD i default) s = vtx (n.Arcs.getD i default) (!s) := by omega
  cases s <;> simpa [vtx, eq_comm] using this
theorem Row.back (r : Row n m L c) {j : Nat} (hj : j < L) : bk c (rv c j) = !bk c j := by
 obtain ⟨i, s, hi, hne, hp, q1, q2, q3, q4, q5, q6, q7, q8⟩ := r.at hj
 unfold bk at q8 ⊢
 rw [q5, (r.is.ok.hat i hi hne (!s)).2.2.2.2, q8]
theorem Row.first (r : Row n m L c) : (∀ v, v ≤ m → c.First.getD v 0 = (fs c v : Nat) ∧ fs c v = Z0s n.Arcs v) ∧ fs c 0 = 0 ∧ fs c m = L ∧ ∀ v, v < m → fs c v ≤ fs c (v + 1) ∧ fs c (v + 1) ≤ L := by
 have h : ∀ v, v ≤ m → c.First.getD v 0 = (fs c v : Nat) ∧ fs c v = Z0s n.Arcs v := fun v hv => by
  have := r.is.ok.hf v hv
  unfold fs; rw [this, Int.toNat_natCast]; exact ⟨rfl, rfl⟩
 refine ⟨h, by rw [(h 0 (by omega)).2]; rfl, by rw [(h m (Nat.le_refl _)).2]; exact r.hL, fun v hv => ?_⟩
 rw [(h v (by omega)).2, (h (v + 1) (by omega)).2, ← r.hL]
 exact ⟨Z3d (by omega), Z3d (by omega)⟩
theorem Row.range (r : Row n m L c) {j u : Nat} (hj : j < L) (hu : u < m) : (fs c u ≤ j ∧ j < fs c (u + 1)) ↔ tl c j = u := by
 obtain ⟨i, s, hi, hne, hp, q1, q2, q3, q4, q5, q6, q7, q8⟩ := r.at hj
 have hv := r.he i hi s
 have f1 := (r.first.1 u (by omega)).2
 have f2 := (r.first.1 (u + 1) (by omega)).2
 constructor
 ·
  rintro ⟨h1, h2⟩
  have := (Zm7 (v := u) hi hne hv.1 (by omega) (by omega)).1
  omega
 ·
  intro h
  have hcl := Zcn (s := s) hi hne hv.1
  have hpos : pos n.Arcs i s = Z0s n.Arcs (vtx (n.Arcs.getD i default) s).toNat + cnt n.Arcs (vtx (n.Arcs.getD i default) s).toNat i := rfl
  have e : (vtx (n.Arcs.getD i default) s).toNat = u := by omega
  rw [e] at hcl hpos
  have hb1 : Z0s n.Arcs (u + 1) = Z0s n.Arcs u + cnt n.Arcs u n.Arcs.length := rfl
  omega
theorem Row.cap (r : Row n m L c) {j : Nat} (hj : j < L) : 0 ≤ c.Cap.getD j 0 ∧ c.Cap.getD j 0 + c.Cap.getD (rv c j) 0 = cp c j ∧ cp c (rv c j) = cp c j ∧ 0 ≤ cp c j ∧ cp c j ≤ 4611686018427387904 ∧ (bk c j = true → c.Cap.getD j 0 = 0) := by
 obtain ⟨i, s, hi, hne, hp, q1, q2, q3, q4, q5, q6, q7, q8⟩ := r.at hj
 have hc := r.caps i hi
 have h2 : c.Cap.getD (rv c j) 0 = if (!s) then 0 else (n.Arcs.getD i default).cap := by rw [q5]; exact (r.is.ok.hat i hi hne (!s)).2.2.1
 have h3 := (r.rev hj).2.2.1
 unfold cp
 rw [h3, q6, h2, q8]
 cases s
 · simp only [Bool.not_false, if_true, Bool.false_eq_true, if_false, false_implies, and_true]; omega
 · simp only [Bool.not_true, if_true, Bool.false_eq_true, if_false, true_implies, and_true]; omega
theorem Row.cpPos (r : Row n m L c) {i : Nat} (hi : i < n.Arcs.length) (hne : (n.Arcs.getD i default).fr ≠ (n.Arcs.getD i default).to) (s : Bool) : cp c (pos n.Arcs i s) = (n.Arcs.getD i default).cap ∧ rv c (pos n.Arcs i s) = pos n.Arcs i (!s) ∧ pos n.Arcs i s < L := by
 have z := r.is.ok.hat i hi hne s
 have z2 := r.is.ok.hat i hi hne (!s)
 have hc := r.caps i hi
 have hr : rv c (pos n.Arcs i s) = pos n.Arcs i (!s) := by unfold rv; rw [z.2.1, Int.toNat_natCast]
 refine ⟨?_, hr, by rw [← r.hL]; exact Za4 hi hne r.he⟩
 unfold cp
 rw [hr, z.2.2.1, z2.2.2.1]
 cases s <;> simp only [Bool.not_true, Bool.not_false, if_true, Bool.false_eq_true, if_false] <;> omega
theorem Zm3 {S X : Type} {y : S → Int → Option (S ⊕ X)} {s0 : S} {u : Nat} (r : Row n m L c) (hu : u < m) (I : Nat → S → Prop) (J : X → Prop) (h0 : I (fs c u) s0)
    (hstep : ∀ j s, fs c u ≤ j → j < fs c (u + 1) → I j s → Ok (y s (j : Nat)) (fun t => match t with | .inl s' => I (j + 1) s' | .inr x => J x)) :
    Ok (Z4s y c (u : Nat) (.inl s0)) (fun t => match t with | .inl s => I (fs c (u + 1)) s | .inr x => J x) := by
  have lf := r.lens.1
  have b := r.bd
  have f1 := (r.first.1 u (by omega)).1
  have f2 := (r.first.1 (u + 1) (by omega)).1
  have f3 := r.first.2.2.2 u hu
  have e1 : ((u : Int) + 1).toNat = u + 1 := by omega
  unfold Z4s
  simp only [Int.toNat_natCast, f1]
  refine Ok.gd.2 ⟨(by omega), Ok.bind.2 (Z9s (fun s => ∃ (k : Nat) (st : S), s = ((k : Int), Sum.inl st) ∧ fs c u ≤ k ∧ k ≤ fs c (u + 1) ∧ I k st) (fun s => (fs c (u + 1) - s.1).toNat) ⟨fs c u, s0, rfl, Nat.le_refl _, f3.1, h0⟩ (by unfold Z4q; simp only; omega) ?_)⟩
  rintro s ⟨k, st, rfl, hk0, hk, hI⟩ P next exit
  unfold Z4r
  simp only [Int.toNat_natCast, e1, f2]
  refine Ok.gd.2 ⟨(by omega), Ok.gd.2 ⟨(by omega), Ok.ite.2 ⟨fun hx => ?_, fun hx => Ok.some.2 (exit _ (Ok.some.2 ?_))⟩⟩⟩
  · refine Ok.bind.2 ?_
    show Ok (y st _) _
    refine Ok.mono (hstep k st hk0 (by omega) hI) ?_
    rintro (s' | x) hr
    · exact Ok.ite.2 ⟨fun h => by simp at h, fun _ => Ok.gd.2 ⟨(by omega), Ok.some.2 (next _ ⟨k + 1, s', by simp, by omega, by omega, hr⟩ (by simp only; omega))⟩⟩
    · exact Ok.ite.2 ⟨fun _ => Ok.some.2 (exit _ (Ok.some.2 hr)), fun h => by simp at h⟩
  · obtain rfl : k = fs c (u + 1) := by omega
    exact hI
def flN (al : List Arc) (R : List Int) : List Int := (List.range al.length).map fun i => if (al.getD i default).fr = (al.getD i default).to then 0 else R.getD (pos al i true) 0
theorem Zmh (al : List Arc) (R : List Int) : (flN al R).length = al.length := by simp [flN]
theorem Z9h {al : List Arc} {R : List Int} {i : Nat} (h : i < al.length) : (flN al R).getD i 0 = if (al.getD i default).fr = (al.getD i default).to then 0 else R.getD (pos al i true) 0 := by
 unfold flN
 rw [List.getD_eq_getElem?_getD, List.getElem?_map, List.getElem?_range h]; rfl
structure ResOK (n : Net) (m L : Nat) (c : Csr) (R X : List Int) : Prop where
  lr : R.length = L
  lx : X.length = m
  res : ∀ j, j < L → 0 ≤ R.getD j 0 ∧ R.getD j 0 + R.getD (rv c j) 0 = cp c j
  ex : ∀ v : Nat, v < m → X.getD v 0 = ex n.Arcs (flN n.Arcs R) v n.Arcs.length
theorem Zkb {R : List Int} (r : Row n m L c) (h : ∀ j, j < L → 0 ≤ R.getD j 0 ∧ R.getD j 0 + R.getD (rv c j) 0 = cp c j) : FwithinP n (flN n.Arcs R) := by
 refine ⟨r.chk, Zmh _ _, fun i hi => ?_⟩
 rw [Z9h hi]
 have hc := r.caps i hi
 by_cases e : (n.Arcs.getD i default).fr = (n.Arcs.getD i default).to
 · rw [if_pos e]; omega
 ·
  rw [if_neg e]
  obtain ⟨a1, a2, a3⟩ := r.cpPos hi e true
  have h1 := h _ a3
  have h2 := h _ (r.rev a3).2.1
  omega
theorem ResOK.within {R X : List Int} (h : ResOK n m L c R X) (r : Row n m L c) : FwithinP n (flN n.Arcs R) := Zkb r h.res
theorem Zls {f : List Int} (hw : FwithinP n f) (v : Int) : -4611686018427387904 ≤ ex n.Arcs f v n.Arcs.length ∧ ex n.Arcs f v n.Arcs.length ≤ 4611686018427387904 := by
 have := ex_le (al := n.Arcs) v (fun i hi => (hw.2.2 i hi).1) n.Arcs.length (Nat.le_refl _)
 have := hw.tot n.Arcs.length (Nat.le_refl _)
 omega
theorem ResOK.bnd {R X : List Int} (h : ResOK n m L c R X) (r : Row n m L c) {v : Nat} (hv : v < m) : -4611686018427387904 ≤ X.getD v 0 ∧ X.getD v 0 ≤ 4611686018427387904 := by
 rw [h.ex v hv]; exact Zls (h.within r) v
theorem ResOK.rle {R X : List Int} (h : ResOK n m L c R X) (r : Row n m L c) {j : Nat} (hj : j < L) : 0 ≤ R.getD j 0 ∧ R.getD j 0 ≤ cp c j ∧ R.getD j 0 ≤ 4611686018427387904 := by
 have h1 := h.res j hj
 have h2 := h.res _ (r.rev hj).2.1
 have h3 := r.cap hj
 omega
def mvR (c : Csr) (R : List Int) (j : Nat) (d : Int) : List Int := (R.set j (R.getD j 0 - d)).set (rv c j) (R.getD (rv c j) 0 + d)
def mvX (c : Csr) (X : List Int) (j : Nat) (d : Int) : List Int := (X.set (tl c j) (X.getD (tl c j) 0 - d)).set (hd c j) (X.getD (hd c j) 0 + d)
theorem Z8e {R : List Int} {j k : Nat} {d : Int} (r : Row n m L c) (hl : R.length = L) (hj : j < L) : (mvR c R j d).getD k 0 = if k = rv c j then R.getD (rv c j) 0 + d else if k = j then R.getD j 0 - d else R.getD k 0 := by
 have := r.rev hj
 unfold mvR
 rw [Zbn, Zbn, List.length_set]
 by_cases c1 : k = rv c j
 · rw [if_pos ⟨c1.symm, by omega⟩, if_pos c1]
 ·
  rw [if_neg fun h => c1 h.1.symm, if_neg c1]
  by_cases c2 : k = j
  · rw [if_pos ⟨c2.symm, by omega⟩, if_pos c2]
  · rw [if_neg fun h => c2 h.1.symm, if_neg c2]
theorem Zal {X : List Int} {j k : Nat} {d : Int} (r : Row n m L c) (hl : X.length = m) (hj : j < L) : (mvX c X j d).getD k 0 = X.getD k 0 - (if tl c j = k then d else 0) + (if hd c j = k then d else 0) := by
 have h1 := r.tlh hj
 have h2 := r.head hj
 unfold mvX
 rw [Zbn, Zbn, List.length_set]
 by_cases c1 : hd c j = k
 ·
  subst c1
  rw [if_pos ⟨rfl, by omega⟩, if_neg h1.2.2.2, if_pos rfl]; omega
 ·
  rw [if_neg fun h => c1 h.1]
  by_cases c2 : tl c j = k
  ·
   subst c2
   rw [if_pos ⟨rfl, by omega⟩, if_pos rfl, if_neg c1]; omega
  · rw [if_neg fun h => c2 h.1, if_neg c2, if_neg c1]; omega
theorem ex_bump {al : List Arc} {f g : List Int} {i : Nat} {δ : Int} {K : Nat} (v : Int) (hi : i < K) (h : ∀ k, k < K → g.getD k 0 = f.getD k 0 + if k = i then δ else 0) :
    ex al g v K = ex al f v K + ((if (al.getD i default).to = v then δ else 0) - (if (al.getD i default).fr = v then δ else 0)) := by
  have key : ∀ k, k ≤ K → ex al g v k = ex al f v k + if i < k then ((if (al.getD i default).to = v then δ else 0) - (if (al.getD i default).fr = v then δ else 0)) else 0 := by
    intro k
    induction k with
    | zero => intro _; rw [if_neg (by omega)]; rfl
    | succ k ih =>
      intro hk
      simp only [ex]
      rw [ih (by omega), h k (by omega)]
      by_cases e : k = i
      · subst e
        rw [if_neg (show ¬ k < k by omega), if_pos rfl, if_pos (show k < k + 1 by omega)]
        split <;> split <;> omega
      · rw [if_neg e]
        by_cases e2 : i < k
        · rw [if_pos e2, if_pos (show i < k + 1 by omega)]; simp only [Int.add_zero]; omega
        · rw [if_neg e2, if_neg (show ¬ i < k + 1 by omega)]; simp only [Int.add_zero]
  rw [key K (Nat.le_refl _), if_pos hi]
theorem ResOK.move {R X : List Int} {j : Nat} {d : Int} (h : ResOK n m L c R X) (r : Row n m L c) (hj : j < L) (d0 : 0 ≤ d) (d1 : d ≤ R.getD j 0) : ResOK n m L c (mvR c R j d) (mvX c X j d) := by
 have hr := r.rev hj
 have hlr := h.lr
 have hlx := h.lx
 refine ⟨by simp [mvR, hlr], by simp [mvX, hlx], fun k hk => ?_, fun v hv => ?_⟩
 ·
  have hk2 := r.rev hk
  have a := h.res k hk
  have a2 := h.res _ hr.2.1
  have a3 := h.res j hj
  have a4 := r.cap hj
  rw [Z8e r hlr hj, Z8e r hlr hj]
  by_cases c1 : k = rv c j
  ·
   subst c1
   rw [if_pos rfl, hr.2.2.1, if_neg fun e => hr.2.2.2 e.symm, if_pos rfl, a4.2.2.1]; omega
  ·
   by_cases c2 : k = j
   ·
    subst c2
    rw [if_neg c1, if_pos rfl, if_pos rfl]; omega
   ·
    have c3 : rv c k ≠ rv c j := fun e => c2 (by rw [← hk2.2.2.1, e, hr.2.2.1])
    have c4 : rv c k ≠ j := fun e => c1 (by rw [← e, hk2.2.2.1])
    rw [if_neg c1, if_neg c2, if_neg c3, if_neg c4]; exact a
 ·
  obtain ⟨i, s, hi, hne, hp, q1, q2, q3, q4, q5, q6, q7, q8⟩ := r.at hj
  rw [Zal r hlx hj, h.ex v hv, ex_bump (f := flN n.Arcs R) (g := flN n.Arcs (mvR c R j d)) (i := i) (δ := if s then -d else d) (v : Int) hi fun k hk => ?_]
  ·
   have t1 : (tl c j = v) ↔ vtx (n.Arcs.getD i default) s = (v : Int) := by rw [← q3]; omega
   have t2 : (hd c j = v) ↔ vtx (n.Arcs.getD i default) (!s) = (v : Int) := by rw [← q2]; omega
   simp only [t1, t2]
   cases s <;> simp only [vtx, Bool.not_false, Bool.not_true, if_true, if_false, Bool.false_eq_true] <;> split <;> split <;> omega
  ·
   rw [Z9h hk, Z9h hk]
   by_cases e : (n.Arcs.getD k default).fr = (n.Arcs.getD k default).to
   ·
    have : k ≠ i := fun e2 => by subst e2; exact hne e
    rw [if_pos e, if_pos e, if_neg this]; rfl
   ·
    rw [if_neg e, if_neg e, Z8e r hlr hj]
    by_cases e2 : k = i
    ·
     subst e2
     cases s
     ·
      have b1 : pos n.Arcs k true = rv c j := by rw [q5]; rfl
      rw [if_pos b1, if_pos rfl, b1]; rfl
     ·
      have b1 : pos n.Arcs k true ≠ rv c j := fun e3 => by rw [q5] at e3; have := (Z8r r.he hk hk e e e3).2; cases this
      rw [if_neg b1, if_pos hp, if_pos rfl, hp]; rfl
    ·
     have b1 : pos n.Arcs k true ≠ rv c j := fun e3 => by rw [q5] at e3; exact e2 (Z8r r.he hk hi e hne e3).1
     have b2 : pos n.Arcs k true ≠ j := fun e3 => by rw [← hp] at e3; exact e2 (Z8r r.he hk hi e hne e3).1
     rw [if_neg b1, if_neg b2, if_neg e2, Int.add_zero]
theorem s_move {p : Pre} {j : Nat} {d : Int} (r : Row n m L c) (h : ResOK n m L c p.Res p.Ex) (hj : j < L) (d0 : 0 ≤ d) (d1 : d ≤ p.Res.getD j 0) : Z8v c p (j : Nat) d = some ⟨mvR c p.Res j d, mvX c p.Ex j d, p.H⟩ := by
 refine Zf4 ?_
 obtain ⟨-, lh, lr, -, -, -⟩ := r.lens
 have h1 := r.head hj
 have h2 := r.rev hj
 have h3 := r.tlh hj
 have h4 := r.head h2.2.1
 have hlr := h.lr
 have hlx := h.lx
 have hm := h.move r hj d0 d1
 have b1 := h.bnd r h3.1
 have b2 := hm.bnd r h1.2
 have b3 := h.rle r hj
 have b4 := hm.rle r h2.2.1
 have b5 := h.rle r h2.2.1
 rw [Zal r hlx hj, if_neg h3.2.2.2, if_pos rfl] at b2
 rw [Z8e r hlr hj, if_pos rfl] at b4
 have e1 : (p.Res.set j (p.Res.getD j 0 - d)).getD (rv c j) 0 = p.Res.getD (rv c j) 0 := Z42 fun e => h2.2.2.2 e.symm
 have e2 : (p.Ex.set (tl c j) (p.Ex.getD (tl c j) 0 - d)).getD (hd c j) 0 = p.Ex.getD (hd c j) 0 := Z42 h3.2.2.2
 have e3 : c.Head.getD (rv c j) 0 = (tl c j : Nat) := h4.1
 unfold Z8v
 simp only [Int.toNat_natCast, h1.1, h2.1, e3, e1, e2, List.length_set, hlr, hlx, lh, lr]
 have i1 : inb (j : Int) L := by constructor <;> omega
 have i2 : inb ((rv c j : Nat) : Int) L := by constructor <;> omega
 have i3 : inb ((tl c j : Nat) : Int) m := by constructor <;> omega
 have i4 : inb ((hd c j : Nat) : Int) m := by constructor <;> omega
 have o1 : i64ok (p.Res.getD j 0 - d) := by constructor <;> omega
 have o2 : i64ok (p.Res.getD (rv c j) 0 + d) := by constructor <;> omega
 have o3 : i64ok (p.Ex.getD (tl c j) 0 - d) := by constructor <;> omega
 have o4 : i64ok (p.Ex.getD (hd c j) 0 + d) := by constructor <;> omega
 refine Ok.gd.2 ⟨i1, Ok.gd.2 ⟨i2, Ok.gd.2 ⟨i1, Ok.gd.2 ⟨o1, Ok.gd.2 ⟨i1, Ok.gd.2 ⟨i1, Ok.gd.2 ⟨i2, Ok.gd.2 ⟨o2, Ok.gd.2 ⟨i2, Ok.gd.2 ⟨i3, Ok.gd.2 ⟨o3, Ok.gd.2 ⟨i3, Ok.gd.2 ⟨i1, Ok.gd.2 ⟨i4, Ok.gd.2 ⟨o4, Ok.gd.2 ⟨i4, Ok.some.2 rfl⟩⟩⟩⟩⟩⟩⟩⟩⟩⟩⟩⟩⟩⟩⟩⟩
theorem Zdf {xs : List Int} (h : xs.length ≤ 1000000000) : Z21 xs = some xs := by
 refine Zf4 ?_
 unfold Z21
 exact Ok.gd.2 ⟨by constructor <;> omega, Ok.some.2 rfl⟩
theorem s_CloneI {xs : List Int} (h : xs.length ≤ 1000000000) : Z2e xs = some xs := by
 refine Zf4 ?_
 unfold Z2e
 exact Ok.gd.2 ⟨by constructor <;> omega, Ok.some.2 rfl⟩
end row
end Go.Acq
namespace Go.Acq
open Go
set_option linter.unusedSimpArgs false
theorem s_FlowG {n : Net} {m a : Nat} {c : Csr} {res : List Int} (h : CsrIs n m c) (he : Z58 m n.Arcs) (hm : m ≤ 4096) (hl : n.Arcs.length ≤ 16384) (hal : ∀ j, j < Z0s n.Arcs m → c.Arc.getD j 0 < a) (ha : a ≤ 16384)
    (hcap : ∀ i, i < n.Arcs.length → 0 ≤ (n.Arcs.getD i default).cap ∧ (n.Arcs.getD i default).cap ≤ 4611686018427387904) (hr : res.length = Z0s n.Arcs m) :
    Ok (Z7s c res a) (fun r => ((∀ j, j < Z0s n.Arcs m → Zax c.Rev c.Cap res j) ∧ r.2 = 0 ∧ FlowK n.Arcs a res (Z0s n.Arcs m) r.1) ∨ ((∃ j, j < Z0s n.Arcs m ∧ ¬Zax c.Rev c.Cap res j) ∧ r = ([], 20))) := by
  have hok := h.ok
  have lh := hok.lh
  have lr := hok.lr
  have lc := hok.lc
  have la := hok.la
  have lb := hok.lb
  have hbs := Z4y (al := n.Arcs) (v := m) hm hl
  unfold Z7s Z90
  refine Ok.bind.2 (Ok.some.2 (Ok.ite.2 ⟨fun hx => by omega, fun _ => Ok.ite.2 ⟨fun hx => by omega, fun _ => Ok.ite.2 ⟨fun hx => by omega, fun _ => Ok.bind.2 (Ok.mono (s_over (by omega)) ?_)⟩⟩⟩))
  rintro b rfl
  have hno : ¬ ∃ j, j < c.Arc.length ∧ (a : Int) ≤ c.Arc.getD j 0 := by
    rintro ⟨j, hj, hja⟩
    have := hal j (by omega)
    omega
  unfold Z4b
  refine Ok.ite.2 ⟨fun hx => absurd (of_decide_eq_true hx) hno, fun _ => Ok.gd.2 ⟨(by omega), Ok.bind.2 ?_⟩⟩
  refine Z9s (fun s => ∃ k : Nat, s.2 = k ∧ k ≤ Z0s n.Arcs m ∧ FlowK n.Arcs a res k s.1 ∧ ∀ j, j < k → Zax c.Rev c.Cap res j) (fun s => (Z0s n.Arcs m - s.2).toNat) ⟨0, rfl, by omega, ⟨by simp, fun i => ?_⟩, fun j hj => by omega⟩ (by unfold Z4q; simp only; omega) ?_
  · simp only [Z1m, Nat.not_lt_zero, and_false, if_false]
  rintro ⟨fl, x⟩ ⟨k, g1, g2, g3, g4⟩ P next exit
  simp only at g1 g2 g3 next ⊢
  subst g1
  unfold Z66
  simp only [Int.toNat_natCast]
  have hfl := g3.1
  refine Ok.ite.2 ⟨fun hx => ?_, fun hx => ?_⟩
  · have hk : k < Z0s n.Arcs m := by omega
    obtain ⟨i, s, hi, hne, hp, q1, q2, q3, q4, q5⟩ := hok.place hk
    have hq : pos n.Arcs i (!s) < Z0s n.Arcs m := Za4 hi hne he
    have hp2 : pos n.Arcs i s < Z0s n.Arcs m := Za4 hi hne he
    have hci := hcap i hi
    have hia := hal k hk
    rw [q4] at hia
    have r3 : c.Cap.getD (pos n.Arcs i (!s)) 0 = (if (!s) then 0 else (n.Arcs.getD i default).cap) := (hok.hat i hi hne (!s)).2.2.1
    have bad : ¬Zax c.Rev c.Cap res k → P (.inr (.inl ([], 20))) := fun hr => exit _ (Ok.some.2 (.inr ⟨⟨k, hk, hr⟩, rfl⟩))
    have hmax : max (c.Cap.getD k 0) (c.Cap.getD (c.Rev.getD k 0).toNat 0) = (n.Arcs.getD i default).cap := by
      rw [q2, Int.toNat_natCast, q3, r3]; cases s <;> simp only [Bool.not_false, Bool.not_true, if_true, Bool.false_eq_true, if_false] <;> omega
    have j3 : ∀ t : Bool, (t = true → ¬Zax c.Rev c.Cap res k) → (t = false → Zax c.Rev c.Cap res k) → Ok (Z4a c res fl k t) P := by
      intro t t1 t2
      unfold Z4a
      simp only [Int.toNat_natCast]
      refine Ok.ite.2 ⟨fun ht => Ok.some.2 (bad (t1 ht)), fun ht => ?_⟩
      have hfk := t2 (by simpa using ht)
      have hall : ∀ j, j < k + 1 → Zax c.Rev c.Cap res j := fun j hj => by
        rcases Nat.lt_or_ge j k with h | h
        · exact g4 j h
        · rw [show j = k by omega]; exact hfk
      refine Ok.gd.2 ⟨(by omega), Ok.ite.2 ⟨fun hb => ?_, fun hb => ?_⟩⟩
      · have hs : s = true := by rw [q5] at hb; exact hb
        subst hs
        simp only [q4, Int.toNat_natCast]
        refine Ok.gd.2 ⟨(by omega), Ok.gd.2 ⟨(by omega), Ok.gd.2 ⟨(by omega), Ok.some.2 (next _ ⟨k + 1, by simp, by omega, ⟨by simp [hfl], fun i' => ?_⟩, hall⟩ (by simp only; omega))⟩⟩⟩
        simp only
        rw [Zbn]
        by_cases e : i = i'
        · subst e
          rw [if_pos ⟨rfl, by omega⟩, if_pos ⟨hi, hne, by omega⟩, hp]
        · rw [if_neg (fun h => e h.1), g3.2 i']
          by_cases c1 : i' < n.Arcs.length ∧ (n.Arcs.getD i' default).fr ≠ (n.Arcs.getD i' default).to
          · have : pos n.Arcs i' true ≠ k := fun h => e (Z8r he hi c1.1 hne c1.2 (hp.trans h.symm)).1
            by_cases c2 : pos n.Arcs i' true < k
            · rw [if_pos ⟨c1.1, c1.2, c2⟩, if_pos ⟨c1.1, c1.2, by omega⟩]
            · rw [if_neg (fun h => c2 h.2.2), if_neg (fun h => by have := h.2.2; omega)]
          · rw [if_neg (fun h => c1 ⟨h.1, h.2.1⟩), if_neg (fun h => c1 ⟨h.1, h.2.1⟩)]
      · have hs : s = false := by rw [q5] at hb; simpa using hb
        subst hs
        refine Ok.gd.2 ⟨(by omega), Ok.some.2 (next _ ⟨k + 1, by simp, by omega, ⟨hfl, fun i' => ?_⟩, hall⟩ (by simp only; omega))⟩
        rw [g3.2 i']
        by_cases c1 : i' < n.Arcs.length ∧ (n.Arcs.getD i' default).fr ≠ (n.Arcs.getD i' default).to
        · have : pos n.Arcs i' true ≠ k := fun h => by have := (Z8r he hi c1.1 hne c1.2 (hp.trans h.symm)).2; cases this
          by_cases c2 : pos n.Arcs i' true < k
          · rw [if_pos ⟨c1.1, c1.2, c2⟩, if_pos ⟨c1.1, c1.2, by omega⟩]
          · rw [if_neg (fun h => c2 h.2.2), if_neg (fun h => by have := h.2.2; omega)]
        · rw [if_neg (fun h => c1 ⟨h.1, h.2.1⟩), if_neg (fun h => c1 ⟨h.1, h.2.1⟩)]
    have hrev : inb (c.Rev.getD k 0) c.Cap.length := by rw [q2]; constructor <;> omega
    have hrev2 : inb (c.Rev.getD k 0) res.length := by rw [q2]; constructor <;> omega
    refine Ok.gd.2 ⟨(by omega), Ok.gd.2 ⟨(by omega), Ok.gd.2 ⟨(by omega), Ok.gd.2 ⟨hrev, Ok.ite.2 ⟨fun h1 => ?_, fun h1 => Ok.ite.2 ⟨fun h2 => ?_, fun h2 => ?_⟩⟩⟩⟩⟩⟩
    · exact j3 true (fun _ hf => by have := hf.1; omega) (fun h => by cases h)
    · exact j3 true (fun _ hf => by have := hf.2.1; omega) (fun h => by cases h)
    · refine Ok.gd.2 ⟨(by omega), Ok.gd.2 ⟨hrev2, Ok.gd.2 ⟨by rw [hmax]; constructor <;> omega, j3 _ (fun h hf => (of_decide_eq_true h) hf.2.2) (fun h => ⟨by omega, by omega, ?_⟩)⟩⟩⟩
      exact Classical.not_not.1 (of_decide_eq_false h)
  · refine Ok.some.2 (exit _ ?_)
    unfold Z7m
    have : k = Z0s n.Arcs m := by omega
    subst this
    exact Ok.some.2 (.inl ⟨g4, rfl, g3⟩)
section row
variable {n : Net} {m L : Nat} {c : Csr}
theorem Zke {R : List Int} (r : Row n m L c) : (∀ j, j < L → Zax c.Rev c.Cap R j) ↔ ∀ j, j < L → 0 ≤ R.getD j 0 ∧ R.getD j 0 + R.getD (rv c j) 0 = cp c j := by
 constructor
 ·
  intro h j hj
  have := h j hj
  unfold Zax at this
  rw [(r.rev hj).1, Int.toNat_natCast] at this
  unfold cp; omega
 ·
  intro h j hj
  have h1 := h j hj
  have h2 := h _ (r.rev hj).2.1
  unfold Zax
  rw [(r.rev hj).1, Int.toNat_natCast]
  unfold cp at h1; omega
def HeightsP (n : Net) (m : Nat) (h : List Int) : Prop := h.length = m ∧ (∀ s : Nat, n.S = s → h.getD s 0 = m) ∧ (∀ t : Nat, n.T = t → h.getD t 0 = 0) ∧ ∀ v, v < m → 0 ≤ h.getD v 0 ∧ h.getD v 0 < 2 * m
structure PreOK (n : Net) (m L : Nat) (c : Csr) (p : Pre) : Prop where
  ok : ResOK n m L c p.Res p.Ex
  nn : ∀ v, v < m → (v : Int) ≠ n.S → 0 ≤ p.Ex.getD v 0
  hs : HeightsP n m p.H
  val : ∀ j, j < L → 0 < p.Res.getD j 0 → p.H.getD (tl c j) 0 ≤ p.H.getD (hd c j) 0 + 1
structure PreLen (p : Pre) : Prop where
  r : lenok p.Res.length
  x : lenok p.Ex.length
  h : lenok p.H.length
theorem PreOK.len {p : Pre} (h : PreOK n m L c p) (r : Row n m L c) : PreLen p := by
 have := r.bd
 have h1 := h.ok.lr
 have h2 := h.ok.lx
 have h3 := h.hs.1
 exact ⟨by omega, by omega, by omega⟩
end row
end Go.Acq
namespace Go.Acq
open Go
set_option linter.unusedSimpArgs false
def Za0 (n : Net) (X : List Int) (u : Nat) : Prop := (u : Int) ≠ n.S ∧ (u : Int) ≠ n.T ∧ 0 < X.getD u 0
instance (n : Net) (X : List Int) (u : Nat) : Decidable (Za0 n X u) := by unfold Za0; infer_instance
def Zf1 (c : Csr) (p : Pre) (u j : Nat) : Prop := 0 < p.Res.getD j 0 ∧ p.H.getD u 0 = p.H.getD (hd c j) 0 + 1
instance (c : Csr) (p : Pre) (u j : Nat) : Decidable (Zf1 c p u j) := by unfold Zf1; infer_instance
def Zb0 (n : Net) (c : Csr) (p : Pre) (u : Nat) : Prop := Za0 n p.Ex u ∧ ∀ j, fs c u ≤ j → j < fs c (u + 1) → ¬Zf1 c p u j
instance (n : Net) (c : Csr) (p : Pre) (u : Nat) : Decidable (Zb0 n c p u) :=
  if h : Za0 n p.Ex u ∧ ∀ j, j < fs c (u + 1) → fs c u ≤ j → ¬Zf1 c p u j then .isTrue ⟨h.1, fun j a b => h.2 j b a⟩ else .isFalse fun g => h ⟨g.1, fun j a b => g.2 j b a⟩
def Zha (p : Nat → Bool) : Nat → List Int
  | 0 => []
  | k + 1 => Zha p k ++ (if p k = true then [(k : Int)] else [])
theorem Zgc (p : Nat → Bool) : ∀ k, (Zha p k).length ≤ k
 | 0 => Nat.le_refl _
 | k + 1 => by
  have := Zgc p k
  simp only [Zha, List.length_append]
  split <;> simp <;> omega
section row
variable {n : Net} {m L : Nat} {c : Csr}
theorem Zje {p : Pre} {u : Nat} (r : Row n m L c) (lx : p.Ex.length = m) (hu : u < m) : Z8g c p (u : Nat) = some (decide (Za0 n p.Ex u)) := by
 have h2 := r.is.hS
 have h3 := r.is.hT
 unfold Z8g Za0
 rw [h2, h3]
 by_cases a : (u : Int) ≠ n.S
 ·
  by_cases b : (u : Int) ≠ n.T
  · rw [if_pos a, if_pos b, Z7e (by constructor <;> omega), Int.toNat_natCast]; simp [a, b]
  · rw [if_pos a, if_neg b]; simp [b]
 · rw [if_neg a]; simp [a]
def HtB (m : Nat) (h : List Int) : Prop := h.length = m ∧ ∀ v, v < m → -1000000 ≤ h.getD v 0 ∧ h.getD v 0 ≤ 1000000
theorem HeightsP.hb {h : List Int} (r : Row n m L c) (hh : HeightsP n m h) : HtB m h := ⟨hh.1, fun v hv => by have := hh.2.2.2 v hv; have := r.bd; omega⟩
theorem Zch {p : Pre} {u j : Nat} (r : Row n m L c) (lr : p.Res.length = L) (hb : HtB m p.H) (hu : u < m) (hj : j < L) : Z5f c p (u : Nat) (j : Nat) = some (decide (Zf1 c p u j)) := by
 have g1 := r.head hj
 have g2 := hb.2 _ g1.2
 have := hb.1
 have := r.lens.2.1
 unfold Z5f Zf1
 simp only [Int.toNat_natCast, g1.1]
 rw [Z7e (by constructor <;> omega)]
 by_cases h : 0 < p.Res.getD j 0
 ·
  rw [if_pos h, Z7e (by constructor <;> omega), Z7e (by constructor <;> omega), Z7e (by constructor <;> omega), Z7e (by constructor <;> omega)]
  exact congrArg some (decide_eq_decide.2 ⟨fun e => ⟨h, e⟩, fun e => e.2⟩)
 ·
  rw [if_neg h]
  exact congrArg some (decide_eq_false fun e => h e.1).symm
theorem s_stuck {p : Pre} {u : Nat} (r : Row n m L c) (lr : p.Res.length = L) (lx : p.Ex.length = m) (hb : HtB m p.H) (hu : u < m) : Ok (Zb5 c p (u : Nat)) (fun b => b = decide (Zb0 n c p u)) := by
 have hfl := r.first.2.2.2 u hu
 unfold Zb5 Z5r
 refine Ok.bind.2 (Ok.some.2 (Ok.bind.2 (Ok.mono (Zm3 r hu (fun j _ => ∀ i, fs c u ≤ i → i < j → ¬Zf1 c p u i) (fun _ => ∃ j, fs c u ≤ j ∧ j < fs c (u + 1) ∧ Zf1 c p u j) (fun i h1 h2 => by omega) fun j s h1 h2 h3 => ?_) ?_)))
 ·
  unfold Zaw
  refine Ok.bind.2 (Z8a (Zch r lr hb hu (by omega)) (Ok.ite.2 ⟨fun h => Ok.some.2 ⟨j, h1, h2, of_decide_eq_true h⟩, fun h => Ok.some.2 fun i h4 h5 => ?_⟩))
  rcases Nat.lt_or_ge i j with h6 | h6
  · exact h3 i h4 h6
  · rw [show i = j by omega]; exact fun h7 => h (decide_eq_true h7)
 ·
  rintro (s | x) h
  ·
   refine Ok.bind.2 (Z8a (Zje r lx hu) (Ok.some.2 ?_))
   rw [Bool.eq_iff_iff, decide_eq_true_iff, decide_eq_true_iff]
   exact ⟨fun h1 => ⟨h1, h⟩, fun h1 => h1.1⟩
  ·
   obtain ⟨j, h1, h2, h3⟩ := h
   exact Ok.some.2 (decide_eq_false fun h4 => h4.2 j h1 h2 h3).symm
theorem s_all {p : Nat → Bool} {step : List Int → Int → Option ((List Int × Int) ⊕ List Int)} (hm : m ≤ 4096)
    (hs : ∀ (o : List Int) (k : Nat), k ≤ m → o.length ≤ k → step o k = if k < m then (if p k = true then some (.inl (o ++ [(k : Int)], (k : Int) + 1)) else some (.inl (o, (k : Int) + 1))) else some (.inr o)) : Ok (Z2o (fun s => step s.1 s.2) Z4q ([], 0)) (fun o => o = Zha p m) := by
  refine Z9s (fun s => ∃ k : Nat, s.2 = k ∧ k ≤ m ∧ s.1 = Zha p k) (fun s => (m - s.2).toNat) ⟨0, rfl, by omega, rfl⟩ (by unfold Z4q; simp only; omega) ?_
  rintro ⟨o, x⟩ ⟨k, h1, hk, ho⟩ P next exit
  simp only at h1 ho next ⊢
  subst h1; subst ho
  rw [hs _ k hk (Zgc p k)]
  refine Ok.ite.2 ⟨fun hx => Ok.ite.2 ⟨fun h => Ok.some.2 (next _ ⟨k + 1, by simp, by omega, by simp only [Zha]; rw [if_pos h]⟩ (by simp only; omega)), fun h => Ok.some.2 (next _ ⟨k + 1, by simp, by omega, by simp only [Zha]; rw [if_neg h, List.append_nil]⟩ (by simp only; omega))⟩, fun hx => Ok.some.2 (exit _ (by rw [show k = m by omega]))⟩
theorem s_May {p : Pre} (r : Row n m L c) (lr : p.Res.length = L) (lx : p.Ex.length = m) (hb : HtB m p.H) : Zdp c p = some (Zha (fun j => decide (Za0 n p.Ex (tl c j) ∧ Zf1 c p (tl c j) j)) L, Zha (fun u => decide (Zb0 n c p u)) m) := by
 have b := r.bd
 have hN := r.is.hN
 refine Zf4 ?_
 unfold Zdp
 refine Ok.bind.2 (Z9s (fun s => ∃ k : Nat, s.2 = k ∧ k ≤ m ∧ s.1 = Zha (fun j => decide (Za0 n p.Ex (tl c j) ∧ Zf1 c p (tl c j) j)) (fs c k)) (fun s => (m - s.2).toNat) ⟨0, rfl, by omega, by rw [r.first.2.1]; rfl⟩ (by unfold Z4q; simp only; omega) ?_)
 rintro ⟨o, x⟩ ⟨k, h1, hk, ho⟩ P next exit
 simp only at h1 ho next ⊢
 subst h1
 unfold Zck
 rw [hN]
 refine Ok.ite.2 ⟨fun hx => ?_, fun hx => Ok.some.2 (exit _ ?_)⟩
 ·
  have hkm : k < m := by omega
  have hfl := r.first.2.2.2 k hkm
  unfold Z5r
  refine Ok.bind.2 (Ok.some.2 (Ok.bind.2 (Ok.mono (Zm3 r hkm (fun j s => s = Zha (fun j => decide (Za0 n p.Ex (tl c j) ∧ Zf1 c p (tl c j) j)) j) (fun _ => False) ho fun j s g1 g2 g3 => ?_) ?_)))
  ·
   have hjL : j < L := by omega
   have ht := (r.range hjL hkm).1 ⟨g1, g2⟩
   subst g3
   have hle := Zgc (fun j => decide (Za0 n p.Ex (tl c j) ∧ Zf1 c p (tl c j) j)) j
   have j3 : ∀ (b : Bool) (P : List Int ⊕ Empty → Prop), (P (.inl (Zha (fun j => decide (Za0 n p.Ex (tl c j) ∧ Zf1 c p (tl c j) j)) (j + 1)))) → (b = true ↔ (Za0 n p.Ex k ∧ Zf1 c p k j)) → Ok (Z8h (Zha (fun j => decide (Za0 n p.Ex (tl c j) ∧ Zf1 c p (tl c j) j)) j) (j : Nat) b) P := by
    intro b P hP hb
    unfold Z8h
    have e : decide (Za0 n p.Ex (tl c j) ∧ Zf1 c p (tl c j) j) = b := by rw [ht, Bool.eq_iff_iff, decide_eq_true_iff]; exact hb.symm
    refine Ok.ite.2 ⟨fun h => Ok.gd.2 ⟨?_, Ok.some.2 ?_⟩, fun h => Ok.some.2 ?_⟩
    · rw [List.length_append, List.length_singleton]; constructor <;> omega
    · simp only [Zha] at hP; rw [if_pos (e.trans h)] at hP; exact hP
    · simp only [Zha] at hP; rw [if_neg (by rw [e]; exact h), List.append_nil] at hP; exact hP
   unfold Zcj
   refine Ok.bind.2 (Z8a (Zje r lx hkm) (Ok.ite.2 ⟨fun h => Ok.bind.2 (Z8a (Zch r lr hb hkm hjL) (j3 _ _ rfl ?_)), fun h => j3 false _ rfl ⟨fun h2 => (by cases h2), fun h2 => absurd (decide_eq_true h2.1) h⟩⟩))
   rw [decide_eq_true_iff]
   exact ⟨fun h2 => ⟨of_decide_eq_true h, h2⟩, fun h2 => h2.2⟩
  ·
   rintro (s | x) h
   · exact Ok.gd.2 ⟨(by omega), Ok.some.2 (next _ ⟨k + 1, by simp, by omega, h⟩ (by simp only; omega))⟩
   · exact h.elim
 ·
  obtain rfl : k = m := by omega
  unfold Zcl Za5
  refine Ok.bind.2 (Ok.bind.2 (Ok.mono (s_all (m := k) (p := fun u => decide (Zb0 n c p u)) (step := fun o x => Z5y c c p o x) (by omega) fun o q hq hol => ?_) fun o2 ho2 => ?_))
  ·
   unfold Z5y Zdo
   rw [hN]
   by_cases h : q < k
   ·
    obtain ⟨b, hb1, hb2⟩ := s_stuck r lr lx hb h
    rw [if_pos (by omega), if_pos h, hb1]
    simp only [Option.bind_some]
    rw [hb2]
    by_cases h2 : decide (Zb0 n c p q) = true
    · rw [if_pos h2, if_pos h2, Z7e (by rw [List.length_append, List.length_singleton]; constructor <;> omega), Z7e (by constructor <;> omega)]
    · rw [if_neg h2, if_neg h2, Z7e (by constructor <;> omega)]
   · rw [if_neg (by omega), if_neg h]
  ·
   unfold Z8f
   refine Ok.some.2 (Ok.some.2 ?_)
   rw [ho, r.first.2.2.1, ho2]
def Z9y (c : Csr) (p : Pre) (j : Nat) : Int := min (p.Ex.getD (tl c j) 0) (p.Res.getD j 0)
def Z8q (c : Csr) (p : Pre) (j : Nat) : Pre := ⟨mvR c p.Res j (Z9y c p j), mvX c p.Ex j (Z9y c p j), p.H⟩
theorem s_Copy {p : Pre} (h1 : p.Res.length ≤ 1000000000) (h2 : p.Ex.length ≤ 1000000000) (h3 : p.H.length ≤ 1000000000) : Z8w p = some p := by
 unfold Z8w
 rw [Zdf h1, Zdf h2, s_CloneI h3]; rfl
theorem PreOK.push {p : Pre} {j : Nat} (h : PreOK n m L c p) (r : Row n m L c) (hj : j < L) (hA : Za0 n p.Ex (tl c j)) (hB : Zf1 c p (tl c j) j) : PreOK n m L c (Z8q c p j) := by
 have h1 := hA.2.2
 have h2 := hB.1
 have hD : Z9y c p j = min (p.Ex.getD (tl c j) 0) (p.Res.getD j 0) := rfl
 have hlr := h.ok.lr
 have hlx := h.ok.lx
 have ht := r.tlh hj
 have hr := r.rev hj
 refine ⟨h.ok.move r hj (by omega) (by omega), fun v hv hvS => ?_, h.hs, fun k hk h0 => ?_⟩
 ·
  have := h.nn v hv hvS
  simp only [Z8q]
  rw [Zal r hlx hj]
  by_cases c1 : tl c j = v
  ·
   subst c1
   rw [if_pos rfl, if_neg fun e => ht.2.2.2 e.symm]; omega
  · rw [if_neg c1]; split <;> omega
 ·
  simp only [Z8q] at h0 ⊢
  rw [Z8e r hlr hj] at h0
  by_cases c1 : k = rv c j
  ·
   subst c1
   rw [ht.2.1, ht.2.2.1]
   have := hB.2
   omega
  ·
   rw [if_neg c1] at h0
   by_cases c2 : k = j
   · subst c2; exact h.val k hk h2
   · rw [if_neg c2] at h0; exact h.val k hk h0
def Zji (c : Csr) (p : Pre) (m : Nat) (a : Nat) : Nat → Int
  | 0 => 2 * m
  | k + 1 => if 0 < p.Res.getD (a + k) 0 then min (Zji c p m a k) (p.H.getD (hd c (a + k)) 0) else Zji c p m a k
def Zfc (c : Csr) (p : Pre) (m u : Nat) : Int := Zji c p m (fs c u) (fs c (u + 1) - fs c u)
def Zb7 (c : Csr) (p : Pre) (m u : Nat) : Pre := ⟨p.Res, p.Ex, p.H.set u (Zfc c p m u + 1)⟩
theorem Zmc {p : Pre} {a : Nat} : ∀ {k i : Nat}, i < k → 0 < p.Res.getD (a + i) 0 → Zji c p m a k ≤ p.H.getD (hd c (a + i)) 0
 | 0, _, h, _ => by omega
 | k + 1, i, h, h0 => by
  simp only [Zji]
  rcases Nat.lt_or_ge i k with h1 | h1
  ·
   have := Zmc h1 h0
   split <;> omega
  ·
   have : i = k := by omega
   subst this
   rw [if_pos h0]; omega
theorem Zis (p : Pre) (a : Nat) : ∀ k : Nat, Zji c p m a k ≤ 2 * m ∧ (Zji c p m a k = 2 * m ∨ ∃ i, i < k ∧ 0 < p.Res.getD (a + i) 0 ∧ p.H.getD (hd c (a + i)) 0 = Zji c p m a k)
 | 0 => ⟨Int.le_refl _, .inl rfl⟩
 | k + 1 => by
  obtain ⟨h1, h2⟩ := Zis p a k
  simp only [Zji]
  by_cases h : 0 < p.Res.getD (a + k) 0
  ·
   rw [if_pos h]
   refine ⟨by omega, ?_⟩
   by_cases h3 : p.H.getD (hd c (a + k)) 0 ≤ Zji c p m a k
   · exact .inr ⟨k, by omega, h, by omega⟩
   ·
    rcases h2 with h2 | ⟨i, g1, g2, g3⟩
    · exact .inl (by omega)
    · exact .inr ⟨i, by omega, g2, by omega⟩
  ·
   rw [if_neg h]
   refine ⟨h1, ?_⟩
   rcases h2 with h2 | ⟨i, g1, g2, g3⟩
   · exact .inl h2
   · exact .inr ⟨i, by omega, g2, g3⟩
theorem lowV_le {p : Pre} {u j : Nat} (r : Row n m L c) (hu : u < m) (hj : j < L) (ht : tl c j = u) (h0 : 0 < p.Res.getD j 0) : Zfc c p m u ≤ p.H.getD (hd c j) 0 := by
 have h1 := (r.range hj hu).2 ht
 have e : fs c u + (j - fs c u) = j := by omega
 have := Zmc (c := c) (m := m) (p := p) (a := fs c u) (k := fs c (u + 1) - fs c u) (i := j - fs c u) (by omega) (by rw [e]; exact h0)
 rw [e] at this; exact this
theorem Zir (p : Pre) {u : Nat} (r : Row n m L c) (hu : u < m) : Zfc c p m u ≤ 2 * m ∧ (Zfc c p m u = 2 * m ∨ ∃ j, j < L ∧ tl c j = u ∧ 0 < p.Res.getD j 0 ∧ p.H.getD (hd c j) 0 = Zfc c p m u) := by
 have hfl := r.first.2.2.2 u hu
 obtain ⟨h1, h2⟩ := Zis (c := c) (m := m) p (fs c u) (fs c (u + 1) - fs c u)
 refine ⟨h1, ?_⟩
 rcases h2 with h2 | ⟨i, g1, g2, g3⟩
 · exact .inl h2
 · exact .inr ⟨fs c u + i, by omega, (r.range (by omega) hu).1 ⟨by omega, by omega⟩, g2, g3⟩
def OpenJ (c : Csr) (L : Nat) (R : List Int) (u v : Nat) : Prop := ∃ j, j < L ∧ tl c j = u ∧ hd c j = v ∧ 0 < R.getD j 0
theorem OpenJ.lt {R : List Int} (r : Row n m L c) {u v : Nat} (h : OpenJ c L R u v) : u < m ∧ v < m := by
 obtain ⟨j, h1, h2, h3, _⟩ := h
 exact ⟨by rw [← h2]; exact (r.tlh h1).1, by rw [← h3]; exact (r.head h1).2⟩
theorem Zdq {H : Nat → Int} {G : Nat → Nat → Prop} (hG : ∀ u v, G u v → H u ≤ H v + 1) {u v : Nat} (hr : Reach G u v) : ∀ k : Int, H v ≤ k → k ≤ H u → ∃ w, Reach G u w ∧ H w = k := by
 induction hr with
 | refl => intro k h1 h2; exact ⟨u, .refl, by omega⟩
 | step h1 h2 ih =>
  rename_i x y
  intro k h3 h4
  by_cases c : H x ≤ k
  · exact ih k c h4
  ·
   have := hG _ _ h2
   exact ⟨y, .step h1 h2, by omega⟩
theorem pigeon : ∀ (m : Nat) (f : Nat → Nat), (∀ k, k ≤ m → f k < m) → ∃ i j, i < j ∧ j ≤ m ∧ f i = f j
 | 0, f, h => absurd (h 0 (Nat.le_refl _)) (by omega)
 | m + 1, f, h => by
  by_cases e : ∃ i, i ≤ m ∧ f i = f (m + 1)
  ·
   obtain ⟨i, h1, h2⟩ := e
   exact ⟨i, m + 1, by omega, by omega, h2⟩
  ·
   have ne : ∀ i, i ≤ m → f i ≠ f (m + 1) := fun i hi h2 => e ⟨i, hi, h2⟩
   obtain ⟨i, j, h1, h2, h3⟩ := pigeon m (fun k => if f (m + 1) < f k then f k - 1 else f k) fun k hk => by
    have a := h k (by omega)
    have a2 := h (m + 1) (by omega)
    have a3 := ne k hk
    split <;> omega
   have a1 := ne i (by omega)
   have a2 := ne j (by omega)
   refine ⟨i, j, h1, by omega, ?_⟩
   split at h3 <;> split at h3 <;> omega
theorem Zfb {H : Nat → Int} {a : Int} (h : ∀ k : Nat, k ≤ m → ∃ w, w < m ∧ H w = a + k) : False := by
 have : ∀ k : Nat, ∃ w, k ≤ m → w < m ∧ H w = a + k := fun k => by
  by_cases c : k ≤ m
  · obtain ⟨w, hw⟩ := h k c; exact ⟨w, fun _ => hw⟩
  · exact ⟨0, fun h => absurd h c⟩
 obtain ⟨f, hf⟩ := Classical.axiomOfChoice this
 obtain ⟨i, j, h1, h2, h3⟩ := pigeon m f fun k hk => (hf k hk).1
 have a1 := (hf i (by omega)).2
 have a2 := (hf j h2).2
 rw [h3] at a1
 omega
theorem Zjh {R : List Int} (r : Row n m L c) {u v : Nat} (hu : u < m) (h : Reach (OpenJ c L R) u v) : v < m := by
 induction h with
 | refl => exact hu
 | step _ h2 _ => exact (h2.lt r).2
theorem Zf5 {R X : List Int} {S u : Nat} (r : Row n m L c) (h : ResOK n m L c R X) (hS : n.S = S) (nn : ∀ v, v < m → v ≠ S → 0 ≤ X.getD v 0) (hu : u < m) (hx : 0 < X.getD u 0) : Reach (OpenJ c L R) u S := by
 refine Classical.byContradiction fun hno => ?_
 let q : Nat → Bool := fun v => @decide (¬Reach (OpenJ c L R) u v) (Classical.propDecidable _)
 have hq : ∀ v, q v = true ↔ ¬Reach (OpenJ c L R) u v := fun v => @decide_eq_true_iff _ (Classical.propDecidable _)
 obtain ⟨cl, hcl⟩ : ∃ cl : List Bool, cl = (List.range m).map q := ⟨_, rfl⟩
 have inc : ∀ v : Nat, v < m → (inS cl v = true ↔ ¬Reach (OpenJ c L R) u v) := fun v hv => by
  unfold inS
  rw [hcl, Int.toNat_natCast, List.getD_eq_getElem?_getD, List.getElem?_map, List.getElem?_range hv]
  exact hq v
 have inf : ∀ v : Nat, v < m → (inS cl v = false ↔ Reach (OpenJ c L R) u v) := fun v hv => by
  rw [Bool.eq_false_iff, ne_eq, inc v hv]; exact Classical.not_not
 have he := r.he
 have hw := h.within r
 have hac : ∀ k, k ≤ n.Arcs.length → acK n.Arcs (flN n.Arcs R) cl k ≤ 0 := by
  intro k
  induction k with
  | zero => intro _; simp [acK]
  | succ k ih =>
   intro hk
   have h0 := he k hk false
   have h1 := he k hk true
   simp only [vtx, Bool.false_eq_true, if_false, if_true] at h0 h1
   have hf := (hw.2.2 k hk).1
   have ih := ih (by omega)
   simp only [acK]
   by_cases c1 : inS cl (n.Arcs.getD k default).fr = true ∧ inS cl (n.Arcs.getD k default).to = false
   ·
    have hz : (flN n.Arcs R).getD k 0 = 0 := by
     rw [Z9h hk]
     by_cases e : (n.Arcs.getD k default).fr = (n.Arcs.getD k default).to
     · rw [if_pos e]
     ·
      rw [if_neg e]
      obtain ⟨-, a2, a3⟩ := r.cpPos hk e true
      have z := r.is.ok.hat k hk e true
      have z2 := r.is.ok.hat k hk e false
      have nnR := (h.res _ a3).1
      refine Int.le_antisymm (Int.not_lt.1 fun hpos => ?_) nnR
      obtain ⟨p, hp⟩ : ∃ p : Nat, (n.Arcs.getD k default).fr = p := ⟨(n.Arcs.getD k default).fr.toNat, by omega⟩
      obtain ⟨t, ht⟩ : ∃ t : Nat, (n.Arcs.getD k default).to = t := ⟨(n.Arcs.getD k default).to.toNat, by omega⟩
      rw [hp, ht] at c1
      have r1 := (inf t (by omega)).1 c1.2
      refine (inc p (by omega)).1 c1.1 (.step r1 ⟨_, a3, ?_, ?_, hpos⟩)
      · unfold tl hd; rw [a2]; simp only [Bool.not_true]; rw [z2.1]; simp only [vtx, Bool.not_false, if_true, ht]; omega
      · unfold hd; rw [z.1]; simp only [vtx, Bool.not_true, Bool.false_eq_true, if_false, hp]; omega
    rw [if_pos c1, hz]; split <;> omega
   · rw [if_neg c1]; split <;> omega
 have hpc : ∀ j, j ≤ m → 0 ≤ Zcz n.Arcs (flN n.Arcs R) cl j n.Arcs.length ∧ (u < j → 0 < Zcz n.Arcs (flN n.Arcs R) cl j n.Arcs.length) := by
  intro j
  induction j with
  | zero => intro _; rw [show ((0 : Nat) : Int) = 0 from rfl, Zc7 he _ (Nat.le_refl _)]; exact ⟨Int.le_refl _, fun h => by omega⟩
  | succ j ih =>
   intro hj
   obtain ⟨i1, i2⟩ := ih (by omega)
   rw [Int.natCast_succ, Zc6]
   by_cases c1 : inS cl j = false
   ·
    rw [if_pos c1, ← h.ex j (by omega)]
    have hjS : j ≠ S := fun e => hno (by rw [← e]; exact (inf j (by omega)).1 c1)
    have := nn j (by omega) hjS
    refine ⟨by omega, fun hlt => ?_⟩
    by_cases e : u = j
    · subst e; omega
    · have := i2 (by omega); omega
   ·
    rw [if_neg c1]
    refine ⟨by omega, fun hlt => ?_⟩
    by_cases e : u = j
    · subst e; exact absurd ((inf u hu).2 .refl) c1
    · have := i2 (by omega); omega
 have := (hpc m (Nat.le_refl _)).2 hu
 rw [Zdl he _ (Nat.le_refl _)] at this
 have := hac _ (Nat.le_refl _)
 omega
theorem Zhf {R : List Int} {H : Nat → Int} {S u : Nat} (r : Row n m L c) (hu : u < m) (hval : ∀ j, j < L → 0 < R.getD j 0 → H (tl c j) ≤ H (hd c j) + 1) (hHS : H S = m) (hr : Reach (OpenJ c L R) u S) : H u < 2 * m := by
 refine Int.not_le.1 fun hge => ?_
 refine Zfb (m := m) (H := H) (a := m) fun k hk => ?_
 obtain ⟨w, h1, h2⟩ := Zdq (H := H) (G := OpenJ c L R) (fun a b ⟨j, g1, g2, g3, g4⟩ => by rw [← g2, ← g3]; exact hval j g1 g4) hr (m + k) (by omega) (by omega)
 exact ⟨w, Zjh r hu h1, h2⟩
theorem PreOK.lift {p : Pre} {u : Nat} (h : PreOK n m L c p) (r : Row n m L c) (hu : u < m) (hS : Zb0 n c p u) : PreOK n m L c (Zb7 c p m u) ∧ p.H.getD u 0 ≤ Zfc c p m u := by
 obtain ⟨⟨S, hnS, -, hSm⟩, ⟨T, hnT, -, hTm⟩, -, -⟩ := r.ends
 have lh := h.hs.1
 obtain ⟨⟨hA1, hA2, hA3⟩, hB⟩ := hS
 have huS : u ≠ S := by omega
 have huT : u ≠ T := by omega
 have hlow : p.H.getD u 0 ≤ Zfc c p m u := by
  have h2 := h.hs.2.2.2 u hu
  rcases (Zir p r hu).2 with h1 | ⟨j, h1, h3, h4, h5⟩
  · omega
  ·
   have h6 := h.val j h1 h4
   rw [h3] at h6
   have h7 := (r.range h1 hu).2 h3
   have h8 := hB j h7.1 h7.2
   have : p.H.getD u 0 ≠ p.H.getD (hd c j) 0 + 1 := fun e => h8 ⟨h4, e⟩
   omega
 have hHu : ∀ v, (p.H.set u (Zfc c p m u + 1)).getD v 0 = if v = u then Zfc c p m u + 1 else p.H.getD v 0 := fun v => by
  rw [Zbn]
  by_cases e : v = u
  · rw [if_pos ⟨e.symm, by omega⟩, if_pos e]
  · rw [if_neg fun h => e h.1.symm, if_neg e]
 have hval : ∀ j, j < L → 0 < p.Res.getD j 0 → (p.H.set u (Zfc c p m u + 1)).getD (tl c j) 0 ≤ (p.H.set u (Zfc c p m u + 1)).getD (hd c j) 0 + 1 := fun j hj h0 => by
  have ht := r.tlh hj
  rw [hHu, hHu]
  by_cases c1 : tl c j = u
  ·
   have := lowV_le r hu hj c1 h0
   rw [if_pos c1, if_neg fun e => ht.2.2.2 (c1.trans e.symm)]; omega
  ·
   rw [if_neg c1]
   have := h.val j hj h0
   by_cases c2 : hd c j = u
   · rw [if_pos c2]; rw [c2] at this; omega
   · rw [if_neg c2]; exact this
 have hreach := Zf5 r h.ok hnS (fun v hv hvS => h.nn v hv (by omega)) hu hA3
 have hbound := Zhf (H := fun v => (p.H.set u (Zfc c p m u + 1)).getD v 0) r hu hval (by simp only [hHu]; rw [if_neg fun e => huS e.symm]; exact h.hs.2.1 S hnS) hreach
 simp only [hHu, if_true] at hbound
 refine ⟨⟨h.ok, h.nn, ⟨by simp [Zb7, lh], fun s hs => ?_, fun t ht => ?_, fun v hv => ?_⟩, hval⟩, hlow⟩
 · simp only [Zb7]; rw [hHu, if_neg (by omega)]; exact h.hs.2.1 s hs
 · simp only [Zb7]; rw [hHu, if_neg (by omega)]; exact h.hs.2.2.1 t ht
 ·
  have h1 := h.hs.2.2.2 v hv
  have h2 := h.hs.2.2.2 u hu
  simp only [Zb7]; rw [hHu]
  by_cases e : v = u
  · rw [if_pos e]; omega
  · rw [if_neg e]; exact h1
end row
end Go.Acq
namespace Go.Acq
open Go
set_option linter.unusedSimpArgs false
theorem Zhg {α : Type} {z v : α} {k i : Int} : ∀ mp : List (Int × α), Zmf z i (putM k v mp) = if i = k then v else Zmf z i mp
 | [] => by simp only [putM, Zmf]
 | x :: mp => by
  simp only [putM]
  by_cases h : k = x.1
  ·
   rw [if_pos h]; simp only [Zmf]
   by_cases e : i = k
   · rw [if_pos e, if_pos e]
   · rw [if_neg e, if_neg e, if_neg (by omega)]
  ·
   rw [if_neg h]; simp only [Zmf]
   by_cases e : i = x.1
   · rw [if_pos e, if_pos e, if_neg (by omega)]
   · rw [if_neg e, if_neg e, Zhg mp]
theorem Zgf {α : Type} {v : α} {k : Int} : ∀ {mp : List (Int × α)} {x : Int × α}, x ∈ putM k v mp → x.1 = k ∨ ∃ y, y ∈ mp ∧ y.1 = x.1
 | [], x, h => by simp only [putM, List.mem_singleton] at h; left; rw [h]
 | y :: mp, x, h => by
  simp only [putM] at h
  by_cases e : k = y.1
  ·
   rw [if_pos e] at h
   rcases List.mem_cons.1 h with h | h
   · left; rw [h]
   · exact .inr ⟨x, List.mem_cons_of_mem _ h, rfl⟩
  ·
   rw [if_neg e] at h
   rcases List.mem_cons.1 h with h | h
   · exact .inr ⟨y, List.mem_cons_self, by rw [h]⟩
   ·
    rcases Zgf h with h | ⟨z, h1, h2⟩
    · exact .inl h
    · exact .inr ⟨z, List.mem_cons_of_mem _ h1, h2⟩
def Apart {α : Type} : List (Int × α) → Prop
  | [] => True
  | x :: mp => (∀ y, y ∈ mp → y.1 ≠ x.1) ∧ Apart mp
theorem Apart.put {α : Type} {v : α} {k : Int} : ∀ {mp : List (Int × α)}, Apart mp → Apart (putM k v mp)
 | [], _ => ⟨fun y h => (by cases h), trivial⟩
 | x :: mp, h => by
  simp only [putM]
  by_cases e : k = x.1
  · rw [if_pos e]; exact ⟨fun y hy => by rw [e]; exact h.1 y hy, h.2⟩
  ·
   rw [if_neg e]
   refine ⟨fun y hy => ?_, Apart.put h.2⟩
   rcases Zgf hy with h1 | ⟨z, h1, h2⟩
   · rw [h1]; exact e
   · rw [← h2]; exact h.1 z h1
theorem Apart.at {α : Type} {z : α} (d : Int × α) : ∀ {mp : List (Int × α)} {j : Nat}, Apart mp → j < mp.length → Zmf z (mp.getD j d).1 mp = (mp.getD j d).2
 | [], j, _, h => by simp at h
 | x :: mp, 0, _, _ => by simp [Zmf]
 | x :: mp, j + 1, h, hj => by
  have hj' : j < mp.length := by simpa using hj
  have hm := h.1 _ (Z6r hj' d)
  show Zmf z (mp.getD j d).1 (x :: mp) = (mp.getD j d).2
  simp only [Zmf]
  rw [if_neg hm]; exact Apart.at d h.2 hj'
theorem Apart.inj {α : Type} (d : Int × α) : ∀ {mp : List (Int × α)} {i j : Nat}, Apart mp → i < mp.length → j < mp.length → (mp.getD i d).1 = (mp.getD j d).1 → i = j
 | [], i, _, _, h, _, _ => by simp at h
 | x :: mp, 0, 0, _, _, _, _ => rfl
 | x :: mp, 0, j + 1, h, _, hj, e => absurd e.symm (h.1 _ (Z6r (by simpa using hj) d))
 | x :: mp, i + 1, 0, h, hi, _, e => absurd e (h.1 _ (Z6r (by simpa using hi) d))
 | x :: mp, i + 1, j + 1, h, hi, hj, e => congrArg (· + 1) (Apart.inj d h.2 (by simpa using hi) (by simpa using hj) e)
def hfr (n : Net) (h : Hop) : Int := if h.Back = true then (n.Arcs.getD h.Arc.toNat default).to else (n.Arcs.getD h.Arc.toNat default).fr
def hto (n : Net) (h : Hop) : Int := if h.Back = true then (n.Arcs.getD h.Arc.toNat default).fr else (n.Arcs.getD h.Arc.toNat default).to
def hok (n : Net) (h : Hop) : Prop := 0 ≤ h.Arc ∧ h.Arc < n.Arcs.length
def WayK (n : Net) (l : List Hop) (k : Nat) : Prop := (∀ i, i < k → hok n (l.getD i default)) ∧ ∀ i, i + 1 < k → hfr n (l.getD (i + 1) default) = hto n (l.getD i default)
def Zlo (l : List Hop) (i : Int) : Nat → Int
  | 0 => 0
  | k + 1 => Zlo l i k + (if (l.getD k default).Arc = i then (if (l.getD k default).Back = true then -1 else 1) else 0)
structure MapIs (n : Net) (mp : List (Int × Int)) (l : List Hop) (k : Nat) : Prop where
  val : ∀ i, Zmf 0 i mp = Zlo l i k
  key : ∀ x, x ∈ mp → 0 ≤ x.1 ∧ x.1 < n.Arcs.length
  apart : Apart mp
theorem MapIs.put {n : Net} {mp : List (Int × Int)} {l : List Hop} {k : Nat} (h : MapIs n mp l k) (hk : hok n (l.getD k default)) {v : Int} (hv : v = Zlo l (l.getD k default).Arc k + (if (l.getD k default).Back = true then -1 else 1)) : MapIs n (putM (l.getD k default).Arc v mp) l (k + 1) := by
 refine ⟨fun i => ?_, fun x hx => ?_, h.apart.put⟩
 ·
  rw [Zhg]
  simp only [Zlo]
  by_cases e : i = (l.getD k default).Arc
  · rw [if_pos e, if_pos e.symm, hv, e]
  · rw [if_neg e, if_neg (fun h => e h.symm), h.val, Int.add_zero]
 ·
  rcases Zgf hx with h1 | ⟨y, h1, h2⟩
  · rw [h1]; exact hk
  · rw [← h2]; exact h.key y h1
end Go.Acq
namespace Go.Acq
open Go
set_option linter.unusedSimpArgs false
def fits (n : Net) (f : List Int) (i : Nat) (c d : Int) : Prop := 0 ≤ f.getD i 0 + d * c ∧ f.getD i 0 + d * c ≤ (n.Arcs.getD i default).cap
end Go.Acq
namespace Go.Acq
open Go
set_option linter.unusedSimpArgs false
section row
variable {n : Net} {m L : Nat} {c : Csr}
theorem Zgh {al : List Arc} {f : List Int} {v : Int} : ∀ {k : Nat}, (∀ i, i < k → f.getD i 0 = 0) → ex al f v k = 0
 | 0, _ => rfl
 | k + 1, h => by simp only [ex]; rw [Zgh fun i hi => h i (by omega), h k (by omega)]; simp
theorem s_Begin (r : Row n m L c) : Ok (Z81 c) (fun p => PreOK n m L c p) := by
 have b := r.bd
 obtain ⟨⟨S, hS, hcS, hSm⟩, ⟨T, hT, hcT, hTm⟩, hne, hN⟩ := r.ends
 obtain ⟨-, -, -, lc, -, -⟩ := r.lens
 have hfl := r.first.2.2.2 S hSm
 unfold Z81
 refine Ok.bind.2 (Z8a (Zdf (by omega)) ?_)
 rw [hN, hcS]
 simp only [Int.toNat_natCast]
 obtain ⟨H0, hH0⟩ : ∃ H0, (List.replicate m (0 : Int)).set S m = H0 := ⟨_, rfl⟩
 have hHl : H0.length = m := by rw [← hH0]; simp
 have hHv : ∀ v, H0.getD v 0 = if v = S then (m : Int) else 0 := fun v => by
  rw [← hH0, Zbn, List.length_replicate, Z1m]
  by_cases e : v = S
  · rw [if_pos ⟨e.symm, hSm⟩, if_pos e]
  · rw [if_neg fun h => e h.1.symm, if_neg e]
 rw [hH0]
 unfold Z5r
 refine Ok.gd.2 ⟨(by omega), Ok.gd.2 ⟨(by omega), Ok.gd.2 ⟨by rw [List.length_replicate]; constructor <;> omega, Ok.bind.2 (Ok.some.2 (Ok.bind.2 (Ok.mono (Zm3 r hSm
  (fun k s => ResOK n m L c s.1 s.2 ∧ (∀ v, v < m → v ≠ S → 0 ≤ s.2.getD v 0) ∧ ∀ i, fs c S ≤ i → i < k → s.1.getD i 0 = 0) (fun _ => False) ⟨⟨lc, by simp, fun j hj => ?_, fun v hv => ?_⟩, fun v hv _ => by rw [Z1m]; exact Int.le_refl _, fun i h1 h2 => by omega⟩ fun j s h1 h2 h3 => ?_) ?_)))⟩⟩⟩
 · have := r.cap hj; exact ⟨this.1, this.2.1⟩
 ·
  rw [Z1m, Zgh fun i hi => ?_]
  rw [Z9h hi]
  by_cases e : (n.Arcs.getD i default).fr = (n.Arcs.getD i default).to
  · rw [if_pos e]
  · rw [if_neg e, (r.is.ok.hat i hi e true).2.2.1]; rfl
 ·
  obtain ⟨xs, ys⟩ := s
  obtain ⟨g1, g2, g3⟩ := h3
  simp only at g1 g2 g3
  have hjL : j < L := by omega
  have ht := (r.range hjL hSm).1 ⟨h1, h2⟩
  have htl := r.tlh hjL
  have hrv := r.rev hjL
  have hle := g1.rle r hjL
  have hxl := g1.lr
  unfold Z4k
  rw [hN, hcS]
  simp only [Int.toNat_natCast, hH0]
  refine Ok.gd.2 ⟨(by omega), Ok.bind.2 (Z8a (s_move (p := ⟨xs, ys, H0⟩) r g1 hjL hle.1 (Int.le_refl _)) (Ok.some.2 ⟨g1.move r hjL hle.1 (Int.le_refl _), fun v hv hvS => ?_, fun i h4 h5 => ?_⟩))⟩
  ·
   simp only
   rw [Zal r g1.lx hjL, ht, if_neg fun e => hvS e.symm]
   have := g2 v hv hvS
   split <;> omega
  ·
   simp only
   have hiL : i < L := by omega
   have hti := (r.range hiL hSm).1 ⟨h4, by omega⟩
   rw [Z8e r hxl hjL, if_neg fun e => by rw [e, htl.2.1] at hti; exact htl.2.2.2 (ht.trans hti.symm)]
   by_cases e : i = j
   · rw [if_pos e]; omega
   · rw [if_neg e]; exact g3 i h4 (by omega)
 ·
  rintro (⟨xs, ys⟩ | x) h
  ·
   obtain ⟨g1, g2, g3⟩ := h
   simp only at g1 g2 g3
   refine Ok.some.2 ⟨g1, fun v hv hvS => g2 v hv (by omega), ⟨hHl, fun s hs => ?_, fun t ht => ?_, fun v hv => ?_⟩, fun j hj h0 => ?_⟩
   · simp only; rw [hHv, if_pos (by omega)]
   · simp only; rw [hHv, if_neg (by omega)]
   · simp only; rw [hHv]; split <;> omega
   ·
    simp only at h0 ⊢
    rw [hHv, hHv]
    by_cases e : tl c j = S
    ·
     have := (r.range hj hSm).2 e
     rw [g3 j this.1 this.2] at h0; omega
    · rw [if_neg e]; split <;> omega
  · exact h.elim
def StepP (n : Net) (m L : Nat) (c : Csr) (was p : Pre) : Prop :=
  (∃ j, j < L ∧ Za0 n was.Ex (tl c j) ∧ Zf1 c was (tl c j) j ∧ p = Z8q c was j) ∨ (∃ u, u < m ∧ Zb0 n c was u ∧ p = Zb7 c was m u)
theorem PreOK.hb {p : Pre} (h : PreOK n m L c p) (r : Row n m L c) : HtB m p.H := h.hs.hb r
theorem PreOK.step {was p : Pre} (h : PreOK n m L c was) (r : Row n m L c) (hs : StepP n m L c was p) : PreOK n m L c p := by
 rcases hs with ⟨j, h1, h2, h3, rfl⟩ | ⟨u, h1, h2, rfl⟩
 · exact h.push r h1 h2 h3
 · exact (h.lift r h1 h2).1
def arcsOf (n : Net) (L : Nat) (c : Csr) (p : Pre) : List Int := Zha (fun j => decide (Za0 n p.Ex (tl c j) ∧ Zf1 c p (tl c j) j)) L
def vertsOf (n : Net) (m : Nat) (c : Csr) (p : Pre) : List Int := Zha (fun u => decide (Zb0 n c p u)) m
theorem PreOK.may {p : Pre} (h : PreOK n m L c p) (r : Row n m L c) : Zdp c p = some (arcsOf n L c p, vertsOf n m c p) := s_May r h.ok.lr h.ok.lx (h.hb r)
theorem row_of {m : Nat} (hc : CsrIs n m c) (hm : n.N = m) (hk : Z4h n.N n.S n.T n.Arcs = 0) : Row n m (Z0s n.Arcs m) c := ⟨hc, hk, hm, rfl⟩
end row
end Go.Acq
namespace Go.Acq
open Go
set_option linter.unusedSimpArgs false
set_option linter.unusedVariables false
section row
variable {n : Net} {m L : Nat} {c : Csr}
theorem open_j {R : List Int} (r : Row n m L c) (hR : ∀ j, j < L → 0 ≤ R.getD j 0 ∧ R.getD j 0 + R.getD (rv c j) 0 = cp c j) {u v : Nat} (h : Zd3 n (flN n.Arcs R) u v) : OpenJ c L R u v := by
 obtain ⟨i, hi, hne, h⟩ := h
 rw [Z9h hi, if_neg hne] at h
 have ha : ∀ s, hd c (pos n.Arcs i s) = (vtx (n.Arcs.getD i default) (!s)).toNat := fun s => by unfold hd; rw [(r.is.ok.hat i hi hne s).1]
 have ht : ∀ s, tl c (pos n.Arcs i s) = (vtx (n.Arcs.getD i default) s).toNat := fun s => by unfold tl; rw [(r.cpPos hi hne s).2.1, ha, Bool.not_not]
 have e0 := r.he i hi false
 have e1 := r.he i hi true
 obtain ⟨c1, c2, c3⟩ := r.cpPos hi hne false
 obtain ⟨d1, d2, d3⟩ := r.cpPos hi hne true
 have hf := hR _ c3
 simp only [Bool.not_false, Bool.not_true] at c2 d2
 rw [c2, c1] at hf
 rcases h with ⟨a1, a2, a3⟩ | ⟨a1, a2, a3⟩
 ·
  refine ⟨pos n.Arcs i false, c3, ?_, ?_, by omega⟩
  · rw [ht]; simp only [vtx, Bool.false_eq_true, if_false]; omega
  · rw [ha]; simp only [vtx, Bool.not_false, if_true]; omega
 ·
  refine ⟨pos n.Arcs i true, d3, ?_, ?_, by omega⟩
  · rw [ht]; simp only [vtx, if_true]; omega
  · rw [ha]; simp only [vtx, Bool.not_true, Bool.false_eq_true, if_false]; omega
theorem PreOK.far {p : Pre} {S T : Nat} (h : PreOK n m L c p) (r : Row n m L c) (hS : n.S = S) (hT : n.T = T) : ¬Reach (Zd3 n (flN n.Arcs p.Res)) S T := fun hr => by
 obtain ⟨⟨S', hS', -, hSm⟩, ⟨T', hT', -, hTm⟩, -, -⟩ := r.ends
 have hr2 : Reach (OpenJ c L p.Res) S T := hr.mono fun u v ho => open_j r h.ok.res ho
 have hp := Zdq (H := fun v => p.H.getD v 0) (G := OpenJ c L p.Res) (fun u v ⟨j, hj, h1, h2, h3⟩ => by have := h.val j hj h3; rw [h1, h2] at this; exact this) hr2
 have h1 := h.hs.2.1 S hS
 have h2 := h.hs.2.2.1 T hT
 simp only [h1, h2] at hp
 refine Zfb (m := m) (H := fun v => p.H.getD v 0) (a := 0) fun k hk => ?_
 obtain ⟨w, hw, he⟩ := hp k (by omega) (by omega)
 exact ⟨w, Zjh r (by omega) hw, by omega⟩
theorem PreOK.flow {p : Pre} (h : PreOK n m L c p) (r : Row n m L c) (ha : ∀ u, u < m → ¬Za0 n p.Ex u) : AllP n (flN n.Arcs p.Res) (fun x => x = 0) [n.S, n.T] := by
 refine ⟨h.ok.within r, fun v hv => ?_⟩
 have hm := r.hm
 by_cases hc : (v : Int) ∈ [n.S, n.T]
 · exact .inr hc
 ·
  left
  simp only [List.mem_cons, List.not_mem_nil, or_false, not_or] at hc
  have hvm : v < m := by omega
  have h1 := h.nn v hvm hc.1
  have h2 := h.ok.ex v hvm
  have h3 : ¬0 < p.Ex.getD v 0 := fun h0 => ha v hvm ⟨hc.1, hc.2, h0⟩
  omega
theorem to_tight {f : List Int} {b : List Bool} {T : Nat} (he : Z58 m n.Arcs) (hb : ∀ v, v < m → (b.getD v false = true ↔ ¬Reach (Zd3 n f) v T)) : ∀ i, i < n.Arcs.length → Zav n.Arcs f b i := fun i hi => by
 have e0 := he i hi false
 have e1 := he i hi true
 simp only [vtx, Bool.false_eq_true, if_false, if_true] at e0 e1
 obtain ⟨p, hp⟩ : ∃ p : Nat, (n.Arcs.getD i default).fr = p := ⟨(n.Arcs.getD i default).fr.toNat, by omega⟩
 obtain ⟨q, hq⟩ : ∃ q : Nat, (n.Arcs.getD i default).to = q := ⟨(n.Arcs.getD i default).to.toNat, by omega⟩
 rw [hp] at e0
 rw [hq] at e1
 unfold Zav inS
 rw [hp, hq, Int.toNat_natCast, Int.toNat_natCast]
 have step : ∀ u v : Nat, u < m → v < m → Zd3 n f u v → b.getD u false = true → b.getD v false = true := fun u v hu hv ho h => (hb v hv).2 fun h7 => (hb u hu).1 h (Reach.trans (.step .refl ho) h7)
 refine ⟨fun h4 h5 => Int.not_lt.1 fun h6 => ?_, fun h4 h5 => Int.not_lt.1 fun h6 => ?_⟩
 ·
  have hne : (n.Arcs.getD i default).fr ≠ (n.Arcs.getD i default).to := fun e => by rw [show p = q by omega, h5] at h4; cases h4
  rw [step p q (by omega) (by omega) ⟨i, hi, hne, .inl ⟨hp, hq, h6⟩⟩ h4] at h5; cases h5
 ·
  have hne : (n.Arcs.getD i default).fr ≠ (n.Arcs.getD i default).to := fun e => by rw [show p = q by omega, h5] at h4; cases h4
  rw [step q p (by omega) (by omega) ⟨i, hi, hne, .inr ⟨hq, hp, h6⟩⟩ h5] at h4; cases h4
theorem s_FlowR {R : List Int} (r : Row n m L c) (hr : R.length = L) (hR : ∀ j, j < L → 0 ≤ R.getD j 0 ∧ R.getD j 0 + R.getD (rv c j) 0 = cp c j) : Ok (Z7s c R (n.Arcs.length : Int)) (fun t => t = (flN n.Arcs R, 0)) := by
 have hbd := r.bd
 refine Ok.mono (s_FlowG r.is r.he hbd.2.1 hbd.2.2.1 (fun j hj => ?_) hbd.2.2.1 r.caps (by rw [r.hL]; exact hr)) ?_
 ·
  rw [r.hL] at hj
  obtain ⟨i, s, hi, _, _, _, _, _, _, _, _, h, _⟩ := r.at hj
  omega
 rintro ⟨f, e⟩ (⟨-, h1, h2⟩ | ⟨⟨j, hj, hn⟩, -⟩)
 ·
  simp only at h1 h2
  subst h1
  rw [show f = flN n.Arcs R from Zkg 0 (by rw [h2.1, Zmh]) fun i hi => by
   rw [h2.1] at hi
   rw [h2.2 i, Z9h hi]
   by_cases hne : (n.Arcs.getD i default).fr = (n.Arcs.getD i default).to
   · rw [if_pos hne, if_neg (fun h => h.2.1 hne)]
   · rw [if_neg hne, if_pos ⟨hi, hne, Za4 hi hne r.he⟩]]
 ·
  rw [r.hL] at hj
  exact absurd ((Zke r).2 hR j hj) hn
end row
end Go.Acq
namespace Go.Acq
open Go
set_option linter.unusedSimpArgs false
set_option linter.unusedVariables false
theorem Zg8 {l : List Bool} {i : Nat} (hi : i < l.length) (hf : l.getD i false = true) : ∀ k : Nat, tc (l.set i false) k + (if i < k then 1 else 0) = tc l k
 | 0 => by simp [tc]
 | k + 1 => by
  have ih := Zg8 hi hf k
  simp only [tc, Zbn]
  by_cases c : i = k
  ·
   subst c
   rw [if_neg (show ¬ i < i by omega)] at ih
   rw [if_pos (show i = i ∧ i < l.length from ⟨rfl, hi⟩), hf, if_pos (show i < i + 1 by omega)]; simp; omega
  ·
   rw [if_neg (show ¬(i = k ∧ i < l.length) from fun h => c h.1)]
   by_cases c2 : i < k
   · rw [if_pos c2] at ih; rw [if_pos (show i < k + 1 by omega)]; omega
   · rw [if_neg c2] at ih; rw [if_neg (show ¬ i < k + 1 by omega)]; omega
theorem Zjd {l : List Int} {u : Nat} {x : Int} (hu : u < l.length) : ∀ m : Nat, Z6f (fun v => (l.set u x).getD v 0) m = Z6f (fun v => l.getD v 0) m + (if u < m then x - l.getD u 0 else 0)
 | 0 => by simp [Z6f]
 | m + 1 => by
  have ih := Zjd (x := x) hu m
  simp only [Z6f]
  rw [ih, Zbn]
  by_cases c : u = m
  ·
   subst c
   rw [if_neg (show ¬ u < u by omega), if_pos ⟨rfl, hu⟩, if_pos (show u < u + 1 by omega)]; omega
  ·
   rw [if_neg (show ¬(u = m ∧ u < l.length) from fun h => c h.1)]
   by_cases c2 : u < m
   · rw [if_pos c2, if_pos (show u < m + 1 by omega)]; omega
   · rw [if_neg c2, if_neg (show ¬ u < m + 1 by omega)]; omega
theorem Zh7 {f : Nat → Int} {i0 : Nat} : ∀ {k : Nat}, i0 < k → Z6f (fun i => if i = i0 then f i + 1 else f i) k = Z6f f k + 1
 | 0, h => by omega
 | k + 1, h => by
  simp only [Z6f]
  by_cases c : k = i0
  ·
   subst c
   rw [if_pos rfl, Zf9 (g := fun i => if i = k then f i + 1 else f i) (h := f) fun i hi => if_neg (by omega)]; omega
  · rw [if_neg c, Zh7 (by omega)]; omega
theorem Zak (a : Int) : ∀ k : Nat, Z6f (fun _ => a) k = k * a
 | 0 => by simp [Z6f]
 | k + 1 => by simp only [Z6f, Zak a k]; rw [Int.natCast_succ, Int.add_mul, Int.one_mul]
theorem Zh5 (f : Nat → Int) (a : Int) : ∀ k : Nat, Z6f (fun i => a * f i) k = a * Z6f f k
 | 0 => by simp [Z6f]
 | k + 1 => by simp only [Z6f, Zh5 f a k]; rw [Int.mul_add]
theorem Zmb {a b A B : Int} (h0 : 0 ≤ a) (h1 : a ≤ A) (h2 : 0 ≤ b) (h3 : b ≤ B) : 0 ≤ a * b ∧ a * b ≤ A * B := ⟨Int.mul_nonneg h0 h2, Int.mul_le_mul h1 h3 h2 (by omega)⟩
theorem upset {mt : List Bool} {v w : Nat} (h : mt.getD w false = true) : (mt.set v true).getD w false = true := by
 rw [Zbn]; split
 · rfl
 · exact h
structure QOK (n : Net) (m : Nat) (buf : List Int) (ins : List Bool) : Prop where
  len : ins.length = m
  nat : ∀ q, q < buf.length → ∃ u : Nat, buf.getD q 0 = u ∧ u < m ∧ ins.getD u false = true ∧ (u : Int) ≠ n.S ∧ (u : Int) ≠ n.T
  inj : ∀ q q', q < buf.length → q' < buf.length → buf.getD q 0 = buf.getD q' 0 → q = q'
  cnt : buf.length = tc ins m
theorem QOK.none (n : Net) (m : Nat) : QOK n m [] (List.replicate m false) := ⟨List.length_replicate, fun q hq => by simp at hq, fun q q' hq => by simp at hq, by rw [Zil]; rfl⟩
theorem QOK.le {n : Net} {m : Nat} {buf : List Int} {ins : List Bool} (h : QOK n m buf ins) : buf.length ≤ m := by rw [h.cnt]; exact tc_le _ _
theorem QOK.room {n : Net} {m : Nat} {buf : List Int} {ins : List Bool} {v : Nat} (h : QOK n m buf ins) (hv : v < m) (hf : ins.getD v false = false) : buf.length < m := by
 have h1 := Zh4 (l := ins) (by rw [h.len]; exact hv) hf m
 have h2 := tc_le (ins.set v true) m
 rw [if_pos hv] at h1
 have := h.cnt
 omega
theorem QOK.put {n : Net} {m : Nat} {buf : List Int} {ins : List Bool} {v : Nat} (h : QOK n m buf ins) (hv : v < m) (hf : ins.getD v false = false) (hS : (v : Int) ≠ n.S) (hT : (v : Int) ≠ n.T) : QOK n m (buf ++ [(v : Int)]) (ins.set v true) := by
 have hl := h.len
 refine ⟨by simp [hl], fun q hq => ?_, fun q q' hq hq' he => ?_, ?_⟩
 ·
  rw [List.length_append, List.length_singleton] at hq
  rcases Nat.lt_or_ge q buf.length with h1 | h1
  ·
   obtain ⟨u, h2, h3, h4, h5⟩ := h.nat q h1
   refine ⟨u, by rw [Z4x h1]; exact h2, h3, ?_, h5⟩
   rw [Zbn]; split
   · rfl
   · exact h4
  ·
   refine ⟨v, ?_, hv, by rw [Zbn, if_pos ⟨rfl, by omega⟩], hS, hT⟩
   rw [Za8 h1, show q - buf.length = 0 by omega]; rfl
 ·
  rw [List.length_append, List.length_singleton] at hq hq'
  have key : ∀ q, q < buf.length → buf.getD q 0 ≠ (v : Int) := fun q h1 e => by
   obtain ⟨u, h2, h3, h4, -⟩ := h.nat q h1
   have : u = v := by omega
   subst this; rw [hf] at h4; cases h4
  have last : ∀ q, ¬ q < buf.length → q < buf.length + 1 → (buf ++ [(v : Int)]).getD q 0 = v := fun q h1 h2 => by
   rw [Za8 (by omega), show q - buf.length = 0 by omega]; rfl
  by_cases h1 : q < buf.length <;> by_cases h2 : q' < buf.length
  · rw [Z4x h1, Z4x h2] at he; exact h.inj q q' h1 h2 he
  · rw [Z4x h1, last q' h2 hq'] at he; exact absurd he (key q h1)
  · rw [Z4x h2, last q h1 hq] at he; exact absurd he.symm (key q' h2)
  · omega
 · rw [List.length_append, List.length_singleton, Zh4 (by omega) hf, if_pos hv, h.cnt]
theorem QOK.cut {n : Net} {m : Nat} {v : Int} {buf : List Int} {ins : List Bool} (h : QOK n m (v :: buf) ins) : ∃ u : Nat, v = u ∧ u < m ∧ (u : Int) ≠ n.S ∧ (u : Int) ≠ n.T ∧ ins.getD u false = true ∧ QOK n m buf (ins.set u false) := by
 obtain ⟨u, h1, h2, h3, h4, h5⟩ := h.nat 0 (by simp)
 have h1 : v = (u : Int) := h1
 have hl := h.len
 refine ⟨u, h1, h2, h4, h5, h3, by simp [hl], fun q hq => ?_, fun q q' hq hq' he => ?_, ?_⟩
 ·
  obtain ⟨w, g1, g2, g3, g4⟩ := h.nat (q + 1) (by simpa using hq)
  refine ⟨w, g1, g2, ?_, g4⟩
  rw [Z42 fun e => ?_]
  · exact g3
  ·
   subst e
   have := h.inj 0 (q + 1) (by simp) (by simpa using hq) (by rw [g1]; exact h1)
   omega
 ·
  have := h.inj (q + 1) (q' + 1) (by simpa using hq) (by simpa using hq') he
  omega
 ·
  have e1 := Zg8 (l := ins) (by rw [hl]; exact h2) h3 m
  rw [if_pos h2] at e1
  have := h.cnt
  simp only [List.length_cons] at this
  omega
section row
variable {n : Net} {m L : Nat} {c : Csr}
def Z53 (n : Net) (r : FifoRun) (v : Nat) : FifoRun := if Za0 n r.p.Ex v ∧ r.ins.getD v false = false then ⟨r.c, r.p, r.row.put v, r.ins.set v true, r.work⟩ else r
theorem s_wait {x : FifoRun} {v : Nat} (r : Row n m L c) (hc : x.c = c) (lx : x.p.Ex.length = m) (hq : QOK n m x.row.buf x.ins) (hcap : x.row.cap = m) (hv : v < m) : Z40 x (v : Nat) = some (Z53 n x v) := by
 obtain ⟨⟨S, hS, hcS, hSm⟩, ⟨T, hT, hcT, hTm⟩, -, -⟩ := r.ends
 have hl := hq.len
 refine Zf4 ?_
 have j3 : ∀ b : Bool, (b = true ↔ Za0 n x.p.Ex v ∧ x.ins.getD v false = false) → Ok (Z2z x v b) (fun t => t = Z53 n x v) := fun b hb => by
  unfold Z2z Z53
  simp only [Int.toNat_natCast]
  refine Ok.ite.2 ⟨fun h => ?_, fun h => ?_⟩
  ·
   have h2 := hb.1 h
   rw [if_pos h2]
   have := hq.room hv h2.2
   exact Ok.gd.2 ⟨by constructor <;> omega, Ok.gd.2 ⟨by omega, Ok.some.2 rfl⟩⟩
  · rw [if_neg fun h2 => h (hb.2 h2)]; exact Ok.some.2 rfl
 have j2 : ∀ b : Bool, (b = true ↔ Za0 n x.p.Ex v) → Ok (Z30 x v b) (fun t => t = Z53 n x v) := fun b hb => by
  unfold Z30
  simp only [Int.toNat_natCast]
  refine Ok.ite.2 ⟨fun h => Ok.gd.2 ⟨by constructor <;> omega, j3 _ ?_⟩, fun h => j3 _ ?_⟩
  ·
   have := hb.1 h
   cases x.ins.getD v false <;> simp [this]
  · exact ⟨fun h2 => (by cases h2), fun h2 => absurd (hb.2 h2.1) h⟩
 unfold Z40 Z3k
 rw [hc, hcS, hcT]
 refine Ok.ite.2 ⟨fun h1 => Ok.ite.2 ⟨fun h2 => Ok.gd.2 ⟨by constructor <;> omega, ?_⟩, fun h2 => ?_⟩, fun h1 => Ok.ite.2 ⟨fun h2 => (by cases h2), fun _ => ?_⟩⟩
 ·
  rw [Int.toNat_natCast]
  refine j2 _ ?_
  have := of_decide_eq_true h2
  unfold Za0
  rw [decide_eq_true_iff]
  exact ⟨fun h => ⟨by omega, by omega, h⟩, fun h => h.2.2⟩
 · refine j2 _ ⟨fun h => (by cases h), fun h => absurd (decide_eq_true (show (v : Int) ≠ T by have := h.2.1; omega)) h2⟩
 · exact j2 _ ⟨fun h => (by cases h), fun h => absurd (show (v : Int) ≠ S by have := h.1; omega) h1⟩
theorem Z7y (n : Net) (x : FifoRun) (v : Nat) : (Z53 n x v).p = x.p := by unfold Z53; split <;> rfl
theorem Zlv (n : Net) (x : FifoRun) (v : Nat) : (Z53 n x v).c = x.c := by unfold Z53; split <;> rfl
theorem Zfy (n : Net) (x : FifoRun) (v : Nat) : (Z53 n x v).work = x.work := by unfold Z53; split <;> rfl
theorem Zh1 (n : Net) (x : FifoRun) (v : Nat) : (Z53 n x v).row.cap = x.row.cap := by unfold Z53; split <;> rfl
theorem Zlt {x : FifoRun} {v : Nat} (hq : QOK n m x.row.buf x.ins) (hv : v < m) : QOK n m (Z53 n x v).row.buf (Z53 n x v).ins := by
 unfold Z53
 split
 · rename_i h; exact hq.put hv h.2 h.1.1 h.1.2.1
 · exact hq
theorem Zh0 {x : FifoRun} {v w : Nat} (hw : x.ins.getD w false = true) : (Z53 n x v).ins.getD w false = true := by
 unfold Z53
 split
 · exact upset hw
 · exact hw
theorem Zjb {x : FifoRun} {v : Nat} (hl : x.ins.length = m) (hv : v < m) (h : Za0 n x.p.Ex v) : (Z53 n x v).ins.getD v false = true := by
 unfold Z53
 split
 · exact Zb6 (by omega)
 ·
  rename_i h2
  cases e : x.ins.getD v false with
  | true => rfl
  | false => exact absurd ⟨h, e⟩ h2
theorem Zlu {x : FifoRun} {v w : Nat} (hw : w ≠ v) : (Z53 n x v).ins.getD w false = x.ins.getD w false := by
 unfold Z53
 split
 · exact Z42 (Ne.symm hw)
 · rfl
theorem s_fpush {x : FifoRun} {j : Nat} (r : Row n m L c) (hc : x.c = c) (h : PreOK n m L c x.p) (hq : QOK n m x.row.buf x.ins) (hcap : x.row.cap = m) (hj : j < L) (h1 : 0 < x.p.Ex.getD (tl c j) 0) (h2 : 0 < x.p.Res.getD j 0) (hw : 0 ≤ x.work.Pushes ∧ x.work.Pushes ≤ 1000000000000000) :
    Z4t x (tl c j : Nat) (j : Nat) = some (Z53 n ⟨c, Z8q c x.p j, x.row, x.ins, ⟨x.work.Pushes + 1, x.work.Lifts⟩⟩ (hd c j)) := by
  refine Zf4 ?_
  obtain ⟨xc, p, row, ins, work⟩ := x
  simp only at hc h hq hcap h1 h2 hw
  subst hc
  obtain ⟨-, lh, lr, -, -, -⟩ := r.lens
  have g1 := r.head hj
  have g2 := r.rev hj
  have g3 := r.tlh hj
  have hlr := h.ok.lr
  have hlx := h.ok.lx
  have hD : Z9y xc p j = min (p.Ex.getD (tl xc j) 0) (p.Res.getD j 0) := rfl
  have d0 : 0 ≤ Z9y xc p j := by omega
  have d1 : Z9y xc p j ≤ p.Res.getD j 0 := by omega
  have hm := h.ok.move r hj d0 d1
  have b1 := h.ok.bnd r g3.1
  have b2 := hm.bnd r g1.2
  have b3 := h.ok.rle r hj
  have b4 := hm.rle r g2.2.1
  have b5 := h.ok.rle r g2.2.1
  rw [Zal r hlx hj, if_neg g3.2.2.2, if_pos rfl] at b2
  rw [Z8e r hlr hj, if_pos rfl] at b4
  have e1 : (p.Res.set j (p.Res.getD j 0 - Z9y xc p j)).getD (rv xc j) 0 = p.Res.getD (rv xc j) 0 := Z42 fun e => g2.2.2.2 e.symm
  have e2 : (p.Ex.set (tl xc j) (p.Ex.getD (tl xc j) 0 - Z9y xc p j)).getD (hd xc j) 0 = p.Ex.getD (hd xc j) 0 := Z42 g3.2.2.2
  unfold Z4t
  simp only [Int.toNat_natCast, g1.1, g2.1, ← hD, e1, e2, List.length_set, hlr, hlx, lh, lr]
  have i1 : inb (j : Int) L := by constructor <;> omega
  have i2 : inb ((rv xc j : Nat) : Int) L := by constructor <;> omega
  have i3 : inb ((tl xc j : Nat) : Int) m := by constructor <;> omega
  have i4 : inb ((hd xc j : Nat) : Int) m := by constructor <;> omega
  have o1 : i64ok (p.Res.getD j 0 - Z9y xc p j) := by constructor <;> omega
  have o2 : i64ok (p.Res.getD (rv xc j) 0 + Z9y xc p j) := by constructor <;> omega
  have o3 : i64ok (p.Ex.getD (tl xc j) 0 - Z9y xc p j) := by constructor <;> omega
  have o4 : i64ok (p.Ex.getD (hd xc j) 0 + Z9y xc p j) := by constructor <;> omega
  have o5 : i64ok (work.Pushes + 1) := by constructor <;> omega
  refine Ok.gd.2 ⟨i1, Ok.gd.2 ⟨i1, Ok.gd.2 ⟨i3, Ok.gd.2 ⟨i1, Ok.gd.2 ⟨i1, Ok.gd.2 ⟨o1, Ok.gd.2 ⟨i1, Ok.gd.2 ⟨i2, Ok.gd.2 ⟨o2, Ok.gd.2 ⟨i2, Ok.gd.2 ⟨i3, Ok.gd.2 ⟨o3, Ok.gd.2 ⟨i3, Ok.gd.2 ⟨i4, Ok.gd.2 ⟨o4, Ok.gd.2 ⟨i4, Ok.gd.2 ⟨o5, Ok.bind.2 ?_⟩⟩⟩⟩⟩⟩⟩⟩⟩⟩⟩⟩⟩⟩⟩⟩⟩
  refine Z8a (s_wait (x := ⟨xc, Z8q xc p j, row, ins, ⟨work.Pushes + 1, work.Lifts⟩⟩) r rfl hm.lx hq hcap g1.2) (Ok.some.2 ?_)
  unfold Z53
  split <;> rfl
theorem s_once {x : FifoRun} {u : Nat} (r : Row n m L c) (hc : x.c = c) (h : PreOK n m L c x.p) (hq : QOK n m x.row.buf x.ins) (hcap : x.row.cap = m) (hu : u < m) (hA : Za0 n x.p.Ex u) (hw : 0 ≤ x.work.Pushes ∧ x.work.Pushes ≤ 1000000000000000) (hw2 : 0 ≤ x.work.Lifts ∧ x.work.Lifts ≤ 1000000000000000) :
    Ok (Z4u x (u : Nat)) (fun y => (∃ j, j < L ∧ tl c j = u ∧ Zf1 c x.p u j ∧ y = Z53 n ⟨c, Z8q c x.p j, x.row, x.ins, ⟨x.work.Pushes + 1, x.work.Lifts⟩⟩ (hd c j)) ∨ (Zb0 n c x.p u ∧ y = ⟨c, Zb7 c x.p m u, x.row, x.ins, ⟨x.work.Pushes, x.work.Lifts + 1⟩⟩)) := by
  have lf := r.lens.1
  have llh := r.lens.2.1
  have b := r.bd
  have hN := r.is.hN
  have f1 := (r.first.1 u (by omega)).1
  have f2 := (r.first.1 (u + 1) (by omega)).1
  have f3 := r.first.2.2.2 u hu
  have e1 : ((u : Int) + 1).toNat = u + 1 := by omega
  have hlr := h.ok.lr
  have hb := h.hb r
  have hlh := hb.1
  have hbu := hb.2 u hu
  unfold Z4u
  rw [hc, hN]
  simp only [Int.toNat_natCast, f1]
  refine Ok.gd.2 ⟨by constructor <;> omega, Ok.gd.2 ⟨by constructor <;> omega, Ok.bind.2 (Z9s (fun s => ∃ k : Nat, s = (Zji c x.p m (fs c u) (k - fs c u), (k : Int)) ∧ fs c u ≤ k ∧ k ≤ fs c (u + 1) ∧ ∀ j, fs c u ≤ j → j < k → ¬Zf1 c x.p u j) (fun s => (fs c (u + 1) - s.2).toNat) ⟨fs c u, by rw [Nat.sub_self]; rfl, Nat.le_refl _, f3.1, fun j h1 h2 => by omega⟩ (by unfold Z4q; simp only; omega) ?_)⟩⟩
  rintro s ⟨k, rfl, hk0, hk, hno⟩ P next exit
  have hlow := (Zis (c := c) (m := m) x.p (fs c u) (k - fs c u))
  unfold Z3l
  rw [hc]
  simp only [Int.toNat_natCast, e1, f2]
  refine Ok.gd.2 ⟨by constructor <;> omega, Ok.gd.2 ⟨by constructor <;> omega, Ok.ite.2 ⟨fun hx => ?_, fun hx => Ok.some.2 (exit _ ?_)⟩⟩⟩
  · have hkL : k < L := by omega
    have htl := (r.range hkL hu).1 ⟨hk0, by omega⟩
    have g1 := r.head hkL
    have g4 := h.ok.rle r hkL
    have hbh := hb.2 _ g1.2
    have ek : k + 1 - fs c u = (k - fs c u) + 1 := by omega
    have ek2 : fs c u + (k - fs c u) = k := by omega
    refine Ok.gd.2 ⟨by constructor <;> omega, Ok.ite.2 ⟨fun h0 => Ok.gd.2 ⟨by constructor <;> omega, Ok.some.2 (next _ ⟨k + 1, ?_, by omega, by omega, fun j h1 h2 => ?_⟩ (by simp only; omega))⟩, fun h0 => ?_⟩⟩
    · rw [ek]; simp only [Zji, ek2]; rw [if_neg (by omega)]; simp
    · by_cases e : j = k
      · subst e; exact fun hA2 => by have := hA2.1; omega
      · exact hno j h1 (by omega)
    · simp only [g1.1, Int.toNat_natCast]
      refine Ok.gd.2 ⟨by constructor <;> omega, Ok.gd.2 ⟨by constructor <;> omega, Ok.gd.2 ⟨by constructor <;> omega, Ok.gd.2 ⟨by constructor <;> omega, Ok.ite.2 ⟨fun h5 => Ok.bind.2 ?_, fun h5 => Ok.gd.2 ⟨by constructor <;> omega, Ok.some.2 (next _ ⟨k + 1, ?_, by omega, by omega, fun j h1 h2 => ?_⟩ (by simp only; omega))⟩⟩⟩⟩⟩⟩
      · have hp := s_fpush r hc h hq hcap hkL (by rw [htl]; exact hA.2.2) (by omega) hw
        rw [htl] at hp
        refine Z8a hp (Ok.some.2 (exit _ (Ok.some.2 (.inl ⟨k, hkL, htl, ⟨by omega, h5⟩, ?_⟩))))
        unfold Z53
        split <;> rfl
      · rw [ek]; simp only [Zji, ek2]; rw [if_pos (by omega)]; simp
      · by_cases e : j = k
        · subst e; exact fun hA2 => h5 hA2.2
        · exact hno j h1 (by omega)
  · obtain rfl : k = fs c (u + 1) := by omega
    have hge : -1000000 ≤ Zfc c x.p m u := by
      rcases (Zir x.p r hu).2 with h | ⟨j, h1, -, -, h4⟩
      · omega
      · have := hb.2 _ (r.head h1).2; omega
    have hlv : Zji c x.p m (fs c u) (fs c (u + 1) - fs c u) = Zfc c x.p m u := rfl
    have hle := (Zir x.p r hu).1
    simp only
    unfold Z4m
    rw [hlv]
    simp only [Int.toNat_natCast]
    exact Ok.gd.2 ⟨by constructor <;> omega, Ok.gd.2 ⟨by constructor <;> omega, Ok.gd.2 ⟨by constructor <;> omega, Ok.some.2 (.inr ⟨⟨hA, fun j h1 h2 => hno j h1 h2⟩, by rw [hc]; rfl⟩)⟩⟩⟩
end row
end Go.Acq
namespace Go.Acq
open Go
set_option linter.unusedSimpArgs false
set_option linter.unusedVariables false
def nlI (n : Net) (i : Nat) : Int := if (n.Arcs.getD i default).fr = (n.Arcs.getD i default).to then 0 else 1
def ai (c : Csr) (j : Nat) : Nat := (c.Arc.getD j 0).toNat
def hsum (p : Pre) (m : Nat) : Int := Z6f (fun v => p.H.getD v 0) m
section row
variable {n : Net} {m L : Nat} {c : Csr}
theorem Row.ai (r : Row n m L c) {j : Nat} (hj : j < L) : ai c j < n.Arcs.length ∧ nlI n (ai c j) = 1 ∧ Acq.ai c (rv c j) = Acq.ai c j ∧ ∀ k, k < L → Acq.ai c k = Acq.ai c j → k = j ∨ k = rv c j := by
 obtain ⟨i, s, hi, hne, hp, q1, q2, q3, q4, q5, q6, q7, q8⟩ := r.at hj
 have e : Acq.ai c j = i := by unfold Acq.ai; omega
 have hr := r.rev hj
 rw [e]
 refine ⟨hi, if_neg hne, ?_, fun k hk he => ?_⟩
 ·
  obtain ⟨i', s', hi', hne', hp', -, -, -, -, -, -, q7', -⟩ := r.at hr.2.1
  have e' : Acq.ai c (rv c j) = i' := by unfold Acq.ai; omega
  rw [e']
  rw [q5] at hp'
  exact (Z8r r.he hi' hi hne' hne hp').1
 ·
  obtain ⟨i', s', hi', hne', hp', -, -, -, -, -, -, q7', -⟩ := r.at hk
  have e' : Acq.ai c k = i' := by unfold Acq.ai; omega
  have : i' = i := by omega
  subst this
  cases s <;> cases s'
  · exact .inl (by rw [← hp', hp])
  · exact .inr (by rw [← hp', q5]; rfl)
  · exact .inr (by rw [← hp', q5]; rfl)
  · exact .inl (by rw [← hp', hp])
theorem PreOK.hsum {p : Pre} (h : PreOK n m L c p) (r : Row n m L c) : (m : Int) ≤ hsum p m ∧ Acq.hsum p m ≤ m + ((m : Int) - 2) * (2 * m - 1) := by
 obtain ⟨⟨S, hS, -, hSm⟩, ⟨T, hT, -, hTm⟩, hne, -⟩ := r.ends
 have h1 := h.hs.2.1 S hS
 have h2 := h.hs.2.2.1 T hT
 have h3 := h.hs.2.2.2
 have hST : S ≠ T := by omega
 constructor
 ·
  have a : Z6f (fun v => if v = S then (m : Int) else 0) m = m := by
   rw [Z9d (i := S) hSm fun j _ hj => if_neg hj, if_pos rfl]
  rw [← a]
  refine Zdd fun v hv => ?_
  split
  · rename_i e; subst e; omega
  · rename_i e; exact (h3 v hv).1
 ·
  have a : Z6f (fun v => (2 * (m : Int) - 1) + ((if v = S then (1 - (m : Int)) else 0) + (if v = T then (1 - 2 * (m : Int)) else 0))) m = m + ((m : Int) - 2) * (2 * m - 1) := by
   rw [Zga, Zga, Zak, Z9d (i := S) hSm fun j _ hj => if_neg hj, if_pos rfl, Z9d (i := T) hTm fun j _ hj => if_neg hj, if_pos rfl, Int.sub_mul]
   omega
  rw [← a]
  refine Zdd fun v hv => ?_
  have := h3 v hv
  by_cases e1 : v = S
  · subst e1; rw [if_pos rfl, if_neg hST, h1]; omega
  ·
   by_cases e2 : v = T
   · subst e2; rw [if_neg e1, if_pos rfl, h2]; omega
   · rw [if_neg e1, if_neg e2]; omega
structure SatI (n : Net) (m L : Nat) (c : Csr) (p : Pre) (f : Nat → Int) : Prop where
  nn : ∀ i, i < n.Arcs.length → 0 ≤ f i ∧ f i ≤ (2 * m - 1) * nlI n i
  op : ∀ j, j < L → 0 < p.Res.getD j 0 → f (ai c j) + 1 ≤ max (p.H.getD (tl c j) 0) (p.H.getD (hd c j) 0 + 1)
theorem SatI.zero {p : Pre} (h : PreOK n m L c p) (r : Row n m L c) : SatI n m L c p (fun _ => 0) := by
 have b := r.bd
 refine ⟨fun i hi => ⟨Int.le_refl _, ?_⟩, fun j hj _ => ?_⟩
 · unfold nlI; split <;> omega
 · have := h.hs.2.2.2 _ (r.head hj).2; omega
theorem SatI.lift {p : Pre} {f : Nat → Int} {u : Nat} (h : SatI n m L c p f) (hp : PreOK n m L c p) (r : Row n m L c) (hu : u < m) (hl : p.H.getD u 0 ≤ Zfc c p m u) : SatI n m L c (Zb7 c p m u) f := by
 refine ⟨h.nn, fun j hj h0 => ?_⟩
 have h1 := h.op j hj h0
 have hlh := hp.hs.1
 have key : ∀ v, p.H.getD v 0 ≤ (Zb7 c p m u).H.getD v 0 := fun v => by
  simp only [Zb7]
  rw [Zbn]; split
  · rename_i e; rw [← e.1]; omega
  · exact Int.le_refl _
 have := key (tl c j)
 have := key (hd c j)
 omega
theorem SatI.push {p : Pre} {f : Nat → Int} {j : Nat} (h : SatI n m L c p f) (hp : PreOK n m L c p) (r : Row n m L c) (hj : j < L) (hA : 0 < p.Ex.getD (tl c j) 0) (hB : Zf1 c p (tl c j) j) :
    (p.Res.getD j 0 ≤ p.Ex.getD (tl c j) 0 → SatI n m L c (Z8q c p j) (fun i => if i = ai c j then f i + 1 else f i)) ∧ (¬p.Res.getD j 0 ≤ p.Ex.getD (tl c j) 0 → SatI n m L c (Z8q c p j) f) := by
  have hD : Z9y c p j = min (p.Ex.getD (tl c j) 0) (p.Res.getD j 0) := rfl
  have hlr := hp.ok.lr
  have ht := r.tlh hj
  have hr := r.rev hj
  have hai := r.ai hj
  have h1 := h.op j hj hB.1
  have h2 := hB.2
  have h3 := hp.hs.2.2.2 _ ht.1
  have e0 : ∀ k, (Z8q c p j).Res.getD k 0 = if k = rv c j then p.Res.getD (rv c j) 0 + Z9y c p j else if k = j then p.Res.getD j 0 - Z9y c p j else p.Res.getD k 0 := fun k => Z8e r hlr hj
  have eh : (Z8q c p j).H = p.H := rfl
  have hnn := h.nn _ hai.1
  rw [hai.2.1] at hnn
  refine ⟨fun hs => ⟨fun i hi => ?_, fun k hk h0 => ?_⟩, fun hs => ⟨h.nn, fun k hk h0 => ?_⟩⟩
  · by_cases e : i = Acq.ai c j
    · subst e; rw [if_pos rfl, hai.2.1]; omega
    · rw [if_neg e]; exact h.nn i hi
  · rw [e0] at h0
    rw [eh]
    by_cases c1 : k = rv c j
    · subst c1; rw [if_pos hai.2.2.1, hai.2.2.1, ht.2.1, ht.2.2.1]; omega
    · rw [if_neg c1] at h0
      by_cases c2 : k = j
      · subst c2; rw [if_pos rfl] at h0; omega
      · rw [if_neg c2] at h0
        have : Acq.ai c k ≠ Acq.ai c j := fun e => (hai.2.2.2 k hk e).elim c2 c1
        rw [if_neg this]; exact h.op k hk h0
  · rw [e0] at h0
    rw [eh]
    by_cases c1 : k = rv c j
    · subst c1; rw [hai.2.2.1, ht.2.1, ht.2.2.1]; omega
    · rw [if_neg c1] at h0
      by_cases c2 : k = j
      · subst c2; exact h1
      · rw [if_neg c2] at h0; exact h.op k hk h0
structure FI (n : Net) (m L : Nat) (c : Csr) (h0 Hm R0 : Int) (x : FifoRun) (k : Nat) (X : Int) (f : Nat → Int) (q : Int) : Prop where
  cc : x.c = c
  ok : PreOK n m L c x.p
  qq : QOK n m x.row.buf x.ins
  cap : x.row.cap = m
  ps : ∀ v, v < m → x.ins.getD v false = true → 0 < x.p.Ex.getD v 0
  kl : k ≤ x.row.buf.length
  X0 : 0 ≤ X
  h1 : ∀ i, i < k → ∀ u : Nat, x.row.buf.getD i 0 = u → x.p.H.getD u 0 ≤ X
  h2 : ∀ i, k ≤ i → i < x.row.buf.length → ∀ u : Nat, x.row.buf.getD i 0 = u → x.p.H.getD u 0 + 1 ≤ X
  sat : SatI n m L c x.p f
  lf : 0 ≤ x.work.Lifts ∧ x.work.Lifts + h0 ≤ hsum x.p m
  pu : 0 ≤ x.work.Pushes
  hm : hsum x.p m ≤ Hm
  bud : q + m * (X + (Hm - hsum x.p m)) + k ≤ R0
  q0 : 0 ≤ q ∧ (q = 0 ∨ 3 ≤ m)
def InI (n : Net) (m L : Nat) (c : Csr) (h0 Hm R0 : Int) (u : Nat) (x : FifoRun) (k : Nat) (X : Int) (f : Nat → Int) (q : Int) : Prop :=
  FI n m L c h0 Hm R0 x k X f q ∧ x.ins.getD u false = false ∧ x.p.H.getD u 0 ≤ X ∧ (∀ v, v < m → v ≠ u → Za0 n x.p.Ex v → x.ins.getD v false = true) ∧ x.work.Pushes + (if 0 < x.p.Ex.getD u 0 then 1 else 0) ≤ Z6f f n.Arcs.length + q
theorem FI.bnd {h0 Hm R0 X q : Int} {x : FifoRun} {k : Nat} {f : Nat → Int} (h : FI n m L c h0 Hm R0 x k X f q) (hP : x.work.Pushes ≤ Z6f f n.Arcs.length + q) :
    q ≤ R0 ∧ Z6f f n.Arcs.length ≤ (2 * m - 1) * Z6f (nlI n) n.Arcs.length ∧ x.work.Pushes ≤ (2 * m - 1) * Z6f (nlI n) n.Arcs.length + R0 ∧ x.work.Lifts ≤ Hm - h0 := by
  have h1 := h.hm
  have h2 := h.X0
  have h3 := h.bud
  have h4 : 0 ≤ (m : Int) * (X + (Hm - hsum x.p m)) := Int.mul_nonneg (by omega) (by omega)
  have h5 : Z6f f n.Arcs.length ≤ Z6f (fun i => (2 * (m : Int) - 1) * nlI n i) n.Arcs.length := Zdd fun i hi => (h.sat.nn i hi).2
  rw [Zh5] at h5
  have h6 := h.lf
  refine ⟨by omega, h5, by omega, by omega⟩
theorem Zgz {x : FifoRun} {v w : Nat} (hw : (Z53 n x v).ins.getD w false = true) : x.ins.getD w false = true ∨ (w = v ∧ Za0 n x.p.Ex v) := by
 unfold Z53 at hw
 split at hw
 ·
  rename_i h
  simp only at hw
  by_cases e : w = v
  · exact .inr ⟨e, h.1⟩
  · rw [Z42 (Ne.symm e)] at hw; exact .inl hw
 · exact .inl hw
theorem Zd8 (x : FifoRun) (v : Nat) : (Z53 n x v).row.buf = x.row.buf ∨ (Z53 n x v).row.buf = x.row.buf ++ [(v : Int)] := by
 unfold Z53; split
 · exact .inr rfl
 · exact .inl rfl
theorem InI.push {h0 Hm R0 X q : Int} {x : FifoRun} {k u j : Nat} {f : Nat → Int} (h : InI n m L c h0 Hm R0 u x k X f q) (r : Row n m L c) (hj : j < L) (ht : tl c j = u) (hA : Za0 n x.p.Ex u) (hB : Zf1 c x.p u j) :
    ∃ f', InI n m L c h0 Hm R0 u (Z53 n ⟨c, Z8q c x.p j, x.row, x.ins, ⟨x.work.Pushes + 1, x.work.Lifts⟩⟩ (hd c j)) k X f' q := by
  subst ht
  obtain ⟨hF, hu, hX, hact, hP⟩ := h
  have htl := r.tlh hj
  have hhd := r.head hj
  have hD : Z9y c x.p j = min (x.p.Ex.getD (tl c j) 0) (x.p.Res.getD j 0) := rfl
  have hE : ∀ v, (Z8q c x.p j).Ex.getD v 0 = x.p.Ex.getD v 0 - (if tl c j = v then Z9y c x.p j else 0) + (if hd c j = v then Z9y c x.p j else 0) := fun v => Zal r hF.ok.ok.lx hj
  have hA2 := hA.2.2
  have hB1 := hB.1
  have hB2 := hB.2
  have hok := hF.ok.push r hj hA hB
  have hsat := hF.sat.push hF.ok r hj hA2 hB
  rw [if_pos hA2] at hP
  generalize hy : (⟨c, Z8q c x.p j, x.row, x.ins, ⟨x.work.Pushes + 1, x.work.Lifts⟩⟩ : FifoRun) = y
  have y1 : y.c = c := by rw [← hy]
  have y2 : y.p = Z8q c x.p j := by rw [← hy]
  have y3 : y.row = x.row := by rw [← hy]
  have y4 : y.ins = x.ins := by rw [← hy]
  have y5 : y.work = ⟨x.work.Pushes + 1, x.work.Lifts⟩ := by rw [← hy]
  have hq : QOK n m y.row.buf y.ins := by rw [y3, y4]; exact hF.qq
  have hlen := hF.qq.len
  have main : ∀ f', SatI n m L c (Z8q c x.p j) f' → x.work.Pushes + 1 + (if 0 < (Z8q c x.p j).Ex.getD (tl c j) 0 then 1 else 0) ≤ Z6f f' n.Arcs.length + q → InI n m L c h0 Hm R0 (tl c j) (Z53 n y (hd c j)) k X f' q := fun f' hs hp => by
    refine ⟨⟨by rw [Zlv, y1], by rw [Z7y, y2]; exact hok, Zlt hq hhd.2, by rw [Zh1, y3]; exact hF.cap, fun v hv hi => ?_, ?_, hF.X0, fun i hi w hw => ?_, fun i hi1 hi2 w hw => ?_, by rw [Z7y, y2]; exact hs, ?_, ?_, ?_, ?_, hF.q0⟩, ?_, ?_, fun v hv hvu ha => ?_, ?_⟩
    · rw [Z7y, y2]
      rcases Zgz hi with h1 | ⟨h1, h2⟩
      · rw [y4] at h1
        have := hF.ps v hv h1
        have hne : tl c j ≠ v := fun e => by rw [e, h1] at hu; cases hu
        rw [hE, if_neg hne]; split <;> omega
      · subst h1; rw [y2] at h2; exact h2.2.2
    · have := hF.kl
      rcases Zd8 (n := n) y (hd c j) with e | e <;> rw [e, y3]
      · exact this
      · rw [List.length_append]; omega
    · rw [Z7y, y2]
      have hk := hF.kl
      have : (Z53 n y (hd c j)).row.buf.getD i 0 = x.row.buf.getD i 0 := by
        rcases Zd8 (n := n) y (hd c j) with e | e <;> rw [e, y3]
        rw [Z4x (by omega)]
      rw [this] at hw
      exact hF.h1 i hi w hw
    · rw [Z7y, y2]
      show x.p.H.getD w 0 + 1 ≤ X
      rcases Zd8 (n := n) y (hd c j) with e | e <;> rw [e, y3] at hi2 hw
      · exact hF.h2 i hi1 hi2 w hw
      · by_cases hl : i < x.row.buf.length
        · rw [Z4x hl] at hw; exact hF.h2 i hi1 hl w hw
        · rw [List.length_append, List.length_singleton] at hi2
          rw [Za8 (by omega), show i - x.row.buf.length = 0 by omega] at hw
          have hw2 : ((hd c j : Nat) : Int) = w := by simpa using hw
          have : hd c j = w := by omega
          rw [← this]; omega
    · rw [Zfy, Z7y, y2, y5]; exact hF.lf
    · rw [Zfy, y5]; have := hF.pu; simp only; omega
    · rw [Z7y, y2]; exact hF.hm
    · rw [Z7y, y2]; exact hF.bud
    · rw [Zlu (Ne.symm (fun e => htl.2.2.2 e.symm)), y4]; exact hu
    · rw [Z7y, y2]; exact hX
    · rw [Z7y, y2] at ha
      by_cases e : v = hd c j
      · subst e; exact Zjb (m := m) (by rw [y4]; exact hlen) hv (by rw [y2]; exact ha)
      · refine Zh0 ?_
        rw [y4]
        refine hact v hv hvu ⟨ha.1, ha.2.1, ?_⟩
        have := ha.2.2
        rw [hE, if_neg (Ne.symm hvu), if_neg (Ne.symm e)] at this; omega
    · rw [Zfy, Z7y, y2, y5]; exact hp
  by_cases hs : x.p.Res.getD j 0 ≤ x.p.Ex.getD (tl c j) 0
  · refine ⟨_, main _ (hsat.1 hs) ?_⟩
    rw [Zh7 (r.ai hj).1]
    split <;> omega
  · refine ⟨f, main f (hsat.2 hs) ?_⟩
    have e0 : (Z8q c x.p j).Ex.getD (tl c j) 0 = 0 := by rw [hE, if_pos rfl, if_neg (fun e => htl.2.2.2 e.symm)]; omega
    rw [e0, if_neg (by omega)]
    omega
theorem InI.lift {h0 Hm R0 X q : Int} {x : FifoRun} {k u : Nat} {f : Nat → Int} (h : InI n m L c h0 Hm R0 u x k X f q) (r : Row n m L c) (hu : u < m) (hS : Zb0 n c x.p u) (hHm : ∀ p : Pre, PreOK n m L c p → hsum p m ≤ Hm) :
    ∃ X', InI n m L c h0 Hm R0 u ⟨c, Zb7 c x.p m u, x.row, x.ins, ⟨x.work.Pushes, x.work.Lifts + 1⟩⟩ k X' f q := by
  obtain ⟨hF, hui, hX, hact, hP⟩ := h
  obtain ⟨hok, hle⟩ := hF.ok.lift r hu hS
  have hlh := hF.ok.hs.1
  have hsu : hsum (Zb7 c x.p m u) m = hsum x.p m + (Zfc c x.p m u + 1 - x.p.H.getD u 0) := by
    unfold hsum
    simp only [Zb7]
    rw [Zjd (by omega), if_pos hu]
  have hoff : ∀ w, w ≠ u → (Zb7 c x.p m u).H.getD w 0 = x.p.H.getD w 0 := fun w hw => Z42 (Ne.symm hw)
  have hat : (Zb7 c x.p m u).H.getD u 0 = Zfc c x.p m u + 1 := Zb6 (by omega)
  have hnb : ∀ i, i < x.row.buf.length → ∀ w : Nat, x.row.buf.getD i 0 = w → w ≠ u := fun i hi w hw e => by
    obtain ⟨w', g1, g2, g3, -⟩ := hF.qq.nat i hi
    have : w' = u := by omega
    rw [this, hui] at g3; cases g3
  have hkl := hF.kl
  have hlf := hF.lf
  have hX0 := hF.X0
  refine ⟨X + (Zfc c x.p m u + 1 - x.p.H.getD u 0), ⟨rfl, hok, hF.qq, hF.cap, hF.ps, hF.kl, by omega, fun i hi w hw => ?_, fun i hi1 hi2 w hw => ?_, hF.sat.lift hF.ok r hu hle, ?_, hF.pu, hHm _ hok, ?_, hF.q0⟩, hui, ?_, hact, hP⟩
  · have := hF.h1 i hi w hw
    simp only
    rw [hoff w (hnb i (by omega) w hw)]; omega
  · have := hF.h2 i hi1 hi2 w hw
    simp only
    rw [hoff w (hnb i hi2 w hw)]; omega
  · simp only; rw [hsu]; omega
  · simp only
    rw [hsu, show X + (Zfc c x.p m u + 1 - x.p.H.getD u 0) + (Hm - (hsum x.p m + (Zfc c x.p m u + 1 - x.p.H.getD u 0))) = X + (Hm - hsum x.p m) by omega]
    exact hF.bud
  · simp only; rw [hat]; omega
theorem FI.take {h0 Hm R0 X q : Int} {x : FifoRun} {k : Nat} {f : Nat → Int} {v : Int} {rest : List Int} (h : FI n m L c h0 Hm R0 x k X f q) (hact : ∀ v, v < m → Za0 n x.p.Ex v → x.ins.getD v false = true) (hP : x.work.Pushes ≤ Z6f f n.Arcs.length + q) (r : Row n m L c) (hb : x.row.buf = v :: rest) :
    ∃ u : Nat, v = u ∧ u < m ∧ Za0 n x.p.Ex u ∧ ∃ k' X', InI n m L c h0 Hm R0 u ⟨c, x.p, x.row.cut, x.ins.set u false, x.work⟩ k' X' f (q + 1) := by
  have hq := h.qq
  rw [hb] at hq
  obtain ⟨u, rfl, hu, huS, huT, hiu, hq2⟩ := hq.cut
  have hpos := h.ps u hu hiu
  have hlen := h.qq.len
  have hcb : x.row.cut.buf = rest := by unfold Chan.cut; rw [hb]; rfl
  have h3m : 3 ≤ m := by
    obtain ⟨⟨S, hS, -, hSm⟩, ⟨T, hT, -, hTm⟩, hne, -⟩ := r.ends
    omega
  refine ⟨u, rfl, hu, ⟨huS, huT, hpos⟩, ?_⟩
  have hbl := h.qq.le
  rw [hb] at hbl
  simp only [List.length_cons] at hbl
  have hX0 := h.X0
  have hkl := h.kl
  rw [hb] at hkl
  simp only [List.length_cons] at hkl
  have hbud := h.bud
  have hq0 := h.q0
  obtain ⟨k1, X1, g1, g2, g3, g4, g5, g6⟩ : ∃ (k1 : Nat) (X1 : Int), 1 ≤ k1 ∧ k1 ≤ rest.length + 1 ∧ 0 ≤ X1 ∧ (∀ i, i < k1 → ∀ w : Nat, x.row.buf.getD i 0 = w → x.p.H.getD w 0 ≤ X1) ∧ (∀ i, k1 ≤ i → i < x.row.buf.length → ∀ w : Nat, x.row.buf.getD i 0 = w → x.p.H.getD w 0 + 1 ≤ X1) ∧ q + m * (X1 + (Hm - hsum x.p m)) + k1 ≤ R0 := by
    by_cases hk : k = 0
    · subst hk
      have h0 := h.h2 0 (Nat.le_refl _) (by rw [hb]; simp) u (by rw [hb]; rfl)
      have hh := h.ok.hs.2.2.2 u hu
      refine ⟨rest.length + 1, X - 1, by omega, Nat.le_refl _, by omega, fun i hi w hw => ?_, fun i hi1 hi2 => by rw [hb, List.length_cons] at hi2; omega, ?_⟩
      · have := h.h2 i (Nat.zero_le _) (by rw [hb, List.length_cons]; exact hi) w hw
        omega
      · rw [show X - 1 + (Hm - hsum x.p m) = X + (Hm - hsum x.p m) - 1 by omega, Int.mul_sub, Int.mul_one]
        omega
    · exact ⟨k, X, by omega, hkl, hX0, h.h1, h.h2, hbud⟩
  have hget : ∀ i, rest.getD i 0 = x.row.buf.getD (i + 1) 0 := fun i => by rw [hb]; rfl
  refine ⟨k1 - 1, X1, ⟨rfl, h.ok, by rw [hcb]; exact hq2, by rw [← h.cap]; rfl, fun w hw hi => ?_, by rw [hcb]; omega, g3, fun i hi w hw => ?_, fun i hi1 hi2 w hw => ?_, h.sat, h.lf, h.pu, h.hm, ?_, ⟨by omega, .inr h3m⟩⟩, ?_, ?_, fun w hw hwu ha => ?_, ?_⟩
  · simp only at hi ⊢
    by_cases e : u = w
    · subst e; rw [Zb6 (by omega)] at hi; cases hi
    · rw [Z42 e] at hi; exact h.ps w hw hi
  · simp only [hcb] at hw; rw [hget] at hw; exact g4 (i + 1) (by omega) w hw
  · simp only [hcb] at hw hi2; rw [hget] at hw; exact g5 (i + 1) (by omega) (by rw [hb, List.length_cons]; omega) w hw
  · simp only; omega
  · exact Zb6 (by omega)
  · exact g4 0 (by omega) u (by rw [hb]; rfl)
  · simp only
    rw [Z42 (Ne.symm hwu)]; exact hact w hw ha
  · simp only
    rw [if_pos hpos]; omega
end row
end Go.Acq
namespace Go.Acq
open Go
set_option linter.unusedSimpArgs false
set_option linter.unusedVariables false
section row
variable {n : Net} {m L : Nat} {c : Csr}
abbrev FS := List Int × List Int × List Int × Chan × List Bool × Int × Int
def xOf (c : Csr) (s : FS) : FifoRun := ⟨c, ⟨s.1, s.2.1, s.2.2.1⟩, s.2.2.2.1, s.2.2.2.2.1, ⟨s.2.2.2.2.2.1, s.2.2.2.2.2.2⟩⟩
theorem s_inner {h0 Hm R0 MS X q base : Int} {u k : Nat} {f : Nat → Int} {s0 : FS} (r : Row n m L c) (hu : u < m) (huS : (u : Int) ≠ n.S) (huT : (u : Int) ≠ n.T) (hHm : ∀ p : Pre, PreOK n m L c p → hsum p m ≤ Hm)
    (hMS : (2 * m - 1) * Z6f (nlI n) n.Arcs.length = MS) (hB : MS + R0 + (Hm - h0) ≤ 999999999999999) (hI : InI n m L c h0 Hm R0 u (xOf c s0) k X f q) (hb : base = s0.2.2.2.2.2.1 + s0.2.2.2.2.2.2) (hpos : 0 < s0.2.1.getD u 0)
    {Q : ((FS) ⊕ (Pre × Work)) → Prop}
    (done : ∀ s : FS, (∃ X f, InI n m L c h0 Hm R0 u (xOf c s) k X f q) → base + 1 ≤ s.2.2.2.2.2.1 + s.2.2.2.2.2.2 → ¬0 < s.2.1.getD u 0 → Q (.inl s)) :
    Ok (Option.bind (Z2o (fun s => Z54 c (u : Nat) s.1 s.2.1 s.2.2.1 s.2.2.2.1 s.2.2.2.2.1 s.2.2.2.2.2.1 s.2.2.2.2.2.2) Z4q s0) fun (p4_0_0, p4_0_1, p4_0_2, p4_0_3, p4_0_4, p4_0_5, p4_0_6) => some (Sum.inl (p4_0_0, p4_0_1, p4_0_2, p4_0_3, p4_0_4, p4_0_5, p4_0_6))) Q := by
  refine Ok.bind.2 (Z9s (fun s => (∃ X f, InI n m L c h0 Hm R0 u (xOf c s) k X f q) ∧ base ≤ s.2.2.2.2.2.1 + s.2.2.2.2.2.2 ∧ (0 < s.2.1.getD u 0 ∨ base + 1 ≤ s.2.2.2.2.2.1 + s.2.2.2.2.2.2)) (fun s => (1000000000000000 - (s.2.2.2.2.2.1 + s.2.2.2.2.2.2)).toNat) ⟨⟨X, f, hI⟩, by omega, .inl hpos⟩ ?_ ?_)
  · have h1 := hI.1.pu
    have h2 := hI.1.lf.1
    simp only [xOf] at h1 h2
    unfold Z4q; omega
  rintro ⟨R, E, H, ch, ins, P, Lf⟩ ⟨⟨X, f, hI⟩, hb1, hb2⟩ W next exit
  have hF := hI.1
  have h1 := hF.pu
  have h2 := hF.lf
  have hP := hI.2.2.2.2
  have h3 := hF.bnd (by split at hP <;> omega)
  rw [hMS] at h3
  have hlx := hF.ok.ok.lx
  simp only [xOf] at h1 h2 h3 hlx hb1 hb2 next ⊢
  unfold Z54
  simp only [Int.toNat_natCast]
  refine Ok.gd.2 ⟨by constructor <;> omega, Ok.ite.2 ⟨fun hE => ?_, fun hE => Ok.some.2 (exit _ (Ok.some.2 (done _ ⟨X, f, hI⟩ (hb2.resolve_left hE) hE)))⟩⟩
  have hA : Za0 n E u := ⟨huS, huT, hE⟩
  rw [if_pos (show 0 < (xOf c (R, E, H, ch, ins, P, Lf)).p.Ex.getD u 0 from hE)] at hP
  refine Ok.bind.2 (Ok.mono (s_once (x := xOf c (R, E, H, ch, ins, P, Lf)) r rfl hF.ok hF.qq hF.cap hu hA ⟨by simp only [xOf]; omega, by simp only [xOf]; omega⟩ ⟨by simp only [xOf]; omega, by simp only [xOf]; omega⟩) ?_)
  rintro y (⟨j, hj, ht, hAd, rfl⟩ | ⟨hS, rfl⟩)
  · obtain ⟨f', hI'⟩ := InI.push hI r hj ht hA hAd
    have hy := Zfy n ⟨c, Z8q c (xOf c (R, E, H, ch, ins, P, Lf)).p j, (xOf c (R, E, H, ch, ins, P, Lf)).row, (xOf c (R, E, H, ch, ins, P, Lf)).ins, ⟨(xOf c (R, E, H, ch, ins, P, Lf)).work.Pushes + 1, (xOf c (R, E, H, ch, ins, P, Lf)).work.Lifts⟩⟩ (hd c j)
    have hyc := Zlv n ⟨c, Z8q c (xOf c (R, E, H, ch, ins, P, Lf)).p j, (xOf c (R, E, H, ch, ins, P, Lf)).row, (xOf c (R, E, H, ch, ins, P, Lf)).ins, ⟨(xOf c (R, E, H, ch, ins, P, Lf)).work.Pushes + 1, (xOf c (R, E, H, ch, ins, P, Lf)).work.Lifts⟩⟩ (hd c j)
    generalize Z53 n ⟨c, Z8q c (xOf c (R, E, H, ch, ins, P, Lf)).p j, (xOf c (R, E, H, ch, ins, P, Lf)).row, (xOf c (R, E, H, ch, ins, P, Lf)).ins, ⟨(xOf c (R, E, H, ch, ins, P, Lf)).work.Pushes + 1, (xOf c (R, E, H, ch, ins, P, Lf)).work.Lifts⟩⟩ (hd c j) = y at hI' hy hyc
    obtain ⟨yc, ⟨yR, yE, yH⟩, yr, yi, ⟨yP, yL⟩⟩ := y
    simp only [xOf] at hyc hy
    subst hyc
    injection hy with hy1 hy2
    subst hy1; subst hy2
    exact Ok.some.2 (next _ ⟨⟨X, f', hI'⟩, by simp only; omega, .inr (by simp only; omega)⟩ (by simp only; omega))
  · obtain ⟨X', hI'⟩ := InI.lift hI r hu hS hHm
    refine Ok.some.2 (next _ ⟨⟨X', f, hI'⟩, ?_, .inr ?_⟩ ?_)
    · simp only [xOf]; omega
    · simp only [xOf]; omega
    · simp only [xOf]; omega
theorem s_fRun {p : Pre} (r : Row n m L c) (h : PreOK n m L c p) : Ok (Z8x c p) (fun t => PreOK n m L c t.1 ∧ (∀ v, v < m → ¬Za0 n t.1.Ex v) ∧ 0 ≤ t.2.Lifts ∧ t.2.Lifts ≤ ((m : Int) - 2) * (2 * m - 1) ∧ 0 ≤ t.2.Pushes ∧
    t.2.Pushes ≤ (2 * m - 1) * Z6f (nlI n) n.Arcs.length + m * (2 * (((m : Int) - 2) * (2 * m - 1)) + 1) ∧ ((∀ v, v < m → ¬Za0 n p.Ex v) → t = (p, ⟨0, 0⟩))) := by
  have bd := r.bd
  have hN := r.is.hN
  have lr := h.ok.lr
  have lx := h.ok.lx
  have lh := h.hs.1
  obtain ⟨hs1, hs2⟩ := h.hsum r
  have hHm : ∀ q : Pre, PreOK n m L c q → hsum q m ≤ m + ((m : Int) - 2) * (2 * m - 1) := fun q hq => (hq.hsum r).2
  have e1 := Zmb (a := (m : Int) - 2) (A := 4094) (b := 2 * m - 1) (B := 8191) (by omega) (by omega) (by omega) (by omega)
  obtain ⟨Λ, hΛ⟩ : ∃ z : Int, ((m : Int) - 2) * (2 * m - 1) = z := ⟨_, rfl⟩
  rw [hΛ] at hs2 e1 hHm ⊢
  obtain ⟨h0, hh0⟩ : ∃ z, hsum p m = z := ⟨_, rfl⟩
  rw [hh0] at hs1 hs2
  have e2 := Zmb (a := (m : Int)) (A := 4096) (b := 2 * m - 1 + (m + Λ - h0)) (B := 33550000) (by omega) (by omega) (by omega) (by omega)
  obtain ⟨R0, hR0⟩ : ∃ z, (m : Int) * (2 * m - 1 + (m + Λ - h0)) + m = z := ⟨_, rfl⟩
  have eK : 0 ≤ Z6f (nlI n) n.Arcs.length ∧ Z6f (nlI n) n.Arcs.length ≤ 16384 := by
    constructor
    · exact sumN_nn fun i hi => by unfold nlI; split <;> omega
    · have : Z6f (nlI n) n.Arcs.length ≤ Z6f (fun _ => 1) n.Arcs.length := Zdd fun i hi => by unfold nlI; split <;> omega
      rw [Zak] at this; omega
  have e3 := Zmb (a := 2 * (m : Int) - 1) (A := 8191) (b := Z6f (nlI n) n.Arcs.length) (B := 16384) (by omega) (by omega) eK.1 eK.2
  obtain ⟨MS, hMS⟩ : ∃ z, (2 * (m : Int) - 1) * Z6f (nlI n) n.Arcs.length = z := ⟨_, rfl⟩
  rw [hMS] at e3 ⊢
  have hB : MS + R0 + (m + Λ - h0) ≤ 999999999999999 := by omega
  have hR : ∀ q : Int, q ≤ R0 → (q = 0 ∨ 3 ≤ m) → 0 ≤ q → q ≤ m * (2 * Λ + 1) := fun q h1 h2 h3 => by
    rcases h2 with h2 | h2
    · have := Int.mul_nonneg (show (0 : Int) ≤ m by omega) (show (0 : Int) ≤ 2 * Λ + 1 by omega)
      omega
    · have a1 : 1 * (2 * (m : Int) - 1) ≤ ((m : Int) - 2) * (2 * m - 1) := Int.mul_le_mul_of_nonneg_right (by omega) (by omega)
      rw [hΛ] at a1
      have a2 : (m : Int) * (2 * m - 1 + (m + Λ - h0) + 1) ≤ m * (2 * Λ + 1) := Int.mul_le_mul_of_nonneg_left (by omega) (by omega)
      rw [Int.mul_add, Int.mul_one] at a2
      omega
  unfold Z8x
  refine Ok.bind.2 (Z8a (s_Copy (by omega) (by omega) (by omega)) ?_)
  rw [hN]
  simp only [Int.toNat_natCast]
  refine Ok.gd.2 ⟨by refine ⟨?_, ?_, ?_⟩ <;> omega, Ok.gd.2 ⟨by constructor <;> omega, Ok.bind.2 (Z9s (fun s => ∃ k : Nat, s.2.2 = k ∧ k ≤ m ∧ QOK n m s.1.buf s.2.1 ∧ s.1.cap = m ∧ (∀ v, v < m → s.2.1.getD v false = true → 0 < p.Ex.getD v 0) ∧ ∀ v, v < k → Za0 n p.Ex v → s.2.1.getD v false = true) (fun s => (m - s.2.2).toNat)
    ⟨0, rfl, by omega, QOK.none n m, rfl, fun v hv hi => ?_, fun v hv => by omega⟩ (by unfold Z4q; simp only; omega) ?_)⟩⟩
  · simp only at hi; rw [Z1m] at hi; simp at hi
  rintro ⟨ch, ins, x⟩ ⟨k, g1, g2, g3, g4, g5, g6⟩ P next exit
  simp only at g1 g3 g4 g5 g6 next ⊢
  subst g1
  unfold Z63
  rw [hN]
  refine Ok.ite.2 ⟨fun hx => ?_, fun hx => Ok.some.2 (exit _ ?_)⟩
  · have hkm : k < m := by omega
    refine Ok.bind.2 (Z8a (s_wait (x := ⟨c, p, ch, ins, ⟨0, 0⟩⟩) r rfl lx g3 g4 hkm) (Ok.gd.2 ⟨by constructor <;> omega, Ok.some.2 (next _ ⟨k + 1, by simp, by omega, Zlt (x := ⟨c, p, ch, ins, ⟨0, 0⟩⟩) g3 hkm, by rw [Zh1]; exact g4, fun v hv hi => ?_, fun v hv ha => ?_⟩ (by simp only; omega))⟩))
    · rcases Zgz (x := ⟨c, p, ch, ins, ⟨0, 0⟩⟩) hi with h1 | ⟨h1, h2⟩
      · exact g5 v hv h1
      · subst h1; exact h2.2.2
    · by_cases e : v = k
      · subst e; exact Zjb (x := ⟨c, p, ch, ins, ⟨0, 0⟩⟩) (m := m) g3.len hkm ha
      · exact Zh0 (x := ⟨c, p, ch, ins, ⟨0, 0⟩⟩) (g6 v (by omega) ha)
  simp only
  obtain rfl : k = m := by omega
  have hbl := g3.le
  have hb0 : (∀ v, v < k → ¬Za0 n p.Ex v) → ch.buf = [] := fun hno => by
    cases hb : ch.buf with
    | nil => rfl
    | cons v rest =>
      rw [hb] at g3
      obtain ⟨u, -, hu, huS, huT, hiu, -⟩ := g3.cut
      exact absurd ⟨huS, huT, g5 u hu hiu⟩ (hno u hu)
  unfold Z7k
  refine Ok.bind.2 (Z9s (fun s : FS => (∃ q0 X f q, FI n k L c h0 (k + Λ) R0 (xOf c s) q0 X f q ∧ (∀ v, v < k → Za0 n s.2.1 v → s.2.2.2.2.1.getD v false = true) ∧ s.2.2.2.2.2.1 ≤ Z6f f n.Arcs.length + q) ∧ ((∀ v, v < k → ¬Za0 n p.Ex v) → s.2.2.2.1.buf = [] ∧ Pre.mk s.1 s.2.1 s.2.2.1 = p ∧ s.2.2.2.2.2 = (0, 0)))
    (fun s => (1000000000000000 - (s.2.2.2.2.2.1 + s.2.2.2.2.2.2)).toNat) ⟨⟨ch.buf.length, 2 * k - 1, fun _ => 0, 0, ⟨rfl, h, g3, g4, g5, Nat.le_refl _, by omega, fun i hi u hu => ?_, fun i h1 h2 => absurd h2 (Nat.not_lt.2 h1), SatI.zero h r, ⟨Int.le_refl _, ?_⟩, Int.le_refl _, ?_, ?_, ⟨Int.le_refl _, .inl rfl⟩⟩, g6, ?_⟩, fun hno => ⟨hb0 hno, rfl, rfl⟩⟩ (by unfold Z4q; simp only; omega) ?_)
  · obtain ⟨w, q1, q2, -⟩ := g3.nat i hi
    have q1' : (w : Int) = u := by rw [← q1]; exact hu
    obtain rfl : w = u := by omega
    have := h.hs.2.2.2 w q2
    simp only [xOf]; omega
  · simp only [xOf]; rw [hh0]; omega
  · simp only [xOf]; rw [hh0]; omega
  · simp only [xOf]; rw [hh0]; omega
  · simp only; rw [Zak]; omega
  rintro ⟨R, E, H, ch, ins, P', Lf⟩ ⟨⟨k0, X, f, q, hF, hact, hP⟩, hno⟩ W next exit
  have b1 := hF.bnd hP
  rw [hMS] at b1
  have b2 := hF.pu
  have b3 := hF.lf
  have b4 := hF.q0
  have hqq := hF.qq
  simp only [xOf] at b1 b2 b3 hqq hact hno hP next ⊢
  unfold Z62 Z61
  simp only
  cases hb : ch.buf with
  | nil =>
    rw [if_pos rfl]
    refine Ok.bind.2 (Ok.some.2 ?_)
    simp only
    rw [if_pos (by simp)]
    refine Ok.some.2 (exit _ (Ok.some.2 ⟨hF.ok, fun v hv ha => ?_, by simp only; omega, by simp only; omega, by simp only; omega, ?_, fun hn => ?_⟩))
    · have h1 := hact v hv ha
      have h2 := hqq.cnt
      rw [hb] at h2
      have h3 := Zg8 (l := ins) (by rw [hqq.len]; exact hv) h1 k
      rw [if_pos hv] at h3
      simp only [List.length_nil] at h2
      omega
    · have := hR q b1.1 b4.2 b4.1
      simp only; omega
    · obtain ⟨-, h2, h3⟩ := hno hn
      injection h3 with h3 h4
      subst h3; subst h4
      rw [h2]
  | cons v rest =>
    rw [if_neg (by simp)]
    obtain ⟨u, rfl, hu, hA, k', X', hI⟩ := FI.take hF hact hP r hb
    have hlen := hqq.len
    have e0 : ((u : Int) :: rest).getD 0 0 = u := rfl
    simp only [e0, Int.toNat_natCast]
    refine Ok.bind.2 (Ok.gd.2 ⟨by constructor <;> omega, Ok.some.2 ?_⟩)
    simp only
    rw [if_neg (by simp)]
    refine s_inner (s0 := (R, E, H, Chan.cut ch, ins.set u false, P', Lf)) (base := P' + Lf) r hu hA.1 hA.2.1 hHm hMS hB hI rfl hA.2.2 fun s hs hb2 hE => ?_
    obtain ⟨X2, f2, hF2, h2, h3, h4, h5⟩ := hs
    have c1 := hF2.pu
    have c2 := hF2.lf
    refine next s ⟨⟨k', X2, f2, q + 1, hF2, fun w hw ha => ?_, ?_⟩, fun hn => ?_⟩ ?_
    · refine h4 w hw (fun e => ?_) ha
      subst e; exact hE ha.2.2
    · split at h5 <;> (simp only [xOf] at h5; omega)
    · have := (hno hn).1; rw [hb] at this; cases this
    · have d1 := hF2.bnd (by split at h5 <;> omega)
      rw [hMS] at d1
      simp only [xOf] at d1 c1 c2
      omega
structure SolP (n : Net) (m : Nat) (a : Answer) (w : Work) : Prop where
  all : AllP n a.Flow (fun x => x = 0) [n.S, n.T]
  cut : CutR n a.Side
  tight : ∀ i, i < n.Arcs.length → Zav n.Arcs a.Flow a.Side i
  val : a.Value = ex n.Arcs a.Flow n.T n.Arcs.length
  lifts : 0 ≤ w.Lifts ∧ w.Lifts ≤ ((m : Int) - 2) * (2 * m - 1)
  pushes : 0 ≤ w.Pushes ∧ w.Pushes ≤ (2 * m - 1) * Z6f (nlI n) n.Arcs.length + m * (2 * (((m : Int) - 2) * (2 * m - 1)) + 1)
theorem PreOK.sol {p : Pre} (h : PreOK n m L c p) (r : Row n m L c) (ha : ∀ v, v < m → ¬Za0 n p.Ex v) {b : List Bool} (lb : b.length = m) (hb : ∀ v, v < m → (b.getD v false = true ↔ ¬Reach (Zd3 n (flN n.Arcs p.Res)) v n.T.toNat)) :
    AllP n (flN n.Arcs p.Res) (fun x => x = 0) [n.S, n.T] ∧ CutR n b ∧ (∀ i, i < n.Arcs.length → Zav n.Arcs (flN n.Arcs p.Res) b i) ∧ p.Ex.getD n.T.toNat 0 = ex n.Arcs (flN n.Arcs p.Res) n.T n.Arcs.length := by
  obtain ⟨⟨S, hS, -, hSm⟩, ⟨T, hT, -, hTm⟩, -, -⟩ := r.ends
  have hm := r.hm
  rw [hT, Int.toNat_natCast] at hb
  have bS : b.getD S false = true := (hb S hSm).2 (h.far r hS hT)
  have bT : b.getD T false = false := by rw [Bool.eq_false_iff]; intro h; exact (hb T hTm).1 h .refl
  exact ⟨h.flow r ha, ⟨r.chk, by omega, by unfold inS; rw [hS, Int.toNat_natCast]; exact bS, by unfold inS; rw [hT, Int.toNat_natCast]; exact bT⟩, to_tight r.he hb, by rw [hT, Int.toNat_natCast]; exact h.ok.ex T hTm⟩
theorem Zim {n : Net} (hm : n.N = m) (hk : Z4h n.N n.S n.T n.Arcs = 0) (hl : lenok n.Arcs.length) : Ok (Z3m n) (fun t => t.2.2 = 0 ∧ SolP n m t.1 t.2.1) := by
 unfold Z3m
 refine Ok.bind.2 (Ok.mono (s_Make hm hk hl) ?_)
 rintro ⟨c, e⟩ ⟨hc, h0⟩
 simp only at hc h0 ⊢
 subst h0
 have r := row_of hc hm hk
 obtain ⟨L, hL⟩ : ∃ L, Z0s n.Arcs m = L := ⟨_, rfl⟩
 rw [hL] at r
 rw [if_neg (by simp)]
 refine Ok.bind.2 (Ok.mono (s_Begin r) fun p0 hp0 => Ok.bind.2 (Ok.mono (s_fRun r hp0) ?_))
 rintro ⟨p, w⟩ ⟨hp, ha, h1, h2, h3, h4, -⟩
 simp only at hp ha h1 h2 h3 h4 ⊢
 refine Ok.bind.2 (Ok.mono (s_FlowR r hp.ok.lr hp.ok.res) ?_)
 rintro _ rfl
 simp only
 rw [if_neg (by simp)]
 refine Ok.bind.2 (Ok.mono (s_To hl) ?_)
 rintro ⟨b, e2⟩ (⟨-, h5, lb, hb⟩ | ⟨h, -⟩)
 rotate_left
 · exact absurd (hp.flow r ha).1 h
 simp only at h5 lb hb ⊢
 subst h5
 rw [hm, Int.toNat_natCast] at lb hb
 obtain ⟨z1, z2, z3, z4⟩ := hp.sol r ha lb hb
 obtain ⟨⟨S, hS, -, hSm⟩, ⟨T, hT, -, hTm⟩, -, -⟩ := r.ends
 have hlx := hp.ok.lx
 rw [if_neg (by simp)]
 exact Ok.gd.2 ⟨by constructor <;> omega, Ok.some.2 ⟨rfl, z1, z2, z3, z4, ⟨h1, h2⟩, h3, h4⟩⟩
end row
end Go.Acq
namespace Go.Acq
open Go
set_option linter.unusedSimpArgs false
end Go.Acq
namespace Go.Acq
open Go
set_option linter.unusedSimpArgs false
theorem Zbp {α : Type} {xs : List α} {y d : α} {i : Nat} (h : i < xs.length) : (xs ++ [y]).getD i d = xs.getD i d := by
 rw [List.getD_eq_getElem?_getD, List.getElem?_append_left h, List.getD_eq_getElem?_getD]
theorem Zbo {α : Type} {xs : List α} {y d : α} {i : Nat} (h : i = xs.length) : (xs ++ [y]).getD i d = y := by
 subst h
 rw [List.getD_eq_getElem?_getD, List.getElem?_append_right (Nat.le_refl _)]; simp
structure PathP (n : Net) (v : Int) (l : List Hop) (w : Int) : Prop where
  way : WayK n l l.length
  start : 0 < l.length → hfr n (l.getD 0 default) = v
  fin : w = if l.length = 0 then v else hto n (l.getD (l.length - 1) default)
theorem PathP.nil (n : Net) (v : Int) : PathP n v [] v := ⟨⟨fun i h => by simp at h, fun i h => by simp at h⟩, fun h => by simp at h, rfl⟩
theorem PathP.app {n : Net} {v w : Int} {l : List Hop} (h : PathP n v l w) {p : Hop} (hp : hok n p) (hw : hfr n p = w) : PathP n v (l ++ [p]) (hto n p) := by
 refine ⟨⟨fun i hi => ?_, fun i hi => ?_⟩, fun _ => ?_, ?_⟩
 ·
  rw [List.length_append, List.length_singleton] at hi
  rcases Nat.lt_or_ge i l.length with h1 | h1
  · rw [Zbp h1]; exact h.way.1 i h1
  · rw [Zbo (by omega)]; exact hp
 ·
  rw [List.length_append, List.length_singleton] at hi
  rcases Nat.lt_or_ge (i + 1) l.length with h1 | h1
  · rw [Zbp h1, Zbp (by omega)]; exact h.way.2 i h1
  · rw [Zbo (by omega), Zbp (by omega), hw, h.fin, if_neg (by omega), show l.length - 1 = i by omega]
 ·
  rcases Nat.lt_or_ge 0 l.length with h1 | h1
  · rw [Zbp h1]; exact h.start h1
  · rw [Zbo (by omega), hw, h.fin, if_pos (by omega)]
 · rw [List.length_append, List.length_singleton, if_neg (by omega), Nat.add_sub_cancel, Zbo rfl]
def one (a b : Int) : Int := if a = b then 1 else 0
def Zkf (h : Hop) : Hop := ⟨h.Arc, !h.Back⟩
theorem hfr_flip (n : Net) (h : Hop) : hfr n (Zkf h) = hto n h := by
 unfold hfr hto Zkf
 cases hB : h.Back <;> simp
theorem hto_flip (n : Net) (h : Hop) : hto n (Zkf h) = hfr n h := by
 unfold hfr hto Zkf
 cases hB : h.Back <;> simp
def BackIs (l b : List Hop) : Prop := b.length = l.length ∧ ∀ q, q < l.length → b.getD q default = Zkf (l.getD (l.length - 1 - q) default)
theorem BackIs.way {n : Net} {l b : List Hop} (h : BackIs l b) (hw : WayK n l l.length) : WayK n b b.length := by
 rw [h.1]
 refine ⟨fun i hi => ?_, fun i hi => ?_⟩
 · rw [h.2 i hi]; exact hw.1 _ (by omega)
 ·
  rw [h.2 i (by omega), h.2 (i + 1) hi, hfr_flip, hto_flip]
  have := hw.2 (l.length - 1 - (i + 1)) (by omega)
  rw [show l.length - 1 - (i + 1) + 1 = l.length - 1 - i by omega] at this
  exact this.symm
theorem BackIs.cnt {l b : List Hop} (h : BackIs l b) (i : Int) : Zlo b i b.length = -Zlo l i l.length := by
 have key : ∀ q, q ≤ l.length → Zlo b i q = Zlo l i (l.length - q) - Zlo l i l.length := by
  intro q
  induction q with
  | zero => intro _; simp only [Zlo, Nat.sub_zero]; omega
  | succ q ih =>
   intro hq
   have e : l.length - q = (l.length - 1 - q) + 1 := by omega
   have ih := ih (by omega)
   rw [e] at ih
   simp only [Zlo] at ih ⊢
   rw [ih, h.2 q (by omega), show l.length - (q + 1) = l.length - 1 - q by omega]
   simp only [Zkf]
   by_cases c : (l.getD (l.length - 1 - q) default).Arc = i
   ·
    by_cases hB : (l.getD (l.length - 1 - q) default).Back = true
    · simp only [c, hB, if_true, Bool.not_true, Bool.false_eq_true, if_false]; omega
    · simp only [c, if_true, Bool.eq_false_iff.2 hB, Bool.not_false, Bool.false_eq_true, if_false]; omega
   · simp only [c, if_false]; omega
 rw [h.1, key _ (Nat.le_refl _), Nat.sub_self]
 simp only [Zlo]; omega
end Go.Acq
namespace Go.Acq
open Go
set_option linter.unusedSimpArgs false
theorem Zm9 : Z2l = some true := by decide +kernel
theorem aw08 : Ok (Option.bind Z2l fun r => some r) (fun a => a = true) := Ok.bind.2 (Z8a Zm9 (Ok.some.2 rfl))
theorem dual {n : Net} {m : Nat} {f : List Int} {c : List Bool} (hm : n.N = m) (he : Z58 m n.Arcs) (hA : AllP n f (fun x => x = 0) [n.S, n.T]) (hc : CutR n c) :
    ex n.Arcs f n.T n.Arcs.length ≤ Zff n.Arcs c n.Arcs.length ∧ ((∀ i, i < n.Arcs.length → Zav n.Arcs f c i) → ex n.Arcs f n.T n.Arcs.length = Zff n.Arcs c n.Arcs.length) := by
  have h7 := Zmj (c := c) hA.1.2.2 n.Arcs.length (Nat.le_refl _)
  rw [Ziu hm he hA hc] at h7
  exact ⟨h7.1, h7.2.2⟩
theorem Zgj {n : Net} {m : Nat} (hm : n.N = m) (hk : Z4h n.N n.S n.T n.Arcs = 0) : Z58 m n.Arcs := Zbr (by rw [← hm]; exact (Z31 hk).2.2.2.1)
theorem SolP.cap {n : Net} {m : Nat} {a : Answer} {w : Work} (h : SolP n m a w) (hm : n.N = m) (hk : Z4h n.N n.S n.T n.Arcs = 0) : Zff n.Arcs a.Side n.Arcs.length = a.Value := by
 rw [h.val, (dual hm (Zgj hm hk) h.all h.cut).2 h.tight]
theorem SolP.most {n : Net} {m : Nat} {a : Answer} {w : Work} (h : SolP n m a w) (hm : n.N = m) (hk : Z4h n.N n.S n.T n.Arcs = 0) {f : List Int} (hf : AllP n f (fun x => x = 0) [n.S, n.T]) : ex n.Arcs f n.T n.Arcs.length ≤ a.Value := by
 rw [← h.cap hm hk]; exact (dual hm (Zgj hm hk) hf h.cut).1
theorem SolP.least {n : Net} {m : Nat} {a : Answer} {w : Work} (h : SolP n m a w) (hm : n.N = m) (hk : Z4h n.N n.S n.T n.Arcs = 0) {c : List Bool} (hc : CutR n c) : a.Value ≤ Zff n.Arcs c n.Arcs.length := by
 rw [h.val]; exact (dual hm (Zgj hm hk) h.all hc).1
end Go.Acq
namespace Go.Acq
open Go
set_option linter.unusedSimpArgs false
theorem sumL_B {ol : List Arc} {left : Int} (h : ∀ a, a ∈ ol → 0 ≤ a.cap ∧ a.cap ≤ 4503599627370496) (hl : (ol.length : Int) * 4503599627370496 ≤ left) : (Zde left ol).isSome = true := by
 induction ol generalizing left with
 | nil => simp [Zde]
 | cons a ol ih =>
  have ha := h a (.head _)
  simp only [List.length_cons] at hl
  simp only [Zde]
  rw [if_neg (by omega)]
  exact ih (fun b hb => h b (.tail _ hb)) (by omega)
theorem Zjq {m : Nat} {S T : Int} {ol : List Arc} (hm : 2 ≤ m) (hm2 : m ≤ 4096) (hS : 0 ≤ S ∧ S < m) (hT : 0 ≤ T ∧ T < m) (hST : S ≠ T) (h : ∀ i, i < ol.length → Z92 m (ol.getD i default) = true ∧ 0 ≤ (ol.getD i default).cap ∧ (ol.getD i default).cap ≤ 4503599627370496) (hl : ol.length ≤ 1000) : Z4h m S T ol = 0 := by
 have h : ∀ a, a ∈ ol → Z92 m a = true ∧ 0 ≤ a.cap ∧ a.cap ≤ 4503599627370496 := fun a ha => by
  obtain ⟨i, hi, rfl⟩ := List.getElem_of_mem ha
  have := h i hi
  rw [List.getD_eq_getElem?_getD, List.getElem?_eq_getElem hi] at this
  exact this
 have h1 : ol.all (Z92 m) = true := List.all_eq_true.2 fun a ha => (h a ha).1
 have h2 : ol.all Zki = true := List.all_eq_true.2 fun a ha => by simp [Zki, (h a ha).2.1]
 have h3 : (Zde 4611686018427387904 ol).isSome = true := sumL_B (fun a ha => (h a ha).2) (by omega)
 unfold Z4h
 rw [if_neg (by omega), if_neg (by omega), if_neg (by simp [Z3f, hS, hT, hST]), if_neg (by simp [h1]), if_neg (by simp [h2]), if_neg (by
  cases e : Zde 4611686018427387904 ol with
  | none => rw [e] at h3; cases h3
  | some x => simp)]
def Like (al bl : List Arc) : Prop := bl.length = al.length ∧ ∀ i, i < al.length → (bl.getD i default).fr = (al.getD i default).fr ∧ (bl.getD i default).to = (al.getD i default).to
theorem Like.ends {m : Nat} {al bl : List Arc} (h : Like al bl) {i : Nat} (hi : i < al.length) (he : Z92 m (al.getD i default) = true) : Z92 m (bl.getD i default) = true := by
 unfold Z92 at *
 rw [(h.2 i hi).1, (h.2 i hi).2]; exact he
theorem Zds {al bl : List Arc} {f g : List Int} {t : Int} (h : Like al bl) (v : Int) (hg : ∀ i, i < al.length → g.getD i 0 = t * f.getD i 0) : ∀ k, k ≤ al.length → ex bl g v k = t * ex al f v k
 | 0, _ => by simp [ex]
 | k + 1, hk => by
  simp only [ex, Zds h v hg k (by omega), (h.2 k (by omega)).1, (h.2 k (by omega)).2, hg k (by omega)]
  rw [Int.mul_add, Int.mul_sub]
  split <;> split <;> simp
theorem Zhk {al bl : List Arc} {c : List Bool} {t : Int} (h : Like al bl) (hg : ∀ i, i < al.length → (bl.getD i default).cap = t * (al.getD i default).cap) : ∀ k, k ≤ al.length → Zff bl c k = t * Zff al c k
 | 0, _ => by simp [Zff]
 | k + 1, hk => by
  simp only [Zff, Zhk h hg k (by omega), (h.2 k (by omega)).1, (h.2 k (by omega)).2, hg k (by omega)]
  rw [Int.mul_add]
  split <;> simp
theorem Zhj {al bl : List Arc} {c : List Bool} {d : Int} {i0 : Nat} (h : Like al bl) (hd : 0 ≤ d) (hg : ∀ i, i < al.length → (bl.getD i default).cap ≤ (al.getD i default).cap + (if i = i0 then d else 0)) : ∀ k, k ≤ al.length → Zff bl c k ≤ Zff al c k + (if i0 < k then d else 0)
 | 0, _ => by simp [Zff]
 | k + 1, hk => by
  have ih := Zhj (c := c) h hd hg k (by omega)
  have h2 := hg k (by omega)
  simp only [Zff, (h.2 k (by omega)).1, (h.2 k (by omega)).2]
  by_cases e : k = i0
  ·
   subst e
   rw [if_pos rfl] at h2
   rw [if_neg (by omega)] at ih
   rw [if_pos (show k < k + 1 by omega)]
   split <;> omega
  ·
   rw [if_neg e] at h2
   by_cases e2 : i0 < k
   · rw [if_pos e2] at ih; rw [if_pos (show i0 < k + 1 by omega)]; split <;> omega
   · rw [if_neg e2] at ih; rw [if_neg (show ¬ i0 < k + 1 by omega)]; split <;> omega
theorem p_FifoMore {n : Net} {a d : Int} (hn : NetIn n) (ha : u8ok a) (hd : u64ok d) : Z39 n a d = some true := by
 refine Zf4 ?_
 unfold Z39
 refine Ok.bind.2 (Ok.mono (s_Some hn (by omega) (by omega) (by omega) (by omega)) fun r hr => ?_)
 obtain ⟨m, hm, hso⟩ := hr.nat
 have hlen := hr.arcs
 have hv := hr.verts
 have hends := hr.ends
 have hk := hr.check
 have hll : lenok r.Arcs.length := by omega
 have he := Zgj hm hk
 have hco : Z7q r = some r := by unfold Z7q Z4l; rw [Z7e (by constructor <;> omega)]; rfl
 have haE : ∀ i, i < r.Arcs.length → Z92 m (r.Arcs.getD i default) = true ∧ 0 ≤ (r.Arcs.getD i default).cap ∧ (r.Arcs.getD i default).cap < 1125899906842624 := fun i hi => hso _ (Z6r hi default)
 refine Ok.bind.2 (Ok.mono (Zim hm hk hll) ?_)
 rintro ⟨s, w, e⟩ ⟨h0, hs⟩
 simp only at h0 hs ⊢
 subst h0
 have hcap := hs.cap hm hk
 have hfl := hs.all.1.2.1
 rw [if_neg (by simp)]
 refine Ok.bind.2 (Z8a hco (Ok.bind.2 ?_))
 refine Z9s (fun z => ∃ k : Nat, z.2 = k ∧ k ≤ r.Arcs.length ∧ z.1.length = r.Arcs.length ∧ ∀ i, z.1.getD i default = if i < k then ⟨(r.Arcs.getD i default).fr, (r.Arcs.getD i default).to, (r.Arcs.getD i default).cap * 2⟩ else r.Arcs.getD i default) (fun z => (r.Arcs.length - z.2).toNat) ⟨0, rfl, by omega, rfl, fun i => by rw [if_neg (by omega)]⟩ (by unfold Z4q; simp only; omega) ?_
 rintro ⟨xs, x⟩ ⟨k, g1, g2, g3, g4⟩ P next exit
 simp only at g1 g3 g4 next ⊢
 subst g1
 unfold Z1z
 simp only [Int.toNat_natCast]
 refine Ok.ite.2 ⟨fun hx => ?_, fun hx => Ok.some.2 (exit _ ?_)⟩
 ·
  have hkl : k < r.Arcs.length := by omega
  have h1 := haE k hkl
  have h2 := g4 k
  rw [if_neg (by omega)] at h2
  simp only [h2]
  refine Ok.gd.2 ⟨(by (first | omega | (constructor <;> omega) | (simp only [List.length_set, List.length_replicate]; omega) | (simp only [List.length_set, List.length_replicate]; constructor <;> omega))), Ok.gd.2 ⟨(by (first | omega | (constructor <;> omega) | (simp only [List.length_set, List.length_replicate]; omega) | (simp only [List.length_set, List.length_replicate]; constructor <;> omega))), Ok.gd.2 ⟨(by (first | omega | (constructor <;> omega) | (simp only [List.length_set, List.length_replicate]; omega) | (simp only [List.length_set, List.length_replicate]; constructor <;> omega))), Ok.gd.2 ⟨(by (first | omega | (constructor <;> omega) | (simp only [List.length_set, List.length_replicate]; omega) | (simp only [List.length_set, List.length_replicate]; constructor <;> omega))), Ok.some.2 (next _ ⟨k + 1, by simp, by omega, by rw [List.length_set]; exact g3, fun i => ?_⟩ (by simp only; omega))⟩⟩⟩⟩
  simp only
  rw [Zbn]
  by_cases e : k = i
  · subst e; rw [if_pos ⟨rfl, by omega⟩, if_pos (by omega)]
  ·
   rw [if_neg fun h => e h.1, g4 i]
   by_cases e2 : i < k
   · rw [if_pos e2, if_pos (by omega)]
   · rw [if_neg e2, if_neg (by omega)]
 obtain rfl : k = r.Arcs.length := by omega
 have g5 : ∀ i, i < r.Arcs.length → xs.getD i default = ⟨(r.Arcs.getD i default).fr, (r.Arcs.getD i default).to, (r.Arcs.getD i default).cap * 2⟩ := fun i hi => by rw [g4 i, if_pos hi]
 have hlike : Like r.Arcs xs := ⟨g3, fun i hi => by rw [g5 i hi]; exact ⟨rfl, rfl⟩⟩
 have hS2 : 0 ≤ r.S ∧ r.S < m := by omega
 have hT2 : 0 ≤ r.T ∧ r.T < m := by omega
 have hk2 : Z4h r.N r.S r.T xs = 0 := by
  rw [hm]
  refine Zjq (by omega) (by omega) hS2 hT2 hends.2.2.2.2.2 (fun i hi => ?_) (by omega)
  have h1 := haE i (by omega)
  refine ⟨hlike.ends (by omega) h1.1, ?_⟩
  rw [g5 i (by omega)]; simp only; omega
 unfold Z2r
 refine Ok.bind.2 (Ok.mono (Zim (n := ⟨r.N, r.S, r.T, xs⟩) hm hk2 (by simp only; omega)) ?_)
 rintro ⟨s2, w2, e⟩ ⟨h0, hs2⟩
 simp only at h0 hs2 ⊢
 subst h0
 have hzero : AllP r (List.replicate r.Arcs.length 0) (fun x => x = 0) [r.S, r.T] := by
  have ez : ∀ v : Int, ex r.Arcs (List.replicate r.Arcs.length 0) v r.Arcs.length = 0 := fun v => Zgh fun i _ => by rw [Z1m]
  exact ⟨⟨hk, List.length_replicate, fun i hi => by rw [Z1m]; have := haE i hi; omega⟩, fun v hv => .inl (ez v)⟩
 have hs0 : 0 ≤ s.Value := by
  have := hs.most hm hk hzero
  rw [Zgh fun i _ => by rw [Z1m]] at this
  exact this
 have htot : s.Value ≤ 4611686018427387904 := by
  have h1 := Zix (c := s.Side) (fun i hi => (haE i hi).2.1) r.Arcs.length (Nat.le_refl _)
  have h2 := Zdc hk r.Arcs.length (Nat.le_refl _)
  omega
 have hs50 : s.Value ≤ 56294995342131200 := by
  have h1 := Zix (c := s.Side) (fun i hi => (haE i hi).2.1) r.Arcs.length (Nat.le_refl _)
  have h2 : ∀ k : Nat, k ≤ r.Arcs.length → Zk7 r.Arcs k ≤ k * 1125899906842624 := fun k hk => by
   induction k with
   | zero => simp [Zk7]
   | succ k ih =>
    have h3 := haE k (by omega)
    have := ih (by omega)
    simp only [Zk7]; omega
  have := h2 r.Arcs.length (Nat.le_refl _)
  omega
 have e2 : s2.Value = 2 * s.Value := by
  have h1 : AllP ⟨r.N, r.S, r.T, xs⟩ (s.Flow.map fun x => 2 * x) (fun x => x = 0) [r.S, r.T] := by
   have gm : ∀ i, i < r.Arcs.length → (s.Flow.map fun x => 2 * x).getD i 0 = 2 * s.Flow.getD i 0 := fun i hi => by
    simp only [List.getD_eq_getElem?_getD, List.getElem?_map]
    rw [List.getElem?_eq_getElem (by omega)]; rfl
   refine ⟨⟨hk2, by rw [List.length_map, hfl, g3], fun i hi => ?_⟩, fun v hv => ?_⟩
   ·
    simp only at hi
    have h3 := hs.all.1.2.2 i (by omega)
    rw [gm i (by omega), g5 i (by omega)]
    simp only; omega
   ·
    rcases hs.all.2 v hv with h3 | h3
    ·
     left
     simp only
     rw [g3, Zds hlike v gm _ (Nat.le_refl _), h3]; rfl
    · exact .inr h3
  have h2 := hs2.most hm hk2 h1
  have h3 : CutR ⟨r.N, r.S, r.T, xs⟩ s.Side := ⟨hk2, hs.cut.2⟩
  have h4 := hs2.least hm hk2 h3
  simp only at h2 h4
  rw [g3, Zds (t := 2) (f := s.Flow) hlike _ (fun i hi => by
   simp only [List.getD_eq_getElem?_getD, List.getElem?_map]
   rw [List.getElem?_eq_getElem (by omega)]; rfl) _ (Nat.le_refl _), ← hs.val] at h2
  rw [g3, Zhk (t := 2) hlike (fun i hi => by rw [g5 i hi]; simp only; omega) _ (Nat.le_refl _), hcap] at h4
  omega
 rw [if_neg (by simp)]
 refine Ok.gd.2 ⟨(by (first | omega | (constructor <;> omega) | (simp only [List.length_set, List.length_replicate]; omega) | (simp only [List.length_set, List.length_replicate]; constructor <;> omega))), ?_⟩
 rw [if_neg (by omega), if_neg (by omega)]
 refine Ok.ite.2 ⟨fun hz => ?_, fun hz => ?_⟩
 ·
  rw [if_pos]
  · exact aw08
  · rw [hs.val, show r.Arcs.length = 0 by omega]; rfl
 refine Ok.bind.2 (Z8a hco ?_)
 rw [if_neg (by simp)]
 have hd2 := Int.tmod_nonneg (1099511627777 : Int) hd.1
 have hd3 := Int.tmod_lt_of_pos d (show (0 : Int) < 1099511627777 by omega)
 obtain ⟨i0, hi0, hi1⟩ : ∃ v : Nat, a.tmod (r.Arcs.length : Int) = v ∧ v < r.Arcs.length := by
  have h1 := Int.tmod_nonneg (r.Arcs.length : Int) ha.1
  have h2 := Int.tmod_lt_of_pos a (show (0 : Int) < r.Arcs.length by omega)
  exact ⟨(a.tmod r.Arcs.length).toNat, by omega, by omega⟩
 rw [hi0]
 obtain ⟨δ, hδ⟩ : ∃ δ, d.tmod 1099511627777 = δ := ⟨_, rfl⟩
 rw [hδ] at hd2 hd3 ⊢
 simp only [Int.toNat_natCast]
 have hb0 := haE i0 hi1
 refine Ok.gd.2 ⟨(by (first | omega | (constructor <;> omega) | (simp only [List.length_set, List.length_replicate]; omega) | (simp only [List.length_set, List.length_replicate]; constructor <;> omega))), Ok.gd.2 ⟨(by (first | omega | (constructor <;> omega) | (simp only [List.length_set, List.length_replicate]; omega) | (simp only [List.length_set, List.length_replicate]; constructor <;> omega))), Ok.gd.2 ⟨(by (first | omega | (constructor <;> omega) | (simp only [List.length_set, List.length_replicate]; omega) | (simp only [List.length_set, List.length_replicate]; constructor <;> omega))), Ok.gd.2 ⟨(by (first | omega | (constructor <;> omega) | (simp only [List.length_set, List.length_replicate]; omega) | (simp only [List.length_set, List.length_replicate]; constructor <;> omega))), Ok.gd.2 ⟨(by (first | omega | (constructor <;> omega) | (simp only [List.length_set, List.length_replicate]; omega) | (simp only [List.length_set, List.length_replicate]; constructor <;> omega))), Ok.gd.2 ⟨(by (first | omega | (constructor <;> omega) | (simp only [List.length_set, List.length_replicate]; omega) | (simp only [List.length_set, List.length_replicate]; constructor <;> omega))), Ok.bind.2 ?_⟩⟩⟩⟩⟩⟩
 obtain ⟨ys, hys⟩ : ∃ ys, r.Arcs.set i0 ⟨(r.Arcs.getD i0 default).fr, (r.Arcs.getD i0 default).to, (r.Arcs.getD i0 default).cap + δ⟩ = ys := ⟨_, rfl⟩
 rw [hys]
 have y1 : ys.length = r.Arcs.length := by rw [← hys, List.length_set]
 have y2 : ∀ i, i < r.Arcs.length → ys.getD i default = if i = i0 then ⟨(r.Arcs.getD i default).fr, (r.Arcs.getD i default).to, (r.Arcs.getD i default).cap + δ⟩ else r.Arcs.getD i default := fun i hi => by
  rw [← hys, Zbn]
  by_cases e : i0 = i
  · subst e; rw [if_pos ⟨rfl, hi⟩, if_pos rfl]
  · rw [if_neg fun h => e h.1, if_neg (Ne.symm e)]
 have ylike : Like r.Arcs ys := ⟨y1, fun i hi => by rw [y2 i hi]; split <;> exact ⟨rfl, rfl⟩⟩
 have ycap : ∀ i, i < r.Arcs.length → (ys.getD i default).cap = (r.Arcs.getD i default).cap + (if i = i0 then δ else 0) := fun i hi => by
  rw [y2 i hi]; split <;> simp
 have hk3 : Z4h r.N r.S r.T ys = 0 := by
  rw [hm]
  refine Zjq (by omega) (by omega) hS2 hT2 hends.2.2.2.2.2 (fun i hi => ?_) (by omega)
  have h1 := haE i (by omega)
  refine ⟨ylike.ends (by omega) h1.1, ?_⟩
  rw [ycap i (by omega)]; split <;> omega
 refine Ok.mono (Zim (n := ⟨r.N, r.S, r.T, ys⟩) hm hk3 (by simp only; omega)) ?_
 rintro ⟨s3, w3, e⟩ ⟨h0, hs3⟩
 simp only at h0 hs3 ⊢
 subst h0
 have h1 : AllP ⟨r.N, r.S, r.T, ys⟩ s.Flow (fun x => x = 0) [r.S, r.T] := by
  refine ⟨⟨hk3, by rw [hfl, y1], fun i hi => ?_⟩, fun v hv => ?_⟩
  ·
   simp only at hi
   have h3 := hs.all.1.2.2 i (by omega)
   rw [ycap i (by omega)]; split <;> omega
  ·
   rcases hs.all.2 v hv with h3 | h3
   ·
    left
    simp only
    rw [y1, Zds (t := 1) (f := s.Flow) ylike v (fun i hi => by omega) _ (Nat.le_refl _), h3]; rfl
   · exact .inr h3
 have h2 := hs3.most hm hk3 h1
 have h3 : CutR ⟨r.N, r.S, r.T, ys⟩ s.Side := ⟨hk3, hs.cut.2⟩
 have h4 := hs3.least hm hk3 h3
 have h5 := Zhj (c := s.Side) (i0 := i0) ylike hd2 (fun i hi => by rw [ycap i hi]; exact Int.le_refl _) _ (Nat.le_refl _)
 rw [if_pos hi1, hcap] at h5
 simp only at h2 h4
 rw [y1, Zds (t := 1) (f := s.Flow) ylike _ (fun i hi => by omega) _ (Nat.le_refl _), ← hs.val] at h2
 rw [y1] at h4
 rw [if_pos rfl, if_pos (by omega)]
 refine Ok.gd.2 ⟨(by (first | omega | (constructor <;> omega) | (simp only [List.length_set, List.length_replicate]; omega) | (simp only [List.length_set, List.length_replicate]; constructor <;> omega))), ?_⟩
 rw [if_pos (by omega)]
 exact aw08
end Go.Acq
