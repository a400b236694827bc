/- Texts of this claim, one behind the other. -/
import Derived.Test.YtnppjbofdkokkaaGreatDoorA1
import Derived.Test.YtnppjbofdkokkaaGreatDoorA2
import Derived.Lib.ParseIntBTie
import Derived.Test.YtnppjbofdkokkaaGreatDoorA3
set_option linter.unusedVariables false
set_option linter.unusedSimpArgs false
namespace Go.Acq
open Go
def Jv (a : Arc) (v : Nat) : Nat := if a.fr = a.to then 0 else if a.fr = v ∨ a.to = v then 1 else 0
def Vl (al : List Arc) (v : Nat) : Nat → Nat
  | 0 => 0
  | k + 1 => Vl al v k + Jv (al.getD k default) v
def Yu (al : List Arc) : Nat → Nat
  | 0 => 0
  | v + 1 => Yu al v + Vl al v al.length
def Xe (a : Arc) (s : Bool) : Int := if s then a.to else a.fr
def Zc (al : List Arc) (i : Nat) (s : Bool) : Nat := Yu al (Xe (al.getD i default) s).toNat + Vl al (Xe (al.getD i default) s).toNat i
def Nh (n : Nat) (al : List Arc) : Prop := ∀ i, i < al.length → ∀ s, 0 ≤ Xe (al.getD i default) s ∧ Xe (al.getD i default) s < n
theorem lset {α : Type} (xs : List α) (i j : Nat) (v d : α) : (xs.set i v).getD j d = if i = j ∧ i < xs.length then v else xs.getD j d := by
 rw [List.getD_eq_getElem?_getD, List.getD_eq_getElem?_getD, List.getElem?_set]
 split
 ·
  rename_i h; subst h
  split
  · rename_i h2; simp [h2]
  · rename_i h2; simp [h2]
 · rename_i h; simp [h]
theorem Nz {α : Type} {xs : List α} {i j : Nat} {v d : α} (h : i ≠ j) : (xs.set i v).getD j d = xs.getD j d := by
 rw [lset, if_neg (fun e => h e.1)]
theorem Z5b {α : Type} {xs : List α} {i : Nat} {v d : α} (h : i < xs.length) : (xs.set i v).getD i d = v := by
 rw [lset, if_pos ⟨rfl, h⟩]
theorem hit_le (a : Arc) (v : Nat) : Jv a v ≤ 1 := by unfold Jv; split; omega; split <;> omega
theorem cnt_mono {al : List Arc} {v i j : Nat} (h : i ≤ j) : Vl al v i ≤ Vl al v j := by
 induction h with
 | refl => exact Nat.le_refl _
 | step _ ih => exact Nat.le_trans ih (Nat.le_add_right _ _)
theorem Z4s {al : List Arc} {u v : Nat} (h : u ≤ v) : Yu al u ≤ Yu al v := by
 induction h with
 | refl => exact Nat.le_refl _
 | step _ ih => exact Nat.le_trans ih (Nat.le_add_right _ _)
theorem hit_vtx {a : Arc} {s : Bool} (h : a.fr ≠ a.to) (h0 : 0 ≤ Xe a s) : Jv a (Xe a s).toNat = 1 := by
 unfold Jv; rw [if_neg h, if_pos]
 cases s
 · left; simp only [Xe] at h0 ⊢; simp only [Bool.false_eq_true, if_false] at h0 ⊢; omega
 · right; simp only [Xe] at h0 ⊢; simp only [if_true] at h0 ⊢; omega
theorem Z1e {al : List Arc} {i j : Nat} {s : Bool} (hij : i < j) (h : (al.getD i default).fr ≠ (al.getD i default).to) (h0 : 0 ≤ Xe (al.getD i default) s) :
    Vl al (Xe (al.getD i default) s).toNat i < Vl al (Xe (al.getD i default) s).toNat j := by
  have h1 := cnt_mono (al := al) (v := (Xe (al.getD i default) s).toNat) (i := i + 1) (j := j) hij
  have h2 := hit_vtx h h0
  simp only [Vl] at h1
  omega
theorem pos_lt {al : List Arc} {n i : Nat} {s : Bool} (hi : i < al.length) (h : (al.getD i default).fr ≠ (al.getD i default).to) (he : Nh n al) : Zc al i s < Yu al n := by
 have h1 := Z1e (s := s) hi h (he i hi s).1
 have h2 := Z4s (al := al) (u := (Xe (al.getD i default) s).toNat + 1) (v := n) (by have := he i hi s; omega)
 simp only [Yu] at h2
 unfold Zc; omega
theorem Z61 {al : List Arc} {n i j : Nat} {s t : Bool} (he : Nh n al) (hi : i < al.length) (hj : j < al.length) (h : (al.getD i default).fr ≠ (al.getD i default).to) (g : (al.getD j default).fr ≠ (al.getD j default).to)
    (e : Zc al i s = Zc al j t) : i = j ∧ s = t := by
  have hi1 := Z1e (s := s) hi h (he i hi s).1
  have hj1 := Z1e (s := t) hj g (he j hj t).1
  have hv : (Xe (al.getD i default) s).toNat = (Xe (al.getD j default) t).toNat := by
    rcases Nat.lt_trichotomy (Xe (al.getD i default) s).toNat (Xe (al.getD j default) t).toNat with h1 | h1 | h1
    · have := Z4s (al := al) (u := (Xe (al.getD i default) s).toNat + 1) h1
      simp only [Yu] at this
      unfold Zc at e; omega
    · exact h1
    · have := Z4s (al := al) (u := (Xe (al.getD j default) t).toNat + 1) h1
      simp only [Yu] at this
      unfold Zc at e; omega
  have hij : i = j := by
    rcases Nat.lt_trichotomy i j with h1 | h1 | h1
    · have h2 := Z1e (s := s) h1 h (he i hi s).1
      unfold Zc at e; rw [hv] at e h2; omega
    · exact h1
    · have h2 := Z1e (s := t) h1 g (he j hj t).1
      unfold Zc at e; rw [hv] at e; omega
  refine ⟨hij, ?_⟩
  subst hij
  have h1 := (he i hi s).1
  have h2 := (he i hi t).1
  cases s <;> cases t <;> first | rfl | (simp only [Xe, Bool.false_eq_true, if_false, if_true] at hv h1 h2; omega)
theorem Z6p {al : List Arc} {v r : Nat} : ∀ {k : Nat}, r < Vl al v k → ∃ i, i < k ∧ Vl al v i = r ∧ Jv (al.getD i default) v = 1
 | 0, h => by simp [Vl] at h
 | k + 1, h => by
  by_cases h1 : r < Vl al v k
  · obtain ⟨i, h2, h3⟩ := Z6p h1; exact ⟨i, by omega, h3⟩
  ·
   have := hit_le (al.getD k default) v
   simp only [Vl] at h
   exact ⟨k, by omega, by omega, by omega⟩
theorem Z88 {al : List Arc} {p : Nat} : ∀ {n : Nat}, p < Yu al n → ∃ v, v < n ∧ Yu al v ≤ p ∧ p < Yu al (v + 1)
 | 0, h => by simp [Yu] at h
 | n + 1, h => by
  by_cases h1 : p < Yu al n
  · obtain ⟨v, h2, h3⟩ := Z88 h1; exact ⟨v, by omega, h3⟩
  · exact ⟨n, by omega, by omega, h⟩
theorem pos_surj {al : List Arc} {n p : Nat} (h : p < Yu al n) : ∃ i s, i < al.length ∧ (al.getD i default).fr ≠ (al.getD i default).to ∧ Zc al i s = p ∧ 0 ≤ Xe (al.getD i default) s ∧ Xe (al.getD i default) s < n ∧
    Yu al (Xe (al.getD i default) s).toNat ≤ p ∧ p < Yu al ((Xe (al.getD i default) s).toNat + 1) := by
  obtain ⟨v, hv, h1, h2⟩ := Z88 h
  simp only [Yu] at h2
  obtain ⟨i, hi, h3, h4⟩ := Z6p (al := al) (v := v) (r := p - Yu al v) (k := al.length) (by omega)
  unfold Jv at h4
  split at h4
  · omega
  · rename_i hne
    split at h4
    · rename_i ho
      rcases ho with ho | ho
      · refine ⟨i, false, hi, hne, ?_, ?_, ?_, ?_, ?_⟩ <;> simp only [Zc, Xe, Bool.false_eq_true, if_false, ho, Int.toNat_natCast, Yu] <;> omega
      · refine ⟨i, true, hi, hne, ?_, ?_, ?_, ?_, ?_⟩ <;> simp only [Zc, Xe, if_true, ho, Int.toNat_natCast, Yu] <;> omega
    · omega
def CsrAt (al : List Arc) (hs rs cs aa : List Int) (bs : List Bool) (k : Nat) : Prop :=
  ∀ i, i < k → (al.getD i default).fr ≠ (al.getD i default).to → ∀ s,
    hs.getD (Zc al i s) 0 = Xe (al.getD i default) (!s) ∧ rs.getD (Zc al i s) 0 = Zc al i (!s) ∧ cs.getD (Zc al i s) 0 = (if s then 0 else (al.getD i default).cap) ∧
    aa.getD (Zc al i s) 0 = i ∧ bs.getD (Zc al i s) false = s
structure CsrOK (al : List Arc) (n : Nat) (fs hs rs cs aa : List Int) (bs : List Bool) : Prop where
  lf : fs.length = n + 1
  lh : hs.length = Yu al n
  lr : rs.length = Yu al n
  lc : cs.length = Yu al n
  la : aa.length = Yu al n
  lb : bs.length = Yu al n
  hf : ∀ v, v ≤ n → fs.getD v 0 = Yu al v
  hat : CsrAt al hs rs cs aa bs al.length
theorem CsrAt.skip {al : List Arc} {hs rs cs aa : List Int} {bs : List Bool} {k : Nat} (h : CsrAt al hs rs cs aa bs k) (e : (al.getD k default).fr = (al.getD k default).to) : CsrAt al hs rs cs aa bs (k + 1) := by
 intro i hi hne s
 rcases Nat.lt_succ_iff_lt_or_eq.1 hi with h1 | h1
 · exact h i h1 hne s
 · subst h1; exact absurd e hne
theorem Lf {α : Type} {xs : List α} {p q j : Nat} {u v d : α} (hp : p < xs.length) (hq : q < xs.length) (hpq : p ≠ q) :
    ((xs.set p u).set q v).getD j d = if j = p then u else if j = q then v else xs.getD j d := by
  rw [lset, lset]
  by_cases h1 : j = p
  · subst h1; rw [if_pos rfl, if_neg (fun e => hpq e.1.symm), if_pos ⟨rfl, hp⟩]
  · rw [if_neg h1]
    by_cases h2 : j = q
    · subst h2; rw [if_pos rfl, if_pos ⟨rfl, by simpa using hq⟩]
    · rw [if_neg h2, if_neg (fun e => h2 e.1.symm), if_neg (fun e => h1 e.1.symm)]
theorem CsrAt.put {al : List Arc} {n : Nat} {hs rs cs aa : List Int} {bs : List Bool} {k : Nat} (h : CsrAt al hs rs cs aa bs k) (he : Nh n al) (hk : k < al.length) (hne : (al.getD k default).fr ≠ (al.getD k default).to)
    (lh : hs.length = Yu al n) (lr : rs.length = Yu al n) (lc : cs.length = Yu al n) (la : aa.length = Yu al n) (lb : bs.length = Yu al n) :
    CsrAt al ((hs.set (Zc al k false) (al.getD k default).to).set (Zc al k true) (al.getD k default).fr) ((rs.set (Zc al k false) (Zc al k true)).set (Zc al k true) (Zc al k false))
      ((cs.set (Zc al k false) (al.getD k default).cap).set (Zc al k true) 0) ((aa.set (Zc al k false) k).set (Zc al k true) k) ((bs.set (Zc al k false) false).set (Zc al k true) true) (k + 1) := by
  have hp : Zc al k false < Yu al n := pos_lt hk hne he
  have hq : Zc al k true < Yu al n := pos_lt hk hne he
  have hpq : Zc al k false ≠ Zc al k true := fun e => by have := (Z61 he hk hk hne hne e).2; cases this
  intro i hi hni s
  have hil : i < al.length := by omega
  rw [Lf (by omega) (by omega) hpq, Lf (by omega) (by omega) hpq, Lf (by omega) (by omega) hpq, Lf (by omega) (by omega) hpq, Lf (by omega) (by omega) hpq]
  by_cases hik : i = k
  · subst hik
    cases s
    · simp [Xe]
    · simp [Xe, hpq.symm]
  · have h1 : Zc al i s ≠ Zc al k false := fun e => hik (Z61 he hil hk hni hne e).1
    have h2 : Zc al i s ≠ Zc al k true := fun e => hik (Z61 he hil hk hni hne e).1
    simp only [if_neg h1, if_neg h2]
    exact h i (by omega) hni s
def Counted (al : List Arc) (m k : Nat) (fs : List Int) : Prop := fs.length = m + 1 ∧ fs.getD 0 0 = 0 ∧ ∀ v : Int, 0 ≤ v → v < m → fs.getD (v + 1).toNat 0 = Vl al v.toNat k
def Summed (al : List Arc) (m k : Nat) (fs : List Int) : Prop := fs.length = m + 1 ∧ (∀ u, u ≤ k → fs.getD u 0 = Yu al u) ∧ ∀ u, k ≤ u → u < m → fs.getD (u + 1) 0 = Vl al u al.length
theorem Counted.skip {al : List Arc} {m k : Nat} {fs : List Int} (h : Counted al m k fs) (e : (al.getD k default).fr = (al.getD k default).to) : Counted al m (k + 1) fs :=
 ⟨h.1, h.2.1, fun v h0 h1 => by rw [h.2.2 v h0 h1]; simp only [Vl, Jv, if_pos e, Nat.add_zero]⟩
theorem Counted.put {al : List Arc} {m k : Nat} {fs : List Int} (h : Counted al m k fs) (he : Nh m al) (hk : k < al.length) (hne : (al.getD k default).fr ≠ (al.getD k default).to) :
    Counted al m (k + 1) ((fs.set ((al.getD k default).fr + 1).toNat (fs.getD ((al.getD k default).fr + 1).toNat 0 + 1)).set ((al.getD k default).to + 1).toNat
      ((fs.set ((al.getD k default).fr + 1).toNat (fs.getD ((al.getD k default).fr + 1).toNat 0 + 1)).getD ((al.getD k default).to + 1).toNat 0 + 1)) := by
  have e0 := he k hk false
  have e1 := he k hk true
  simp only [Xe, Bool.false_eq_true, if_false, if_true] at e0 e1
  obtain ⟨hl, hz, hv⟩ := h
  refine ⟨by simpa using hl, ?_, ?_⟩
  · rw [Nz (by omega), Nz (by omega)]; exact hz
  · intro v h0 h1
    have hvv := hv v h0 h1
    rw [Nz (i := ((al.getD k default).fr + 1).toNat) (j := ((al.getD k default).to + 1).toNat) (by omega), Lf (by omega) (by omega) (by omega)]
    simp only [Vl, Jv, if_neg hne]
    by_cases a1 : v = (al.getD k default).fr
    · rw [if_pos (by omega), if_pos (by omega), ← a1, hvv]; omega
    · rw [if_neg (by omega)]
      by_cases a2 : v = (al.getD k default).to
      · rw [if_pos (by omega), if_pos (by omega), ← a2, hvv]; omega
      · rw [if_neg (by omega), if_neg (by omega), hvv]; omega
theorem Summed.put {al : List Arc} {m k : Nat} {fs : List Int} (h : Summed al m k fs) (hk : k < m) {i : Nat} (hi : i = k + 1) : Summed al m (k + 1) (fs.set i (fs.getD i 0 + fs.getD k 0)) := by
 subst hi
 obtain ⟨hl, h1, h2⟩ := h
 refine ⟨by simpa using hl, fun u hu => ?_, fun u h3 h4 => ?_⟩
 ·
  by_cases e : u = k + 1
  · subst e; rw [Z5b (by omega), h1 k (Nat.le_refl _), h2 k (Nat.le_refl _) hk]; simp [Yu]; omega
  · rw [Nz (by omega)]; exact h1 u (by omega)
 · rw [Nz (by omega)]; exact h2 u (by omega) h4
theorem Z3k {N S T : Int} {al : List Arc} (h : Ke N S T al = 0) : (2 ≤ N ∧ N ≤ 4096) ∧ (al.length : Int) ≤ 16384 ∧ (Ur N S = true ∧ Ur N T = true ∧ S ≠ T) ∧ al.all (Kg N) = true ∧ al.all Gt = true ∧ (Ud 4611686018427387904 al).isSome = true := by
 unfold Ke at h
 split at h
 · omega
 ·
  rename_i h1
  split at h
  · omega
  ·
   rename_i h2
   split at h
   · omega
   ·
    rename_i h3
    split at h
    · omega
    ·
     rename_i h4
     split at h
     · omega
     ·
      rename_i h5
      split at h
      · omega
      ·
       rename_i h6
       refine ⟨Classical.not_not.1 h1, Classical.not_not.1 h2, Classical.not_not.1 h3, by simpa using h4, by simpa using h5, ?_⟩
       cases e : Ud 4611686018427387904 al <;> simp_all
theorem Z9t {m : Nat} {al : List Arc} (h : al.all (Kg (m : Int)) = true) : Nh m al := by
 intro i hi s
 have h1 := List.all_eq_true.1 h _ (Jt hi default)
 simp only [Kg, Ur, Bool.and_eq_true, decide_eq_true_eq] at h1
 cases s
 · simp only [Xe, Bool.false_eq_true, if_false]; exact h1.1
 · simp only [Xe, if_true]; exact h1.2
def MakeAt (al : List Arc) (m k : Nat) (nx hs rs cs aa : List Int) (bs : List Bool) : Prop :=
  (nx.length = m + 1 ∧ hs.length = Yu al m ∧ rs.length = Yu al m ∧ cs.length = Yu al m ∧ aa.length = Yu al m ∧ bs.length = Yu al m) ∧
  CsrAt al hs rs cs aa bs k ∧ ∀ v : Int, 0 ≤ v → v < m → nx.getD v.toNat 0 = Yu al v.toNat + Vl al v.toNat k
theorem MakeAt.skip {al : List Arc} {m k : Nat} {nx hs rs cs aa : List Int} {bs : List Bool} (h : MakeAt al m k nx hs rs cs aa bs) (e : (al.getD k default).fr = (al.getD k default).to) : MakeAt al m (k + 1) nx hs rs cs aa bs :=
 ⟨h.1, h.2.1.skip e, fun v h0 h1 => by rw [h.2.2 v h0 h1]; simp only [Vl, Jv, if_pos e, Nat.add_zero]⟩
theorem MakeAt.at {al : List Arc} {m k : Nat} {nx hs rs cs aa : List Int} {bs : List Bool} (h : MakeAt al m k nx hs rs cs aa bs) (he : Nh m al) (hk : k < al.length) (s : Bool) : nx.getD (Xe (al.getD k default) s).toNat 0 = (Zc al k s : Nat) := by
 rw [h.2.2 _ (he k hk s).1 (he k hk s).2]; simp only [Zc]; omega
theorem MakeAt.put {al : List Arc} {m k : Nat} {nx hs rs cs aa : List Int} {bs : List Bool} (h : MakeAt al m k nx hs rs cs aa bs) (he : Nh m al) (hk : k < al.length) (hne : (al.getD k default).fr ≠ (al.getD k default).to) :
    MakeAt al m (k + 1) ((nx.set (al.getD k default).fr.toNat ((Zc al k false : Nat) + 1)).set (al.getD k default).to.toNat ((Zc al k true : Nat) + 1))
      ((hs.set (Zc al k false) (al.getD k default).to).set (Zc al k true) (al.getD k default).fr) ((rs.set (Zc al k false) (Zc al k true)).set (Zc al k true) (Zc al k false))
      ((cs.set (Zc al k false) (al.getD k default).cap).set (Zc al k true) 0) ((aa.set (Zc al k false) k).set (Zc al k true) k) ((bs.set (Zc al k false) false).set (Zc al k true) true) := by
  have g0 := h.at he hk false
  have g1 := h.at he hk true
  obtain ⟨⟨l0, l1, l2, l3, l4, l5⟩, hA, hv⟩ := h
  have e0 := he k hk false
  have e1 := he k hk true
  simp only [Xe, Bool.false_eq_true, if_false, if_true] at e0 e1 g0 g1
  refine ⟨⟨by simpa using l0, by simpa using l1, by simpa using l2, by simpa using l3, by simpa using l4, by simpa using l5⟩, hA.put he hk hne l1 l2 l3 l4 l5, fun v h0 h1 => ?_⟩
  have hvv := hv v h0 h1
  rw [Lf (by omega) (by omega) (by omega)]
  simp only [Vl, Jv, if_neg hne]
  by_cases a1 : v = (al.getD k default).fr
  · rw [if_pos (by omega), if_pos (by omega), ← g0, ← a1, hvv]; omega
  · rw [if_neg (by omega)]
    by_cases a2 : v = (al.getD k default).to
    · rw [if_pos (by omega), if_pos (by omega), ← g1, ← a2, hvv]; omega
    · rw [if_neg (by omega), if_neg (by omega), hvv]; omega
theorem MakeAt.done {al : List Arc} {m : Nat} {fs nx hs rs cs aa : List Int} {bs : List Bool} (h : MakeAt al m al.length nx hs rs cs aa bs) (hl : fs.length = m + 1) (hf : ∀ u, u ≤ m → fs.getD u 0 = Yu al u) : CsrOK al m fs hs rs cs aa bs :=
 ⟨hl, h.1.2.1, h.1.2.2.1, h.1.2.2.2.1, h.1.2.2.2.2.1, h.1.2.2.2.2.2, hf, h.2.1⟩
end Go.Acq
namespace Go.Acq
open Go
theorem next_ne {S m : Int} (h0 : 0 ≤ S) (h1 : S < m) (h2 : 2 ≤ m) : 0 ≤ (S + 1).tmod m ∧ (S + 1).tmod m < m ∧ (S + 1).tmod m ≠ S := by
 rw [Int.tmod_eq_emod_of_nonneg (by omega)]
 refine ⟨Int.emod_nonneg _ (by omega), Int.emod_lt_of_pos _ (by omega), ?_⟩
 by_cases h : S + 1 < m
 · rw [Int.emod_eq_of_lt (by omega) h]; omega
 · rw [show S + 1 = m by omega, Int.emod_self]; omega
theorem Z9y {x n : Int} (h : 0 ≤ x) (hn : 0 < n) : 0 ≤ x.tmod n ∧ x.tmod n < n := by
 rw [Int.tmod_eq_emod_of_nonneg h]
 exact ⟨Int.emod_nonneg _ (by omega), Int.emod_lt_of_pos _ hn⟩
def SomeAt (m : Nat) (ol : List Arc) : Prop := ∀ a, a ∈ ol → Kg m a = true ∧ 0 ≤ a.cap ∧ a.cap < 1125899906842624
theorem SomeAt.put {m : Nat} {ol : List Arc} {a : Arc} (h : SomeAt m ol) (h1 : 0 ≤ a.fr ∧ a.fr < m) (h2 : 0 ≤ a.to ∧ a.to < m) (h3 : 0 ≤ a.cap ∧ a.cap < 1125899906842624) : SomeAt m (ol ++ [a]) := by
 intro b hb
 rcases List.mem_append.1 hb with hb | hb
 · exact h b hb
 ·
  simp only [List.mem_singleton] at hb
  subst hb
  exact ⟨by simp [Kg, Ur, h1, h2], h3⟩
theorem Zej {m : Nat} {ol : List Arc} {left : Int} (h : SomeAt m ol) (hl : (ol.length : Int) * 1125899906842624 ≤ left) : (Ud left ol).isSome = true := by
 induction ol generalizing left with
 | nil => simp [Ud]
 | cons a ol ih =>
  have ha := (h a (.head _)).2
  simp only [List.length_cons] at hl
  have h2 : (0 : Int) ≤ (ol.length : Int) * 1125899906842624 := by omega
  simp only [Ud]
  rw [if_neg (by omega)]
  exact ih (fun b hb => h b (.tail _ hb)) (by omega)
theorem Zbx {m : Nat} {S T : Int} {ol : List Arc} (hm : 2 ≤ m) (hm2 : m ≤ 4096) (hS : 0 ≤ S ∧ S < m) (hT : 0 ≤ T ∧ T < m) (hST : T ≠ S) (h : SomeAt m ol) (hl : ol.length ≤ 4096) : Ke m S T ol = 0 := by
 have h1 : ol.all (Kg m) = true := List.all_eq_true.2 fun a ha => (h a ha).1
 have h2 : ol.all Gt = true := List.all_eq_true.2 fun a ha => by simp [Gt, (h a ha).2.1]
 have h3 : (Ud 4611686018427387904 ol).isSome = true := Zej h (by omega)
 unfold Ke
 rw [if_neg (by omega), if_neg (by omega), if_neg (by simp [Ur, hS, hT, Ne.symm hST]), if_neg (by simp [h1]), if_neg (by simp [h2]), if_neg (by
  cases e : Ud 4611686018427387904 ol with
  | none => rw [e] at h3; cases h3
  | some x => simp)]
def WithinAt (al : List Arc) (n k : Nat) (fl : List Int) : Prop := fl.length = n ∧
  (∀ i, i < k → 0 ≤ fl.getD i 0 ∧ fl.getD i 0 ≤ (al.getD i default).cap ∧ ((al.getD i default).fr = (al.getD i default).to → fl.getD i 0 = 0)) ∧ ∀ i, k ≤ i → fl.getD i 0 = 0
theorem WithinAt.skip {al : List Arc} {n k : Nat} {fl : List Int} (h : WithinAt al n k fl) (hc : 0 ≤ (al.getD k default).cap) : WithinAt al n (k + 1) fl := by
 refine ⟨h.1, fun i hi => ?_, fun i hi => h.2.2 i (by omega)⟩
 rcases Nat.lt_succ_iff_lt_or_eq.1 hi with h1 | h1
 · exact h.2.1 i h1
 · subst h1; have := h.2.2 i (Nat.le_refl _); rw [this]; exact ⟨Int.le_refl _, hc, fun _ => rfl⟩
theorem WithinAt.put {al : List Arc} {n k : Nat} {fl : List Int} {v : Int} (h : WithinAt al n k fl) (hk : k < n) (h0 : 0 ≤ v) (h1 : v ≤ (al.getD k default).cap) (hne : (al.getD k default).fr ≠ (al.getD k default).to) : WithinAt al n (k + 1) (fl.set k v) := by
 refine ⟨by simpa using h.1, fun i hi => ?_, fun i hi => by rw [Nz (by omega)]; exact h.2.2 i (by omega)⟩
 by_cases e : i = k
 · subst e; rw [Z5b (by rw [h.1]; exact hk)]; exact ⟨h0, h1, fun e => absurd e hne⟩
 · rw [Nz (by omega)]; exact h.2.1 i (by omega)
def resOK (aa cs : List Int) (bs : List Bool) (fl : List Int) (j : Nat) : Prop := aa.getD j 0 < fl.length ∧ (bs.getD j false = true ∨ (0 ≤ fl.getD (aa.getD j 0).toNat 0 ∧ fl.getD (aa.getD j 0).toNat 0 ≤ cs.getD j 0))
def resV (aa cs : List Int) (bs : List Bool) (fl : List Int) (j : Nat) : Int := if bs.getD j false = true then fl.getD (aa.getD j 0).toNat 0 else cs.getD j 0 - fl.getD (aa.getD j 0).toNat 0
def ResAt (aa cs : List Int) (bs : List Bool) (fl : List Int) (L k : Nat) (rl : List Int) : Prop := rl.length = L ∧ ∀ j, j < k → resOK aa cs bs fl j ∧ rl.getD j 0 = resV aa cs bs fl j
theorem ResAt.put {aa cs : List Int} {bs : List Bool} {fl : List Int} {L k : Nat} {rl : List Int} {v : Int} (h : ResAt aa cs bs fl L k rl) (hk : k < L) (h1 : resOK aa cs bs fl k) (h2 : v = resV aa cs bs fl k) : ResAt aa cs bs fl L (k + 1) (rl.set k v) := by
 refine ⟨by simpa using h.1, fun j hj => ?_⟩
 by_cases e : j = k
 · subst e; rw [Z5b (by rw [h.1]; exact hk)]; exact ⟨h1, h2⟩
 · rw [Nz (by omega)]; exact h.2 j (by omega)
end Go.Acq
namespace Go.Acq
open Go
def turn (a : Arc) : Arc := ⟨a.to, a.fr, a.cap⟩
theorem Zbe (al : List Arc) (i : Nat) : (al.map turn).getD i default = turn (al.getD i default) := by
 rw [List.getD_eq_getElem?_getD, List.getD_eq_getElem?_getD, List.getElem?_map]
 cases al[i]? <;> rfl
theorem SomeAt.turn {m : Nat} {ol : List Arc} (h : SomeAt m ol) : SomeAt m (ol.map turn) := by
 intro a ha
 obtain ⟨b, hb, rfl⟩ := List.mem_map.1 ha
 obtain ⟨h1, h2⟩ := h b hb
 simp only [Kg, Bool.and_eq_true] at h1
 exact ⟨by simp only [Kg, Acq.turn, Bool.and_eq_true]; exact ⟨h1.2, h1.1⟩, h2⟩
theorem WithinAt.turn {al : List Arc} {n k : Nat} {fl : List Int} (h : WithinAt al n k fl) : WithinAt (al.map turn) n k fl :=
 ⟨h.1, fun i hi => by rw [Zbe]; exact ⟨(h.2.1 i hi).1, (h.2.1 i hi).2.1, fun e => (h.2.1 i hi).2.2 e.symm⟩, h.2.2⟩
theorem CsrOK.place {al : List Arc} {m : Nat} {fs hs rs cs aa : List Int} {bs : List Bool} (h : CsrOK al m fs hs rs cs aa bs) {j : Nat} (hj : j < Yu al m) :
    ∃ i s, i < al.length ∧ (al.getD i default).fr ≠ (al.getD i default).to ∧ Zc al i s = j ∧ hs.getD j 0 = Xe (al.getD i default) (!s) ∧ rs.getD j 0 = Zc al i (!s) ∧ cs.getD j 0 = (if s then 0 else (al.getD i default).cap) ∧ aa.getD j 0 = i ∧ bs.getD j false = s := by
  obtain ⟨i, s, hi, hne, hp, _⟩ := pos_surj hj
  have := h.hat i hi hne s
  rw [hp] at this
  exact ⟨i, s, hi, hne, hp, this⟩
end Go.Acq
namespace Go.Acq
open Go
theorem ok_eq {α : Type} {m : Option α} {v : α} (h : Ok m (fun a => a = v)) : m = some v := by obtain ⟨a, h1, h2⟩ := h; rw [h1, h2]
theorem Wu {α : Type} {m : Option α} {v : α} {Q : α → Prop} (h : m = some v) (q : Q v) : Ok m Q := ⟨v, h, q⟩
abbrev lenok (n : Nat) : Prop := n ≤ 9223372036854775807
theorem Z0l {x n : Int} (h1 : n ≤ 4611686018427387904) : Nl x n = some (Jq x n) := by
 unfold Nl Jq
 by_cases h : n < 1
 · rw [if_pos h, if_pos h]
 ·
  have a1 := Int.tmod_lt_of_pos x (show 0 < n by omega)
  have a2 := Z7e x (show 0 < n by omega)
  rw [if_neg h, if_neg h, Xg (by omega), Xg (by constructor <;> omega), Xg (by omega)]
theorem Z2s (n : Net) (v : Int) : Ny n v = some (Ur n.N v) := by
 unfold Ny Ur
 by_cases h : 0 ≤ v <;> simp [h]
theorem s_rules4 (n : Net) (a : Arc) : Z0x n a = some (Kg n.N a) := by
 unfold Z0x Kg
 rw [Z2s, Z2s]
 simp only [Option.bind_some]
 cases Ur n.N a.fr <;> simp
theorem s_of4 (n : Net) (h : lenok n.Arcs.length) : Z1d n = some (n.Arcs.all (Kg n.N)) := by
 refine ok_eq ?_
 unfold Z1d Z2w Z45
 refine Ok.bind.2 (Ok.bind.2 (Ok.bind.2 (Z3s (fun x => 0 ≤ x ∧ x ≤ n.Arcs.length ∧ ∀ i, i < x.toNat → Kg n.N (n.Arcs.getD i default) = true) (fun x => (n.Arcs.length - x).toNat) ⟨by omega, by omega, fun i hi => by omega⟩ (by unfold Wg; omega) ?_)))
 rintro x ⟨h0, h1, h2⟩
 unfold Z1c Z2p
 refine Ok.ite.2 ⟨fun hx => ?_, fun hx => ?_⟩
 ·
  refine Ok.gd.2 ⟨(by omega), Ok.bind.2 (Ok.bind.2 (Wu (s_rules4 _ _) (Ok.some.2 (Ok.ite.2 ⟨fun hb => ?_, fun hb => ?_⟩))))⟩
  ·
   refine Ok.some.2 (Ok.some.2 (Ok.some.2 (Ok.some.2 ?_)))
   simp only [h0, decide_true, Bool.not_true]
   refine Eq.symm (Bool.eq_false_iff.2 fun hall => ?_)
   have := List.all_eq_true.1 hall _ (Jt (show x.toNat < n.Arcs.length by omega) default)
   rw [this] at hb; cases hb
  ·
   refine Ok.gd.2 ⟨(by omega), Ok.some.2 ⟨⟨by omega, by omega, fun i hi => ?_⟩, by omega⟩⟩
   rcases Nat.lt_or_ge i x.toNat with h3 | h3
   · exact h2 i h3
   · rw [show i = x.toNat by omega]; simpa using hb
 ·
  refine Ok.some.2 (Ok.some.2 (Ok.some.2 (Ok.some.2 ?_)))
  refine Eq.symm (List.all_eq_true.2 fun a ha => ?_)
  obtain ⟨i, hi, rfl⟩ := List.getElem_of_mem ha
  have := h2 i (by omega)
  rwa [List.getD_eq_getElem?_getD, List.getElem?_eq_getElem hi] at this
theorem s_of5 (n : Net) (h : lenok n.Arcs.length) : Z18 n = some (n.Arcs.all Gt) := by
 refine ok_eq ?_
 unfold Z18 Z42 Z3b
 refine Ok.bind.2 (Ok.bind.2 (Ok.bind.2 (Z3s (fun x => 0 ≤ x ∧ x ≤ n.Arcs.length ∧ ∀ i, i < x.toNat → Gt (n.Arcs.getD i default) = true) (fun x => (n.Arcs.length - x).toNat) ⟨by omega, by omega, fun i hi => by omega⟩ (by unfold Wg; omega) ?_)))
 rintro x ⟨h0, h1, h2⟩
 unfold Z22 Z26 Z2d
 refine Ok.ite.2 ⟨fun hx => ?_, fun hx => ?_⟩
 ·
  refine Ok.gd.2 ⟨(by omega), Ok.bind.2 (Ok.bind.2 (Ok.some.2 (Ok.some.2 (Ok.ite.2 ⟨fun hb => ?_, fun hb => ?_⟩))))⟩
  ·
   refine Ok.some.2 (Ok.some.2 (Ok.some.2 (Ok.some.2 ?_)))
   simp only [h0, decide_true, Bool.not_true]
   refine Eq.symm (Bool.eq_false_iff.2 fun hall => ?_)
   have := List.all_eq_true.1 hall _ (Jt (show x.toNat < n.Arcs.length by omega) default)
   simp only [Gt] at this
   rw [this] at hb; cases hb
  ·
   refine Ok.gd.2 ⟨(by omega), Ok.some.2 ⟨⟨by omega, by omega, fun i hi => ?_⟩, by omega⟩⟩
   rcases Nat.lt_or_ge i x.toNat with h3 | h3
   · exact h2 i h3
   · rw [show i = x.toNat by omega]; simpa [Gt] using hb
 ·
  refine Ok.some.2 (Ok.some.2 (Ok.some.2 (Ok.some.2 ?_)))
  refine Eq.symm (List.all_eq_true.2 fun a ha => ?_)
  obtain ⟨i, hi, rfl⟩ := List.getElem_of_mem ha
  have := h2 i (by omega)
  rwa [List.getD_eq_getElem?_getD, List.getElem?_eq_getElem hi] at this
theorem s_Sum (n : Net) (h : lenok n.Arcs.length) : Z11 n = some (match Ud 4611686018427387904 n.Arcs with | some l => (4611686018427387904 - l, true) | none => (0, false)) := by
 refine ok_eq ?_
 unfold Z11
 refine Ok.bind.2 (Z3s (fun s => 0 ≤ s.2 ∧ s.2 ≤ n.Arcs.length ∧ 0 ≤ s.1 ∧ s.1 ≤ 4611686018427387904 ∧ Ud 4611686018427387904 n.Arcs = Ud s.1 (n.Arcs.drop s.2.toNat)) (fun s => (n.Arcs.length - s.2).toNat) ⟨by simp, by simp, by simp, by simp, by simp⟩ (by unfold Wg; simp; omega) ?_)
 rintro ⟨left, x⟩ ⟨h0, h1, h2, h3, h4⟩
 simp only at h0 h1 h2 h3 h4 ⊢
 unfold Z1n Z1x
 refine Ok.ite.2 ⟨fun hx => ?_, fun hx => ?_⟩
 ·
  rw [Zdl (by omega)] at h4
  refine Ok.gd.2 ⟨(by omega), Ok.ite.2 ⟨fun hb => ?_, fun hb => ?_⟩⟩
  ·
   rw [if_pos rfl]
   refine Ok.some.2 (Ok.some.2 ?_)
   rw [h4, if_pos (.inl hb)]
  ·
   by_cases hc : left < (n.Arcs.getD x.toNat default).cap
   ·
    rw [if_pos (decide_eq_true hc)]
    refine Ok.some.2 (Ok.some.2 ?_)
    rw [h4, if_pos (.inr hc)]
   ·
    rw [if_neg (by simpa using hc)]
    refine Ok.gd.2 ⟨(by omega), Ok.gd.2 ⟨(by omega), Ok.some.2 ⟨⟨by simp only; omega, by simp only; omega, by simp only; omega, by simp only; omega, ?_⟩, by simp only; omega⟩⟩⟩
    rw [h4, if_neg (by omega)]
    simp only
    rw [show (x + 1).toNat = x.toNat + 1 by omega]
 ·
  unfold Z3q
  refine Ok.some.2 (Ok.gd.2 ⟨(by omega), Ok.some.2 ?_⟩)
  rw [h4, List.drop_eq_nil_of_le (by omega)]
  rfl
theorem Z8e (n : Net) (h : lenok n.Arcs.length) : Z03 n = some (Ke n.N n.S n.T n.Arcs) := by
 unfold Z03 Z25 Z3t Z3g Z23 Z2g Z3l Z27 Z3i
 rw [Z2s, Z2s, s_of4 n h, s_of5 n h, s_Sum n h]
 unfold Ke
 simp only [Option.bind_some]
 by_cases h1 : 2 ≤ n.N ∧ n.N ≤ 4096
 ·
  rw [if_pos h1.1, if_neg (not_not_intro h1)]
  simp only [Option.bind_some, decide_eq_true h1.2, Bool.not_true, Bool.false_eq_true, if_false]
  by_cases h2 : (n.Arcs.length : Int) ≤ 16384
  ·
   rw [if_neg (by simp [h2]), if_neg (not_not_intro h2)]
   by_cases h3 : Ur n.N n.S = true ∧ Ur n.N n.T = true ∧ n.S ≠ n.T
   ·
    rw [if_pos h3.1, if_pos h3.2.1, if_neg (not_not_intro h3)]
    simp only [Option.bind_some, decide_eq_true h3.2.2, Bool.not_true, Bool.false_eq_true, if_false]
    cases h4 : n.Arcs.all (Kg n.N)
    · simp
    ·
     cases h5 : n.Arcs.all Gt
     · simp
     · cases h6 : Ud 4611686018427387904 n.Arcs <;> simp
   ·
    rw [if_pos h3]
    by_cases a1 : Ur n.N n.S = true
    ·
     by_cases a2 : Ur n.N n.T = true
     ·
      have a3 : ¬ n.S ≠ n.T := fun e => h3 ⟨a1, a2, e⟩
      simp [a1, a2, a3]
     · simp [a1, a2]
    · simp [a1]
  · rw [if_pos (by simp [h2]), if_pos h2]
 ·
  rw [if_pos h1]
  by_cases a1 : 2 ≤ n.N
  ·
   have a2 : ¬ n.N ≤ 4096 := fun e => h1 ⟨a1, e⟩
   simp [a1, a2]
  · simp [a1]
end Go.Acq
namespace Go.Acq
open Go
structure NetIn (n : Net) : Prop where
  nN : i64ok n.N
  nS : i64ok n.S
  nT : i64ok n.T
  arcs : ∀ a, a ∈ n.Arcs → i64ok a.fr ∧ i64ok a.to ∧ i64ok a.cap
  len : n.Arcs.length ≤ 9223372036854775807
structure Made (n : Net) (v a : Int) : Prop where
  check : Ke n.N n.S n.T n.Arcs = 0
  rows : SomeAt n.N.toNat n.Arcs
  verts : n.N ≤ v
  arcs : (n.Arcs.length : Int) ≤ a
  ends : 2 ≤ n.N ∧ 0 ≤ n.S ∧ n.S < n.N ∧ 0 ≤ n.T ∧ n.T < n.N ∧ n.S ≠ n.T
theorem Made.caps {n : Net} {m : Nat} (h : SomeAt m n.Arcs) : ∀ i, i < n.Arcs.length → 0 ≤ (n.Arcs.getD i default).cap ∧ (n.Arcs.getD i default).cap < 1125899906842624 := fun _ hi => (h _ (Jt hi default)).2
theorem s_Some {n : Net} {v a : Int} (h : NetIn n) (hv0 : 2 ≤ v) (hv1 : v ≤ 4096) (ha0 : 0 ≤ a) (ha1 : a ≤ 4096) : Ok (Z20 n v a) (fun r => Made r v a) := by
 have hN := Z0r (x := n.N) (n := v - 1) (by omega)
 unfold Z20
 refine Ok.gd.2 ⟨(by omega), Ok.bind.2 (Wu (Z0l (by omega)) (Ok.gd.2 ⟨(by omega), ?_⟩))⟩
 obtain ⟨m, hm⟩ : ∃ m : Nat, 2 + Jq n.N (v - 1) = m := ⟨(2 + Jq n.N (v - 1)).toNat, by omega⟩
 rw [hm]
 have hS := Z0r (x := n.S) (n := (m : Int)) (by omega)
 have hT := Z0r (x := n.T) (n := (m : Int)) (by omega)
 refine Ok.bind.2 (Wu (Z0l (by omega)) (Ok.bind.2 (Wu (Z0l (by omega)) ?_)))
 have key : ∀ t : Int, 0 ≤ t → t < m → t ≠ Jq n.S m → Ok (Z0c n a (Jq n.N (v - 1)) (Jq n.S m) t) (fun r => Made r v a) := by
  intro t t0 t1 t2
  unfold Z0c
  refine Ok.gd.2 ⟨(by omega), Ok.bind.2 ?_⟩
  obtain ⟨q, hq⟩ : ∃ q : Nat, min (n.Arcs.length : Int) a = q := ⟨(min (n.Arcs.length : Int) a).toNat, by omega⟩
  obtain ⟨al, hal⟩ : ∃ l, l = n.Arcs.take (q : Int).toNat := ⟨_, rfl⟩
  have hlen : al.length = q := by rw [hal, List.length_take]; omega
  have hcap : ∀ b, b ∈ al → i64ok b.cap := fun b hb => (h.arcs b (List.mem_of_mem_take (by rw [← hal]; exact hb))).2.2
  refine Ok.lp (fun s => ∃ k : Nat, s.2 = k ∧ k ≤ q ∧ s.1.length = k ∧ SomeAt m s.1) (fun s => (q - s.2).toNat) ⟨0, rfl, by omega, rfl, fun b hb => by cases hb⟩ (by unfold Wg; simp only; omega) ?_
  rintro ⟨ol, x⟩ ⟨k, h1, h2, h3, h4⟩ P next exit
  simp only at h1 h2 h3 h4 next ⊢
  subst h1
  unfold Z21
  rw [hq, ← hal]
  simp only [Int.toNat_natCast]
  refine Ok.ite.2 ⟨fun hx => ?_, fun hx => ?_⟩
  ·
   have hkl : k < al.length := by omega
   have hc := hcap _ (Jt hkl default)
   have hj : ∀ c : Int, 0 ≤ c → Ok (Z02 n a (Jq n.N (v - 1)) ol k c) P := by
    intro c hc0
    unfold Z02
    rw [hq, ← hal, hm]
    refine Ok.bind.2 (Wu (Z0l (by omega)) (Ok.bind.2 (Wu (Z0l (by omega)) (Ok.gd.2 ⟨?_, Ok.gd.2 ⟨(by omega), Ok.some.2 (next _ ⟨k + 1, by simp, by omega, by simp [h3], ?_⟩ (by simp only; omega))⟩⟩))))
    · rw [List.length_append, h3]; simp only [List.length_cons, List.length_nil]; constructor <;> omega
    · exact h4.put (Z0r (by omega)) (Z0r (by omega)) (Z9y hc0 (by omega))
   refine Ok.gd.2 ⟨(by omega), Ok.ite.2 ⟨fun hn => ?_, fun hn => ?_⟩⟩
   · exact Ok.gd.2 ⟨by constructor <;> omega, Ok.gd.2 ⟨by constructor <;> omega, hj (-((al.getD k default).cap + 1)) (by omega)⟩⟩
   · exact hj (al.getD k default).cap (by omega)
  ·
   refine Ok.some.2 (exit _ ?_)
   unfold Z2l
   refine Ok.some.2 ?_
   rw [hm]
   exact ⟨Zbx (by omega) (by omega) hS ⟨t0, t1⟩ t2 h4 (show ol.length ≤ 4096 by omega), by simpa using h4, by simp only; omega, by show (ol.length : Int) ≤ a; omega, ⟨by simp only; omega, hS.1, hS.2, t0, t1, fun e => t2 e.symm⟩⟩
 refine Ok.ite.2 ⟨fun he => ?_, fun he => ?_⟩
 ·
  refine Ok.gd.2 ⟨(by omega), Ok.gd.2 ⟨by omega, ?_⟩⟩
  obtain ⟨n1, n2, n3⟩ := next_ne hS.1 hS.2 (by omega)
  exact key _ n1 n2 n3
 · exact key _ hT.1 hT.2 (fun e => he e.symm)
end Go.Acq
namespace Go.Acq
open Go
def ex (al : List Arc) (f : List Int) (v : Int) : Nat → Int
  | 0 => 0
  | k + 1 => ex al f v k - (if (al.getD k default).fr = v then f.getD k 0 else 0) + (if (al.getD k default).to = v then f.getD k 0 else 0)
def part (al : List Arc) (f : List Int) (j : Int) : Nat → Int
  | 0 => 0
  | k + 1 => part al f j k - (if (al.getD k default).fr < j then f.getD k 0 else 0) + (if (al.getD k default).to < j then f.getD k 0 else 0)
def FwithinP (n : Net) (f : List Int) : Prop := Ke n.N n.S n.T n.Arcs = 0 ∧ f.length = n.Arcs.length ∧ ∀ i, i < n.Arcs.length → 0 ≤ f.getD i 0 ∧ f.getD i 0 ≤ (n.Arcs.getD i default).cap
end Go.Acq
namespace Go.Acq
open Go Go.Lib
theorem bs_getD (x : Str) (i : Nat) : (bs x).get! i = x.getD i 0 := by
 by_cases h : i < x.length
 · rw [Z8y x i h, List.getD_eq_getElem?_getD, List.getElem?_eq_getElem h]; rfl
 ·
  rw [List.getD_eq_getElem?_getD, List.getElem?_eq_none (by omega)]
  simp [ByteArray.get!, bs, h]; rfl
theorem Z9d (x : Str) (i : Nat) (h : i < x.length) (ha : 128 ≤ (x.getD i 0).toNat) : ∃ r k, Utf8.decode (bs x) i = (r, k) ∧ 128 ≤ r ∧ 1 ≤ k ∧ ∀ j, j < k → i + j < x.length ∧ 128 ≤ (x.getD (i + j) 0).toNat := by
 have h0 : ∀ j, j < 1 → i + j < x.length ∧ 128 ≤ (x.getD (i + j) 0).toNat := fun j hj => by
  obtain rfl : j = 0 := by omega
  exact ⟨h, ha⟩
 have hc : ∀ j, (decide (i + j < (bs x).size) && ((x.getD (i + j) 0).toNat / 64 == 2)) = true → i + j < x.length ∧ 128 ≤ (x.getD (i + j) 0).toNat := fun j hj => by
  simp only [Bool.and_eq_true, decide_eq_true_eq, beq_iff_eq, Xk] at hj
  omega
 unfold Utf8.decode
 simp only [bs_getD, Nat.add_zero]
 rw [if_neg (by omega)]
 split
 ·
  rename_i h1
  rw [Bool.and_eq_true] at h1
  split
  ·
   refine ⟨_, _, rfl, by assumption, by omega, fun j hj => ?_⟩
   rcases (by omega : j = 0 ∨ j = 1) with rfl | rfl
   · exact h0 0 (by omega)
   · exact hc 1 h1.2
  · exact ⟨_, _, rfl, by decide, by omega, h0⟩
 ·
  split
  ·
   rename_i h1
   rw [Bool.and_eq_true, Bool.and_eq_true] at h1
   split
   ·
    rename_i h2
    rw [Bool.and_eq_true, decide_eq_true_eq] at h2
    refine ⟨_, _, rfl, by omega, by omega, fun j hj => ?_⟩
    rcases (by omega : j = 0 ∨ j = 1 ∨ j = 2) with rfl | rfl | rfl
    · exact h0 0 (by omega)
    · exact hc 1 h1.1.2
    · exact hc 2 h1.2
   · exact ⟨_, _, rfl, by decide, by omega, h0⟩
  ·
   split
   ·
    rename_i h1
    rw [Bool.and_eq_true, Bool.and_eq_true, Bool.and_eq_true] at h1
    split
    ·
     rename_i h2
     rw [Bool.and_eq_true, decide_eq_true_eq] at h2
     refine ⟨_, _, rfl, by omega, by omega, fun j hj => ?_⟩
     rcases (by omega : j = 0 ∨ j = 1 ∨ j = 2 ∨ j = 3) with rfl | rfl | rfl | rfl
     · exact h0 0 (by omega)
     · exact hc 1 h1.1.1.2
     · exact hc 2 h1.1.2
     · exact hc 3 h1.2
    · exact ⟨_, _, rfl, by decide, by omega, h0⟩
   · exact ⟨_, _, rfl, by decide, by omega, h0⟩
theorem Z6u {l : Str} {i : Nat} {c : UInt8} (h : l[i]? = some c) : l.getD i 0 = c := by rw [List.getD_eq_getElem?_getD, h]; rfl
theorem Zac {p : Nat → Bool} (hp : ∀ r, 128 ≤ r → p r = false) (l : Str) (Zc : Nat) (h : Zc < l.length) :
    (∃ c, l[Zc]? = some c ∧ p c.toNat = true ∧ Utf8.decode (bs l) Zc = (c.toNat, 1)) ∨ (∃ r k, Utf8.decode (bs l) Zc = (r, k) ∧ p r = false ∧ 1 ≤ k ∧ Zc + k ≤ l.length ∧ ∀ b ∈ (l.drop Zc).take k, p b.toNat = false) := by
  obtain ⟨c, hc⟩ := Z41 h
  by_cases ha : c.toNat < 128
  · have hd := Z2e l Zc c hc ha
    cases hq : p c.toNat with
    | true => exact .inl ⟨c, hc, hq, hd⟩
    | false =>
      refine .inr ⟨_, _, hd, hq, by omega, by omega, fun b hb => ?_⟩
      rw [Z1j hc] at hb
      simp only [List.take_succ_cons, List.take_zero, List.mem_singleton] at hb
      rw [hb]; exact hq
  · obtain ⟨r, k, hd, hr, hk, hj⟩ := Z9d l Zc h (by rw [Z6u hc]; omega)
    have hle : Zc + k ≤ l.length := by have := (hj (k - 1) (by omega)).1; omega
    refine .inr ⟨r, k, hd, hp r hr, hk, hle, fun b hb => ?_⟩
    obtain ⟨j, hjl, rfl⟩ := List.mem_iff_getElem.1 hb
    rw [List.length_take, List.length_drop] at hjl
    have := (hj j (by omega)).2
    rw [List.getElem_take, List.getElem_drop]
    rw [List.getD_eq_getElem?_getD, List.getElem?_eq_getElem (by omega)] at this
    exact hp _ this
theorem Z1z {p : Nat → Bool} {l : Str} : ∀ (seg cur : Str), (∀ b ∈ seg, p b.toNat = false) → Xm p (seg ++ l) cur = Xm p l (cur ++ seg)
 | [], cur, _ => by rw [List.nil_append, List.append_nil]
 | b :: seg, cur, h => by
  rw [List.cons_append, Z4v (by rw [h b (.head _)]; decide), Z1z seg _ (fun x hx => h x (.tail _ hx)), List.append_assoc]; rfl
theorem Zef {p : Nat → Bool} (hp : ∀ r, 128 ≤ r → p r = false) (l : Str) : ∀ (f Zc : Nat) (st : Option Nat) (acc : List (Nat × Nat)), l.length ≤ Zc + f → Zc ≤ l.length → opn st Zc →
    (closeSpans (bs l) (spansFromP p (bs l) f Zc st acc)).map (fun x => (l.take x.2).drop x.1) = acc.map (fun x => (l.take x.2).drop x.1) ++ Xm p (l.drop Zc) (Wc l st Zc) := by
  have hne : ∀ a Zc, a < Zc → Zc ≤ l.length → Wc l (some a) Zc ≠ [] := fun a Zc h1 h2 e => by
    have := congrArg List.length e
    unfold Wc at this
    simp only at this
    rw [List.length_drop, List.length_take] at this
    simp only [List.length_nil] at this
    omega
  have fin : ∀ (f Zc : Nat) (st : Option Nat) (acc : List (Nat × Nat)), Zc = l.length → opn st Zc →
      (closeSpans (bs l) (spansFromP p (bs l) f Zc st acc)).map (fun x => (l.take x.2).drop x.1) = acc.map (fun x => (l.take x.2).drop x.1) ++ Xm p (l.drop Zc) (Wc l st Zc) := by
    intro f Zc st acc hp ho
    subst hp
    rw [spansFromP_end _ _ _ _ _ _ (by rw [Xk]; omega), List.drop_eq_nil_of_le (Nat.le_refl _)]
    cases st with
    | none => simp [closeSpans, Wc, Xm]
    | some a =>
      rw [Z62 (hne a _ (ho a rfl) (Nat.le_refl _))]
      simp only [closeSpans, Wc, Xk, List.map_append, List.map_cons, List.map_nil]
  intro f
  induction f with
  | zero => intro Zc st acc hf hp ho; exact fin 0 Zc st acc (by omega) ho
  | succ f ih =>
    intro Zc st acc hf hpl ho
    by_cases hlt : Zc < l.length
    · have hsz : Zc < (bs l).size := by rw [Xk]; exact hlt
      rcases Zac hp l Zc hlt with ⟨c, hc, hq, hd⟩ | ⟨r, k, hd, hq, hk, hle, hseg⟩
      · rw [Z1j hc]
        cases st with
        | none =>
          have e : spansFromP p (bs l) (f + 1) Zc none acc = spansFromP p (bs l) f (Zc + 1) none acc := by simp only [spansFromP, if_pos hsz, hd, if_pos hq]
          rw [e, ih (Zc + 1) none acc (by omega) (by omega) (fun a e => by cases e)]
          rw [show Wc l none Zc = [] from rfl, Z9m hq]; rfl
        | some a =>
          have e : spansFromP p (bs l) (f + 1) Zc (some a) acc = spansFromP p (bs l) f (Zc + 1) none (acc ++ [(a, Zc)]) := by simp only [spansFromP, if_pos hsz, hd, if_pos hq]
          rw [e, ih (Zc + 1) none (acc ++ [(a, Zc)]) (by omega) (by omega) (fun a e => by cases e), Z5m hq (hne a Zc (ho a rfl) (by omega))]
          simp only [Wc, List.map_append, List.map_cons, List.map_nil, List.append_assoc, List.cons_append, List.nil_append]
      · have hq' : ¬ p r = true := by rw [hq]; decide
        have hs : l.drop Zc = (l.drop Zc).take k ++ l.drop (Zc + k) := by rw [← List.drop_drop, List.take_append_drop]
        cases st with
        | none =>
          have e : spansFromP p (bs l) (f + 1) Zc none acc = spansFromP p (bs l) f (Zc + k) (some Zc) acc := by simp only [spansFromP, if_pos hsz, hd, if_neg hq']
          rw [e, ih (Zc + k) (some Zc) acc (by omega) hle (fun a e => by cases e; omega), hs, Z1z _ _ hseg]
          simp only [Wc, List.nil_append]
          rw [show (l.take (Zc + k)).drop Zc = (l.drop Zc).take k by rw [List.drop_take]; congr 1; omega]
        | some a =>
          have e : spansFromP p (bs l) (f + 1) Zc (some a) acc = spansFromP p (bs l) f (Zc + k) (some a) acc := by simp only [spansFromP, if_pos hsz, hd, if_neg hq']
          rw [e, ih (Zc + k) (some a) acc (by omega) hle (fun b e => by cases e; have := ho a rfl; omega), hs, Z1z _ _ hseg]
          have h1 := ho a rfl
          have : Wc l (some a) (Zc + k) = Wc l (some a) Zc ++ (l.drop Zc).take k := by
            unfold Wc
            simp only
            rw [show l.take (Zc + k) = l.take Zc ++ (l.drop Zc).take k from List.take_add, List.drop_append_of_le_length (by rw [List.length_take]; omega)]
          rw [this]
    · exact fin (f + 1) Zc st acc (by omega) ho
theorem Zf0 {p : Nat → Bool} (hp : ∀ r, 128 ≤ r → p r = false) (l : Str) : Z0k p l = Xm p l [] := by
 have h0 := Z8j p l
 have h1 := Zef hp l l.length 0 none [] (by omega) (by omega) (fun a e => by cases e)
 simp only [List.map_nil, List.nil_append, List.drop_zero] at h1
 have h2 : Wc l none 0 = [] := rfl
 rw [h2] at h1
 have h3 : goFieldsP p (bs l) = (Xm p l []).map bs := by
  rw [← h1]
  unfold goFieldsP spansOfP
  rw [Xk, List.map_map]
  apply List.map_congr_left
  intro x _
  exact Z63 l x.1 x.2
 rw [h3] at h0
 have hinj : Function.Injective bs := fun a b h => by have := congrArg (fun z => z.data.toList) h; simpa [bs] using this
 exact ((List.map_inj_right (fun a b h => hinj h)).1 h0).symm
theorem Z2n {p : Nat → Bool} : ∀ (l cur : Str), ∀ w ∈ Xm p l cur, w ≠ []
 | [], cur, w, h => by
  unfold Xm at h
  split at h
  · cases h
  · rcases List.mem_singleton.1 h with rfl; assumption
 | b :: l, cur, w, h => by
  unfold Xm at h
  split at h
  ·
   split at h
   · exact Z2n l [] w h
   ·
    rcases List.mem_cons.1 h with rfl | h
    · assumption
    · exact Z2n l [] w h
  · exact Z2n l _ w h
theorem anyT_any {p : Nat → Bool} (hp : ∀ r, 128 ≤ r → p r = true) (l : Str) : anyT p l = l.any (fun b => p b.toNat) := by
 rw [← Z6f]
 have key : ∀ (f Zc : Nat), l.length ≤ Zc + f → decide (0 ≤ idxFuncFrom p true (bs l) f Zc) = (l.drop Zc).any (fun b => p b.toNat) := by
  intro f
  induction f with
  | zero => intro Zc hf; rw [List.drop_eq_nil_of_le (by omega)]; rfl
  | succ f ih =>
   intro Zc hf
   by_cases hlt : Zc < l.length
   ·
    obtain ⟨c, hc⟩ := Z41 hlt
    rw [idxFuncFrom, if_pos (by rw [Xk]; exact hlt), Z1j hc, List.any_cons]
    by_cases ha : c.toNat < 128
    ·
     rw [Z2e l Zc c hc ha]
     by_cases hq : p c.toNat = true
     · rw [if_pos hq, hq, Bool.true_or]; exact decide_eq_true (by omega)
     ·
      rw [if_neg hq, Bool.eq_false_iff.2 hq, Bool.false_or]
      exact ih (Zc + 1) (by omega)
    ·
     obtain ⟨r, k, hd, hr, hk, hj⟩ := Z9d l Zc hlt (by rw [Z6u hc]; omega)
     rw [hd, if_pos (hp r hr), hp _ (by omega), Bool.true_or]
     exact decide_eq_true (by omega)
   · rw [idxFuncFrom_end _ _ _ _ _ (by rw [Xk]; exact hlt), List.drop_eq_nil_of_le (by omega)]; rfl
 unfold idxFunc
 rw [Xk, key l.length 0 (by omega), List.drop_zero]
def Gw (b : UInt8) : Bool := decide (48 ≤ b.toNat ∧ b.toNat ≤ 57)
def Un (acc : Nat) (l : Str) : Nat := l.foldl (fun a b => a * 10 + (b.toNat - 48)) acc
theorem valD_nil (acc : Nat) : Un acc [] = acc := rfl
theorem Zcr (acc : Nat) (b : UInt8) (l : Str) : Un acc (b :: l) = Un (acc * 10 + (b.toNat - 48)) l := by
 unfold Un; rw [List.foldl_cons]
theorem Zeq (l : Str) : ∀ (acc : Nat), l.all Gw = true → (acc + 1) * 10 ^ l.length ≤ 18446744073709551616 → parseUintM 18446744073709551615 acc l = .ok (Un acc l) := by
 induction l with
 | nil => intro acc _ _; rfl
 | cons b l ih =>
  intro acc h hb
  rw [List.all_cons, Bool.and_eq_true] at h
  have h1 : 48 ≤ b.toNat ∧ b.toNat ≤ 57 := of_decide_eq_true h.1
  rw [List.length_cons, Nat.pow_succ] at hb
  have hp : 1 ≤ 10 ^ l.length := Nat.one_le_pow _ _ (by omega)
  have h2 : (acc * 10 + (b.toNat - 48) + 1) * 10 ^ l.length ≤ 18446744073709551616 := by
   refine Nat.le_trans ?_ hb
   rw [Nat.mul_comm (10 ^ l.length) 10, ← Nat.mul_assoc]
   exact Nat.mul_le_mul_right _ (by omega)
  have h3 : acc * 10 + (b.toNat - 48) + 1 ≤ 18446744073709551616 := Nat.le_trans (by have := Nat.mul_le_mul_left (acc * 10 + (b.toNat - 48) + 1) hp; omega) h2
  rw [parseUintM, if_pos h1, if_neg (by omega), if_neg (by omega)]
  exact ih _ h.2 h2
def Wj (s : Str) : Int × Bool := if s.all Gw = true ∧ s ≠ [] ∧ s.length ≤ 19 ∧ Un 0 s < 9223372036854775808 then ((Un 0 s : Int), true) else (0, false)
theorem Zcx {s : Str} (h : s.all Gw = true) (h0 : s ≠ []) (h1 : s.length ≤ 19) : Z1y s = if Un 0 s < 9223372036854775808 then ((Un 0 s : Int), true) else (9223372036854775807, false) := by
 obtain ⟨c, r, rfl⟩ := List.exists_cons_of_ne_nil h0
 have hc : 48 ≤ c.toNat ∧ c.toNat ≤ 57 := by rw [List.all_cons, Bool.and_eq_true] at h; exact of_decide_eq_true h.1
 have hp : parseUintB 64 (c :: r) = .ok (Un 0 (c :: r)) := by
  unfold parseUintB
  rw [if_neg h0]
  refine Zeq _ 0 h ?_
  have : (10 : Nat) ^ (c :: r).length ≤ 10 ^ 19 := Nat.pow_le_pow_right (by omega) h1
  omega
 unfold Z1y
 rw [parseIntB_plain 64 c r (by omega) (by omega), hp]
 simp only [signlessC]
 by_cases hv : Un 0 (c :: r) < 9223372036854775808
 · rw [if_pos hv, if_neg (by omega)]
 ·
  rw [if_neg hv, if_pos (by omega)]
  simp only
  rw [intSat_other 64 c r (by omega)]; rfl
theorem Z5f : ∀ (f u : Nat), (Wf f u).all Gw = true
 | 0, u => rfl
 | f + 1, u => by
  have key : ∀ v, v < 10 → Gw (UInt8.ofNat (48 + v)) = true := fun v hv => by
   refine decide_eq_true ?_
   rw [UInt8.toNat_ofNat']
   omega
  rw [Wf]
  split
  · rw [List.all_cons, key u (by omega)]; rfl
  · rw [List.all_append, Z5f f, List.all_cons, key _ (by omega)]; rfl
theorem valD_app (l : Str) (acc : Nat) (b : UInt8) : Un acc (l ++ [b]) = Un acc l * 10 + (b.toNat - 48) := by
 unfold Un; rw [List.foldl_append]; rfl
theorem Z9e : ∀ (f u : Nat), u < 10 ^ f → Un 0 (Wf f u) = u
 | 0, u, h => by simp at h; subst h; rfl
 | f + 1, u, h => by
  have key : ∀ v, v < 10 → (UInt8.ofNat (48 + v)).toNat - 48 = v := fun v hv => by rw [UInt8.toNat_ofNat']; omega
  rw [Wf]
  split
  · rw [Zcr, valD_nil, key u (by omega)]; omega
  · rw [valD_app, Z9e f (u / 10) (by rw [Nat.pow_succ] at h; omega), key _ (by omega)]; omega
theorem Z5y : ∀ (f u : Nat), u < 10 ^ f → 1 ≤ f → 1 ≤ (Wf f u).length ∧ (Wf f u).length ≤ f
 | 0, u, _, h => by omega
 | f + 1, u, h, _ => by
  rw [Wf]
  split
  · simp
  ·
   rename_i hu
   rw [List.length_append, List.length_singleton]
   have h2 : u / 10 < 10 ^ f := by rw [Nat.pow_succ] at h; omega
   cases f with
   | zero => simp at h; omega
   | succ f => have := Z5y (f + 1) (u / 10) h2 (by omega); omega
theorem Z7c : ∀ (f u : Nat), u < 10 ^ (f + 1) → Wf (f + 2) u = Wf (f + 1) u
 | 0, u, h => by
  have h2 : u < 10 := by simpa using h
  rw [Wf, if_pos h2, Wf, if_pos h2]
 | f + 1, u, h => by
  by_cases hu : u < 10
  · rw [Wf, if_pos hu, Wf, if_pos hu]
  ·
   rw [Wf, if_neg hu, Z7c f (u / 10) (by rw [Nat.pow_succ] at h; omega)]
   conv => rhs; rw [Wf, if_neg hu]
theorem Zdh {n : Int} (h0 : 0 ≤ n) (h1 : n ≤ 9223372036854775807) : Yz n = Wf 19 n.toNat ∧ (Yz n).all Gw = true ∧ Yz n ≠ [] ∧ (Yz n).length ≤ 19 ∧ Un 0 (Yz n) = n.toNat := by
 have e19 : (10 : Nat) ^ 19 = 10000000000000000000 := by decide
 have e : Yz n = Wf 19 n.toNat := by
  unfold Yz
  rw [if_neg (by omega)]
  exact Z7c 18 n.toNat (by rw [show 18 + 1 = 19 from rfl, e19]; omega)
 have hl := Z5y 19 n.toNat (by rw [e19]; omega) (by omega)
 refine ⟨e, by rw [e]; exact Z5f _ _, fun h => ?_, by rw [e]; exact hl.2, by rw [e]; exact Z9e 19 _ (by rw [e19]; omega)⟩
 rw [e] at h
 rw [h] at hl
 simp at hl
theorem Jj {n : Int} (h0 : 0 ≤ n) (h1 : n ≤ 9223372036854775807) : Wj (Yz n) = (n, true) := by
 obtain ⟨-, h2, h3, h4, h5⟩ := Zdh h0 h1
 unfold Wj
 rw [if_pos ⟨h2, h3, h4, by omega⟩, h5, Int.toNat_of_nonneg h0]
end Go.Acq
namespace Go.Acq
open Go
def Ky {S V X : Type} (yy : S → V → Option (S ⊕ X)) : S → List V → Option (S ⊕ X)
  | s, [] => some (.inl s)
  | s, v :: vs => Option.bind (yy s v) fun t => match t with | .inl s' => Ky yy s' vs | .inr x => some (.inr x)
theorem Z9n {S V X : Type} {yy : S → V → Option (S ⊕ X)} {s s' : S} {v : V} {vs : List V} (h : yy s v = some (.inl s')) : Ky yy s (v :: vs) = Ky yy s' vs := by
 rw [Ky, h]; rfl
theorem Ze3 {S V X : Type} {yy : S → V → Option (S ⊕ X)} {s : S} {x : X} {v : V} {vs : List V} (h : yy s v = some (.inr x)) : Ky yy s (v :: vs) = some (.inr x) := by
 rw [Ky, h]; rfl
def Xr : Str → Str → List Str
  | [], cur => [cur]
  | b :: l, cur => if b = 10 then cur :: Xr l [] else Xr l (cur ++ [b])
theorem Z5q : ∀ (l cur : Str), ∀ x ∈ Xr l cur, x.length ≤ cur.length + l.length
 | [], cur, x, h => by rw [Xr] at h; rw [List.mem_singleton.1 h]; exact Nat.le_add_right _ _
 | b :: l, cur, x, h => by
  rw [Xr] at h
  split at h
  ·
   rcases List.mem_cons.1 h with rfl | h
   · exact Nat.le_add_right _ _
   · have := Z5q l [] x h; simp only [List.length_nil, List.length_cons] at this ⊢; omega
  · have := Z5q l _ x h; rw [List.length_append, List.length_singleton] at this; rw [List.length_cons]; omega
theorem Z4l : ∀ (seg rest cur : Str), (∀ b ∈ seg, b ≠ 10) → Xr (seg ++ 10 :: rest) cur = (cur ++ seg) :: Xr rest []
 | [], rest, cur, _ => by rw [List.nil_append, Xr, if_pos rfl, List.append_nil]
 | b :: seg, rest, cur, h => by
  rw [List.cons_append, Xr, if_neg (h b (.head _)), Z4l seg rest _ (fun x hx => h x (.tail _ hx)), List.append_assoc]; rfl
theorem Z9j : ∀ (seg cur : Str), (∀ b ∈ seg, b ≠ 10) → Xr seg cur = [cur ++ seg]
 | [], cur, _ => by rw [Xr, List.append_nil]
 | b :: seg, cur, h => by
  rw [Xr, if_neg (h b (.head _)), Z9j seg _ (fun x hx => h x (.tail _ hx)), List.append_assoc]; rfl
theorem Z72 : ∀ (t cur : Str), (Lib.indexByte t 10 < 0 ∧ Xr t cur = [cur ++ t]) ∨ (∃ r : Nat, Lib.indexByte t 10 = r ∧ r < t.length ∧ Xr t cur = (cur ++ t.take r) :: Xr (t.drop (r + 1)) [])
 | [], cur => .inl ⟨by decide, by rw [Xr, List.append_nil]⟩
 | b :: l, cur => by
  by_cases hb : b = 10
  ·
   subst hb
   refine .inr ⟨0, rfl, by simp, ?_⟩
   rw [Xr, if_pos rfl]; simp
  ·
   have h1 : (b == (10 : UInt8)) = false := by simpa using hb
   rcases Z72 l (cur ++ [b]) with ⟨h2, h3⟩ | ⟨r, h2, h3, h4⟩
   ·
    refine .inl ⟨?_, by rw [Xr, if_neg hb, h3, List.append_assoc]; rfl⟩
    have h5 : Lib.indexByte l 10 = -1 := by have := Lib.indexByte_ge l 10; omega
    rw [Lib.indexByte, h1, h5]; decide
   ·
    refine .inr ⟨r + 1, ?_, by rw [List.length_cons]; omega, ?_⟩
    ·
     rw [Lib.indexByte, h1, h2]
     have : ((r : Int) == -1) = false := beq_eq_false_iff_ne.2 (by omega)
     rw [this]; simp
    · rw [Xr, if_neg hb, h4, List.append_assoc]; simp
theorem ub_take (t : Str) (k : Nat) : (ub t).take k = ub (t.take k) := by unfold ub; rw [List.map_take]
theorem ub_drop (t : Str) (k : Nat) : (ub t).drop k = ub (t.drop k) := by unfold ub; rw [List.map_drop]
theorem Z3d (a b : Str) : ub (a ++ b) = ub a ++ ub b := by unfold ub; rw [List.map_append]
theorem Z6h (t : Str) : Z0p (ub t) [10] = some (Lib.indexByte t 10) := by
 unfold Z0p Z39
 rw [if_neg (by simp), if_pos (by simp), Xg (by constructor <;> decide)]
 simp only [Option.bind_some]
 congr 1
 unfold idxT
 rw [bu_ub]; rfl
theorem Zed {S X : Type} (yy : S → List Int → Option (S ⊕ X)) {t : Str} {s : S} (h1 : Lib.indexByte t 10 < 0) : Nf yy [10] 0 (ub t) (.inl s) = some (.inr (.inl (ub t, .inl s))) := by
 unfold Nf
 rw [Z6h, Option.bind_some, if_pos h1]
theorem Zbf {S X : Type} (yy : S → List Int → Option (S ⊕ X)) {t : Str} {s : S} {r : Nat} (hl : t.length ≤ 1152921504606846976) (h1 : Lib.indexByte t 10 = r) (h2 : r < t.length) :
    Nf yy [10] 0 (ub t) (.inl s) = Option.bind (yy s (ub (t.take r))) fun x => match x with | .inl s' => some (.inl (ub (t.drop (r + 1)), .inl s')) | .inr x => some (.inr (.inr (.inr x))) := by
  unfold Nf
  rw [Z6h, Option.bind_some, if_neg (by omega), h1]
  have ht : ((r : Int) + 0).toNat = r := by omega
  have hd : ((r : Int) + (([10] : List Int).length : Int)).toNat = r + 1 := by simp only [List.length_singleton]; omega
  have hlen := Ko t
  rw [Xg (by omega), Xg (by rw [hlen]; omega), Xg (by omega), ht, hd, List.take_of_length_le (by omega), ub_take, ub_drop]
  simp only [Rm]
  cases hy : yy s (ub (t.take r)) with
  | none => rfl
  | some x =>
    cases x with
    | inr x => rfl
    | inl s' =>
      rw [Option.bind_some, if_neg (by simp), Xg (by simp only [List.length_singleton]; omega), Xg (by rw [hlen]; simp only [List.length_singleton]; omega)]
      rfl
theorem s_splitN {S X : Type} (yy : S → List Int → Option (S ⊕ X)) : ∀ (fuel : Nat) (t : Str) (s : S), t.length ≤ 1152921504606846976 → t.length < fuel →
    (Option.bind (We (fun s : List Int × (S ⊕ X) => Nf yy [10] 0 s.1 s.2) fuel (ub t, .inl s)) fun o => match o with | .inl (p2_0_0, p2_0_1) => (Z12 yy p2_0_0 p2_0_1) | .inr p2_1_0 => (some p2_1_0)) = Ky (fun s v => yy s (ub v)) s (Xr t []) := by
  intro fuel
  induction fuel with
  | zero => intro t s _ h; omega
  | succ fuel ih =>
    intro t s hl hf
    rw [We]
    rcases Z72 t [] with ⟨h1, h2⟩ | ⟨r, h1, h2, h3⟩
    · rw [Zed yy h1, h2]
      simp only [Option.bind_some, List.nil_append, Ky]
      unfold Z12
      rw [Xg (by omega), List.take_of_length_le (by omega)]
      simp only [Rm]
      cases yy s (ub t) with
      | none => rfl
      | some x => cases x <;> rfl
    · rw [Zbf yy hl h1 h2, h3]
      rw [Ky, List.nil_append]
      cases hy : yy s (ub (t.take r)) with
      | none => rfl
      | some x =>
        cases x with
        | inr x => rfl
        | inl s' => exact ih (t.drop (r + 1)) s' (by rw [List.length_drop]; omega) (by rw [List.length_drop]; omega)
theorem s_split {S X : Type} (yy : S → List Int → Option (S ⊕ X)) (t : Str) (s : S) (hl : t.length ≤ 1152921504606846976) : Z1o yy [10] (ub t) 0 (.inl s) = Ky (fun s v => yy s (ub v)) s (Xr t []) := by
 unfold Z1o Z40
 rw [if_neg (by simp)]
 have hF : t.length < Wg := Nat.lt_of_le_of_lt hl (by unfold Wg; decide)
 exact s_splitN yy Wg t s hl hF
theorem Z1u (x : Nat) : Uy x = decide (x = 9 ∨ x = 13 ∨ x = 32) := by
 unfold Uy Z01
 by_cases h1 : x = 9
 · subst h1; rfl
 ·
  by_cases h2 : x = 13
  · subst h2; rfl
  ·
   rw [if_neg (by omega), if_neg (by omega)]
   by_cases h3 : x = 32
   · subst h3; rfl
   · rw [decide_eq_false (by omega : ¬((x : Int) = 32)), decide_eq_false (by omega : ¬(x = 9 ∨ x = 13 ∨ x = 32))]; rfl
theorem blank_hi : ∀ r, 128 ≤ r → Uy r = false := fun r h => by rw [Z1u]; exact decide_eq_false (by omega)
def Vp (l : Str) : List Str := Xm Uy l []
theorem s_Words (l : Str) (h : l.length ≤ 4294967296) : Z0u (ub l) = some (Vp l) := by
 unfold Z0u Z28
 rw [bu_ub, Xg h, Zf0 blank_hi]; rfl
def Uk (l : Str) : Option (List Str) := if Vp l = [] then none else if ((Vp l).getD 0 []).getD 0 0 = 99 then none else some (Vp l)
def Kz (t : Str) : List (List Str) := (Xr t []).filterMap Uk
theorem Zdz (seg rest : Str) (h : ∀ b ∈ seg, b ≠ 10) : Kz (seg ++ 10 :: rest) = (Uk seg).toList ++ Kz rest := by
 unfold Kz
 rw [Z4l seg rest [] h, List.nil_append, List.filterMap_cons]
 cases Uk seg <;> rfl
def okW (w : Str) : Prop := w ≠ [] ∧ ∀ b ∈ w, Uy b.toNat = false
theorem fld_end {w : Str} (h : okW w) : Xm Uy w [] = [w] := by
 have := Z1z (p := Uy) (l := []) w [] h.2
 rw [List.append_nil, List.nil_append] at this
 rw [this, Z62 h.1]
theorem fld_more {w rest : Str} (h : okW w) {b : UInt8} (hb : Uy b.toNat = true) : Xm Uy (w ++ b :: rest) [] = w :: Xm Uy rest [] := by
 rw [Z1z w [] h.2, List.nil_append, Z5m hb h.1]
end Go.Acq
namespace Go.Acq
open Go
theorem Z6a (x : Nat) : Lg x = decide (x < 48 ∨ 57 < x) := by
 unfold Lg Z0b
 by_cases h1 : x < 48
 · rw [if_pos (by omega), decide_eq_true (by omega : x < 48 ∨ 57 < x)]; rfl
 ·
  rw [if_neg (by omega)]
  by_cases h2 : 57 < x
  · rw [decide_eq_true (by omega : (57 : Int) < x), decide_eq_true (by omega : x < 48 ∨ 57 < x)]; rfl
  · rw [decide_eq_false (by omega : ¬ (57 : Int) < x), decide_eq_false (by omega : ¬(x < 48 ∨ 57 < x))]; rfl
theorem any_dig (l : Str) : l.any (fun b => Lg b.toNat) = !(l.all Gw) := by
 induction l with
 | nil => rfl
 | cons b l ih =>
  rw [List.any_cons, List.all_cons, ih, Z6a, Bool.not_and]
  congr 1
  unfold Gw
  by_cases h : 48 ≤ b.toNat ∧ b.toNat ≤ 57
  · rw [decide_eq_true h, decide_eq_false (by omega : ¬(b.toNat < 48 ∨ 57 < b.toNat))]; rfl
  · rw [decide_eq_false h, decide_eq_true (by omega : b.toNat < 48 ∨ 57 < b.toNat)]; rfl
theorem s_Number (s : Str) : Z1i s = some (Wj s) := by
 unfold Z1i
 by_cases h1 : 19 < s.length
 ·
  rw [if_pos (by omega)]
  unfold Z04 Wj
  rw [if_pos rfl, if_neg (by omega)]
 ·
  rw [if_neg (by omega)]
  unfold Z48 Z04
  rw [anyT_any (fun r h => by rw [Z6a]; exact decide_eq_true (by omega)), any_dig, Option.bind_some]
  by_cases h2 : s.all Gw = true
  ·
   rw [h2, if_neg (by simp)]
   unfold Z2u
   rw [Xg ⟨by omega, rfl, rfl⟩, Option.bind_some]
   by_cases h3 : s = []
   · subst h3; rfl
   ·
    rw [Zcx h2 h3 (by omega)]
    unfold Wj
    by_cases h4 : Un 0 s < 9223372036854775808
    · rw [if_pos h4, if_pos ⟨h2, h3, by omega, h4⟩]; rfl
    · rw [if_neg h4, if_neg (fun h => h4 h.2.2.2)]; rfl
  ·
   rw [Bool.eq_false_iff.2 h2, if_pos (by simp)]
   unfold Wj
   rw [if_neg (fun h => h2 h.1)]
theorem Zan (s : Str) : 0 ≤ (Wj s).1 ∧ (Wj s).1 ≤ 9223372036854775807 := by
 unfold Wj
 split
 · rename_i h; simp only; omega
 · simp
def Vv (s : Str) (lo hi : Int) : Bool := (Wj s).2 && decide (lo ≤ (Wj s).1 ∧ (Wj s).1 ≤ hi)
theorem numB_iff {s : Str} {lo hi : Int} : Vv s lo hi = true ↔ (Wj s).2 = true ∧ lo ≤ (Wj s).1 ∧ (Wj s).1 ≤ hi := by
 unfold Vv; rw [Bool.and_eq_true, decide_eq_true_eq]
theorem Js {n lo hi : Int} (h0 : 0 ≤ n) (h1 : n ≤ 9223372036854775807) (h2 : lo ≤ n) (h3 : n ≤ hi) : Vv (Yz n) lo hi = true := by
 rw [numB_iff, Jj h0 h1]; exact ⟨rfl, h2, h3⟩
end Go.Acq
namespace Go.Acq
open Go
def cleanT (w : Str) : Prop := w ≠ [] ∧ ∀ b ∈ w, 45 ≤ b.toNat ∧ b.toNat ≤ 57
theorem Z0n {n : Int} (h : i64ok n) : cleanT (Yz n) ∧ (Yz n).length ≤ 21 := by
 have e20 : (10 : Nat) ^ 20 = 100000000000000000000 := by decide
 have key : ∀ u : Nat, u ≤ 9223372036854775808 → cleanT (Wf 20 u) ∧ (Wf 20 u).length ≤ 20 := fun u hu => by
  have h1 := Z5y 20 u (by rw [e20]; omega) (by omega)
  refine ⟨⟨fun e => by rw [e] at h1; simp at h1, fun b hb => ?_⟩, h1.2⟩
  have := List.all_eq_true.1 (Z5f 20 u) b hb
  have := of_decide_eq_true this
  omega
 unfold Yz
 split
 ·
  obtain ⟨⟨h1, h2⟩, h3⟩ := key n.natAbs (by omega)
  refine ⟨⟨by simp, fun b hb => ?_⟩, by rw [List.length_cons]; omega⟩
  rcases List.mem_cons.1 hb with rfl | hb
  · decide
  · exact h2 b hb
 ·
  obtain ⟨h1, h3⟩ := key n.toNat (by omega)
  exact ⟨h1, by omega⟩
theorem cleanT.ok {w : Str} (h : cleanT w) : okW w := ⟨h.1, fun b hb => by rw [Z1u]; have := h.2 b hb; exact decide_eq_false (by omega)⟩
theorem cleanT.ten {w : Str} (h : cleanT w) : ∀ b ∈ w, b ≠ 10 := fun b hb e => by
 have := h.2 b hb
 subst e
 have : (10 : UInt8).toNat = 10 := rfl
 omega
theorem blank32 : Uy (32 : UInt8).toNat = true := by rw [Z1u]; rfl
theorem Z95 {l : Str} {w : List Str} (h : Vp l = w) (h0 : w ≠ []) (h1 : (w.getD 0 []).getD 0 0 ≠ 99) : Uk l = some w := by
 unfold Uk
 rw [h, if_neg h0, if_neg h1]
def arcsOK (al : List Arc) : Prop := ∀ a ∈ al, (0 ≤ a.fr ∧ a.fr ≤ 1000000) ∧ (0 ≤ a.to ∧ a.to ≤ 1000000) ∧ a.cap ≤ 9223372036854775807
theorem FwithinP.arcs {n : Net} (hk : Ke n.N n.S n.T n.Arcs = 0) (hc : ∀ a ∈ n.Arcs, a.cap ≤ 9223372036854775807) : arcsOK n.Arcs := by
 have hz := Z3k hk
 obtain ⟨m, hm⟩ : ∃ m : Nat, n.N = m := ⟨n.N.toNat, by omega⟩
 have he : Nh m n.Arcs := Z9t (by rw [← hm]; exact hz.2.2.2.1)
 intro a ha
 obtain ⟨i, hi, rfl⟩ := List.mem_iff_getElem.1 ha
 have e : n.Arcs.getD i default = n.Arcs[i] := by rw [List.getD_eq_getElem?_getD, List.getElem?_eq_getElem hi]; rfl
 have h2 : 0 ≤ (n.Arcs.getD i default).fr ∧ (n.Arcs.getD i default).fr < m := by first | exact he i hi true | exact he i hi false
 have h3 : 0 ≤ (n.Arcs.getD i default).to ∧ (n.Arcs.getD i default).to < m := by first | exact he i hi false | exact he i hi true
 rw [e] at h2 h3
 exact ⟨by omega, by omega, hc _ ha⟩
theorem FwithinP.i64 {n : Net} {f : List Int} (h : FwithinP n f) (hc : ∀ a ∈ n.Arcs, a.cap ≤ 9223372036854775807) : ∀ x ∈ f, i64ok x := by
 intro x hx
 obtain ⟨i, hi, rfl⟩ := List.mem_iff_getElem.1 hx
 have h1 := h.2.1
 have h2 := h.2.2 i (by omega)
 have h3 := hc (n.Arcs.getD i default) (Jt (by omega) default)
 rw [List.getD_eq_getElem?_getD, List.getElem?_eq_getElem hi] at h2
 simp only [Option.getD_some] at h2
 constructor <;> omega
end Go.Acq
namespace Go.Acq
open Go
def Vu : List Str → Str
  | [] => []
  | [x] => x
  | x :: y :: r => x ++ 10 :: Vu (y :: r)
def Vj (ls : List Str) : Str := ls.flatMap (· ++ [10])
theorem Z80 : ∀ ls : List Str, Lib.join ls [10] = Vu ls
 | [] => rfl
 | [x] => by simp [Lib.join, List.intercalate, Vu]
 | x :: y :: r => by
  have := Z80 (y :: r)
  unfold Lib.join at this ⊢
  rw [Vu, ← this]
  simp [List.intercalate, List.intersperse]
theorem Z4b : ∀ ls : List Str, ls ≠ [] → Vj ls = Vu ls ++ [10]
 | [], h => absurd rfl h
 | [x], _ => by simp [Vj, Vu]
 | x :: y :: r, _ => by
  have := Z4b (y :: r) (by simp)
  unfold Vj at this ⊢
  rw [List.flatMap_cons, this, Vu]
  simp
theorem trim_cat {ls : List Str} (h : ls ≠ []) : Lib.trimSuffix (Vj ls) [10] = Vu ls := by
 rw [Z4b ls h]
 unfold Lib.trimSuffix Lib.hasSuffix
 rw [if_pos (by rw [List.isSuffixOf_iff_suffix]; exact ⟨_, rfl⟩)]
 simp
theorem Z2o : ∀ (t cur : Str), Uw false 10 t cur = Xr t cur
 | [], cur => rfl
 | b :: l, cur => by
  rw [Uw, Xr]
  split
  · rw [Z2o l []]; rfl
  · exact Z2o l _
def Gp (l : Str) : Prop := (∀ b ∈ l, b ≠ 10) ∧ l.length ≤ 100
theorem Z71 : ∀ ls : List Str, ls ≠ [] → (∀ l ∈ ls, Gp l) → Uw false 10 (Vu ls) [] = ls
 | [], h, _ => absurd rfl h
 | [x], _, h => by rw [Z2o, Vu, Z9j x [] (h x (.head _)).1]; rfl
 | x :: y :: r, _, h => by
  have := Z71 (y :: r) (by simp) (fun l hl => h l (.tail _ hl))
  rw [Z2o] at this ⊢
  rw [Vu, Z4l x _ [] (h x (.head _)).1, this]; rfl
theorem Z4x : ∀ ls : List Str, (∀ l ∈ ls, Gp l) → (Vu ls).length ≤ 101 * ls.length
 | [], _ => by simp [Vu]
 | [x], h => by have := (h x (.head _)).2; simp only [Vu, List.length_singleton]; omega
 | x :: y :: r, h => by
  have h1 := Z4x (y :: r) (fun l hl => h l (.tail _ hl))
  have h2 := (h x (.head _)).2
  rw [Vu, List.length_append, List.length_cons]
  rw [List.length_cons (a := x)]
  omega
end Go.Acq
namespace Go.Acq
open Go
theorem Z59 {α : Type} (z : α) (k w : Str) (v : α) : ∀ xs : List (Str × α), Yd z w (Yx k v xs) = if w = k then v else Yd z w xs
 | [] => by
  show (if w = k then v else Yd z w []) = _
  rfl
 | x :: xs => by
  unfold Yx
  by_cases h : k = x.1
  ·
   rw [if_pos h]
   show (if w = k then v else Yd z w xs) = if w = k then v else (if w = x.1 then x.2 else Yd z w xs)
   by_cases hw : w = k
   · rw [if_pos hw, if_pos hw]
   · rw [if_neg hw, if_neg hw, if_neg (fun e => hw (e.trans h.symm))]
  ·
   rw [if_neg h]
   show (if w = x.1 then x.2 else Yd z w (Yx k v xs)) = if w = k then v else (if w = x.1 then x.2 else Yd z w xs)
   rw [Z59 z k w v xs]
   by_cases hw : w = k
   · rw [if_pos hw, if_neg (fun e => h (hw.symm.trans e)), if_pos hw]
   · rw [if_neg hw, if_neg hw]
structure Rd where
  n : Net
  said : List (Str × Int)
  arcs : Int
def goodS (m : List (Str × Int)) : Prop := ∀ w, Yd 0 w m = 0 ∨ Yd 0 w m = 1
theorem goodS.put {m : List (Str × Int)} (h : goodS m) (k : Str) : goodS (Yx k 1 m) := fun w => by
 rw [Z59]; split
 · exact .inr rfl
 · exact h w
def pW (r : Rd) (w : List Str) : Option Rd :=
  if w.length = 4 ∧ Yd 0 [112] r.said = 0 ∧ w.getD 1 [] = [109, 97, 120] ∧ Vv (w.getD 2 []) 0 2147483648 = true ∧ Vv (w.getD 3 []) 0 2147483648 = true
  then some ⟨Net.mk (Wj (w.getD 2 [])).1 r.n.S r.n.T r.n.Arcs, Yx [112] 1 r.said, (Wj (w.getD 3 [])).1⟩ else none
def nW (r : Rd) (w : List Str) : Option Rd :=
  if w.length = 3 ∧ Vv (w.getD 1 []) 1 r.n.N = true ∧ Yd 0 (w.getD 2 []) r.said = 0 then
    (if w.getD 2 [] = [115] then some ⟨Net.mk r.n.N ((Wj (w.getD 1 [])).1 - 1) r.n.T r.n.Arcs, Yx [115] 1 r.said, r.arcs⟩
     else if w.getD 2 [] = [116] then some ⟨Net.mk r.n.N r.n.S ((Wj (w.getD 1 [])).1 - 1) r.n.Arcs, Yx [116] 1 r.said, r.arcs⟩ else none)
  else none
def aW (r : Rd) (w : List Str) : Option Rd :=
  if w.length = 4 ∧ Vv (w.getD 1 []) 1 r.n.N = true ∧ Vv (w.getD 2 []) 1 r.n.N = true ∧ Vv (w.getD 3 []) 0 9223372036854775807 = true
  then some ⟨Net.mk r.n.N r.n.S r.n.T (r.n.Arcs ++ [Arc.mk ((Wj (w.getD 1 [])).1 - 1) ((Wj (w.getD 2 [])).1 - 1) (Wj (w.getD 3 [])).1]), r.said, r.arcs⟩ else none
def Xl (r : Rd) (w : List Str) : Option Rd :=
  if w.getD 0 [] = [112] then pW r w else if Yd 0 [112] r.said = 1 then (if w.getD 0 [] = [110] then nW r w else if w.getD 0 [] = [97] then aW r w else none) else none
theorem Rq : Xy true = some (.inl ()) := rfl
theorem Ju : Xy false = some (.inr ()) := rfl
theorem Z31 (r : DimacsReader) (a lo hi : Int) (h : inb a r.words.length) : La r a lo hi = some (if Vv (r.words.getD a.toNat []) lo hi = true then .inl (Wj (r.words.getD a.toNat [])).1 else .inr ()) := by
 unfold La
 rw [Xg h, s_Number, Option.bind_some]
 unfold Vv
 generalize Wj (r.words.getD a.toNat []) = x
 obtain ⟨x, ok⟩ := x
 simp only
 cases ok with
 | false => simp [Ju]
 | true =>
  by_cases h1 : lo ≤ x
  ·
   by_cases h2 : x ≤ hi
   · simp [h1, h2, Rq]
   · simp [h1, h2, Ju]
  · simp [h1, Ju]
theorem Z64 (r : DimacsReader) (n : Int) : Rf r n = some (if (r.words.length : Int) = n then .inl () else .inr ()) := by
 unfold Rf
 by_cases h : (r.words.length : Int) = n
 · rw [if_pos h, decide_eq_true (by omega), Rq]; rfl
 · rw [if_neg h, decide_eq_false (by omega), Ju]; rfl
theorem Z5p (r : DimacsReader) (a : Int) (h : inb a r.words.length) : Rb r a = some (if Vv (r.words.getD a.toNat []) 1 r.n.N = true then .inl ((Wj (r.words.getD a.toNat [])).1 - 1) else .inr ()) := by
 unfold Rb
 rw [Z31 r a 1 r.n.N h, Option.bind_some]
 have hr := Zan (r.words.getD a.toNat [])
 by_cases hb : Vv (r.words.getD a.toNat []) 1 r.n.N = true
 ·
  rw [if_pos hb, if_pos hb]
  simp only
  rw [Xg ⟨by omega, by omega⟩]
 · rw [if_neg hb, if_neg hb]
theorem Z6v (r : DimacsReader) (w : Str) (h : goodS r.said) : Rz r w = some (if Yd 0 w r.said = 0 then .inl ⟨r.n, Yx w 1 r.said, r.arcs, r.words⟩ else .inr ()) := by
 unfold Rz
 rw [Z59, if_pos rfl]
 rcases h w with e | e
 · rw [e, Xg (by decide), if_pos rfl]; rfl
 · rw [e, Xg (by decide), if_neg (by decide)]; rfl
abbrev rdOf (r : DimacsReader) : Rd := ⟨r.n, r.said, r.arcs⟩
abbrev bk (w : List Str) : Option Rd → DimacsReader ⊕ Unit
  | some r => .inl ⟨r.n, r.said, r.arcs, w⟩
  | none => .inr ()
theorem Zcf (r : DimacsReader) (h : goodS r.said) : Z16 r = some (bk r.words (pW (rdOf r) r.words)) := by
 unfold Z16 pW
 rw [Z64 r 4, Option.bind_some]
 by_cases h1 : r.words.length = 4
 ·
  rw [if_pos (by omega)]
  simp only
  rw [Z6v r _ h, Option.bind_some]
  by_cases h2 : Yd 0 [112] r.said = 0
  ·
   rw [if_pos h2]
   simp only
   rw [Xg (by constructor <;> omega)]
   have e1 : (1 : Int).toNat = 1 := rfl
   rw [e1]
   by_cases h3 : r.words.getD 1 [] = [109, 97, 120]
   ·
    rw [decide_eq_true h3, Rq, Option.bind_some]
    simp only
    rw [Z31 _ 2 _ _ ⟨by decide, by show (_ : Int) < (r.words.length : Int); omega⟩, Option.bind_some]
    have e2 : (2 : Int).toNat = 2 := rfl
    rw [e2]
    by_cases h4 : Vv (r.words.getD 2 []) 0 2147483648 = true
    ·
     rw [if_pos h4]
     simp only
     rw [Z31 _ 3 _ _ ⟨by decide, by show (_ : Int) < (r.words.length : Int); omega⟩, Option.bind_some]
     have e3 : (3 : Int).toNat = 3 := rfl
     rw [e3]
     by_cases h5 : Vv (r.words.getD 3 []) 0 2147483648 = true
     · rw [if_pos h5, if_pos ⟨h1, h2, h3, h4, h5⟩]
     · rw [if_neg h5, if_neg (fun h => h5 h.2.2.2.2)]
    · rw [if_neg h4, if_neg (fun h => h4 h.2.2.2.1)]
   · rw [decide_eq_false h3, Ju, Option.bind_some, if_neg (fun h => h3 h.2.2.1)]
  · rw [if_neg h2, if_neg (fun h => h2 h.2.1)]
 · rw [if_neg (by omega), if_neg (fun h => h1 h.1)]
theorem s_dnode (r : DimacsReader) (h : goodS r.said) : Z0i r = some (bk r.words (nW (rdOf r) r.words)) := by
 unfold Z0i nW
 rw [Z64 r 3, Option.bind_some]
 by_cases h1 : r.words.length = 3
 ·
  rw [if_pos (by omega)]
  simp only
  rw [Z5p r 1 (by constructor <;> omega), Option.bind_some]
  have e1 : (1 : Int).toNat = 1 := rfl
  have e2 : (2 : Int).toNat = 2 := rfl
  rw [e1]
  by_cases h2 : Vv (r.words.getD 1 []) 1 r.n.N = true
  ·
   rw [if_pos h2]
   simp only
   rw [Xg (by constructor <;> omega), e2, Z6v r _ h, Option.bind_some]
   by_cases h3 : Yd 0 (r.words.getD 2 []) r.said = 0
   ·
    rw [if_pos h3, if_pos ⟨h1, h2, h3⟩]
    simp only
    rw [Xg (by constructor <;> omega)]
    by_cases h4 : r.words.getD 2 [] = [115]
    · rw [if_pos h4, if_pos h4, h4]
    ·
     by_cases h5 : r.words.getD 2 [] = [116]
     · rw [if_neg h4, if_neg h4, if_pos h5, if_pos h5, h5]
     · rw [if_neg h4, if_neg h4, if_neg h5, if_neg h5]; rfl
   · rw [if_neg h3, if_neg (fun h => h3 h.2.2)]
  · rw [if_neg h2, if_neg (fun h => h2 h.2.1)]
 · rw [if_neg (by omega), if_neg (fun h => h1 h.1)]
theorem s_arcR (r : DimacsReader) (hl : r.n.Arcs.length ≤ 4294967297) : Z1h r = some (bk r.words (aW (rdOf r) r.words)) := by
 unfold Z1h aW
 rw [Z64 r 4, Option.bind_some]
 have e1 : (1 : Int).toNat = 1 := rfl
 have e2 : (2 : Int).toNat = 2 := rfl
 have e3 : (3 : Int).toNat = 3 := rfl
 by_cases h1 : r.words.length = 4
 ·
  rw [if_pos (by omega)]
  simp only
  rw [Z5p r 1 (by constructor <;> omega), Option.bind_some, e1]
  by_cases h2 : Vv (r.words.getD 1 []) 1 r.n.N = true
  ·
   rw [if_pos h2]
   simp only
   rw [Z5p r 2 (by constructor <;> omega), Option.bind_some, e2]
   by_cases h3 : Vv (r.words.getD 2 []) 1 r.n.N = true
   ·
    rw [if_pos h3]
    simp only
    rw [Z31 r 3 _ _ (by constructor <;> omega), Option.bind_some, e3]
    by_cases h4 : Vv (r.words.getD 3 []) 0 9223372036854775807 = true
    ·
     rw [if_pos h4, if_pos ⟨h1, h2, h3, h4⟩]
     simp only
     rw [Xg (by rw [List.length_append, List.length_singleton]; constructor <;> omega)]
    · rw [if_neg h4, if_neg (fun h => h4 h.2.2.2)]
   · rw [if_neg h3, if_neg (fun h => h3 h.2.2.1)]
  · rw [if_neg h2, if_neg (fun h => h2 h.2.1)]
 · rw [if_neg (by omega), if_neg (fun h => h1 h.1)]
theorem pW_form (r : Rd) (w : List Str) : pW r w = none ∨ ∃ a m k, pW r w = some ⟨Net.mk a r.n.S r.n.T r.n.Arcs, m, k⟩ := by
 unfold pW; split
 · exact .inr ⟨_, _, _, rfl⟩
 · exact .inl rfl
theorem nW_form (r : Rd) (w : List Str) : nW r w = none ∨ ∃ s t m, nW r w = some ⟨Net.mk r.n.N s t r.n.Arcs, m, r.arcs⟩ := by
 unfold nW; split
 ·
  split
  · exact .inr ⟨_, _, _, rfl⟩
  ·
   split
   · exact .inr ⟨_, _, _, rfl⟩
   · exact .inl rfl
 · exact .inl rfl
theorem aW_form (r : Rd) (w : List Str) : aW r w = none ∨ ∃ al, aW r w = some ⟨Net.mk r.n.N r.n.S r.n.T al, r.said, r.arcs⟩ := by
 unfold aW; split
 · exact .inr ⟨_, rfl⟩
 · exact .inl rfl
theorem s_line (r : DimacsReader) (l : Str) (h : goodS r.said) (ha : r.n.Arcs.length ≤ 4294967297) (hl : l.length ≤ 4294967296) :
    Z0j r (ub l) = some (match Uk l with | none => .inl ⟨r.n, r.said, r.arcs, Vp l⟩ | some w => bk w (Xl (rdOf r) w)) := by
  unfold Z0j Uk
  rw [s_Words l hl]
  simp only [Option.bind_some]
  by_cases h1 : Vp l = []
  · rw [if_pos h1, if_pos (by rw [h1]; rfl)]
  · have h2 : 0 < (Vp l).length := List.length_pos_iff.2 h1
    have h3 : (Vp l).getD (0 : Int).toNat [] ∈ Vp l := by
      rw [Int.toNat_zero, List.getD_eq_getElem?_getD, List.getElem?_eq_getElem h2]
      exact List.getElem_mem h2
    have h4 : 0 < ((Vp l).getD (0 : Int).toNat []).length := List.length_pos_iff.2 (Z2n _ _ _ h3)
    have g0 : inb 0 (Vp l).length := by constructor <;> omega
    rw [if_neg h1, if_neg (by omega), Xg g0, Xg (by constructor <;> omega), Xg g0]
    rw [Int.toNat_zero]
    generalize hw : Vp l = w
    by_cases h5 : (w.getD 0 []).getD 0 0 = 99
    · rw [if_pos h5, if_pos (by rw [h5]; rfl)]
    · have h6 : ¬ (((w.getD 0 []).getD 0 0).toNat : Int) = 99 := fun e => h5 (UInt8.toNat_inj.1 (by have : (99 : UInt8).toNat = 99 := rfl; omega))
      rw [if_neg h5, if_neg h6]
      simp only
      by_cases k1 : w.getD 0 [] = [112]
      · have hl : Xl (rdOf r) w = pW (rdOf r) w := by unfold Xl; rw [if_pos k1]
        rw [hl, if_pos k1, if_pos k1, Rq, Option.bind_some]
        simp only
        unfold Z0y
        rw [Zcf ⟨r.n, r.said, r.arcs, w⟩ h, Option.bind_some]
        show (match bk w (pW (rdOf r) w) with | .inl r31 => _ | .inr _ => _) = some (bk w (pW (rdOf r) w))
        rcases pW_form (rdOf r) w with e | ⟨_, _, _, e⟩ <;> rw [e]
      · have hl : Xl (rdOf r) w = if Yd 0 [112] r.said = 1 then (if w.getD 0 [] = [110] then nW (rdOf r) w else if w.getD 0 [] = [97] then aW (rdOf r) w else none) else none := by unfold Xl; rw [if_neg k1]
        have p1 : ∀ (j : Option (DimacsReader ⊕ Unit)) (o : Option Rd), (Yd 0 [112] r.said = 1 → j = some (bk w o)) → (if w.getD 0 [] = [112] then (Option.bind (Xy true) fun t => match t with | .inl _ => j | .inr _ => some (.inr ())) else Option.bind (Xy (decide ((Yd 0 ([112] : Str) r.said) = 1))) fun t => match t with | .inl _ => j | .inr _ => some (.inr ())) = some (bk w (if Yd 0 [112] r.said = 1 then o else none)) := by
          intro j o hj
          rw [if_neg k1]
          by_cases hp : Yd 0 [112] r.said = 1
          · rw [decide_eq_true hp, Rq, if_pos hp]; exact hj hp
          · rw [decide_eq_false hp, Ju, if_neg hp]; rfl
        rw [hl, if_neg k1]
        by_cases k2 : w.getD 0 [] = [110]
        · rw [if_pos k2, if_pos k2]
          refine p1 _ (nW (rdOf r) w) fun _ => ?_
          unfold Z0q
          rw [s_dnode ⟨r.n, r.said, r.arcs, w⟩ h, Option.bind_some]
          show (match bk w (nW (rdOf r) w) with | .inl r31 => _ | .inr _ => _) = some (bk w (nW (rdOf r) w))
          rcases nW_form (rdOf r) w with e | ⟨_, _, _, e⟩ <;> rw [e]
        · by_cases k3 : w.getD 0 [] = [97]
          · rw [if_neg k2, if_neg k2, if_pos k3, if_pos k3]
            refine p1 _ (aW (rdOf r) w) fun _ => ?_
            unfold Z0z
            rw [s_arcR ⟨r.n, r.said, r.arcs, w⟩ ha, Option.bind_some]
            show (match bk w (aW (rdOf r) w) with | .inl r31 => _ | .inr _ => _) = some (bk w (aW (rdOf r) w))
            rcases aW_form (rdOf r) w with e | ⟨_, e⟩ <;> rw [e]
          · rw [if_neg k2, if_neg k2, if_neg k3, if_neg k3, Ju]
            split <;> rfl
theorem Zcc {r s : Rd} {w : List Str} (h : goodS r.said) (e : Xl r w = some s) : goodS s.said ∧ s.n.Arcs.length ≤ r.n.Arcs.length + 1 := by
 unfold Xl pW nW aW at e
 repeat' split at e
 all_goals first
  | (cases e; done)
  | (injection e with e; subst e; exact ⟨by first | exact h | exact h.put _, by simp⟩)
def Yw : Rd → List (List Str) → Option Rd
  | r, [] => some r
  | r, w :: ws => Option.bind (Xl r w) fun s => Yw s ws
theorem Z1k (a b : List (List Str)) : ∀ r, Yw r (a ++ b) = Option.bind (Yw r a) fun s => Yw s b := by
 induction a with
 | nil => intro r; rfl
 | cons w a ih =>
  intro r
  rw [List.cons_append, Yw, Yw]
  cases Xl r w with
  | none => rfl
  | some s => exact ih s
theorem Z3e {r s : Rd} {a b : List (List Str)} {w : List Str} (h1 : Yw r a = some s) (h2 : Xl s w = none) : Yw r (a ++ w :: b) = none := by
 rw [Z1k, h1, Option.bind_some, Yw, h2]; rfl
abbrev rd0 : Rd := ⟨Net.mk 0 0 0 [], [], 0⟩
abbrev tupR (r : Rd) (w : List Str) : Int × Int × Int × List Arc × (List (Str × Int)) × Int × List Str := (r.n.N, r.n.S, r.n.T, r.n.Arcs, r.said, r.arcs, w)
theorem Z53 : ∀ (ls : List Str) (r : Rd) (ws : List Str), goodS r.said → r.n.Arcs.length + ls.length ≤ 4294967297 → (∀ l ∈ ls, l.length ≤ 4294967296) →
    ∃ ws', Ky (fun s v => Nq s.1 s.2.1 s.2.2.1 s.2.2.2.1 s.2.2.2.2.1 s.2.2.2.2.2.1 s.2.2.2.2.2.2 (ub v)) (tupR r ws) ls = some (match Yw r (ls.filterMap Uk) with | some s => .inl (tupR s ws') | none => .inr ())
  | [], r, ws, _, _, _ => ⟨ws, rfl⟩
  | l :: ls, r, ws, h, ha, hl => by
    have hy : Nq r.n.N r.n.S r.n.T r.n.Arcs r.said r.arcs ws (ub l) = some (match Uk l with | none => .inl (tupR r (Vp l)) | some w => match Xl r w with | some s => .inl (tupR s w) | none => .inr ()) := by
      unfold Nq
      rw [s_line ⟨Net.mk r.n.N r.n.S r.n.T r.n.Arcs, r.said, r.arcs, ws⟩ l h (by show r.n.Arcs.length ≤ _; rw [List.length_cons] at ha; omega) (hl l (.head _)), Option.bind_some]
      cases Uk l with
      | none => rfl
      | some w =>
        show (match bk w (Xl r w) with | .inl r56 => _ | .inr _ => _) = some (match Xl r w with | some s => Sum.inl (tupR s w) | none => Sum.inr ())
        cases Xl r w <;> rfl
    rw [List.filterMap_cons]
    rw [List.length_cons] at ha
    cases hs : Uk l with
    | none =>
      rw [hs] at hy
      rw [Z9n (s' := tupR r (Vp l)) hy]
      exact Z53 ls r _ h (by omega) (fun x hx => hl x (.tail _ hx))
    | some w =>
      rw [hs] at hy
      simp only at hy ⊢
      rw [Yw]
      cases hw : Xl r w with
      | none => rw [hw] at hy; exact ⟨[], Ze3 hy⟩
      | some s =>
        rw [hw] at hy
        obtain ⟨g1, g2⟩ := Zcc h hw
        rw [Z9n (s' := tupR s w) hy]
        exact Z53 ls s _ g1 (by omega) (fun x hx => hl x (.tail _ hx))
def Lh : Option Rd → Net × Bool
  | none => (Net.mk 0 0 0 [], false)
  | some r => if Yd 0 [112] r.said = 1 ∧ Yd 0 [115] r.said = 1 ∧ Yd 0 [116] r.said = 1 ∧ (r.n.Arcs.length : Int) = r.arcs then (r.n, true) else (Net.mk 0 0 0 [], false)
theorem Z34 (r : Rd) : Lh (some r) = if Yd 0 [112] r.said = 1 ∧ Yd 0 [115] r.said = 1 ∧ Yd 0 [116] r.said = 1 ∧ (r.n.Arcs.length : Int) = r.arcs then (r.n, true) else (Net.mk 0 0 0 [], false) := rfl
theorem Z44 : ∀ (l cur : Str), (Xr l cur).length ≤ l.length + 1
 | [], cur => by rw [Xr]; simp
 | b :: l, cur => by
  rw [Xr]
  split
  · have := Z44 l []; rw [List.length_cons, List.length_cons]; omega
  · have := Z44 l (cur ++ [b]); rw [List.length_cons]; omega
theorem s_dread (t : Str) (hl : t.length ≤ 4294967296) : Z1m (ub t) = some (Lh (Yw rd0 (Kz t))) := by
 unfold Z1m Z3o Z2c
 simp only [Option.bind_some]
 rw [s_split _ t _ (by omega)]
 obtain ⟨ws', e⟩ := Z53 (Xr t []) rd0 [] (fun w => .inl rfl) (by have := Z44 t []; show 0 + _ ≤ _; omega) (fun l h => by have := Z5q t [] l h; simp only [List.length_nil] at this; omega)
 have e2 := e
 show Option.bind (Ky _ (tupR rd0 []) (Xr t [])) _ = _
 rw [e2, Option.bind_some]
 unfold Kz
 cases Yw rd0 (List.filterMap Uk (Xr t [])) with
 | none => rfl
 | some r =>
  show (if Yd 0 [112] r.said = 1 then _ else _) = some (Lh (some r))
  rw [Z34]
  by_cases h1 : Yd 0 [112] r.said = 1
  ·
   rw [if_pos h1]
   by_cases h2 : Yd 0 [115] r.said = 1
   ·
    rw [if_pos h2]
    by_cases h3 : Yd 0 [116] r.said = 1
    ·
     rw [if_pos h3]
     by_cases h4 : (r.n.Arcs.length : Int) = r.arcs
     · rw [decide_eq_true h4, Rq, if_pos ⟨h1, h2, h3, h4⟩]; rfl
     · rw [decide_eq_false h4, Ju, if_neg (fun h => h4 h.2.2.2)]; rfl
    · rw [if_neg h3, Ju, if_neg (fun h => h3 h.2.2.1)]; rfl
   · rw [if_neg h2, Ju, if_neg (fun h => h2 h.2.1)]; rfl
  · rw [if_neg h1, Ju, if_neg (fun h => h1 h.1)]; rfl
def parF (x : Net × Bool) : Net × Int := if x.2 = true then (if Ke x.1.N x.1.S x.1.T x.1.Arcs = 0 then (x.1, 0) else (Net.mk 0 0 0 [], Ke x.1.N x.1.S x.1.T x.1.Arcs)) else (Net.mk 0 0 0 [], 70)
def Ku (ws : List (List Str)) : Net × Int := parF (Lh (Yw rd0 ws))
theorem Z9w : ∀ (ws : List (List Str)) (r s : Rd), Yw r ws = some s → s.n.Arcs.length ≤ r.n.Arcs.length + ws.length
 | [], r, s, h => by injection h with h; subst h; simp
 | w :: ws, r, s, h => by
  rw [Yw] at h
  cases hw : Xl r w with
  | none => rw [hw] at h; cases h
  | some q =>
   rw [hw] at h
   have h1 := Z9w ws q s h
   have h2 : q.n.Arcs.length ≤ r.n.Arcs.length + 1 := by
    unfold Xl pW nW aW at hw
    repeat' split at hw
    all_goals first
     | (cases hw; done)
     | (injection hw with hw; subst hw; simp)
   rw [List.length_cons]; omega
theorem Zbi (t : Str) : (Kz t).length ≤ t.length + 1 := Nat.le_trans (List.length_filterMap_le _ _) (Z44 t [])
theorem Z68 (t : Str) (hl : t.length ≤ 100000000) : Z0d (ub t) = some (Ku (Kz t)) := by
 unfold Z0d Ku parF
 rw [s_dread t (by omega), Option.bind_some]
 have hc : (Lh (Yw rd0 (Kz t))).1.Arcs.length ≤ 100000001 := by
  cases hf : Yw rd0 (Kz t) with
  | none => simp [Lh]
  | some r =>
   have h1 := Z9w _ _ _ hf
   have h2 := Zbi t
   have h3 : rd0.n.Arcs.length = 0 := rfl
   rw [Z34]
   split
   · show r.n.Arcs.length ≤ _; omega
   · simp
 generalize Lh (Yw rd0 (Kz t)) = x at hc
 obtain ⟨n, ok⟩ := x
 cases ok with
 | false => rfl
 | true =>
  simp only
  rw [Z8e n (by simp only at hc; unfold lenok; omega)]
  simp only [Option.bind_some, if_true, Bool.not_true, Bool.false_eq_true, if_false]
  by_cases h : Ke n.N n.S n.T n.Arcs = 0
  · rw [if_pos h, if_neg (by rw [h]; decide)]
  · rw [if_neg h, if_pos h]
end Go.Acq
namespace Go.Acq
open Go
abbrev jn (ws : List Str) : Str := Lib.join ws [32]
theorem Ni (w : Str) : jn [w] = w := by simp [jn, Lib.join, List.intercalate]
theorem Gn (w v : Str) (r : List Str) : jn (w :: v :: r) = w ++ 32 :: jn (v :: r) := by
 unfold jn Lib.join
 simp [List.intercalate, List.intersperse]
structure wordOK (w : Str) : Prop where
  ok : okW w
  ten : ∀ b ∈ w, b ≠ 10
  len : w.length ≤ 21
theorem Z4u : ∀ ws : List Str, ws ≠ [] → (∀ w ∈ ws, okW w) → Vp (jn ws) = ws
 | [], h, _ => absurd rfl h
 | [w], _, h => by rw [Ni]; exact fld_end (h w (.head _))
 | w :: v :: r, _, h => by
  rw [Gn]
  unfold Vp
  rw [fld_more (h w (.head _)) blank32]
  have := Z4u (v :: r) (by simp) (fun x hx => h x (.tail _ hx))
  unfold Vp at this
  rw [this]
theorem Lz : ∀ ws : List Str, (∀ w ∈ ws, wordOK w) → (∀ b ∈ jn ws, b ≠ 10) ∧ (jn ws).length ≤ 22 * ws.length
 | [], _ => by simp [jn, Lib.join, List.intercalate]
 | [w], h => by rw [Ni]; have := (h w (.head _)).len; exact ⟨(h w (.head _)).ten, by simp only [List.length_singleton]; omega⟩
 | w :: v :: r, h => by
  obtain ⟨h1, h2⟩ := Lz (v :: r) (fun x hx => h x (.tail _ hx))
  have h3 := (h w (.head _)).len
  rw [Gn]
  refine ⟨fun b hb => ?_, ?_⟩
  ·
   rcases List.mem_append.1 hb with hb | hb
   · exact (h w (.head _)).ten b hb
   ·
    rcases List.mem_cons.1 hb with rfl | hb
    · decide
    · exact h1 b hb
  · rw [List.length_append, List.length_cons, List.length_cons (a := w)]; omega
structure lineWs (ws : List Str) : Prop where
  ne : ws ≠ []
  all : ∀ w ∈ ws, wordOK w
  few : ws.length ≤ 4
  kind : (ws.getD 0 []).getD 0 0 ≠ 99
theorem lineWs.words {ws : List Str} (h : lineWs ws) : Vp (jn ws) = ws := Z4u ws h.ne fun w hw => (h.all w hw).ok
theorem lineWs.said {ws : List Str} (h : lineWs ws) : Uk (jn ws) = some ws := Z95 h.words h.ne h.kind
theorem lineWs.line {ws : List Str} (h : lineWs ws) : Gp (jn ws) := ⟨(Lz ws h.all).1, by have := (Lz ws h.all).2; have := h.few; omega⟩
theorem Ln {n : Int} (h : i64ok n) : wordOK (Yz n) := ⟨(Z0n h).1.ok, (Z0n h).1.ten, (Z0n h).2⟩
theorem Ls {w : Str} (h : w ≠ []) (hl : w.length ≤ 21) (hb : w.all (fun b => decide (33 ≤ b.toNat)) = true) : wordOK w := by
 have hb := List.all_eq_true.1 hb
 refine ⟨⟨h, fun b hm => ?_⟩, fun b hm e => ?_, hl⟩
 ·
  rw [Z1u]
  have := of_decide_eq_true (hb b hm)
  exact decide_eq_false (by omega)
 ·
  subst e
  exact absurd (hb _ hm) (by decide)
def Wz (n : Net) : List Str := [[112], [109, 97, 120], Yz n.N, Yz (n.Arcs.length : Int)]
def Vy (n : Net) : List Str := [[110], Yz (n.S + 1), [115]]
def Vb (n : Net) : List Str := [[110], Yz (n.T + 1), [116]]
def Xh (a : Arc) : List Str := [[97], Yz (a.fr + 1), Yz (a.to + 1), Yz a.cap]
def Ye (n : Net) : List (List Str) := Wz n :: Vy n :: Vb n :: n.Arcs.map Xh
def Wq (n : Net) : List Str := (Ye n).map jn
def Ro (n : Net) : Str := Vj (Wq n)
structure NetP (n : Net) : Prop where
  ck : Ke n.N n.S n.T n.Arcs = 0
  caps : ∀ a ∈ n.Arcs, 0 ≤ a.cap ∧ a.cap ≤ 9223372036854775807
theorem NetP.arcs {n : Net} (h : NetP n) : arcsOK n.Arcs := FwithinP.arcs h.ck fun a ha => (h.caps a ha).2
theorem NetP.small {n : Net} (h : NetP n) : (0 ≤ n.N ∧ n.N ≤ 1000000) ∧ (0 ≤ n.S ∧ n.S < n.N) ∧ (0 ≤ n.T ∧ n.T < n.N) ∧ n.Arcs.length ≤ 16384 := by
 have hz := Z3k h.ck
 have h1 : 0 ≤ n.S ∧ n.S < n.N := of_decide_eq_true hz.2.2.1.1
 have h2 : 0 ≤ n.T ∧ n.T < n.N := of_decide_eq_true hz.2.2.1.2.1
 omega
theorem Z7j : ∀ (al : List Arc) (left : Int), (Ud left al).isSome = true → ∀ a ∈ al, 0 ≤ a.cap ∧ a.cap ≤ left
 | [], _, _, _, h => by cases h
 | b :: al, left, h, a, ha => by
  unfold Ud at h
  split at h
  · cases h
  ·
   rcases List.mem_cons.1 ha with rfl | ha
   · omega
   · have := Z7j al _ h a ha; omega
theorem netP {n : Net} (h : Ke n.N n.S n.T n.Arcs = 0) : NetP n := ⟨h, fun a ha => by
 have := Z7j _ _ (Z3k h).2.2.2.2.2 a ha
 omega⟩
theorem NetP.ends {n : Net} (h : NetP n) : ∀ a ∈ n.Arcs, (0 ≤ a.fr ∧ a.fr < n.N) ∧ (0 ≤ a.to ∧ a.to < n.N) := by
 have hz := Z3k h.ck
 obtain ⟨m, hm⟩ : ∃ m : Nat, n.N = m := ⟨n.N.toNat, by omega⟩
 have he : Nh m n.Arcs := Z9t (by rw [← hm]; exact hz.2.2.2.1)
 intro a ha
 obtain ⟨i, hi, rfl⟩ := List.mem_iff_getElem.1 ha
 have e : n.Arcs.getD i default = n.Arcs[i] := by rw [List.getD_eq_getElem?_getD, List.getElem?_eq_getElem hi]; rfl
 have h2 : 0 ≤ (n.Arcs.getD i default).fr ∧ (n.Arcs.getD i default).fr < m := by first | exact he i hi true | exact he i hi false
 have h3 : 0 ≤ (n.Arcs.getD i default).to ∧ (n.Arcs.getD i default).to < m := by first | exact he i hi false | exact he i hi true
 rw [e] at h2 h3
 exact ⟨by omega, by omega⟩
theorem aWs_ok {n : Net} (h : NetP n) {a : Arc} (ha : a ∈ n.Arcs) : lineWs (Xh a) := by
 obtain ⟨h1, h2⟩ := h.ends a ha
 have h3 := h.caps a ha
 have hs := h.small
 refine ⟨by simp [Xh], fun w hw => ?_, by simp [Xh], by show (97 : UInt8) ≠ 99; decide⟩
 simp only [Xh, List.mem_cons, List.not_mem_nil, or_false] at hw
 rcases hw with rfl | rfl | rfl | rfl
 · exact Ls (by simp) (by simp) (by decide)
 · exact Ln ⟨by omega, by omega⟩
 · exact Ln ⟨by omega, by omega⟩
 · exact Ln ⟨by omega, by omega⟩
theorem Z07 {n : Net} (h : NetP n) : ∀ ws ∈ Ye n, lineWs ws := by
 have hs := h.small
 intro ws hw
 simp only [Ye, List.mem_cons] at hw
 rcases hw with rfl | rfl | rfl | hw
 ·
  refine ⟨by simp [Wz], fun w hw => ?_, by simp [Wz], by show (112 : UInt8) ≠ 99; decide⟩
  simp only [Wz, List.mem_cons, List.not_mem_nil, or_false] at hw
  rcases hw with rfl | rfl | rfl | rfl
  · exact Ls (by simp) (by simp) (by decide)
  · exact Ls (by simp) (by simp) (by decide)
  · exact Ln ⟨by omega, by omega⟩
  · exact Ln ⟨by omega, by omega⟩
 ·
  refine ⟨by simp [Vy], fun w hw => ?_, by simp [Vy], by show (110 : UInt8) ≠ 99; decide⟩
  simp only [Vy, List.mem_cons, List.not_mem_nil, or_false] at hw
  rcases hw with rfl | rfl | rfl
  · exact Ls (by simp) (by simp) (by decide)
  · exact Ln ⟨by omega, by omega⟩
  · exact Ls (by simp) (by simp) (by decide)
 ·
  refine ⟨by simp [Vb], fun w hw => ?_, by simp [Vb], by show (110 : UInt8) ≠ 99; decide⟩
  simp only [Vb, List.mem_cons, List.not_mem_nil, or_false] at hw
  rcases hw with rfl | rfl | rfl
  · exact Ls (by simp) (by simp) (by decide)
  · exact Ln ⟨by omega, by omega⟩
  · exact Ls (by simp) (by simp) (by decide)
 ·
  obtain ⟨a, ha, rfl⟩ := List.mem_map.1 hw
  exact aWs_ok h ha
theorem Z7d : ∀ ls : List Str, (∀ l ∈ ls, Gp l) → Kz (Vj ls) = ls.filterMap Uk
 | [], _ => rfl
 | x :: r, h => by
  have e : Vj (x :: r) = x ++ 10 :: Vj r := by simp [Vj]
  rw [e, Zdz x _ (h x (.head _)).1, Z7d r (fun l hl => h l (.tail _ hl)), List.filterMap_cons]
  cases Uk x <;> rfl
theorem Z7l {W : List (List Str)} (h : ∀ ws ∈ W, lineWs ws) : ∀ l ∈ W.map jn, Gp l := fun l hl => by
 obtain ⟨w, hw, rfl⟩ := List.mem_map.1 hl
 exact (h w hw).line
theorem Z52 : ∀ ls : List Str, (∀ l ∈ ls, Gp l) → (Vj ls).length ≤ 101 * ls.length
 | [], _ => by simp [Vj]
 | x :: r, h => by
  have h1 := Z52 r (fun l hl => h l (.tail _ hl))
  have h2 := (h x (.head _)).2
  unfold Vj at h1 ⊢
  rw [List.flatMap_cons, List.length_append, List.length_append, List.length_singleton, List.length_cons]; omega
theorem Z5r (n : Net) : (Wq n).length = n.Arcs.length + 3 := by simp [Wq, Ye]
theorem Z8p {n : Net} (h : NetP n) : (Ro n).length ≤ 101 * (n.Arcs.length + 3) := by
 have := Z52 (Wq n) (Z7l (Z07 h))
 rw [Z5r] at this; exact this
theorem Z2q {v : Int} (h : i64ok (v + 1)) : Nm v = some (Yz (v + 1)) := by
 unfold Nm Lt
 rw [Xg h, Xg h]; rfl
theorem s_Print {n : Net} (h : NetP n) : Ok (Z1s n) (fun r => r = (ub (Ro n), 0)) := by
 have hs := h.small
 have hw := Z07 h
 have hll : lenok n.Arcs.length := by omega
 have hP := (Lz (Wz n) (hw (Wz n) (.head _)).all).2
 have hS := (Lz (Vy n) (hw (Vy n) (.tail _ (.head _))).all).2
 have hT := (Lz (Vb n) (hw (Vb n) (.tail _ (.tail _ (.head _)))).all).2
 have e4 : (Wz n).length = 4 := rfl
 have e3 : (Vy n).length = 3 := rfl
 have e3' : (Vb n).length = 3 := rfl
 unfold Z1s Lt
 refine Ok.bind.2 (Wu (Z8e n hll) ?_)
 rw [if_neg (by rw [h.ck]; simp)]
 refine Ok.bind.2 (Ok.gd.2 ⟨⟨by omega, by omega⟩, Ok.some.2 ?_⟩)
 refine Ok.bind.2 (Ok.gd.2 ⟨⟨by omega, by omega⟩, Ok.some.2 ?_⟩)
 show Ok (gd ((Wz n).length ≤ _ ∧ (([] : List Int) ++ ub (jn (Wz n) ++ [10])).length ≤ _) _) _
 refine Ok.gd.2 ⟨⟨by omega, by rw [List.nil_append, Ko, List.length_append, List.length_singleton]; omega⟩, ?_⟩
 refine Ok.bind.2 (Wu (Z2q ⟨by omega, by omega⟩) ?_)
 show Ok (gd ((Vy n).length ≤ _ ∧ ((([] : List Int) ++ ub (jn (Wz n) ++ [10])) ++ ub (jn (Vy n) ++ [10])).length ≤ _) _) _
 refine Ok.gd.2 ⟨⟨by omega, by rw [List.nil_append, List.length_append, Ko, Ko, List.length_append, List.length_append, List.length_singleton]; omega⟩, ?_⟩
 refine Ok.bind.2 (Wu (Z2q ⟨by omega, by omega⟩) ?_)
 show Ok (gd ((Vb n).length ≤ _ ∧ (((([] : List Int) ++ ub (jn (Wz n) ++ [10])) ++ ub (jn (Vy n) ++ [10])) ++ ub (jn (Vb n) ++ [10])).length ≤ _) _) _
 refine Ok.gd.2 ⟨⟨by omega, by rw [List.nil_append, List.length_append, List.length_append, Ko, Ko, Ko, List.length_append, List.length_append, List.length_append, List.length_singleton]; omega⟩, ?_⟩
 have hb : (((([] : List Int) ++ ub (jn (Wz n) ++ [10])) ++ ub (jn (Vy n) ++ [10])) ++ ub (jn (Vb n) ++ [10])) ++ ub (Vj ((n.Arcs.map Xh).map jn)) = ub (Ro n) := by
  rw [List.nil_append, ← Z3d, ← Z3d, ← Z3d]
  unfold Ro Wq Ye
  rw [List.map_cons, List.map_cons, List.map_cons]
  unfold Vj
  rw [List.flatMap_cons, List.flatMap_cons, List.flatMap_cons, List.append_assoc, List.append_assoc]
 have hpl := Z8p h
 refine Ok.bind.2 (Ok.lp (fun s => ∃ k : Nat, s.2 = k ∧ k ≤ n.Arcs.length ∧ s.1 ++ ub (Vj (((n.Arcs.drop k).map Xh).map jn)) = ub (Ro n)) (fun s => (n.Arcs.length - s.2).toNat) ⟨0, rfl, Nat.zero_le _, hb⟩ (by unfold Wg; simp only; omega) ?_)
 rintro ⟨buf, x⟩ ⟨k, h1, h2, h3⟩ P next exit
 simp only at h1 h3 next ⊢
 subst h1
 unfold Z0w
 refine Ok.ite.2 ⟨fun hx => ?_, fun hx => ?_⟩
 ·
  have hk2 : k < n.Arcs.length := by omega
  obtain ⟨a, ha⟩ : ∃ a, n.Arcs.getD k default = a := ⟨_, rfl⟩
  have ham : a ∈ n.Arcs := by rw [← ha]; exact Jt hk2 default
  obtain ⟨g1, g2⟩ := h.ends a ham
  have g3 := h.caps a ham
  rw [Int.toNat_natCast, ha]
  have e1 : n.Arcs.drop k = a :: n.Arcs.drop (k + 1) := by rw [List.drop_eq_getElem_cons hk2, ← ha, List.getD_eq_getElem?_getD, List.getElem?_eq_getElem hk2]; rfl
  have hlen := congrArg List.length h3
  rw [List.length_append, Ko, Ko] at hlen
  rw [e1, List.map_cons, List.map_cons] at h3 hlen
  have e2 : Vj (jn (Xh a) :: ((n.Arcs.drop (k + 1)).map Xh).map jn) = (jn (Xh a) ++ [10]) ++ Vj (((n.Arcs.drop (k + 1)).map Xh).map jn) := by unfold Vj; rw [List.flatMap_cons]
  rw [e2, List.length_append, List.length_append, List.length_singleton] at hlen
  refine Ok.gd.2 ⟨(by (first | omega | (constructor <;> omega) | (simp only [List.length_set, List.length_replicate]; omega) | (simp only [List.length_set, List.length_replicate]; constructor <;> omega))), Ok.bind.2 (Wu (Z2q ⟨by omega, by omega⟩) (Ok.bind.2 (Wu (Z2q ⟨by omega, by omega⟩) (Ok.bind.2 (Ok.gd.2 ⟨⟨⟨by omega, by omega⟩, rfl⟩, Ok.some.2 ?_⟩)))))⟩
  show Ok (gd ((Xh a).length ≤ _ ∧ (buf ++ ub (jn (Xh a) ++ [10])).length ≤ _) _) _
  refine Ok.gd.2 ⟨⟨by show 4 ≤ _; omega, by rw [List.length_append, Ko, List.length_append, List.length_singleton]; omega⟩, Ok.gd.2 ⟨⟨by omega, by omega⟩, Ok.some.2 (next _ ⟨k + 1, rfl, by omega, ?_⟩ (by simp only; omega))⟩⟩
  simp only
  rw [← h3, e2, Z3d (jn (Xh a) ++ [10]), List.append_assoc]; rfl
 ·
  refine Ok.some.2 (exit _ ?_)
  obtain rfl : k = n.Arcs.length := by omega
  unfold Z3x
  rw [List.drop_eq_nil_of_le (Nat.le_refl _)] at h3
  refine Ok.some.2 ?_
  rw [← h3]; simp [Vj, ub]
abbrev sd3 : List (Str × Int) := [([112], 1), ([115], 1), ([116], 1)]
theorem Z4h {n : Net} (h : NetP n) : Xl rd0 (Wz n) = some ⟨Net.mk n.N 0 0 [], [([112], 1)], n.Arcs.length⟩ := by
 have hs := h.small
 unfold Xl
 rw [if_pos (show (Wz n).getD 0 [] = [112] from rfl)]
 unfold pW
 have e1 : (Wz n).getD 2 [] = Yz n.N := rfl
 have e2 : (Wz n).getD 3 [] = Yz (n.Arcs.length : Int) := rfl
 rw [e1, e2, if_pos ⟨rfl, rfl, rfl, Js (by omega) (by omega) (by omega) (by omega), Js (by omega) (by omega) (by omega) (by omega)⟩, Jj (by omega) (by omega), Jj (by omega) (by omega)]
 rfl
theorem Z1l {r : Rd} {w : List Str} (h1 : w.getD 0 [] = [110]) (h2 : Yd 0 [112] r.said = 1) : Xl r w = nW r w := by
 unfold Xl
 rw [if_neg (by rw [h1]; decide), if_pos h2, if_pos h1]
theorem Z9h {r : Rd} {w : List Str} (h1 : w.getD 0 [] = [97]) (h2 : Yd 0 [112] r.said = 1) : Xl r w = aW r w := by
 unfold Xl
 rw [if_neg (by rw [h1]; decide), if_pos h2, if_neg (by rw [h1]; decide), if_pos h1]
theorem Z67 {n : Net} (h : NetP n) {k : Int} : Xl ⟨Net.mk n.N 0 0 [], [([112], 1)], k⟩ (Vy n) = some ⟨Net.mk n.N n.S 0 [], [([112], 1), ([115], 1)], k⟩ := by
 have hs := h.small
 rw [Z1l rfl rfl]
 unfold nW
 have e1 : (Vy n).getD 1 [] = Yz (n.S + 1) := rfl
 have e2 : (Vy n).getD 2 [] = [115] := rfl
 rw [e1, e2, if_pos ⟨rfl, Js (by omega) (by omega) (by omega) (by simp only; omega), rfl⟩, if_pos rfl, Jj (by omega) (by omega)]
 simp only [Int.add_sub_cancel]
 rfl
theorem lineW_t {n : Net} (h : NetP n) {k : Int} : Xl ⟨Net.mk n.N n.S 0 [], [([112], 1), ([115], 1)], k⟩ (Vb n) = some ⟨Net.mk n.N n.S n.T [], sd3, k⟩ := by
 have hs := h.small
 rw [Z1l rfl rfl]
 unfold nW
 have e1 : (Vb n).getD 1 [] = Yz (n.T + 1) := rfl
 have e2 : (Vb n).getD 2 [] = [116] := rfl
 rw [e1, e2, if_pos ⟨rfl, Js (by omega) (by omega) (by omega) (by simp only; omega), rfl⟩, if_neg (by decide), if_pos rfl, Jj (by omega) (by omega)]
 simp only [Int.add_sub_cancel]
 rfl
theorem lineW_a {N S T k : Int} {al : List Arc} {a : Arc} (h1 : 0 ≤ a.fr ∧ a.fr < N) (h2 : 0 ≤ a.to ∧ a.to < N) (h3 : 0 ≤ a.cap ∧ a.cap ≤ 9223372036854775807) (hN : N ≤ 1000000) :
    Xl ⟨Net.mk N S T al, sd3, k⟩ (Xh a) = some ⟨Net.mk N S T (al ++ [a]), sd3, k⟩ := by
  rw [Z9h rfl rfl]
  unfold aW
  have e1 : (Xh a).getD 1 [] = Yz (a.fr + 1) := rfl
  have e2 : (Xh a).getD 2 [] = Yz (a.to + 1) := rfl
  have e3 : (Xh a).getD 3 [] = Yz a.cap := rfl
  rw [e1, e2, e3, if_pos ⟨rfl, Js (by omega) (by omega) (by omega) (by simp only; omega), Js (by omega) (by omega) (by omega) (by simp only; omega), Js h3.1 h3.2 h3.1 h3.2⟩, Jj (by omega) (by omega), Jj (by omega) (by omega), Jj h3.1 h3.2]
  simp only [Int.add_sub_cancel]
theorem Z6w {N S T k : Int} (hN : N ≤ 1000000) : ∀ (al pre : List Arc), (∀ a ∈ al, ((0 ≤ a.fr ∧ a.fr < N) ∧ (0 ≤ a.to ∧ a.to < N)) ∧ 0 ≤ a.cap ∧ a.cap ≤ 9223372036854775807) →
    Yw ⟨Net.mk N S T pre, sd3, k⟩ (al.map Xh) = some ⟨Net.mk N S T (pre ++ al), sd3, k⟩
  | [], pre, _ => by rw [List.append_nil]; rfl
  | a :: al, pre, h => by
    obtain ⟨⟨h1, h2⟩, h3⟩ := h a (.head _)
    rw [List.map_cons, Yw, lineW_a h1 h2 h3 hN, Option.bind_some, Z6w hN al _ (fun x hx => h x (.tail _ hx)), List.append_assoc]; rfl
def stR (n : Net) : Nat → Rd
  | 0 => rd0
  | 1 => ⟨Net.mk n.N 0 0 [], [([112], 1)], n.Arcs.length⟩
  | 2 => ⟨Net.mk n.N n.S 0 [], [([112], 1), ([115], 1)], n.Arcs.length⟩
  | k + 3 => ⟨Net.mk n.N n.S n.T (n.Arcs.take k), sd3, n.Arcs.length⟩
theorem NetP.each {n : Net} (h : NetP n) : ∀ a ∈ n.Arcs, ((0 ≤ a.fr ∧ a.fr < n.N) ∧ (0 ≤ a.to ∧ a.to < n.N)) ∧ 0 ≤ a.cap ∧ a.cap ≤ 9223372036854775807 := fun a ha => ⟨h.ends a ha, h.caps a ha⟩
theorem Z2m {n : Net} (h : NetP n) : ∀ i, Yw rd0 ((Ye n).take i) = some (stR n i)
 | 0 => rfl
 | 1 => by show Yw rd0 [Wz n] = _; rw [Yw, Z4h h]; rfl
 | 2 => by show Yw rd0 [Wz n, Vy n] = _; rw [Yw, Z4h h, Option.bind_some, Yw, Z67 h]; rfl
 | k + 3 => by
  have e : (Ye n).take (k + 3) = Wz n :: Vy n :: Vb n :: (n.Arcs.take k).map Xh := by
   unfold Ye; rw [List.take_succ_cons, List.take_succ_cons, List.take_succ_cons, List.map_take]
  rw [e, Yw, Z4h h, Option.bind_some, Yw, Z67 h, Option.bind_some, Yw, lineW_t h, Option.bind_some]
  rw [Z6w h.small.1.2 _ _ (fun a ha => h.each a (List.mem_of_mem_take ha))]; rfl
theorem par_prt {n : Net} (h : NetP n) : Ku (Ye n) = (n, 0) := by
 have e := Z2m h (n.Arcs.length + 3)
 have e2 : (Ye n).take (n.Arcs.length + 3) = Ye n := List.take_of_length_le (by simp [Ye])
 rw [e2] at e
 unfold Ku
 rw [e]
 have e3 : stR n (n.Arcs.length + 3) = ⟨n, sd3, n.Arcs.length⟩ := by show (⟨Net.mk n.N n.S n.T (n.Arcs.take n.Arcs.length), sd3, n.Arcs.length⟩ : Rd) = _; rw [List.take_length]
 rw [e3, Z34, if_pos ⟨rfl, rfl, rfl, rfl⟩]
 unfold parF
 rw [if_pos rfl, if_pos h.ck]
end Go.Acq
namespace Go.Acq
open Go
theorem Z4j : ∀ (ws : List Str) (v : Str), ws ≠ [] → jn (ws ++ [v]) = jn ws ++ 32 :: v
 | [], _, h => absurd rfl h
 | [w], v, _ => by rw [List.singleton_append, Gn, Ni, Ni]
 | w :: u :: r, v, _ => by
  rw [List.cons_append, List.cons_append, Gn, ← List.cons_append, Z4j (u :: r) v (by simp), Gn]; simp
theorem Z8r {l : Str} {c : UInt8} {m : Nat} (hm : l.getD m 0 = c) : ∀ k, (∀ j, m < j → j < m + 1 + k → l.getD j 0 ≠ c) → Le l c (m + 1 + k) = m
 | 0, _ => by rw [Nat.add_zero, Le, if_pos hm]
 | k + 1, h => by
  rw [show m + 1 + (k + 1) = (m + 1 + k) + 1 from rfl, Le, if_neg (h (m + 1 + k) (by omega) (by omega))]
  exact Z8r hm k (fun j h1 h2 => h j h1 (by omega))
theorem Za8 (a b : Str) (c : UInt8) (hb : ∀ x ∈ b, x ≠ c) : Lv (a ++ c :: b) c = a.length := by
 unfold Lv
 rw [List.length_append, List.length_cons, show a.length + (b.length + 1) = a.length + 1 + b.length from by omega]
 refine Z8r (by simp) b.length fun j h1 h2 => ?_
 obtain ⟨k, rfl⟩ : ∃ k, j = a.length + 1 + k := ⟨j - a.length - 1, by omega⟩
 rw [List.getD_eq_getElem?_getD, List.getElem?_append_right (by omega), show a.length + 1 + k - a.length = k + 1 from by omega, List.getElem?_cons_succ, List.getElem?_eq_getElem (by omega)]
 exact hb _ (List.getElem_mem _)
structure lineV (ws : List Str) : Prop where
  ne : ws ≠ []
  ok : ∀ w ∈ ws, okW w
  line : Gp (jn ws)
  kind : (ws.getD 0 []).getD 0 0 ≠ 99
theorem lineWs.v {ws : List Str} (h : lineWs ws) : lineV ws := ⟨h.ne, fun w hw => (h.all w hw).ok, h.line, h.kind⟩
theorem lineV.said {ws : List Str} (h : lineV ws) : Uk (jn ws) = some ws := Z95 (Z4u ws h.ne h.ok) h.ne h.kind
theorem Z7a : ∀ W : List (List Str), (∀ ws ∈ W, lineV ws) → (W.map jn).filterMap Uk = W
 | [], _ => rfl
 | w :: W, h => by rw [List.map_cons, List.filterMap_cons, (h w (.head _)).said, Z7a W (fun x hx => h x (.tail _ hx))]
theorem saidV {W : List (List Str)} (h : ∀ ws ∈ W, lineV ws) : Kz (Vj (W.map jn)) = W := by
 rw [Z7d _ (fun l hl => by
  obtain ⟨w, hw, rfl⟩ := List.mem_map.1 hl
  exact (h w hw).line), Z7a W h]
theorem Z1w {N S T k : Int} {m : List (Str × Int)} (hm : Yd 0 [112] m = 1) (hN : N ≤ 1000000) : ∀ (al pre : List Arc), (∀ a ∈ al, ((0 ≤ a.fr ∧ a.fr < N) ∧ (0 ≤ a.to ∧ a.to < N)) ∧ 0 ≤ a.cap ∧ a.cap ≤ 9223372036854775807) →
    Yw ⟨Net.mk N S T pre, m, k⟩ (al.map Xh) = some ⟨Net.mk N S T (pre ++ al), m, k⟩
  | [], pre, _ => by rw [List.append_nil]; rfl
  | a :: al, pre, h => by
    obtain ⟨⟨h1, h2⟩, h3⟩ := h a (.head _)
    have e : Xl ⟨Net.mk N S T pre, m, k⟩ (Xh a) = some ⟨Net.mk N S T (pre ++ [a]), m, k⟩ := by
      rw [Z9h rfl hm]
      unfold aW
      have e1 : (Xh a).getD 1 [] = Yz (a.fr + 1) := rfl
      have e2 : (Xh a).getD 2 [] = Yz (a.to + 1) := rfl
      have e3 : (Xh a).getD 3 [] = Yz a.cap := rfl
      rw [e1, e2, e3, if_pos ⟨rfl, Js (by omega) (by omega) (by omega) (by simp only; omega), Js (by omega) (by omega) (by omega) (by simp only; omega), Js h3.1 h3.2 h3.1 h3.2⟩, Jj (by omega) (by omega), Jj (by omega) (by omega), Jj h3.1 h3.2]
      simp only [Int.add_sub_cancel]
    rw [List.map_cons, Yw, e, Option.bind_some, Z1w hm hN al _ (fun x hx => h x (.tail _ hx)), List.append_assoc]; rfl
theorem Z17 {ws : List (List Str)} (h : Yw rd0 ws = none) : Ku ws = (Net.mk 0 0 0 [], 70) := by unfold Ku; rw [h]; rfl
theorem Z2t {ws : List (List Str)} {r : Rd} (h : Yw rd0 ws = some r) (hb : ¬(Yd 0 [112] r.said = 1 ∧ Yd 0 [115] r.said = 1 ∧ Yd 0 [116] r.said = 1 ∧ (r.n.Arcs.length : Int) = r.arcs)) : Ku ws = (Net.mk 0 0 0 [], 70) := by
 unfold Ku; rw [h, Z34, if_neg hb]; rfl
theorem Z82 {r : Rd} {w : List Str} (h : w.getD 0 [] = [112] ∧ w.length ≠ 4 ∨ w.getD 0 [] = [110] ∧ w.length ≠ 3 ∨ w.getD 0 [] = [97] ∧ w.length ≠ 4) : Xl r w = none := by
 unfold Xl
 by_cases hp : Yd 0 [112] r.said = 1
 ·
  rcases h with ⟨h1, h2⟩ | ⟨h1, h2⟩ | ⟨h1, h2⟩
  · rw [if_pos h1]; unfold pW; rw [if_neg (fun h => h2 h.1)]
  · rw [if_neg (by rw [h1]; decide), if_pos hp, if_pos h1]; unfold nW; rw [if_neg (fun h => h2 h.1)]
  · rw [if_neg (by rw [h1]; decide), if_pos hp, if_neg (by rw [h1]; decide), if_pos h1]; unfold aW; rw [if_neg (fun h => h2 h.1)]
 ·
  rcases h with ⟨h1, h2⟩ | ⟨h1, h2⟩ | ⟨h1, h2⟩
  · rw [if_pos h1]; unfold pW; rw [if_neg (fun h => h2 h.1)]
  · rw [if_neg (by rw [h1]; decide), if_neg hp]
  · rw [if_neg (by rw [h1]; decide), if_neg hp]
theorem Z73 {r : Rd} {w : List Str} (h1 : w.getD 0 [] ≠ [112]) (h2 : w.getD 0 [] ≠ [110]) (h3 : w.getD 0 [] ≠ [97]) : Xl r w = none := by
 unfold Xl
 rw [if_neg h1]
 by_cases hp : Yd 0 [112] r.said = 1
 · rw [if_pos hp, if_neg h2, if_neg h3]
 · rw [if_neg hp]
inductive Wh (n : Net) : Nat → List Str → Prop
  | p : Wh n 0 (Wz n)
  | s : Wh n 1 (Vy n)
  | t : Wh n 2 (Vb n)
  | a (k : Nat) (h : k < n.Arcs.length) : Wh n (k + 3) (Xh (n.Arcs.getD k default))
theorem wh_of (n : Net) : ∀ i, i < n.Arcs.length + 3 → Wh n i ((Ye n).getD i [])
 | 0, _ => .p
 | 1, _ => .s
 | 2, _ => .t
 | k + 3, h => by
  have h2 : k < n.Arcs.length := by omega
  have e : (Ye n).getD (k + 3) [] = Xh (n.Arcs.getD k default) := by
   show (n.Arcs.map Xh).getD k [] = _
   rw [List.getD_eq_getElem?_getD, List.getElem?_map, List.getElem?_eq_getElem h2, List.getD_eq_getElem?_getD, List.getElem?_eq_getElem h2]; rfl
  rw [e]; exact .a k h2
theorem Wh.count {n : Net} {i : Nat} {w : List Str} (h : Wh n i w) : (w.getD 0 [] = [112] ∧ w.length = 4) ∨ (w.getD 0 [] = [110] ∧ w.length = 3) ∨ (w.getD 0 [] = [97] ∧ w.length = 4) := by
 cases h with
 | p => exact .inl ⟨rfl, rfl⟩
 | s => exact .inr (.inl ⟨rfl, rfl⟩)
 | t => exact .inr (.inl ⟨rfl, rfl⟩)
 | a k h => exact .inr (.inr ⟨rfl, rfl⟩)
theorem par_out {n : Net} (hn : NetP n) {i : Nat} (hi : i < n.Arcs.length + 3) : Ku ((Ye n).take i ++ (Ye n).drop (i + 1)) = (Net.mk 0 0 0 [], 70) := by
 have hs := hn.small
 have hpre := Z2m hn i
 have hw := wh_of n i hi
 obtain ⟨q, hq⟩ : ∃ q, (Ye n).getD i [] = q := ⟨_, rfl⟩
 rw [hq] at hw
 clear hq
 cases hw with
 | p => exact Z17 (by show Yw rd0 (Vy n :: Vb n :: n.Arcs.map Xh) = none; rw [Yw]; rfl)
 | s =>
  have e : Yw rd0 ((Ye n).take 1 ++ (Ye n).drop 2) = some ⟨Net.mk n.N 0 n.T ([] ++ n.Arcs), [([112], 1), ([116], 1)], n.Arcs.length⟩ := by
   rw [Z1k, hpre, Option.bind_some]
   show Yw _ (Vb n :: n.Arcs.map Xh) = _
   rw [Yw]
   have e2 : Xl (stR n 1) (Vb n) = some ⟨Net.mk n.N 0 n.T [], [([112], 1), ([116], 1)], n.Arcs.length⟩ := by
    rw [Z1l rfl rfl]
    unfold nW
    have e1 : (Vb n).getD 1 [] = Yz (n.T + 1) := rfl
    have e2 : (Vb n).getD 2 [] = [116] := rfl
    rw [e1, e2, if_pos ⟨rfl, Js (by omega) (by omega) (by omega) (by show _ ≤ n.N; omega), rfl⟩, if_neg (by decide), if_pos rfl, Jj (by omega) (by omega)]
    simp only [Int.add_sub_cancel]
    rfl
   rw [e2, Option.bind_some]
   exact Z1w rfl hs.1.2 _ _ hn.each
  exact Z2t e (fun h => absurd h.2.1 (by show ¬ ((0 : Int) = 1); decide))
 | t =>
  have e : Yw rd0 ((Ye n).take 2 ++ (Ye n).drop 3) = some ⟨Net.mk n.N n.S 0 ([] ++ n.Arcs), [([112], 1), ([115], 1)], n.Arcs.length⟩ := by
   rw [Z1k, hpre, Option.bind_some]
   exact Z1w rfl hs.1.2 _ _ hn.each
  exact Z2t e (fun h => absurd h.2.2.1 (by show ¬ ((0 : Int) = 1); decide))
 | a k h =>
  have e : Yw rd0 ((Ye n).take (k + 3) ++ (Ye n).drop (k + 3 + 1)) = some ⟨Net.mk n.N n.S n.T (n.Arcs.take k ++ n.Arcs.drop (k + 1)), sd3, n.Arcs.length⟩ := by
   rw [Z1k, hpre, Option.bind_some]
   have e2 : (Ye n).drop (k + 3 + 1) = (n.Arcs.drop (k + 1)).map Xh := by rw [List.map_drop]; rfl
   rw [e2]
   exact Z1w rfl hs.1.2 _ _ (fun a ha => hn.each a (List.mem_of_mem_drop ha))
  refine Z2t e (fun h => ?_)
  have h4 := h.2.2.2
  simp only [List.length_append, List.length_take, List.length_drop] at h4
  omega
theorem par_two {n : Net} (hn : NetP n) {i : Nat} (hi : i < n.Arcs.length + 3) : Ku ((Ye n).take i ++ [(Ye n).getD i [], (Ye n).getD i []] ++ (Ye n).drop (i + 1)) = (Net.mk 0 0 0 [], 70) := by
 have hs := hn.small
 have hpre := Z2m hn (i + 1)
 have hlen : (Ye n).length = n.Arcs.length + 3 := by simp [Ye]
 have ht : (Ye n).take (i + 1) = (Ye n).take i ++ [(Ye n).getD i []] := by
  rw [List.take_add_one, List.getD_eq_getElem?_getD, List.getElem?_eq_getElem (by omega)]; rfl
 have e0 : (Ye n).take i ++ [(Ye n).getD i [], (Ye n).getD i []] ++ (Ye n).drop (i + 1) = (Ye n).take (i + 1) ++ (Ye n).getD i [] :: (Ye n).drop (i + 1) := by rw [ht]; simp
 rw [e0]
 have hw := wh_of n i hi
 obtain ⟨q, hq⟩ : ∃ q, (Ye n).getD i [] = q := ⟨_, rfl⟩
 rw [hq] at hw ⊢
 clear hq e0 ht
 cases hw with
 | p => exact Z17 (Z3e hpre (by unfold Xl; rw [if_pos (show (Wz n).getD 0 [] = [112] from rfl)]; unfold pW; rw [if_neg (fun h => absurd h.2.1 (by show ¬ ((1 : Int) = 0); decide))]))
 | s => exact Z17 (Z3e hpre (by rw [Z1l rfl rfl]; unfold nW; rw [if_neg (fun h => absurd h.2.2 (by show ¬ ((1 : Int) = 0); decide))]))
 | t => exact Z17 (Z3e hpre (by rw [Z1l rfl rfl]; unfold nW; rw [if_neg (fun h => absurd h.2.2 (by show ¬ ((1 : Int) = 0); decide))]))
 | a k h =>
  have ham := Jt h default
  have e : Yw rd0 ((Ye n).take (k + 3 + 1) ++ Xh (n.Arcs.getD k default) :: (Ye n).drop (k + 3 + 1)) = some ⟨Net.mk n.N n.S n.T (n.Arcs.take (k + 1) ++ (n.Arcs.getD k default :: n.Arcs.drop (k + 1))), sd3, n.Arcs.length⟩ := by
   rw [Z1k, hpre, Option.bind_some]
   have e2 : Xh (n.Arcs.getD k default) :: (Ye n).drop (k + 3 + 1) = (n.Arcs.getD k default :: n.Arcs.drop (k + 1)).map Xh := by rw [List.map_cons, List.map_drop]; rfl
   rw [e2]
   refine Z1w rfl hs.1.2 _ _ (fun a ha => ?_)
   rcases List.mem_cons.1 ha with rfl | ha
   · exact hn.each _ ham
   · exact hn.each a (List.mem_of_mem_drop ha)
  refine Z2t e (fun h => ?_)
  have h4 := h.2.2.2
  simp only [List.length_append, List.length_take, List.length_cons, List.length_drop] at h4
  omega
def hiW (w : Str) : Prop := w ≠ [] ∧ ∀ b ∈ w, 33 ≤ b.toNat ∧ b.toNat < 128
theorem hiW.ok {w : Str} (h : hiW w) : okW w := ⟨h.1, fun b hb => by rw [Z1u]; have := h.2 b hb; exact decide_eq_false (by omega)⟩
theorem hiW.ten {w : Str} (h : hiW w) : ∀ b ∈ w, b ≠ 10 := fun b hb e => by
 have := h.2 b hb
 subst e
 exact absurd this.1 (by decide)
theorem Z32 {n : Int} (h : i64ok n) : hiW (Yz n) := ⟨(Z0n h).1.1, fun b hb => by have := (Z0n h).1.2 b hb; omega⟩
theorem Z13 {w : Str} (h : w ≠ []) (hb : w.all (fun b => decide (33 ≤ b.toNat ∧ b.toNat < 128)) = true) : hiW w := ⟨h, fun b hm => of_decide_eq_true (List.all_eq_true.1 hb b hm)⟩
theorem hi_all {n : Net} (hn : NetP n) {i : Nat} {w : List Str} (h : Wh n i w) : ∀ x ∈ w, hiW x := by
 have hs := hn.small
 cases h with
 | p => intro x hx; simp only [Wz, List.mem_cons, List.not_mem_nil, or_false] at hx; rcases hx with rfl | rfl | rfl | rfl <;> first | exact Z13 (by simp) (by decide) | exact Z32 ⟨by omega, by omega⟩
 | s => intro x hx; simp only [Vy, List.mem_cons, List.not_mem_nil, or_false] at hx; rcases hx with rfl | rfl | rfl <;> first | exact Z13 (by simp) (by decide) | exact Z32 ⟨by omega, by omega⟩
 | t => intro x hx; simp only [Vb, List.mem_cons, List.not_mem_nil, or_false] at hx; rcases hx with rfl | rfl | rfl <;> first | exact Z13 (by simp) (by decide) | exact Z32 ⟨by omega, by omega⟩
 | a k hk =>
  obtain ⟨⟨h1, h2⟩, h3⟩ := hn.each _ (Jt hk default)
  intro x hx
  simp only [Xh, List.mem_cons, List.not_mem_nil, or_false] at hx
  rcases hx with rfl | rfl | rfl | rfl <;> first | exact Z13 (by simp) (by decide) | exact Z32 ⟨by omega, by omega⟩
theorem jn_hi : ∀ ws : List Str, (∀ w ∈ ws, hiW w) → ∀ b ∈ jn ws, 32 ≤ b.toNat ∧ b.toNat < 128
 | [], _, b, hb => by simp [jn, Lib.join, List.intercalate] at hb
 | [w], h, b, hb => by rw [Ni] at hb; have := (h w (.head _)).2 b hb; omega
 | w :: v :: r, h, b, hb => by
  rw [Gn] at hb
  rcases List.mem_append.1 hb with hb | hb
  · have := (h w (.head _)).2 b hb; omega
  ·
   rcases List.mem_cons.1 hb with rfl | hb
   · decide
   · exact jn_hi (v :: r) (fun x hx => h x (.tail _ hx)) b hb
theorem Z30 {ws : List Str} (ne : ws ≠ []) (h : ∀ w ∈ ws, hiW w) (hl : (jn ws).length ≤ 100) (hk : (ws.getD 0 []).getD 0 0 ≠ 99) : lineV ws :=
 ⟨ne, fun w hw => (h w hw).ok, ⟨fun b hb e => by have := jn_hi ws h b hb; subst e; exact absurd this.1 (by decide), hl⟩, hk⟩
end Go.Acq
namespace Go.Acq
open Go
set_option maxRecDepth 100000 in
theorem Ze8 : Z10 = some true := by decide +kernel
theorem jn_map {f : UInt8 → UInt8} (hf : f 32 = 32) : ∀ ws : List Str, (jn ws).map f = jn (ws.map (·.map f))
 | [] => rfl
 | [w] => by rw [List.map_cons, List.map_nil, Ni, Ni]
 | w :: v :: r => by
  have := jn_map hf (v :: r)
  rw [Gn, List.map_append, List.map_cons (f := f), hf, this]
  show _ = jn (w.map f :: v.map f :: r.map (·.map f))
  rw [Gn]; rfl
theorem upper_nb (b : UInt8) (h : 33 ≤ b.toNat) : 33 ≤ (Lib.upperB b).toNat := by
 by_cases hl : Lib.isLowerB b = true
 ·
  have h1 := Lib.upperB_int b hl
  rw [Lib.isLowerB_int, Bool.and_eq_true, decide_eq_true_eq, decide_eq_true_eq] at hl
  omega
 · rw [Lib.upperB_of_not b (by simpa using hl)]; exact h
theorem s_with {ls l0 : List Str} {i : Nat} (hi : i < ls.length) (hl : ls.length ≤ 1000) (h0 : l0.length ≤ 10) (hall : (Vu (ls.take i ++ l0 ++ ls.drop (i + 1))).length ≤ 1000000) : Kn l0 ls i = some (Vu (ls.take i ++ l0 ++ ls.drop (i + 1)) ++ [10]) := by
 unfold Kn Z2a
 have e1 : ((i : Int) + 1).toNat = i + 1 := by omega
 have l1 : (ls.take i).length = i := by rw [List.length_take]; omega
 have l2 : (ls.take i ++ l0 ++ ls.drop (i + 1)).length = i + l0.length + (ls.length - (i + 1)) := by rw [List.length_append, List.length_append, l1, List.length_drop]
 have l3 : (ls.take i ++ l0).length = i + l0.length := by rw [List.length_append, l1]
 rw [e1, Int.toNat_natCast]
 rw [Xg ⟨by omega, by omega⟩, Xg (by rw [l1]; constructor <;> omega), Xg (by rw [l3]; constructor <;> omega), Xg ⟨by omega, by omega⟩, Xg ⟨by omega, by omega⟩, Xg (by rw [l2]; constructor <;> omega)]
 rw [Z80]
 rw [Xg ⟨by rw [l2]; omega, by omega⟩, Option.bind_some, Xg (by rw [List.length_append, List.length_singleton]; omega)]
theorem s_reads {W : List (List Str)} (h : ∀ ws ∈ W, lineV ws) (hl : W.length ≤ 1000) (want : Int) : Uj (Vj (W.map jn)) want = some (decide ((Ku W).2 = want)) := by
 have hc := Z52 (W.map jn) (fun l hl => by
  obtain ⟨w, hw, rfl⟩ := List.mem_map.1 hl
  exact (h w hw).line)
 rw [List.length_map] at hc
 unfold Uj
 rw [Z68 _ (by omega), saidV h]; rfl
theorem Ra {n : Net} (hn : NetP n) (ha : n.Arcs.length ≤ 20) {i : Nat} (hi : i < n.Arcs.length + 3) (mods : List (List Str)) (hm : ∀ ws ∈ mods, lineV ws) (hml : mods.length ≤ 10) (want : Int) (hp : (Ku ((Ye n).take i ++ mods ++ (Ye n).drop (i + 1))).2 = want) :
    ∃ t, Kn (mods.map jn) (Wq n) i = some t ∧ Uj t want = some true := by
  have hll := Z5r n
  have hWl : (Ye n).length = n.Arcs.length + 3 := by simp [Ye]
  have hall : ∀ ws ∈ (Ye n).take i ++ mods ++ (Ye n).drop (i + 1), lineV ws := fun ws hw => by
    rcases List.mem_append.1 hw with hw | hw
    · rcases List.mem_append.1 hw with hw | hw
      · exact (Z07 hn ws (List.mem_of_mem_take hw)).v
      · exact hm ws hw
    · exact (Z07 hn ws (List.mem_of_mem_drop hw)).v
  have hlen : ((Ye n).take i ++ mods ++ (Ye n).drop (i + 1)).length ≤ 100 := by
    rw [List.length_append, List.length_append, List.length_take, List.length_drop]; omega
  have hne : ((Ye n).take i ++ mods ++ (Ye n).drop (i + 1)).map jn ≠ [] := fun e => by
    have := congrArg List.length e
    rw [List.length_map, List.length_append, List.length_append, List.length_take, List.length_drop] at this
    simp only [List.length_nil] at this; omega
  have hlines : ∀ l ∈ ((Ye n).take i ++ mods ++ (Ye n).drop (i + 1)).map jn, Gp l := fun l hl => by
    obtain ⟨w, hw, rfl⟩ := List.mem_map.1 hl
    exact (hall w hw).line
  have ej : (Wq n).take i ++ mods.map jn ++ (Wq n).drop (i + 1) = ((Ye n).take i ++ mods ++ (Ye n).drop (i + 1)).map jn := by
    unfold Wq; rw [List.map_append, List.map_append, List.map_take, List.map_drop]
  have hjl := Z4x _ hlines
  rw [List.length_map] at hjl
  refine ⟨_, s_with (by omega) (by omega) (by rw [List.length_map]; exact hml) (by rw [ej]; omega), ?_⟩
  rw [ej, ← Z4b _ hne, s_reads hall (by omega), decide_eq_true hp]
theorem Z24 {n : Net} (hn : NetP n) (i : Nat) {w : List Str} (h : ∀ r, Xl r w = none) : (Ku ((Ye n).take i ++ [w] ++ (Ye n).drop (i + 1))).2 = 70 := by
 have e : (Ye n).take i ++ [w] ++ (Ye n).drop (i + 1) = (Ye n).take i ++ w :: (Ye n).drop (i + 1) := by simp
 rw [e, Z17 (Z3e (Z2m hn i) (h _))]
theorem Z4z {w : List Str} {v : Str} (h : w ≠ []) : (w ++ [v]).getD 0 [] = w.getD 0 [] := by
 cases w with
 | nil => exact absurd rfl h
 | cons a r => rfl
theorem p_DimacsSpoilt {n : Net} {at1 : Int} (hnet : NetIn n) (hat : u8ok at1) : Z43 n at1 = some true := by
 refine ok_eq ?_
 unfold Z43
 refine Ok.bind.2 (Ok.mono (s_Some hnet (by omega) (by omega) (by omega) (by omega)) fun r hr => ?_)
 have hra := hr.arcs
 have hn := netP hr.check
 have hpl := Z8p hn
 have hll := Z5r r
 refine Ok.bind.2 (Ok.mono (s_Print hn) ?_)
 rintro _ rfl
 simp only
 rw [if_neg (by simp), bu_ub]
 have hlines : ∀ l ∈ Wq r, Gp l := Z7l (Z07 hn)
 have hne : Wq r ≠ [] := fun e => by rw [e] at hll; simp at hll
 have hjl := Z4x _ hlines
 refine Ok.bind.2 (Ok.gd.2 ⟨by omega, Ok.some.2 ?_⟩)
 have etr : Lib.trimSuffix (Ro r) [10] = Vu (Wq r) := trim_cat hne
 rw [etr]
 refine Ok.bind.2 (Ok.bind.2 (Ok.gd.2 ⟨⟨by omega, rfl, .inl rfl, rfl⟩, Ok.some.2 (Ok.some.2 ?_)⟩))
 have esp : Uw (decide ((0 : Int) = 1)) (([10] : Str).getD 0 0) (Vu (Wq r)) [] = Wq r := Z71 _ hne hlines
 rw [esp]
 rw [Xg ⟨by omega, by omega⟩, if_neg (by rw [hll]; omega)]
 obtain ⟨i, hi⟩ : ∃ i : Nat, at1.tmod ((Wq r).length : Int) = i := ⟨(at1.tmod ((Wq r).length : Int)).toNat, by rw [Int.tmod_eq_emod_of_nonneg hat.1]; have := Int.emod_nonneg at1 (show ((Wq r).length : Int) ≠ 0 by omega); omega⟩
 have hil : i < r.Arcs.length + 3 := by
  have h1 := Int.emod_lt_of_pos at1 (show (0 : Int) < ((Wq r).length : Int) by omega)
  rw [Int.tmod_eq_emod_of_nonneg hat.1] at hi
  omega
 have h1 := hat.1
 have h2 := hat.2
 unfold Z36
 simp only [hi, Int.toNat_natCast]
 have gi : inb (i : Int) (Wq r).length := ⟨by omega, by omega⟩
 have hWl : (Ye r).length = r.Arcs.length + 3 := by simp [Ye]
 obtain ⟨w, hw⟩ : ∃ w, (Ye r).getD i [] = w := ⟨_, rfl⟩
 have hwh := wh_of r i hil
 rw [hw] at hwh
 have hwm : w ∈ Ye r := by rw [← hw]; exact Jt (by omega) _
 have hws := Z07 hn w hwm
 have hhi := hi_all hn hwh
 have hcount := hwh.count
 have hline : (Wq r).getD i [] = jn w := by
  rw [← hw]; unfold Wq
  rw [List.getD_eq_getElem?_getD, List.getElem?_map, List.getElem?_eq_getElem (by omega), List.getD_eq_getElem?_getD, List.getElem?_eq_getElem (by omega)]; rfl
 rw [hline]
 have hjw := (Lz w hws.all).2
 have hfew := hws.few
 obtain ⟨init, v, hiv⟩ : ∃ init v, w = init ++ [v] := ⟨w.dropLast, w.getLast hws.ne, (List.dropLast_concat_getLast hws.ne).symm⟩
 have hinit : init ≠ [] := fun e => by
  subst e
  rw [hiv] at hcount
  simp at hcount
 have hcut : jn w = jn init ++ 32 :: v := by rw [hiv]; exact Z4j init v hinit
 have hlast : Lv (jn w) 32 = (jn init).length := by
  rw [hcut]
  refine Za8 _ _ _ fun x hx e => ?_
  have := (hhi v (by rw [hiv]; simp)).2 x hx
  subst e
  exact absurd this.1 (by decide)
 have hcl : (jn w).length = (jn init).length + 1 + v.length := by rw [hcut, List.length_append, List.length_cons]; omega
 have htake : (jn w).take (jn init).length = jn init := by rw [hcut]; simp
 obtain ⟨t1, a1, b1⟩ := Ra hn (by omega) hil [] (by simp) (by simp) 70 (by rw [List.append_nil, par_out hn hil])
 obtain ⟨t2, a2, b2⟩ := Ra hn (by omega) hil [w, w] (by intro ws hws2; simp only [List.mem_cons, List.not_mem_nil, or_false] at hws2; rcases hws2 with rfl | rfl <;> exact hws.v) (by simp) 70 (by have := par_two hn hil; rw [hw] at this; rw [this])
 have e3 : jn (w ++ [[49]]) = jn w ++ [32, 49] := Z4j w [49] hws.ne
 obtain ⟨t3, a3, b3⟩ := Ra hn (by omega) hil [w ++ [[49]]] (by
  intro ws hws2
  rw [List.mem_singleton.1 hws2]
  refine Z30 (by simp) (fun x hx => ?_) (by rw [e3, List.length_append]; simp only [List.length_cons, List.length_nil]; omega) (by rw [Z4z hws.ne]; exact hws.kind)
  rcases List.mem_append.1 hx with hx | hx
  · exact hhi x hx
  ·
   rw [List.mem_singleton.1 hx]; exact Z13 (by simp) (by decide)) (by simp) 70 (Z24 hn i fun r => Z82 (by
   rw [Z4z hws.ne, List.length_append, List.length_singleton]
   rcases hcount with ⟨g1, g2⟩ | ⟨g1, g2⟩ | ⟨g1, g2⟩
   · exact .inl ⟨g1, by omega⟩
   · exact .inr (.inl ⟨g1, by omega⟩)
   · exact .inr (.inr ⟨g1, by omega⟩)))
 have i0 : init.getD 0 [] = w.getD 0 [] := by rw [hiv, Z4z hinit]
 obtain ⟨t4, a4, b4⟩ := Ra hn (by omega) hil [init] (by
  intro ws hws2
  rw [List.mem_singleton.1 hws2]
  exact Z30 hinit (fun x hx => hhi x (by rw [hiv]; exact List.mem_append_left _ hx)) (by omega) (by rw [i0]; exact hws.kind)) (by simp) 70 (Z24 hn i fun r => Z82 (by
   have hl : w.length = init.length + 1 := by rw [hiv, List.length_append, List.length_singleton]
   rw [i0]
   rcases hcount with ⟨g1, g2⟩ | ⟨g1, g2⟩ | ⟨g1, g2⟩
   · exact .inl ⟨g1, by omega⟩
   · exact .inr (.inl ⟨g1, by omega⟩)
   · exact .inr (.inr ⟨g1, by omega⟩)))
 obtain ⟨w0, rest, hwc⟩ : ∃ w0 rest, w = w0 :: rest := List.exists_cons_of_ne_nil hws.ne
 have e5 : jn ((120 :: w0) :: rest) = [120] ++ jn w := by
  rw [hwc]
  cases rest with
  | nil => rw [Ni, Ni]; rfl
  | cons u q => rw [Gn, Gn]; rfl
 obtain ⟨t5, a5, b5⟩ := Ra hn (by omega) hil [(120 :: w0) :: rest] (by
  intro ws hws2
  rw [List.mem_singleton.1 hws2]
  refine Z30 (by simp) (fun x hx => ?_) (by rw [e5, List.length_append, List.length_singleton]; omega) (by show (120 : UInt8) ≠ 99; decide)
  rcases List.mem_cons.1 hx with rfl | hx
  ·
   refine ⟨by simp, fun b hb => ?_⟩
   rcases List.mem_cons.1 hb with rfl | hb
   · decide
   · exact (hhi w0 (by rw [hwc]; exact .head _)).2 b hb
  · exact hhi x (by rw [hwc]; exact .tail _ hx)) (by simp) 70 (Z24 hn i fun r => Z73 (by show 120 :: w0 ≠ [112]; simp) (by show 120 :: w0 ≠ [110]; simp) (by show 120 :: w0 ≠ [97]; simp))
 have e6 : jn (w.map (·.map Lib.upperB)) = Lib.toUpperA (jn w) := (jn_map (by decide) w).symm
 have u0 : (w.map (·.map Lib.upperB)).getD 0 [] = [80] ∨ (w.map (·.map Lib.upperB)).getD 0 [] = [78] ∨ (w.map (·.map Lib.upperB)).getD 0 [] = [65] := by
  have e : (w.map (·.map Lib.upperB)).getD 0 [] = (w.getD 0 []).map Lib.upperB := by rw [hwc]; rfl
  rw [e]
  rcases hcount with ⟨g1, g2⟩ | ⟨g1, g2⟩ | ⟨g1, g2⟩
  · rw [g1]; exact .inl (by decide)
  · rw [g1]; exact .inr (.inl (by decide))
  · rw [g1]; exact .inr (.inr (by decide))
 obtain ⟨t6, a6, b6⟩ := Ra hn (by omega) hil [w.map (·.map Lib.upperB)] (by
  intro ws hws2
  rw [List.mem_singleton.1 hws2]
  refine Z30 (by simpa using hws.ne) (fun x hx => ?_) (by rw [e6]; unfold Lib.toUpperA; rw [List.length_map]; omega) (by rcases u0 with e | e | e <;> rw [e] <;> decide)
  obtain ⟨y, hy, rfl⟩ := List.mem_map.1 hx
  have hyh := hhi y hy
  refine ⟨by simpa using hyh.1, fun b hb => ?_⟩
  obtain ⟨c, hc, rfl⟩ := List.mem_map.1 hb
  have := hyh.2 c hc
  refine ⟨upper_nb c this.1, ?_⟩
  by_cases hl : Lib.isLowerB c = true
  · have h1 := Lib.upperB_int c hl; omega
  ·
   rw [Lib.upperB_of_not c (by simpa using hl)]; omega) (by simp) 70 (Z24 hn i fun r => by
   rcases u0 with e | e | e <;> exact Z73 (by rw [e]; decide) (by rw [e]; decide) (by rw [e]; decide))
 obtain ⟨t7, a7, b7⟩ := Ra hn (by omega) hil [w] (by intro ws hws2; rw [List.mem_singleton.1 hws2]; exact hws.v) (by simp) 0 (by
  have ht : (Ye r).take i ++ [w] ++ (Ye r).drop (i + 1) = Ye r := by
   rw [← hw]
   have h3 : (Ye r).take (i + 1) = (Ye r).take i ++ [(Ye r).getD i []] := by
    rw [List.take_add_one, List.getD_eq_getElem?_getD, List.getElem?_eq_getElem (by omega)]; rfl
   rw [← h3, List.take_append_drop]
  rw [ht, par_prt hn])
 simp only [List.map_cons, List.map_nil] at a1 a2 a3 a4 a5 a6 a7
 rw [e3] at a3
 rw [e5] at a5
 rw [e6] at a6
 refine Ok.gd.2 ⟨⟨by omega, by omega⟩, Ok.gd.2 ⟨by omega, Ok.gd.2 ⟨gi, Ok.gd.2 ⟨gi, ?_⟩⟩⟩⟩
 refine Ok.bind.2 (Ok.gd.2 ⟨⟨rfl, by omega⟩, Ok.some.2 ?_⟩)
 have el : (([32] : Str).getD 0 0) = 32 := rfl
 rw [el, hlast]
 refine Ok.gd.2 ⟨⟨by omega, by omega⟩, ?_⟩
 refine Ok.bind.2 (Wu a1 ?_)
 refine Ok.gd.2 ⟨gi, Ok.gd.2 ⟨gi, Ok.bind.2 (Wu a2 (Ok.gd.2 ⟨gi, Ok.gd.2 ⟨by rw [List.length_append]; simp only [List.length_cons, List.length_nil]; omega, Ok.bind.2 (Wu a3 ?_)⟩⟩))⟩⟩
 rw [Int.toNat_natCast, htake]
 refine Ok.bind.2 (Wu a4 (Ok.gd.2 ⟨gi, Ok.gd.2 ⟨by rw [List.length_append]; simp only [List.length_cons, List.length_nil]; omega, Ok.bind.2 (Wu a5 (Ok.gd.2 ⟨gi, ?_⟩))⟩⟩))
 have hasc : (jn w).all (fun b => decide (b.toNat < 128)) = true := List.all_eq_true.2 fun b hb => decide_eq_true (jn_hi w hhi b hb).2
 refine Ok.bind.2 (Ok.gd.2 ⟨⟨by omega, hasc⟩, Ok.some.2 (Ok.bind.2 (Wu a6 ?_))⟩)
 have fin : Ok (gd (inb (i : Int) (Wq r).length) <| Option.bind (Kn [jn w] (Wq r) i) fun r97 => Option.bind (Uj r97 0) fun r99 => if r99 = true then (Option.bind (Uj ([] : Str) 70) fun r102 => if r102 = true then (Option.bind Z10 fun r105 => some r105) else some false) else some false) (fun a => a = true) := by
  refine Ok.gd.2 ⟨gi, Ok.bind.2 (Wu a7 (Ok.bind.2 (Wu b7 ?_)))⟩
  rw [if_pos rfl]
  have e0 : Uj ([] : Str) 70 = some true := by
   unfold Uj
   rw [Z68 [] (by simp)]; rfl
  refine Ok.bind.2 (Wu e0 ?_)
  rw [if_pos rfl]
  exact Ok.bind.2 (Wu Ze8 (Ok.some.2 rfl))
 have hreads : ∀ s ∈ [t1, t2, t3, t4, t5, t6], Uj s 70 = some true := by
  intro s hs
  simp only [List.mem_cons, List.not_mem_nil, or_false] at hs
  rcases hs with rfl | rfl | rfl | rfl | rfl | rfl <;> assumption
 refine Ok.bind.2 (Ok.lp (O := Bool ⊕ Unit) (fun s => 0 ≤ s ∧ s ≤ 6) (fun s => (6 - s).toNat) ⟨by omega, by omega⟩ (by unfold Wg; omega) ?_)
 rintro s ⟨g1, g2⟩ P next exit
 unfold Z0v
 refine Ok.ite.2 ⟨fun hs => ?_, fun _ => Ok.some.2 (exit _ fin)⟩
 have h6 : s < 6 := hs
 refine Ok.gd.2 ⟨⟨g1, hs⟩, Ok.bind.2 (Wu (hreads _ (Jt (show s.toNat < [t1, t2, t3, t4, t5, t6].length by simp only [List.length_cons, List.length_nil]; omega) _)) ?_)⟩
 rw [if_neg (by simp)]
 exact Ok.gd.2 ⟨⟨by omega, by omega⟩, Ok.some.2 (next _ ⟨by omega, by omega⟩ (by omega))⟩
end Go.Acq
