/- Texts of this claim, one behind the other. -/
import Derived.Test.YtfdhelnfgfaeaaaA5
import Derived.Test.YtfdhelnfgfaeaaaA1
set_option linter.unusedVariables false
set_option linter.unusedSimpArgs false
namespace Go.Acq
open Go
set_option linter.unusedSimpArgs false
set_option linter.unusedVariables false
section row
variable {n : Net} {m L : Nat} {c : Csr}
structure GoodF (n : Net) (f : List Int) : Prop where
  all : AllP n f (fun x => x = 0) [n.S, n.T]
  slf : ∀ i, i < n.Arcs.length → (n.Arcs.getD i default).fr = (n.Arcs.getD i default).to → f.getD i 0 = 0
def exR (n : Net) (m : Nat) (f : List Int) : List Int := (List.range m).map fun v => ex n.Arcs f (v : Nat) n.Arcs.length
theorem Zjk {f : List Int} {v : Nat} (h : v < m) : (exR n m f).getD v 0 = ex n.Arcs f v n.Arcs.length := by
 unfold exR
 rw [List.getD_eq_getElem?_getD, List.getElem?_map, List.getElem?_range h]; rfl
theorem resRow {f R : List Int} (r : Row n m L c) (hw : FwithinP n f) (hs : ∀ i, i < n.Arcs.length → (n.Arcs.getD i default).fr = (n.Arcs.getD i default).to → f.getD i 0 = 0) (hR : ResAt c.Arc c.Cap c.Back f L L R) : f = flN n.Arcs R ∧ ResOK n m L c R (exR n m f) := by
 have e : Z13 n.Arcs m = L := r.hL
 have key : ∀ {i : Nat} {s : Bool}, i < n.Arcs.length → (n.Arcs.getD i default).fr ≠ (n.Arcs.getD i default).to → R.getD (pos n.Arcs i s) 0 = if s then f.getD i 0 else (n.Arcs.getD i default).cap - f.getD i 0 := fun hi hne => Zfa r.is r.he (by rw [e]; exact hR) hi hne
 have hf : f = flN n.Arcs R := Zb8 0 (by rw [Zap]; exact hw.2.1) fun i hi => by
  rw [hw.2.1] at hi
  rw [Z72 hi]
  by_cases hne : (n.Arcs.getD i default).fr = (n.Arcs.getD i default).to
  · rw [if_pos hne]; exact hs i hi hne
  · rw [if_neg hne, key hi hne, if_pos rfl]
 refine ⟨hf, ⟨hR.1, by unfold exR; simp, fun j hj => ?_, fun v hv => ?_⟩⟩
 ·
  obtain ⟨i, s, hi, hne, hp, -⟩ := r.at hj
  obtain ⟨a1, a2, a3⟩ := r.cpPos hi hne s
  rw [← hp, a2, a1, key hi hne, key hi hne]
  have := hw.2.2 i hi
  cases s <;> simp only [Bool.not_true, Bool.not_false, if_true, if_false, Bool.false_eq_true] <;> omega
 · rw [Zjk hv, ← hf]
theorem ResAt.uniq {aa cs fl R R' : List Int} {bs : List Bool} (h : ResAt aa cs bs fl L L R) (h' : ResAt aa cs bs fl L L R') : R = R' :=
 Zb8 0 (by rw [h.1, h'.1]) fun j hj => by rw [h.1] at hj; rw [(h.2 j hj).2, (h'.2 j hj).2]
theorem Zmo {R X : List Int} (r : Row n m L c) (h : ResOK n m L c R X) : ResAt c.Arc c.Cap c.Back (flN n.Arcs R) L L R := by
 refine ⟨h.lr, fun j hj => ?_⟩
 obtain ⟨i, s, hi, hne, hp, q1, q2, q3, q4, q5, q6, q7, q8⟩ := r.at hj
 have hres := h.res j hj
 obtain ⟨a1, a2, a3⟩ := r.cpPos hi hne s
 rw [hp] at a1 a2
 rw [a1, a2] at hres
 have q8' : c.Back.getD j false = s := q8
 have hrr := h.res _ (r.rev hj).2.1
 unfold Zf6 resV
 rw [q7, q8', q6, Zap, Int.toNat_natCast, Z72 hi, if_neg hne]
 cases s
 ·
  simp only [Bool.not_false, Bool.false_eq_true, if_false, false_or] at hres a2 ⊢
  rw [a2] at hrr
  refine ⟨⟨by omega, by omega, by omega⟩, by omega⟩
 ·
  simp only [if_true, true_or, and_true]
  rw [hp]
  exact ⟨by omega, rfl⟩
theorem flN_mv {R : List Int} {j : Nat} {d : Int} (r : Row n m L c) (hr : R.length = L) (hj : j < L) : flN n.Arcs (mvR c R j d) = (flN n.Arcs R).set (c.Arc.getD j 0).toNat ((flN n.Arcs R).getD (c.Arc.getD j 0).toNat 0 + (if bk c j = true then -d else d)) := by
 obtain ⟨i, s, hi, hne, hp, q1, q2, q3, q4, q5, q6, q7, q8⟩ := r.at hj
 have hrj := r.rev hj
 have harc : ∀ i' s', i' < n.Arcs.length → (n.Arcs.getD i' default).fr ≠ (n.Arcs.getD i' default).to → c.Arc.getD (pos n.Arcs i' s') 0 = i' ∧ bk c (pos n.Arcs i' s') = s' := fun i' s' h1 h2 => by
  have := r.is.ok.hat i' h1 h2 s'
  exact ⟨this.2.2.2.1, this.2.2.2.2⟩
 have hra : c.Arc.getD (rv c j) 0 = i := by rw [q5]; exact (harc i _ hi hne).1
 rw [q7, Int.toNat_natCast, q8]
 refine Zb8 0 (by rw [List.length_set, Zap, Zap]) fun k hk => ?_
 rw [Zap] at hk
 rw [Z72 hk, Zbw, Zap]
 by_cases e : i = k
 ·
  subst e
  rw [if_neg hne, if_pos ⟨rfl, hi⟩, Z72 hi, if_neg hne, Z94 r hr hj]
  cases s
  · rw [q5, Bool.not_false, if_pos rfl]; simp
  ·
   rw [if_neg (fun h => by
    have h1 := (harc i true hi hne).2
    rw [h, q5] at h1
    rw [(harc i _ hi hne).2] at h1; cases h1), if_pos hp, hp]
   simp only [if_true]; omega
 ·
  rw [if_neg (show ¬(i = k ∧ i < n.Arcs.length) from fun h => e h.1), Z72 hk]
  by_cases hs : (n.Arcs.getD k default).fr = (n.Arcs.getD k default).to
  · rw [if_pos hs, if_pos hs]
  ·
   rw [if_neg hs, if_neg hs, Z94 r hr hj]
   have h1 := (harc k true hk hs).1
   rw [if_neg (fun h => by rw [h, hra] at h1; omega), if_neg (fun h => by rw [h, q7] at h1; omega)]
theorem WayD.take {R : List Int} {D : Nat → Nat} {d : Int} {u t : Nat} {w : List Nat} (h : WayD c L R D d u w t) (q : Nat) : ∃ v, WayD c L R D d u (w.take q) v := by
 induction h generalizing q with
 | nil => exact ⟨_, by rw [List.take_nil]; exact .nil _⟩
 | @cons j w t hj h0 hl hw ih =>
  cases q with
  | zero => exact ⟨_, by rw [List.take_zero]; exact .nil _⟩
  | succ q =>
   obtain ⟨v, hv⟩ := ih q
   exact ⟨v, by rw [List.take_succ_cons]; exact .cons hj h0 hl hv⟩
theorem WayD.wide {R : List Int} {D : Nat → Nat} {d e : Int} {u t : Nat} {w : List Nat} (h : WayD c L R D d u w t) (he : ∀ j, j ∈ w → e ≤ R.getD j 0) : WayD c L R D e u w t := by
 induction h with
 | nil => exact .nil _
 | cons hj h0 hl hw ih => exact .cons hj (he _ (.head _)) hl (ih fun k hk => he k (.tail _ hk))
theorem Zhu {d : Int} {j : Nat} : ∀ (w : List Nat) (R : List Int), Zel c d (w ++ [j]) R = mvR c (Zel c d w R) j d
 | [], R => rfl
 | k :: w, R => by simp only [List.cons_append, Zel]; exact Zhu w _
theorem Zjs {d : Int} : ∀ (w : List Nat) (R : List Int), (Zel c d w R).length = R.length
 | [], R => rfl
 | k :: w, R => by simp only [Zel]; rw [Zjs w, Ziz]
theorem GoodF.aug {f R : List Int} {D : Nat → Nat} {d : Int} {s t : Nat} {w : List Nat} (r : Row n m L c) (hG : GoodF n f) (hR : ResAt c.Arc c.Cap c.Back f L L R) (d0 : 0 ≤ d) (h : WayD c L R D d s w t) (hs : n.S = s) (ht : n.T = t) :
    GoodF n (flN n.Arcs (Zel c d w R)) ∧ ResAt c.Arc c.Cap c.Back (flN n.Arcs (Zel c d w R)) L L (Zel c d w R) := by
  obtain ⟨hf, hok⟩ := resRow r hG.all.1 hG.slf hR
  have hok2 := h.ok r d0 hok
  refine ⟨⟨⟨hok2.within r, fun v hv => ?_⟩, fun i hi e => by rw [Z72 hi, if_pos e]⟩, Zmo r hok2⟩
  have hm := r.hm
  have hv : v < m := by omega
  rw [← hok2.ex v hv, h.getX r hok.lr hok.lx, Zjk hv]
  by_cases e1 : s = v
  · right; rw [hs, e1]; exact .head _
  · by_cases e2 : t = v
    · right; rw [ht, e2]; exact .tail _ (.head _)
    · rw [if_neg e1, if_neg e2]
      rcases hG.all.2 v (by omega) with h1 | h1
      · left; omega
      · exact .inr h1
theorem GoodF.zero (r : Row n m L c) : GoodF n (List.replicate n.Arcs.length 0) := by
 have hg : ∀ i, (List.replicate n.Arcs.length (0 : Int)).getD i 0 = 0 := fun i => Z3r _ _ _
 refine ⟨⟨⟨r.chk, List.length_replicate, fun i hi => by rw [hg]; exact ⟨Int.le_refl _, (r.caps i hi).1⟩⟩, fun v _ => .inl ?_⟩, fun i _ _ => hg i⟩
 have : ∀ k, ex n.Arcs (List.replicate n.Arcs.length 0) v k = 0 := fun k => by
  induction k with
  | zero => rfl
  | succ k ih => simp only [ex, ih, hg]; simp
 exact this _
end row
end Go.Acq
namespace Go.Acq
open Go
set_option linter.unusedSimpArgs false
set_option linter.unusedVariables false
theorem Zmk {v : Int} {n : Nat} (hn : n ≤ 16384) : Ok (Z4b [v] n) (fun r => r = List.replicate n v) := by
 unfold Z4b Zb7
 rw [show (([v].length : Nat) : Int) = 1 from rfl, s_Mul1 (m := Z9c) (y := (n : Int)) (by omega) (by omega) (by funext x0 y1; rfl)]
 refine Ok.ite.2 ⟨fun h => by omega, fun _ => Ok.gd.2 ⟨by constructor <;> omega, Ok.gd.2 ⟨by constructor <;> omega, ?_⟩⟩⟩
 simp only [Option.bind]
 rw [if_neg (by omega)]
 unfold Z3p
 rw [if_neg (by simp; omega)]
 refine Ok.gd.2 ⟨by constructor <;> omega, Ok.gd.2 ⟨by constructor <;> omega, ?_⟩⟩
 simp only [Int.toNat_natCast]
 refine Ok.bind.2 (Ok.mono (s_double (v := v) (n := n) (step := Z3o) (by omega) (by funext xs k; rfl)) ?_)
 rintro r rfl
 exact Ok.some.2 rfl
section row
variable {n : Net} {m L : Nat} {c : Csr}
def Ze7 (m : Nat) (d : List Int) : List Bool := d.map fun x => decide (x ≠ (m : Int))
theorem Zk8 {d : List Int} {v : Nat} (h : v < d.length) : (Ze7 m d).getD v false = decide (d.getD v 0 ≠ (m : Int)) := by
 unfold Ze7
 rw [List.getD_eq_getElem?_getD, List.getD_eq_getElem?_getD, List.getElem?_map, List.getElem?_eq_getElem h]; rfl
theorem Zhd {d : List Int} {v : Nat} {x : Int} (h : x ≠ (m : Int)) : Ze7 m (d.set v x) = (Ze7 m d).set v true := by
 unfold Ze7; rw [List.map_set]; simp [h]
structure BI (c : Csr) (L m t : Nat) (R d row : List Int) : Prop where
  len : d.length = m
  pos : 0 < row.length
  fst : row.getD 0 0 = (t : Int) ∧ d.getD t 0 = 0
  nat : ∀ q, q < row.length → ∃ v : Nat, row.getD q 0 = v ∧ v < m ∧ ∃ k : Nat, d.getD v 0 = k ∧ k ≤ q
  has : ∀ v, v < m → d.getD v 0 = (m : Int) ∨ ∃ q, q < row.length ∧ row.getD q 0 = (v : Int)
  cnt : row.length = tc (Ze7 m d) m
  mono : ∀ p q, p ≤ q → q < row.length → d.getD (row.getD p 0).toNat 0 ≤ d.getD (row.getD q 0).toNat 0
  par : ∀ q, 0 < q → q < row.length → ∃ j, j < L ∧ 0 < R.getD j 0 ∧ ((tl c j : Nat) : Int) = row.getD q 0 ∧ d.getD (hd c j) 0 ≠ (m : Int) ∧ d.getD (tl c j) 0 = d.getD (hd c j) 0 + 1
theorem BI.le {t : Nat} {R d row : List Int} (h : BI c L m t R d row) : row.length ≤ m := by rw [h.cnt]; exact tc_le _ _
theorem BI.seen {t v : Nat} {R d row : List Int} (h : BI c L m t R d row) (hv : v < m) (hs : d.getD v 0 ≠ (m : Int)) : ∃ q k : Nat, q < row.length ∧ row.getD q 0 = (v : Int) ∧ d.getD v 0 = k ∧ k ≤ q ∧ k < m := by
 rcases h.has v hv with h1 | ⟨q, h1, h2⟩
 · exact absurd h1 hs
 ·
  obtain ⟨u, h3, h4, k, h5, h6⟩ := h.nat q h1
  have : u = v := by omega
  subst this
  have := h.le
  exact ⟨q, k, h1, h2, h5, h6, by omega⟩
theorem BI.at {t q : Nat} {R d row : List Int} (h : BI c L m t R d row) (hq : q < row.length) : d.getD (row.getD q 0).toNat 0 ≠ (m : Int) := by
 obtain ⟨v, h1, h2, k, h3, h4⟩ := h.nat q hq
 have := h.le
 rw [h1, Int.toNat_natCast, h3]; omega
theorem BI.put {t u w j kk : Nat} {R d row : List Int} (h : BI c L m t R d row) (hk : kk < row.length) (hku : row.getD kk 0 = (u : Int)) (hw : w < m) (hun : d.getD w 0 = (m : Int)) (hlast : ∀ q, q < row.length → d.getD (row.getD q 0).toNat 0 ≤ d.getD u 0 + 1)
    (hj : j < L) (hj0 : 0 < R.getD j 0) (hjt : tl c j = w) (hjh : hd c j = u) : BI c L m t R (d.set w (d.getD u 0 + 1)) (row ++ [(w : Int)]) := by
  have hl := h.len
  have hle := h.le
  obtain ⟨v0, g1, g2, k0, g3, g4⟩ := h.nat kk hk
  have e0 : v0 = u := by omega
  subst e0
  have hne : ∀ x : Nat, d.getD x 0 ≠ (m : Int) → (d.set w (d.getD v0 0 + 1)).getD x 0 = d.getD x 0 := fun x hx => by
    rw [Zbw, if_neg]; rintro ⟨rfl, -⟩; exact hx hun
  have hself : (d.set w (d.getD v0 0 + 1)).getD w 0 = d.getD v0 0 + 1 := by rw [Zbw, if_pos ⟨rfl, by omega⟩]
  have hat : ∀ q, q < row.length → (d.set w (d.getD v0 0 + 1)).getD (row.getD q 0).toNat 0 = d.getD (row.getD q 0).toNat 0 := fun q hq => hne _ (h.at hq)
  have hlt : (row ++ [(w : Int)]).length = row.length + 1 := by rw [List.length_append, List.length_singleton]
  have hnew : (row ++ [(w : Int)]).getD row.length 0 = (w : Int) := by rw [Z9q (Nat.le_refl _), Nat.sub_self]; rfl
  have htc : tc ((Ze7 m d).set w true) m = row.length + 1 := by
    rw [Zh9 (by unfold Ze7; rw [List.length_map]; omega) (by rw [Zk8 (by omega)]; simpa using hun), if_pos hw, h.cnt]
  have hroom : row.length + 1 ≤ m := by rw [← htc]; exact tc_le _ _
  have hcnt : (row ++ [(w : Int)]).length = tc (Ze7 m (d.set w (d.getD v0 0 + 1))) m := by
    rw [hlt, Zhd (by omega), htc]
  refine ⟨by rw [List.length_set]; exact hl, by rw [hlt]; omega, ?_, fun q hq => ?_, fun v hv => ?_, hcnt, fun p q hpq hq => ?_, fun q h0 hq => ?_⟩
  · rw [Z42 h.pos]
    have h1 := h.at h.pos
    rw [h.fst.1, Int.toNat_natCast] at h1
    exact ⟨h.fst.1, by rw [hne t h1]; exact h.fst.2⟩
  · rw [hlt] at hq
    rcases Nat.lt_or_ge q row.length with h1 | h1
    · obtain ⟨v, h2, h3, k, h4, h5⟩ := h.nat q h1
      have h6 := hat q h1
      rw [h2, Int.toNat_natCast] at h6
      exact ⟨v, by rw [Z42 h1]; exact h2, h3, k, by rw [h6]; exact h4, h5⟩
    · obtain rfl : q = row.length := by omega
      exact ⟨w, hnew, hw, k0 + 1, by rw [hself, g3]; omega, by omega⟩
  · by_cases e : v = w
    · subst e; exact .inr ⟨row.length, by rw [hlt]; omega, hnew⟩
    · rw [Zbw, if_neg (fun h => e h.1.symm)]
      rcases h.has v hv with h1 | ⟨q, h1, h2⟩
      · exact .inl h1
      · exact .inr ⟨q, by rw [hlt]; omega, by rw [Z42 h1]; exact h2⟩
  · rw [hlt] at hq
    rcases Nat.lt_or_ge q row.length with h1 | h1
    · rw [Z42 h1, Z42 (by omega), hat q h1, hat p (by omega)]; exact h.mono p q hpq h1
    · obtain rfl : q = row.length := by omega
      rw [hnew, Int.toNat_natCast, hself]
      rcases Nat.lt_or_ge p row.length with h2 | h2
      · rw [Z42 h2, hat p h2]; exact hlast p h2
      · obtain rfl : p = row.length := by omega
        rw [hnew, Int.toNat_natCast, hself]; exact Int.le_refl _
  · rw [hlt] at hq
    rcases Nat.lt_or_ge q row.length with h1 | h1
    · obtain ⟨j', a1, a2, a3, a4, a5⟩ := h.par q h0 h1
      have a6 := h.at h1
      rw [← a3, Int.toNat_natCast] at a6
      exact ⟨j', a1, a2, by rw [Z42 h1]; exact a3, by rw [hne _ a4]; exact a4, by rw [hne _ a4, hne _ a6]; exact a5⟩
    · obtain rfl : q = row.length := by omega
      have h6 : d.getD v0 0 ≠ (m : Int) := by omega
      exact ⟨j, hj, hj0, by rw [hnew, hjt], by rw [hjh, hne _ h6]; exact h6, by rw [hjt, hself, hjh, hne _ h6]⟩
structure DistP (c : Csr) (L m t : Nat) (R : List Int) (D : Nat → Nat) : Prop where
  zero : D t = 0
  le : ∀ v, v < m → D v ≤ m
  lab : ∀ j, j < L → 0 < R.getD j 0 → D (hd c j) < m → D (tl c j) < m ∧ D (tl c j) ≤ D (hd c j) + 1
  near : ∀ v, v < m → v ≠ t → D v < m → ∃ j, j < L ∧ tl c j = v ∧ 0 < R.getD j 0 ∧ D v = D (hd c j) + 1
theorem DistP.labD {t : Nat} {R : List Int} {D : Nat → Nat} (r : Row n m L c) (h : DistP c L m t R D) : LabD c L R D := fun j hj h0 => by
 have h1 := h.le _ (r.tlh hj).1
 rcases Nat.lt_or_ge (D (hd c j)) m with h2 | h2
 · exact (h.lab j hj h0 h2).2
 · omega
theorem s_ToD {R : List Int} {t : Nat} (r : Row n m L c) (hR : R.length = L) (ht : t < m) : Ok (Zao c R (t : Int)) (fun d => d.length = m ∧ ∃ D : Nat → Nat, (∀ v, v < m → d.getD v 0 = D v) ∧ DistP c L m t R D) := by
  obtain ⟨-, -, -, hN⟩ := r.ends
  obtain ⟨lF, lH, lR, -, -, -⟩ := r.lens
  have hbd := r.bd
  unfold Zao Z9a Z9p
  rw [lH, hR, hN]
  refine Ok.bind.2 (Ok.bind.2 (Ok.some.2 (Ok.ite.2 ⟨fun _ => Ok.ite.2 ⟨fun _ => Ok.some.2 (Ok.ite.2 ⟨fun h => by simp at h; omega, fun _ => Ok.bind.2 ?_⟩), fun h => by omega⟩, fun h => absurd rfl h⟩)))
  unfold Z45
  rw [hN]
  refine Ok.bind.2 (Ok.mono (Zmk (by omega)) ?_)
  rintro _ rfl
  refine Ok.gd.2 ⟨by rw [List.length_replicate]; constructor <;> omega, Ok.bind.2 ?_⟩
  have hrep : ∀ v, v < m → (List.replicate m (m : Int)).getD v 0 = (m : Int) := fun v hv => by
    rw [List.getD_eq_getElem?_getD, List.getElem?_replicate, if_pos hv]; rfl
  have hseen0 : Ze7 m (List.replicate m (m : Int)) = List.replicate m false := by unfold Ze7; simp
  simp only [Int.toNat_natCast]
  have hd0 : ∀ v, ((List.replicate m (m : Int)).set t 0).getD v 0 = if t = v then 0 else (List.replicate m (m : Int)).getD v 0 := fun v => by
    rw [Zbw, List.length_replicate]
    by_cases e : t = v
    · rw [if_pos ⟨e, ht⟩, if_pos e]
    · rw [if_neg (fun h => e h.1), if_neg e]
  refine Z8z (fun s => ∃ k : Nat, s.2.2 = k ∧ k ≤ s.2.1.length ∧ BI c L m t R s.1 s.2.1 ∧ (k < s.2.1.length → ∀ q, q < s.2.1.length → s.1.getD (s.2.1.getD q 0).toNat 0 ≤ s.1.getD (s.2.1.getD k 0).toNat 0 + 1) ∧
      ∀ p, p < k → ∀ a, a < L → ((tl c a : Nat) : Int) = s.2.1.getD p 0 → 0 < R.getD (rv c a) 0 → s.1.getD (hd c a) 0 ≠ (m : Int) ∧ s.1.getD (hd c a) 0 ≤ s.1.getD (s.2.1.getD p 0).toNat 0 + 1) (fun s => (m - s.2.2).toNat)
    ⟨0, rfl, by simp, ⟨by rw [List.length_set, List.length_replicate], by simp, ⟨rfl, by rw [hd0, if_pos rfl]⟩, fun q hq => ?_, fun v hv => ?_, ?_, fun p q hpq hq => ?_, fun q h0 hq => ?_⟩, fun _ q hq => ?_, fun p hp => by omega⟩ (by unfold Z5g; simp only; omega) ?_
  · obtain rfl : q = 0 := by simp at hq; exact hq
    exact ⟨t, rfl, ht, 0, by rw [hd0, if_pos rfl]; rfl, Nat.le_refl _⟩
  · by_cases e : t = v
    · exact .inr ⟨0, by simp, by rw [e]; rfl⟩
    · rw [hd0, if_neg e]; exact .inl (hrep v hv)
  · rw [Zhd (by omega), hseen0, Zh9 (by simpa using ht) (Z3r _ _ _), Ziu, if_pos ht]; rfl
  · obtain rfl : q = 0 := by simp at hq; exact hq
    obtain rfl : p = 0 := by omega
    exact Int.le_refl _
  · simp at hq; omega
  · obtain rfl : q = 0 := by simp at hq; exact hq
    simp only; omega
  rintro ⟨d, row, x⟩ ⟨k, h1, hk, hB, hlast, hdone⟩ P next exit
  simp only at h1 hk hB hlast hdone next ⊢
  subst h1
  have hle := hB.le
  unfold Z2n
  refine Ok.ite.2 ⟨fun hx => Ok.some.2 (exit _ ?_), fun hx => ?_⟩
  · obtain rfl : k = row.length := by omega
    unfold Z3i
    refine Ok.some.2 (Ok.some.2 ⟨hB.len, fun v => (d.getD v 0).toNat, fun v hv => ?_, ⟨by simp only [hB.fst.2]; rfl, fun v hv => ?_, fun j hj h0 hs => ?_, fun v hv hvt hs => ?_⟩⟩)
    · by_cases e : d.getD v 0 = (m : Int)
      · simp only [e]; omega
      · obtain ⟨q, k, -, -, h5, -, -⟩ := hB.seen hv e
        simp only [h5]; omega
    · by_cases e : d.getD v 0 = (m : Int)
      · simp only [e]; omega
      · obtain ⟨q, k, -, -, h5, -, h7⟩ := hB.seen hv e
        simp only [h5, Int.toNat_natCast]; omega
    · have hr := r.rev hj
      have hh := (r.head hj).2
      have htl := (r.tlh hj).1
      obtain ⟨q, k, hq, hqv, h5, h6, h7⟩ := hB.seen hh (fun e => by rw [e] at hs; omega)
      obtain ⟨g1, g2⟩ := hdone q hq (rv c j) hr.2.1 (by rw [(r.tlh hj).2.1]; exact hqv.symm) (by rw [hr.2.2.1]; exact h0)
      rw [(r.tlh hj).2.2.1] at g1 g2
      rw [hqv, Int.toNat_natCast] at g2
      obtain ⟨q', k', -, -, h5', -, h7'⟩ := hB.seen htl g1
      rw [h5'] at g2 ⊢
      omega
    · have e : d.getD v 0 ≠ (m : Int) := fun e => by rw [e] at hs; omega
      obtain ⟨q, k, hq, hqv, h5, h6, h7⟩ := hB.seen hv e
      have hq0 : 0 < q := by
        rcases Nat.eq_zero_or_pos q with h0 | h0
        · subst h0; rw [hB.fst.1] at hqv; omega
        · exact h0
      obtain ⟨j, a1, a2, a3, a4, a5⟩ := hB.par q hq0 hq
      have e2 : tl c j = v := by omega
      obtain ⟨q', k', -, -, b5, -, -⟩ := hB.seen (r.head a1).2 a4
      rw [e2, h5, b5] at a5
      exact ⟨j, a1, e2, a2, by rw [h5, b5]; omega⟩
  have hkl : k < row.length := by omega
  obtain ⟨u, hu, hum, k0, hku, hkk⟩ := hB.nat k hkl
  have hf := r.first.1 u (by omega)
  have hf1 := r.first.1 (u + 1) (by omega)
  have hmo := r.first.2.2.2 u hum
  have eu : ((u : Int) + 1).toNat = u + 1 := by omega
  have hlast := hlast hkl
  simp only [hu, Int.toNat_natCast] at hlast
  simp only [hu, Int.toNat_natCast, hf.1]
  refine Ok.gd.2 ⟨by constructor <;> omega, Ok.gd.2 ⟨by rw [lF]; constructor <;> omega, Ok.bind.2 ?_⟩⟩
  refine Z8z (fun s => ∃ a : Nat, s.2.2 = a ∧ fs c u ≤ a ∧ a ≤ fs c (u + 1) ∧ BI c L m t R s.1 s.2.1 ∧ k < s.2.1.length ∧ s.2.1.getD k 0 = u ∧ s.1.getD u 0 = k0 ∧ (∀ q, q < s.2.1.length → s.1.getD (s.2.1.getD q 0).toNat 0 ≤ s.1.getD u 0 + 1) ∧
      (∀ p, p < k → ∀ a, a < L → ((tl c a : Nat) : Int) = s.2.1.getD p 0 → 0 < R.getD (rv c a) 0 → s.1.getD (hd c a) 0 ≠ (m : Int) ∧ s.1.getD (hd c a) 0 ≤ s.1.getD (s.2.1.getD p 0).toNat 0 + 1) ∧
      ∀ b, fs c u ≤ b → b < a → 0 < R.getD (rv c b) 0 → s.1.getD (hd c b) 0 ≠ (m : Int) ∧ s.1.getD (hd c b) 0 ≤ s.1.getD u 0 + 1) (fun s => (fs c (u + 1) - s.2.2).toNat)
    ⟨_, rfl, Nat.le_refl _, hmo.1, hB, hkl, hu, hku, hlast, hdone, fun b h1 h2 => by omega⟩ (by unfold Z5g; simp only; omega) ?_
  rintro ⟨d2, row2, y⟩ ⟨a, h1, ha0, ha1, hB2, hkl2, hku2, hk02, hlast2, hdone2, hpart⟩ P2 next2 exit2
  simp only at h1 hB2 hkl2 hku2 hk02 hlast2 hdone2 hpart next2 ⊢
  subst h1
  have hle2 := hB2.le
  have hl2 := hB2.len
  unfold Z2m
  simp only [hu, eu, hf1.1, Int.toNat_natCast, hN]
  refine Ok.gd.2 ⟨by constructor <;> omega, Ok.gd.2 ⟨by rw [lF]; constructor <;> omega, Ok.ite.2 ⟨fun hy => ?_, fun hy => Ok.some.2 (exit2 _ ?_)⟩⟩⟩
  · have haL : a < L := by omega
    have hh := r.head haL
    have hr := r.rev haL
    have htl : tl c a = u := (r.range haL hum).1 ⟨ha0, by omega⟩
    simp only [hh.1, Int.toNat_natCast]
    refine Ok.gd.2 ⟨by rw [lH]; constructor <;> omega, Ok.gd.2 ⟨by rw [hl2]; constructor <;> omega, Ok.ite.2 ⟨fun hs => ?_, fun hs => Ok.bind.2 ?_⟩⟩⟩
    · refine Ok.gd.2 ⟨by constructor <;> omega, Ok.some.2 (next2 _ ⟨a + 1, by simp, by omega, by omega, hB2, hkl2, hku2, hk02, hlast2, hdone2, fun b b1 b2 b3 => ?_⟩ (by simp only; omega))⟩
      rcases Nat.lt_or_ge b a with h4 | h4
      · exact hpart b b1 h4 b3
      · obtain rfl : b = a := by omega
        obtain ⟨q, k', hq, hqv, -, -, -⟩ := hB2.seen hh.2 (show d2.getD (hd c b) 0 ≠ (m : Int) by omega)
        have := hlast2 q hq
        rw [hqv, Int.toNat_natCast] at this
        exact ⟨show d2.getD (hd c b) 0 ≠ (m : Int) by omega, this⟩
    · unfold Za5
      simp only [Int.toNat_natCast, hr.1]
      have hun : d2.getD (hd c a) 0 = (m : Int) := by
        rcases hB2.has _ hh.2 with h | ⟨q, h1, h2⟩
        · exact h
        · obtain ⟨v, g1, g2, k', g3, g4⟩ := hB2.nat q h1
          have : v = hd c a := by omega
          subst this; omega
      refine Ok.gd.2 ⟨by rw [lR]; constructor <;> omega, Ok.gd.2 ⟨by rw [hR]; constructor <;> omega, Ok.some.2 (Ok.ite.2 ⟨fun hb => ?_, fun hb => ?_⟩)⟩⟩
      · have hb : ¬ 0 < R.getD (rv c a) 0 := by simpa using hb
        refine Ok.gd.2 ⟨by constructor <;> omega, Ok.some.2 (next2 _ ⟨a + 1, by simp, by omega, by omega, hB2, hkl2, hku2, hk02, hlast2, hdone2, fun b b1 b2 b3 => ?_⟩ (by simp only; omega))⟩
        rcases Nat.lt_or_ge b a with h4 | h4
        · exact hpart b b1 h4 b3
        · obtain rfl : b = a := by omega
          exact absurd b3 hb
      · have hb : 0 < R.getD (rv c a) 0 := by simpa using hb
        have hB3 := hB2.put (j := rv c a) hkl2 hku2 hh.2 hun hlast2 hr.2.1 hb (r.tlh haL).2.1 (by rw [(r.tlh haL).2.2.1]; exact htl)
        have hle3 := hB3.le
        rw [List.length_append, List.length_singleton] at hle3
        have hne : ∀ x : Nat, d2.getD x 0 ≠ (m : Int) → (d2.set (hd c a) (d2.getD u 0 + 1)).getD x 0 = d2.getD x 0 := fun x hx => by
          rw [Zbw, if_neg]; rintro ⟨rfl, -⟩; exact hx hun
        have hself : (d2.set (hd c a) (d2.getD u 0 + 1)).getD (hd c a) 0 = d2.getD u 0 + 1 := by rw [Zbw, if_pos ⟨rfl, by omega⟩]
        have hus : d2.getD u 0 ≠ (m : Int) := by omega
        have huu := hne u hus
        have up : ∀ x : Nat, ∀ z : Int, d2.getD x 0 ≠ (m : Int) ∧ d2.getD x 0 ≤ z → (d2.set (hd c a) (d2.getD u 0 + 1)).getD x 0 ≠ (m : Int) ∧ (d2.set (hd c a) (d2.getD u 0 + 1)).getD x 0 ≤ z := fun x z hx => by
          rw [hne x hx.1]; exact hx
        refine Ok.gd.2 ⟨by rw [hl2]; constructor <;> omega, Ok.gd.2 ⟨by constructor <;> omega, Ok.gd.2 ⟨by rw [hl2]; constructor <;> omega, Ok.gd.2 ⟨by rw [List.length_append, List.length_singleton]; constructor <;> omega, Ok.gd.2 ⟨by constructor <;> omega, Ok.some.2 (next2 _ ⟨a + 1, by simp, by omega, by omega, hB3, by simp only [List.length_append, List.length_singleton]; omega, by simp only; rw [Z42 hkl2]; exact hku2, by simp only; rw [huu]; exact hk02, fun q hq => ?_, fun p hp b hbL hbt hb0 => ?_, fun b b1 b2 b3 => ?_⟩ (by simp only; omega))⟩⟩⟩⟩⟩
        · simp only [List.length_append, List.length_singleton] at hq ⊢
          rw [huu]
          rcases Nat.lt_or_ge q row2.length with h4 | h4
          · rw [Z42 h4, hne _ (hB2.at h4)]; exact hlast2 q h4
          · obtain rfl : q = row2.length := by omega
            rw [Z9q (Nat.le_refl _), Nat.sub_self]
            show (d2.set (hd c a) (d2.getD u 0 + 1)).getD ((hd c a : Nat) : Int).toNat 0 ≤ _
            rw [Int.toNat_natCast, hself]; exact Int.le_refl _
        · simp only at hbt ⊢
          rw [Z42 (by omega)] at hbt ⊢
          rw [hne _ (hB2.at (show p < row2.length by omega))]
          exact up _ _ (hdone2 p hp b hbL hbt hb0)
        · simp only
          rw [huu]
          rcases Nat.lt_or_ge b a with h4 | h4
          · exact up _ _ (hpart b b1 h4 b3)
          · obtain rfl : b = a := by omega
            rw [hself]; exact ⟨by omega, Int.le_refl _⟩
  · obtain rfl : a = fs c (u + 1) := by omega
    unfold Z3j
    refine Ok.gd.2 ⟨by constructor <;> omega, Ok.some.2 (next _ ⟨k + 1, by simp, by simp only; omega, hB2, fun hlt q hq => ?_, fun p hp b hbL hbt hb0 => ?_⟩ (by simp only; omega))⟩
    · simp only at hlt hq ⊢
      have h4 := hB2.mono k (k + 1) (by omega) hlt
      have h5 := hlast2 q hq
      rw [hku2, Int.toNat_natCast] at h4
      omega
    · simp only at hbt ⊢
      rcases Nat.lt_or_ge p k with h4 | h4
      · exact hdone2 p h4 b hbL hbt hb0
      · obtain rfl : p = k := by omega
        rw [hku2] at hbt ⊢
        rw [Int.toNat_natCast]
        have hrg := (r.range hbL hum).2 (by omega)
        exact hpart b hrg.1 hrg.2 hb0
end row
end Go.Acq
namespace Go.Acq
open Go
set_option linter.unusedSimpArgs false
set_option linter.unusedVariables false
section row
variable {n : Net} {m L : Nat} {c : Csr}
theorem WayD.snoc {R : List Int} {D : Nat → Nat} {d : Int} {u v j : Nat} {w : List Nat} (h : WayD c L R D d u w v) (hj : j < L) (hd0 : d ≤ R.getD j 0) (hl : D (tl c j) = D (hd c j) + 1) (hv : tl c j = v) : WayD c L R D d u (w ++ [j]) (hd c j) := by
 induction h with
 | nil v => subst hv; exact .cons hj hd0 hl (.nil _)
 | cons hj' h0' hl' hw ih => exact .cons hj' h0' hl' (ih hv)
def OpenR (c : Csr) (L : Nat) (R : List Int) (u v : Nat) : Prop := ∃ j, j < L ∧ tl c j = u ∧ hd c j = v ∧ 0 < R.getD j 0
theorem s_nearer {R d : List Int} {D : Nat → Nat} {t v : Nat} (r : Row n m L c) (hR : R.length = L) (hdl : d.length = m) (hdD : ∀ v, v < m → d.getD v 0 = D v) (hD : DistP c L m t R D) (hv : v < m) (hvt : v ≠ t) (hs : D v < m) :
    Ok (Z6y c R d (v : Int)) (fun a => ∃ j : Nat, a = j ∧ j < L ∧ tl c j = v ∧ 0 < R.getD j 0 ∧ D v = D (hd c j) + 1) := by
  obtain ⟨lF, lH, lR, -, -, -⟩ := r.lens
  have hbd := r.bd
  have hf := r.first.1 v (by omega)
  have hf1 := r.first.1 (v + 1) (by omega)
  have hmo := r.first.2.2.2 v hv
  have eu : ((v : Int) + 1).toNat = v + 1 := by omega
  unfold Z6y
  simp only [Int.toNat_natCast, hf.1]
  refine Ok.gd.2 ⟨by rw [lF]; constructor <;> omega, Ok.bind.2 ?_⟩
  refine Z8z (fun s => ∃ a : Nat, s = a ∧ fs c v ≤ a ∧ a ≤ fs c (v + 1) ∧ ∀ b, fs c v ≤ b → b < a → ¬(0 < R.getD b 0 ∧ D (hd c b) < D v)) (fun s => (fs c (v + 1) - s).toNat) ⟨_, rfl, Nat.le_refl _, hmo.1, fun b h1 h2 => by omega⟩ (by unfold Z5g; omega) ?_
  rintro x ⟨a, h1, ha0, ha1, hno⟩ P next exit
  subst h1
  unfold Z5j
  simp only [eu, hf1.1, Int.toNat_natCast]
  have go : ∀ b : Bool, a < fs c (v + 1) → (b = true ↔ (0 < R.getD a 0 ∧ D (hd c a) < D v)) → Ok (Z4r (a : Int) b) P := by
    intro b hal hb
    have haL : a < L := by omega
    have htl : tl c a = v := (r.range haL hv).1 ⟨ha0, hal⟩
    unfold Z4r
    refine Ok.ite.2 ⟨fun h => ?_, fun h => ?_⟩
    · obtain ⟨h1, h2⟩ := hb.1 h
      have h3 := hD.labD r a haL h1
      rw [htl] at h3
      exact Ok.some.2 (exit _ (Ok.some.2 ⟨a, rfl, haL, htl, h1, by omega⟩))
    · refine Ok.gd.2 ⟨by constructor <;> omega, Ok.some.2 (next _ ⟨a + 1, by simp, by omega, by omega, fun b' b1 b2 b3 => ?_⟩ (by omega))⟩
      rcases Nat.lt_or_ge b' a with h4 | h4
      · exact hno b' b1 h4 b3
      · obtain rfl : b' = a := by omega
        exact h (hb.2 b3)
  refine Ok.gd.2 ⟨by constructor <;> omega, Ok.gd.2 ⟨by rw [lF]; constructor <;> omega, Ok.ite.2 ⟨fun hx => ?_, fun hx => Ok.some.2 (exit _ ?_)⟩⟩⟩
  · have haL : a < L := by omega
    have hh := r.head haL
    simp only [hh.1, Int.toNat_natCast]
    refine Ok.gd.2 ⟨by rw [hR]; constructor <;> omega, Ok.ite.2 ⟨fun h0 => ?_, fun h0 => go false (by omega) ⟨fun h => (by cases h), fun h => absurd h.1 h0⟩⟩⟩
    refine Ok.gd.2 ⟨by rw [lH]; constructor <;> omega, Ok.gd.2 ⟨by rw [hdl]; constructor <;> omega, Ok.gd.2 ⟨by rw [hdl]; constructor <;> omega, go _ (by omega) ?_⟩⟩⟩
    rw [hdD _ hh.2, hdD _ hv, decide_eq_true_eq]
    exact ⟨fun h => ⟨h0, by omega⟩, fun h => by omega⟩
  · exfalso
    obtain ⟨j, a1, a2, a3, a4⟩ := hD.near v hv hvt hs
    have hrg := (r.range a1 hv).2 a2
    exact hno j hrg.1 (by omega) ⟨a3, by omega⟩
theorem s_WayD {R : List Int} {s t : Nat} (r : Row n m L c) (hR : R.length = L) (hs : s < m) (ht : t < m) :
    Ok (Z9l c R (s : Int) (t : Int)) (fun o => (o.2 = false ∧ ¬Reach (OpenR c L R) s t) ∨ (o.2 = true ∧ ∃ (D : Nat → Nat) (w : List Nat), o.1 = w.map (fun j : Nat => (j : Int)) ∧ WayD c L R D 1 s w t ∧ LabD c L R D ∧ D t = 0 ∧ D s < m ∧ w.length ≤ m)) := by
  obtain ⟨-, -, -, hN⟩ := r.ends
  obtain ⟨lF, lH, lR, -, -, -⟩ := r.lens
  have hbd := r.bd
  unfold Z9l
  rw [hN]
  refine Ok.bind.2 (Ok.mono (s_ToD r hR ht) ?_)
  rintro d ⟨hdl, D, hdD, hD⟩
  refine Ok.ite.2 ⟨fun h => by omega, fun _ => Ok.ite.2 ⟨fun h => by omega, fun _ => Ok.gd.2 ⟨by rw [hdl]; constructor <;> omega, ?_⟩⟩⟩
  unfold Z5a
  rw [Int.toNat_natCast, hdD s hs]
  refine Ok.ite.2 ⟨fun h => Ok.some.2 (.inl ⟨rfl, fun hr => ?_⟩), fun h => Ok.bind.2 ?_⟩
  · have h : D s = m := by have := of_decide_eq_true h; omega
    have key : ∀ v, Reach (OpenR c L R) s v → v < m ∧ D v = m := fun v hr => by
      induction hr with
      | refl => exact ⟨hs, h⟩
      | step _ hg ih =>
        obtain ⟨j, g1, g2, g3, g4⟩ := hg
        obtain ⟨i1, i2⟩ := ih
        have hw := (r.head g1).2
        rw [g3] at hw
        refine ⟨hw, ?_⟩
        have h1 := hD.le _ hw
        rcases Nat.lt_or_ge (D (hd c j)) m with h2 | h2
        · have := (hD.lab j g1 g4 h2).1
          rw [g2] at this; omega
        · rw [g3] at h2; omega
    have := key t hr
    have := hD.zero
    omega
  · have h : D s < m := by have := hD.le s hs; have h : ¬ ((D s : Nat) : Int) = (m : Int) := fun e => h (decide_eq_true e)
                           omega
    refine Z8z (fun z => ∃ (w : List Nat) (v : Nat), z.1 = w.map (fun j : Nat => (j : Int)) ∧ z.2 = v ∧ v < m ∧ D v < m ∧ WayD c L R D 1 s w v) (fun z => D z.2.toNat) ⟨[], s, rfl, rfl, hs, h, .nil _⟩ (by unfold Z5g; simp only [Int.toNat_natCast]; omega) ?_
    rintro ⟨o, x⟩ ⟨w, v, h1, h2, h3, h4, hw⟩ P next exit
    simp only at h1 h2 next ⊢
    subst h1; subst h2
    have hlen := hw.len
    unfold Z6z
    refine Ok.ite.2 ⟨fun hx => ?_, fun hx => Ok.some.2 (exit _ ?_)⟩
    · refine Ok.bind.2 (Ok.mono (s_nearer r hR hdl hdD hD h3 (by omega) h4) ?_)
      rintro a ⟨j, rfl, hj, hjt, hj0, hjd⟩
      have hh := r.head hj
      refine Ok.ite.2 ⟨fun h => by omega, fun _ => Ok.gd.2 ⟨by rw [List.length_append, List.length_map, List.length_singleton]; constructor <;> omega, Ok.gd.2 ⟨by rw [lH]; constructor <;> omega, Ok.some.2 (next _ ⟨w ++ [j], hd c j, by simp, by simp only [Int.toNat_natCast]; exact hh.1, hh.2, by omega, hw.snoc hj (by omega) (by rw [hjt]; exact hjd) hjt⟩ ?_)⟩⟩⟩
      simp only [Int.toNat_natCast, hh.1]; omega
    · have e : v = t := by omega
      subst e
      unfold Z85
      exact Ok.some.2 (.inr ⟨rfl, D, w, rfl, hw, hD.labD r, hD.zero, h, by omega⟩)
end row
end Go.Acq
namespace Go.Acq
open Go
set_option linter.unusedSimpArgs false
set_option linter.unusedVariables false
section row
variable {n : Net} {m L : Nat} {c : Csr}
theorem Zgd : ∀ k : Nat, Zbs (fun _ => 1) k = (k : Int)
 | 0 => rfl
 | k + 1 => by simp only [Zbs, Zgd k]; omega
theorem Zkj {al : List Arc} {m : Nat} (he : Z4i m al) : Z13 al m ≤ 2 * al.length := by
 have h1 := posSum he (fun _ => 1)
 rw [Zgd] at h1
 have h2 : Zbs (fun i => if (al.getD i default).fr = (al.getD i default).to then 0 else (1 : Int) + 1) al.length ≤ Zbs (fun i => (fun _ => (1 : Int)) i + (fun _ => (1 : Int)) i) al.length := Zmf fun i _ => by
  simp only; split <;> omega
 rw [Ze2, Zgd] at h2
 omega
theorem resOK_of {f : List Int} (r : Row n m L c) (hw : FwithinP n f) : ∀ j, j < L → Zf6 c.Arc c.Cap c.Back f j := fun j hj => by
 obtain ⟨i, s, hi, hne, hp, q1, q2, q3, q4, q5, q6, q7, q8⟩ := r.at hj
 have q8' : c.Back.getD j false = s := q8
 have := hw.2.2 i hi
 have := hw.2.1
 unfold Zf6
 rw [q7, q8', q6, Int.toNat_natCast]
 refine ⟨by omega, ?_⟩
 cases s
 · right; simp only [Bool.false_eq_true, if_false]; assumption
 · exact .inl rfl
theorem openR_of {f R : List Int} {u v : Nat} (r : Row n m L c) (hR : ResAt c.Arc c.Cap c.Back f L L R) (h : Zc9 n f u v) : OpenR c L R u v := by
 have e := r.hL
 have hu : u < m := by
  obtain ⟨i, hi, _, h1⟩ := h
  have h0 := r.he i hi false
  have h2 := r.he i hi true
  simp only [vtx, Bool.false_eq_true, if_false, if_true] at h0 h2
  omega
 obtain ⟨j, h1, h2, h3, h4⟩ := (Zhi r.is r.he (by rw [e]; exact hR) (v := v) hu false).2 (by simpa using h)
 have hmo := Z3y (al := n.Arcs) (show u + 1 ≤ m by omega)
 have hjL : j < L := by omega
 have h3 := of_decide_eq_true h3
 simp only [Bool.false_eq_true, if_false] at h3
 have hf := (r.first.1 u (by omega)).2
 have hf1 := (r.first.1 (u + 1) (by omega)).2
 have hh := (r.head hjL).1
 exact ⟨j, hjL, (r.range hjL hu).1 ⟨by omega, by omega⟩, by omega, h3⟩
theorem Zhq {w : List Nat} {q : Nat} (h : q < w.length) : (w.map (fun j : Nat => (j : Int))).getD q 0 = ((w.getD q 0 : Nat) : Int) := by
 rw [List.getD_eq_getElem?_getD, List.getD_eq_getElem?_getD, List.getElem?_map, List.getElem?_eq_getElem h]; rfl
theorem Zka {n : Net} {m : Nat} (hm : n.N = m) (hk : Z64 n.N n.S n.T n.Arcs = 0) (hlen : n.Arcs.length ≤ 24) (hm12 : m ≤ 12) :
    Ok (Z37 n (List.replicate n.Arcs.length 0) 600) (fun t => t.2 = true ∧ GoodF n t.1 ∧ ¬Reach (Zc9 n t.1) n.S.toNat n.T.toNat) := by
  have hll : lenok n.Arcs.length := by omega
  unfold Z37
  refine Ok.bind.2 (Ok.mono (s_Make hm hk hll) ?_)
  rintro ⟨c, e⟩ ⟨hc, he0⟩
  simp only at hc he0 ⊢
  subst he0
  obtain ⟨L, hL⟩ : ∃ L, Z13 n.Arcs m = L := ⟨_, rfl⟩
  have r : Row n m L c := ⟨hc, hk, hm, hL⟩
  obtain ⟨⟨S, hS, -, hSm⟩, ⟨T, hT, -, hTm⟩, hST, -⟩ := r.ends
  obtain ⟨lF, lH, lR, lC, lA, lB⟩ := r.lens
  have hbd := r.bd
  have hb2 := Zkj r.he
  have hmul : m * (L + 1) ≤ 12 * (L + 1) := Nat.mul_le_mul_right _ hm12
  rw [hS, hT, Int.toNat_natCast, Int.toNat_natCast]
  refine Ok.ite.2 ⟨fun h => absurd rfl h, fun _ => Ok.bind.2 ?_⟩
  refine Z8z (fun s => ∃ k μ : Nat, s.2 = k ∧ GoodF n s.1 ∧ k + μ ≤ m * (L + 1) ∧ ∀ R, ResAt c.Arc c.Cap c.Back s.1 L L R → StepsD m L c R S T μ) (fun s => (600 - s.2).toNat)
    ⟨0, m * (L + 1), rfl, GoodF.zero r, by omega, fun R _ => Zin R S T⟩ (by unfold Z5g; simp only; omega) ?_
  rintro ⟨f, x⟩ ⟨k, μ, h1, hG, hkm, hSt⟩ P next exit
  simp only at h1 hG hSt next ⊢
  subst h1
  unfold Z2q
  refine Ok.ite.2 ⟨fun hx => ?_, fun hx => by omega⟩
  refine Ok.bind.2 (Ok.mono (s_Res lH lC lA lB hbd.2.2.2 (fun j hj => by obtain ⟨i, s, hi, hne, hp, q1, q2, q3, q4, q5, q6, q7, q8⟩ := r.at hj; omega) (fun j hj => by obtain ⟨h1, h2, h3, h4, h5, h6⟩ := r.cap hj; have := (r.cap (r.rev hj).2.1).1; omega)) ?_)
  rintro ⟨R, e⟩ (⟨-, he, hR⟩ | ⟨⟨j, hj, hn⟩, -⟩)
  rotate_left
  · exact absurd (resOK_of r hG.all.1 j hj) hn
  simp only at he hR ⊢
  subst he
  obtain ⟨hfl, hok⟩ := resRow r hG.all.1 hG.slf hR
  have hst := hSt R hR
  refine Ok.ite.2 ⟨fun h => absurd rfl h, fun _ => ?_⟩
  rw [hS, hT]
  refine Ok.bind.2 (Ok.mono (s_WayD r hR.1 hSm hTm) ?_)
  rintro ⟨wl, ok⟩ (⟨hf, hno⟩ | ⟨hf, D, w, hwl, hw, hD, hDt, hDs, hwlen⟩)
  · simp only at hf ⊢
    subst hf
    exact Ok.ite.2 ⟨fun _ => Ok.some.2 (exit _ (Ok.some.2 ⟨rfl, hG, fun h => hno (h.mono fun u v ho => openR_of r hR ho)⟩)), fun h => absurd rfl h⟩
  simp only at hf hwl ⊢
  subst hf; subst hwl
  have hw0 : 0 < w.length := by
    rcases Nat.eq_zero_or_pos w.length with h0 | h0
    · have := List.eq_nil_of_length_eq_zero h0
      subst this
      cases hw
      omega
    · exact h0
  have hmem : ∀ q, q < w.length → w.getD q 0 ∈ w := fun q hq => Z9d hq 0
  refine Ok.ite.2 ⟨fun h => by simp at h, fun _ => Ok.bind.2 ?_⟩
  refine Z8z (fun s => ∃ q : Nat, s.2 = q ∧ q ≤ w.length ∧ 1 ≤ s.1 ∧ s.1 ≤ 4611686018427387904 ∧ (∀ i, i < q → s.1 ≤ R.getD (w.getD i 0) 0) ∧ (s.1 = 4611686018427387904 ∨ ∃ i, i < q ∧ R.getD (w.getD i 0) 0 = s.1)) (fun s => (w.length - s.2).toNat)
    ⟨0, rfl, by omega, by simp only; omega, Int.le_refl _, fun i hi => by omega, .inl rfl⟩ (by unfold Z5g; simp only; omega) ?_
  rintro ⟨d, x⟩ ⟨q, h1, hq, hd1, hd2, hdle, hdat⟩ P2 next2 exit2
  simp only at h1 hd1 hd2 hdle hdat next2 ⊢
  subst h1
  unfold Z2p
  rw [List.length_map]
  refine Ok.ite.2 ⟨fun hx => ?_, fun hx => Ok.some.2 (exit2 _ ?_)⟩
  · have hql : q < w.length := by omega
    obtain ⟨a1, a2, -, -⟩ := hw.mem _ (hmem q hql)
    simp only [Int.toNat_natCast, Zhq hql]
    refine Ok.gd.2 ⟨by constructor <;> omega, Ok.gd.2 ⟨by rw [hR.1]; constructor <;> omega, Ok.gd.2 ⟨by constructor <;> omega, Ok.some.2 (next2 _ ⟨q + 1, by simp, by omega, by simp only; omega, by simp only; omega, fun i hi => ?_, ?_⟩ (by simp only; omega))⟩⟩⟩
    · simp only
      rcases Nat.lt_or_ge i q with h4 | h4
      · have := hdle i h4; omega
      · obtain rfl : i = q := by omega
        omega
    · simp only
      rcases Int.le_total d (R.getD (w.getD q 0) 0) with h4 | h4
      · rw [Int.min_eq_left h4]
        rcases hdat with h5 | ⟨i, h5, h6⟩
        · exact .inl h5
        · exact .inr ⟨i, by omega, h6⟩
      · rw [Int.min_eq_right h4]
        exact .inr ⟨q, by omega, rfl⟩
  obtain rfl : q = w.length := by omega
  have hall : ∀ j, j ∈ w → d ≤ R.getD j 0 := fun j hj => by
    obtain ⟨i, hi, rfl⟩ := List.getElem_of_mem hj
    have := hdle i hi
    rw [List.getD_eq_getElem?_getD (l := w), List.getElem?_eq_getElem hi] at this
    exact this
  have hmin : ∃ j, j ∈ w ∧ R.getD j 0 = d := by
    rcases hdat with h5 | ⟨i, h5, h6⟩
    · obtain ⟨a1, -, -, -⟩ := hw.mem _ (hmem 0 hw0)
      have h7 := hok.rle r a1
      have h8 := hall _ (hmem 0 hw0)
      exact ⟨_, hmem 0 hw0, by omega⟩
    · exact ⟨_, hmem i h5, h6⟩
  have hwd := hw.wide hall
  obtain ⟨ν, hν, hst2⟩ := hst.step r hR.1 hwd hD hDt hDs (by omega) hmin
  unfold Z3l
  have hfl2 : f.length = n.Arcs.length := hG.all.1.2.1
  refine Ok.gd.2 ⟨by constructor <;> omega, Ok.bind.2 ?_⟩
  refine Z8z (fun s => ∃ q : Nat, s.2 = q ∧ q ≤ w.length ∧ s.1 = flN n.Arcs (Zel c d (w.take q) R)) (fun s => (w.length - s.2).toNat) ⟨0, rfl, by omega, by simp only [List.take_zero, Zel]; exact hfl⟩ (by unfold Z5g; simp only; omega) ?_
  rintro ⟨g, x⟩ ⟨q, h1, hq, hg⟩ P3 next3 exit3
  simp only at h1 hg next3 ⊢
  subst h1
  unfold Z2o
  rw [List.length_map]
  refine Ok.ite.2 ⟨fun hx => ?_, fun hx => Ok.some.2 (exit3 _ ?_)⟩
  · have hql : q < w.length := by omega
    obtain ⟨a1, a2, -, -⟩ := hw.mem _ (hmem q hql)
    obtain ⟨j, hj⟩ : ∃ j, w.getD q 0 = j := ⟨_, rfl⟩
    rw [hj] at a1 a2
    have htk : w.take (q + 1) = w.take q ++ [j] := by
      rw [List.take_succ_eq_append_getElem hql, ← hj, List.getD_eq_getElem?_getD, List.getElem?_eq_getElem hql]; rfl
    obtain ⟨v, hv⟩ := hwd.take (q + 1)
    have hok3 := hv.ok r (by omega) hok
    have hw3 := hok3.within r
    have hlq : (Zel c d (w.take q) R).length = L := by rw [Zjs]; exact hR.1
    have hmv := flN_mv (d := d) r hlq a1
    have haug : Zel c d (w.take (q + 1)) R = mvR c (Zel c d (w.take q) R) j d := by rw [htk]; exact Zhu _ _
    rw [haug, hmv] at hw3
    obtain ⟨i, s, hi, hne, hp, q1, q2, q3, q4, q5, q6, q7, q8⟩ := r.at a1
    have hgl : g.length = n.Arcs.length := by rw [hg, Zap]
    rw [← hg, q7, Int.toNat_natCast] at hmv hw3
    have hval := hw3.2.2 i hi
    rw [Zgk (by omega)] at hval
    have hcap := r.caps i hi
    have q8' : c.Back.getD j false = bk c j := rfl
    simp only [Int.toNat_natCast, Zhq hql, hj, q7, q8']
    have fin : ∀ y : Int, y = g.getD i 0 + (if bk c j = true then -d else d) → Ok (some (Sum.inl (g.set i y, (q : Int) + 1))) P3 := fun y hy => by
      subst hy
      exact Ok.some.2 (next3 _ ⟨q + 1, by simp, by omega, by simp only; rw [haug, hmv]⟩ (by simp only; omega))
    refine Ok.gd.2 ⟨by constructor <;> omega, Ok.gd.2 ⟨by rw [lB]; constructor <;> omega, Ok.ite.2 ⟨fun hb => ?_, fun hb => ?_⟩⟩⟩
    · rw [if_pos hb] at hval fin
      exact Ok.gd.2 ⟨by rw [lA]; constructor <;> omega, Ok.gd.2 ⟨by constructor <;> omega, Ok.gd.2 ⟨by constructor <;> omega, Ok.gd.2 ⟨by constructor <;> omega, Ok.gd.2 ⟨by constructor <;> omega, fin _ (by omega)⟩⟩⟩⟩⟩
    · rw [if_neg hb] at hval fin
      exact Ok.gd.2 ⟨by rw [lA]; constructor <;> omega, Ok.gd.2 ⟨by constructor <;> omega, Ok.gd.2 ⟨by constructor <;> omega, Ok.gd.2 ⟨by constructor <;> omega, Ok.gd.2 ⟨by constructor <;> omega, fin _ rfl⟩⟩⟩⟩⟩
  · obtain rfl : q = w.length := by omega
    rw [List.take_length] at hg
    obtain ⟨hG2, hR2⟩ := hG.aug r hR (by omega) hwd hS hT
    unfold Z3k
    refine Ok.gd.2 ⟨by constructor <;> omega, Ok.some.2 (next _ ⟨k + 1, ν, by simp, by simp only; rw [hg]; exact hG2, by omega, fun R' hR' => ?_⟩ (by simp only; omega))⟩
    simp only at hR'
    rw [hg] at hR'
    rw [hR'.uniq hR2]
    exact hst2
end row
end Go.Acq
namespace Go.Acq
open Go
set_option linter.unusedSimpArgs false
section row
variable {n : Net} {m L : Nat} {c : Csr}
def HeightsP (n : Net) (m : Nat) (h : List Int) : Prop := h.length = m ∧ (∀ s : Nat, n.S = s → h.getD s 0 = m) ∧ (∀ t : Nat, n.T = t → h.getD t 0 = 0) ∧ ∀ v, v < m → 0 ≤ h.getD v 0 ∧ h.getD v 0 < 2 * m
structure PreOK (n : Net) (m L : Nat) (c : Csr) (p : Pre) : Prop where
  ok : ResOK n m L c p.Res p.Ex
  nn : ∀ v, v < m → (v : Int) ≠ n.S → 0 ≤ p.Ex.getD v 0
  hs : HeightsP n m p.H
  val : ∀ j, j < L → 0 < p.Res.getD j 0 → p.H.getD (tl c j) 0 ≤ p.H.getD (hd c j) 0 + 1
structure PreLen (p : Pre) : Prop where
  r : lenok p.Res.length
  x : lenok p.Ex.length
  h : lenok p.H.length
theorem PreOK.len {p : Pre} (h : PreOK n m L c p) (r : Row n m L c) : PreLen p := by
 have := r.bd
 have h1 := h.ok.lr
 have h2 := h.ok.lx
 have h3 := h.hs.1
 exact ⟨by omega, by omega, by omega⟩
end row
end Go.Acq
namespace Go.Acq
open Go
set_option linter.unusedSimpArgs false
def Zh4 (n : Net) (X : List Int) (u : Nat) : Prop := (u : Int) ≠ n.S ∧ (u : Int) ≠ n.T ∧ 0 < X.getD u 0
instance (n : Net) (X : List Int) (u : Nat) : Decidable (Zh4 n X u) := by unfold Zh4; infer_instance
def Zh2 (c : Csr) (p : Pre) (u j : Nat) : Prop := 0 < p.Res.getD j 0 ∧ p.H.getD u 0 = p.H.getD (hd c j) 0 + 1
instance (c : Csr) (p : Pre) (u j : Nat) : Decidable (Zh2 c p u j) := by unfold Zh2; infer_instance
def Zdx (n : Net) (c : Csr) (p : Pre) (u : Nat) : Prop := Zh4 n p.Ex u ∧ ∀ j, fs c u ≤ j → j < fs c (u + 1) → ¬Zh2 c p u j
instance (n : Net) (c : Csr) (p : Pre) (u : Nat) : Decidable (Zdx n c p u) :=
  if h : Zh4 n p.Ex u ∧ ∀ j, j < fs c (u + 1) → fs c u ≤ j → ¬Zh2 c p u j then .isTrue ⟨h.1, fun j a b => h.2 j b a⟩ else .isFalse fun g => h ⟨g.1, fun j a b => g.2 j b a⟩
def Zhc (p : Nat → Bool) : Nat → List Int
  | 0 => []
  | k + 1 => Zhc p k ++ (if p k = true then [(k : Int)] else [])
theorem Zge (p : Nat → Bool) : ∀ k, (Zhc p k).length ≤ k
 | 0 => Nat.le_refl _
 | k + 1 => by
  have := Zge p k
  simp only [Zhc, List.length_append]
  split <;> simp <;> omega
section row
variable {n : Net} {m L : Nat} {c : Csr}
theorem Zje {p : Pre} {u : Nat} (r : Row n m L c) (lx : p.Ex.length = m) (hu : u < m) : Z97 c p (u : Nat) = some (decide (Zh4 n p.Ex u)) := by
 have h2 := r.is.hS
 have h3 := r.is.hT
 unfold Z97 Zh4
 rw [h2, h3]
 by_cases a : (u : Int) ≠ n.S
 ·
  by_cases b : (u : Int) ≠ n.T
  · rw [if_pos a, if_pos b, Z8l (by constructor <;> omega), Int.toNat_natCast]; simp [a, b]
  · rw [if_pos a, if_neg b]; simp [b]
 · rw [if_neg a]; simp [a]
def HtB (m : Nat) (h : List Int) : Prop := h.length = m ∧ ∀ v, v < m → -1000000 ≤ h.getD v 0 ∧ h.getD v 0 ≤ 1000000
theorem HeightsP.hb {h : List Int} (r : Row n m L c) (hh : HeightsP n m h) : HtB m h := ⟨hh.1, fun v hv => by have := hh.2.2.2 v hv; have := r.bd; omega⟩
theorem Zdj {p : Pre} {u j : Nat} (r : Row n m L c) (lr : p.Res.length = L) (hb : HtB m p.H) (hu : u < m) (hj : j < L) : Z68 c p (u : Nat) (j : Nat) = some (decide (Zh2 c p u j)) := by
 have g1 := r.head hj
 have g2 := hb.2 _ g1.2
 have := hb.1
 have := r.lens.2.1
 unfold Z68 Zh2
 simp only [Int.toNat_natCast, g1.1]
 rw [Z8l (by constructor <;> omega)]
 by_cases h : 0 < p.Res.getD j 0
 ·
  rw [if_pos h, Z8l (by constructor <;> omega), Z8l (by constructor <;> omega), Z8l (by constructor <;> omega), Z8l (by constructor <;> omega)]
  exact congrArg some (decide_eq_decide.2 ⟨fun e => ⟨h, e⟩, fun e => e.2⟩)
 ·
  rw [if_neg h]
  exact congrArg some (decide_eq_false fun e => h e.1).symm
theorem s_stuck {p : Pre} {u : Nat} (r : Row n m L c) (lr : p.Res.length = L) (lx : p.Ex.length = m) (hb : HtB m p.H) (hu : u < m) : Ok (Zbv c p (u : Nat)) (fun b => b = decide (Zdx n c p u)) := by
 have hfl := r.first.2.2.2 u hu
 unfold Zbv Zb6
 refine Ok.bind.2 (Ok.some.2 (Ok.bind.2 (Ok.mono (s_arcs r hu (fun j _ => ∀ i, fs c u ≤ i → i < j → ¬Zh2 c p u i) (fun _ => ∃ j, fs c u ≤ j ∧ j < fs c (u + 1) ∧ Zh2 c p u j) (fun i h1 h2 => by omega) fun j s h1 h2 h3 => ?_) ?_)))
 ·
  unfold Zbp
  refine Ok.bind.2 (Zbu (Zdj r lr hb hu (by omega)) (Ok.ite.2 ⟨fun h => Ok.some.2 ⟨j, h1, h2, of_decide_eq_true h⟩, fun h => Ok.some.2 fun i h4 h5 => ?_⟩))
  rcases Nat.lt_or_ge i j with h6 | h6
  · exact h3 i h4 h6
  · rw [show i = j by omega]; exact fun h7 => h (decide_eq_true h7)
 ·
  rintro (s | x) h
  ·
   refine Ok.bind.2 (Zbu (Zje r lx hu) (Ok.some.2 ?_))
   rw [Bool.eq_iff_iff, decide_eq_true_iff, decide_eq_true_iff]
   exact ⟨fun h1 => ⟨h1, h⟩, fun h1 => h1.1⟩
  ·
   obtain ⟨j, h1, h2, h3⟩ := h
   exact Ok.some.2 (decide_eq_false fun h4 => h4.2 j h1 h2 h3).symm
theorem s_all {p : Nat → Bool} {step : List Int → Int → Option ((List Int × Int) ⊕ List Int)} (hm : m ≤ 4096)
    (hs : ∀ (o : List Int) (k : Nat), k ≤ m → o.length ≤ k → step o k = if k < m then (if p k = true then some (.inl (o ++ [(k : Int)], (k : Int) + 1)) else some (.inl (o, (k : Int) + 1))) else some (.inr o)) : Ok (Z32 (fun s => step s.1 s.2) Z5g ([], 0)) (fun o => o = Zhc p m) := by
  refine Z8z (fun s => ∃ k : Nat, s.2 = k ∧ k ≤ m ∧ s.1 = Zhc p k) (fun s => (m - s.2).toNat) ⟨0, rfl, by omega, rfl⟩ (by unfold Z5g; simp only; omega) ?_
  rintro ⟨o, x⟩ ⟨k, h1, hk, ho⟩ P next exit
  simp only at h1 ho next ⊢
  subst h1; subst ho
  rw [hs _ k hk (Zge p k)]
  refine Ok.ite.2 ⟨fun hx => Ok.ite.2 ⟨fun h => Ok.some.2 (next _ ⟨k + 1, by simp, by omega, by simp only [Zhc]; rw [if_pos h]⟩ (by simp only; omega)), fun h => Ok.some.2 (next _ ⟨k + 1, by simp, by omega, by simp only [Zhc]; rw [if_neg h, List.append_nil]⟩ (by simp only; omega))⟩, fun hx => Ok.some.2 (exit _ (by rw [show k = m by omega]))⟩
theorem s_May {p : Pre} (r : Row n m L c) (lr : p.Res.length = L) (lx : p.Ex.length = m) (hb : HtB m p.H) : Zef c p = some (Zhc (fun j => decide (Zh4 n p.Ex (tl c j) ∧ Zh2 c p (tl c j) j)) L, Zhc (fun u => decide (Zdx n c p u)) m) := by
 have b := r.bd
 have hN := r.is.hN
 refine Zms ?_
 unfold Zef
 refine Ok.bind.2 (Z8z (fun s => ∃ k : Nat, s.2 = k ∧ k ≤ m ∧ s.1 = Zhc (fun j => decide (Zh4 n p.Ex (tl c j) ∧ Zh2 c p (tl c j) j)) (fs c k)) (fun s => (m - s.2).toNat) ⟨0, rfl, by omega, by rw [r.first.2.1]; rfl⟩ (by unfold Z5g; simp only; omega) ?_)
 rintro ⟨o, x⟩ ⟨k, h1, hk, ho⟩ P next exit
 simp only at h1 ho next ⊢
 subst h1
 unfold Zdl
 rw [hN]
 refine Ok.ite.2 ⟨fun hx => ?_, fun hx => Ok.some.2 (exit _ ?_)⟩
 ·
  have hkm : k < m := by omega
  have hfl := r.first.2.2.2 k hkm
  unfold Zb6
  refine Ok.bind.2 (Ok.some.2 (Ok.bind.2 (Ok.mono (s_arcs r hkm (fun j s => s = Zhc (fun j => decide (Zh4 n p.Ex (tl c j) ∧ Zh2 c p (tl c j) j)) j) (fun _ => False) ho fun j s g1 g2 g3 => ?_) ?_)))
  ·
   have hjL : j < L := by omega
   have ht := (r.range hjL hkm).1 ⟨g1, g2⟩
   subst g3
   have hle := Zge (fun j => decide (Zh4 n p.Ex (tl c j) ∧ Zh2 c p (tl c j) j)) j
   have j3 : ∀ (b : Bool) (P : List Int ⊕ Empty → Prop), (P (.inl (Zhc (fun j => decide (Zh4 n p.Ex (tl c j) ∧ Zh2 c p (tl c j) j)) (j + 1)))) → (b = true ↔ (Zh4 n p.Ex k ∧ Zh2 c p k j)) → Ok (Z98 (Zhc (fun j => decide (Zh4 n p.Ex (tl c j) ∧ Zh2 c p (tl c j) j)) j) (j : Nat) b) P := by
    intro b P hP hb
    unfold Z98
    have e : decide (Zh4 n p.Ex (tl c j) ∧ Zh2 c p (tl c j) j) = b := by rw [ht, Bool.eq_iff_iff, decide_eq_true_iff]; exact hb.symm
    refine Ok.ite.2 ⟨fun h => Ok.gd.2 ⟨?_, Ok.some.2 ?_⟩, fun h => Ok.some.2 ?_⟩
    · rw [List.length_append, List.length_singleton]; constructor <;> omega
    · simp only [Zhc] at hP; rw [if_pos (e.trans h)] at hP; exact hP
    · simp only [Zhc] at hP; rw [if_neg (by rw [e]; exact h), List.append_nil] at hP; exact hP
   unfold Zdk
   refine Ok.bind.2 (Zbu (Zje r lx hkm) (Ok.ite.2 ⟨fun h => Ok.bind.2 (Zbu (Zdj r lr hb hkm hjL) (j3 _ _ rfl ?_)), fun h => j3 false _ rfl ⟨fun h2 => (by cases h2), fun h2 => absurd (decide_eq_true h2.1) h⟩⟩))
   rw [decide_eq_true_iff]
   exact ⟨fun h2 => ⟨of_decide_eq_true h, h2⟩, fun h2 => h2.2⟩
  ·
   rintro (s | x) h
   · exact Ok.gd.2 ⟨(by omega), Ok.some.2 (next _ ⟨k + 1, by simp, by omega, h⟩ (by simp only; omega))⟩
   · exact h.elim
 ·
  obtain rfl : k = m := by omega
  unfold Zdm Zam
  refine Ok.bind.2 (Ok.bind.2 (Ok.mono (s_all (m := k) (p := fun u => decide (Zdx n c p u)) (step := fun o x => Z6v c c p o x) (by omega) fun o q hq hol => ?_) fun o2 ho2 => ?_))
  ·
   unfold Z6v Zee
   rw [hN]
   by_cases h : q < k
   ·
    obtain ⟨b, hb1, hb2⟩ := s_stuck r lr lx hb h
    rw [if_pos (by omega), if_pos h, hb1]
    simp only [Option.bind_some]
    rw [hb2]
    by_cases h2 : decide (Zdx n c p q) = true
    · rw [if_pos h2, if_pos h2, Z8l (by rw [List.length_append, List.length_singleton]; constructor <;> omega), Z8l (by constructor <;> omega)]
    · rw [if_neg h2, if_neg h2, Z8l (by constructor <;> omega)]
   · rw [if_neg (by omega), if_neg h]
  ·
   unfold Z96
   refine Ok.some.2 (Ok.some.2 ?_)
   rw [ho, r.first.2.2.1, ho2]
def pushD (c : Csr) (p : Pre) (j : Nat) : Int := min (p.Ex.getD (tl c j) 0) (p.Res.getD j 0)
def pushP (c : Csr) (p : Pre) (j : Nat) : Pre := ⟨mvR c p.Res j (pushD c p j), mvX c p.Ex j (pushD c p j), p.H⟩
theorem PreOK.push {p : Pre} {j : Nat} (h : PreOK n m L c p) (r : Row n m L c) (hj : j < L) (hA : Zh4 n p.Ex (tl c j)) (hB : Zh2 c p (tl c j) j) : PreOK n m L c (pushP c p j) := by
 have h1 := hA.2.2
 have h2 := hB.1
 have hD : pushD c p j = min (p.Ex.getD (tl c j) 0) (p.Res.getD j 0) := rfl
 have hlr := h.ok.lr
 have hlx := h.ok.lx
 have ht := r.tlh hj
 have hr := r.rev hj
 refine ⟨h.ok.move r hj (by omega) (by omega), fun v hv hvS => ?_, h.hs, fun k hk h0 => ?_⟩
 ·
  have := h.nn v hv hvS
  simp only [pushP]
  rw [Zgj r hlx hj]
  by_cases c1 : tl c j = v
  ·
   subst c1
   rw [if_pos rfl, if_neg fun e => ht.2.2.2 e.symm]; omega
  · rw [if_neg c1]; split <;> omega
 ·
  simp only [pushP] at h0 ⊢
  rw [Z94 r hlr hj] at h0
  by_cases c1 : k = rv c j
  ·
   subst c1
   rw [ht.2.1, ht.2.2.1]
   have := hB.2
   omega
  ·
   rw [if_neg c1] at h0
   by_cases c2 : k = j
   · subst c2; exact h.val k hk h2
   · rw [if_neg c2] at h0; exact h.val k hk h0
def lowN (c : Csr) (p : Pre) (m : Nat) (a : Nat) : Nat → Int
  | 0 => 2 * m
  | k + 1 => if 0 < p.Res.getD (a + k) 0 then min (lowN c p m a k) (p.H.getD (hd c (a + k)) 0) else lowN c p m a k
def Zm9 (c : Csr) (p : Pre) (m u : Nat) : Int := lowN c p m (fs c u) (fs c (u + 1) - fs c u)
def Zkf (c : Csr) (p : Pre) (m u : Nat) : Pre := ⟨p.Res, p.Ex, p.H.set u (Zm9 c p m u + 1)⟩
theorem Zmt {p : Pre} {a : Nat} : ∀ {k i : Nat}, i < k → 0 < p.Res.getD (a + i) 0 → lowN c p m a k ≤ p.H.getD (hd c (a + i)) 0
 | 0, _, h, _ => by omega
 | k + 1, i, h, h0 => by
  simp only [lowN]
  rcases Nat.lt_or_ge i k with h1 | h1
  ·
   have := Zmt h1 h0
   split <;> omega
  ·
   have : i = k := by omega
   subst this
   rw [if_pos h0]; omega
theorem Zmu (p : Pre) (a : Nat) : ∀ k : Nat, lowN c p m a k ≤ 2 * m ∧ (lowN c p m a k = 2 * m ∨ ∃ i, i < k ∧ 0 < p.Res.getD (a + i) 0 ∧ p.H.getD (hd c (a + i)) 0 = lowN c p m a k)
 | 0 => ⟨Int.le_refl _, .inl rfl⟩
 | k + 1 => by
  obtain ⟨h1, h2⟩ := Zmu p a k
  simp only [lowN]
  by_cases h : 0 < p.Res.getD (a + k) 0
  ·
   rw [if_pos h]
   refine ⟨by omega, ?_⟩
   by_cases h3 : p.H.getD (hd c (a + k)) 0 ≤ lowN c p m a k
   · exact .inr ⟨k, by omega, h, by omega⟩
   ·
    rcases h2 with h2 | ⟨i, g1, g2, g3⟩
    · exact .inl (by omega)
    · exact .inr ⟨i, by omega, g2, by omega⟩
  ·
   rw [if_neg h]
   refine ⟨h1, ?_⟩
   rcases h2 with h2 | ⟨i, g1, g2, g3⟩
   · exact .inl h2
   · exact .inr ⟨i, by omega, g2, g3⟩
theorem lowV_le {p : Pre} {u j : Nat} (r : Row n m L c) (hu : u < m) (hj : j < L) (ht : tl c j = u) (h0 : 0 < p.Res.getD j 0) : Zm9 c p m u ≤ p.H.getD (hd c j) 0 := by
 have h1 := (r.range hj hu).2 ht
 have e : fs c u + (j - fs c u) = j := by omega
 have := Zmt (c := c) (m := m) (p := p) (a := fs c u) (k := fs c (u + 1) - fs c u) (i := j - fs c u) (by omega) (by rw [e]; exact h0)
 rw [e] at this; exact this
theorem lowV_at (p : Pre) {u : Nat} (r : Row n m L c) (hu : u < m) : Zm9 c p m u ≤ 2 * m ∧ (Zm9 c p m u = 2 * m ∨ ∃ j, j < L ∧ tl c j = u ∧ 0 < p.Res.getD j 0 ∧ p.H.getD (hd c j) 0 = Zm9 c p m u) := by
 have hfl := r.first.2.2.2 u hu
 obtain ⟨h1, h2⟩ := Zmu (c := c) (m := m) p (fs c u) (fs c (u + 1) - fs c u)
 refine ⟨h1, ?_⟩
 rcases h2 with h2 | ⟨i, g1, g2, g3⟩
 · exact .inl h2
 · exact .inr ⟨fs c u + i, by omega, (r.range (by omega) hu).1 ⟨by omega, by omega⟩, g2, g3⟩
def OpenJ (c : Csr) (L : Nat) (R : List Int) (u v : Nat) : Prop := ∃ j, j < L ∧ tl c j = u ∧ hd c j = v ∧ 0 < R.getD j 0
theorem OpenJ.lt {R : List Int} (r : Row n m L c) {u v : Nat} (h : OpenJ c L R u v) : u < m ∧ v < m := by
 obtain ⟨j, h1, h2, h3, _⟩ := h
 exact ⟨by rw [← h2]; exact (r.tlh h1).1, by rw [← h3]; exact (r.head h1).2⟩
theorem Zeg {H : Nat → Int} {G : Nat → Nat → Prop} (hG : ∀ u v, G u v → H u ≤ H v + 1) {u v : Nat} (hr : Reach G u v) : ∀ k : Int, H v ≤ k → k ≤ H u → ∃ w, Reach G u w ∧ H w = k := by
 induction hr with
 | refl => intro k h1 h2; exact ⟨u, .refl, by omega⟩
 | step h1 h2 ih =>
  rename_i x y
  intro k h3 h4
  by_cases c : H x ≤ k
  · exact ih k c h4
  ·
   have := hG _ _ h2
   exact ⟨y, .step h1 h2, by omega⟩
theorem pigeon : ∀ (m : Nat) (f : Nat → Nat), (∀ k, k ≤ m → f k < m) → ∃ i j, i < j ∧ j ≤ m ∧ f i = f j
 | 0, f, h => absurd (h 0 (Nat.le_refl _)) (by omega)
 | m + 1, f, h => by
  by_cases e : ∃ i, i ≤ m ∧ f i = f (m + 1)
  ·
   obtain ⟨i, h1, h2⟩ := e
   exact ⟨i, m + 1, by omega, by omega, h2⟩
  ·
   have ne : ∀ i, i ≤ m → f i ≠ f (m + 1) := fun i hi h2 => e ⟨i, hi, h2⟩
   obtain ⟨i, j, h1, h2, h3⟩ := pigeon m (fun k => if f (m + 1) < f k then f k - 1 else f k) fun k hk => by
    have a := h k (by omega)
    have a2 := h (m + 1) (by omega)
    have a3 := ne k hk
    split <;> omega
   have a1 := ne i (by omega)
   have a2 := ne j (by omega)
   refine ⟨i, j, h1, by omega, ?_⟩
   split at h3 <;> split at h3 <;> omega
theorem Zfc {H : Nat → Int} {a : Int} (h : ∀ k : Nat, k ≤ m → ∃ w, w < m ∧ H w = a + k) : False := by
 have : ∀ k : Nat, ∃ w, k ≤ m → w < m ∧ H w = a + k := fun k => by
  by_cases c : k ≤ m
  · obtain ⟨w, hw⟩ := h k c; exact ⟨w, fun _ => hw⟩
  · exact ⟨0, fun h => absurd h c⟩
 obtain ⟨f, hf⟩ := Classical.axiomOfChoice this
 obtain ⟨i, j, h1, h2, h3⟩ := pigeon m f fun k hk => (hf k hk).1
 have a1 := (hf i (by omega)).2
 have a2 := (hf j h2).2
 rw [h3] at a1
 omega
theorem Zjg {R : List Int} (r : Row n m L c) {u v : Nat} (hu : u < m) (h : Reach (OpenJ c L R) u v) : v < m := by
 induction h with
 | refl => exact hu
 | step _ h2 _ => exact (h2.lt r).2
theorem Zf8 {R X : List Int} {S u : Nat} (r : Row n m L c) (h : ResOK n m L c R X) (hS : n.S = S) (nn : ∀ v, v < m → v ≠ S → 0 ≤ X.getD v 0) (hu : u < m) (hx : 0 < X.getD u 0) : Reach (OpenJ c L R) u S := by
 refine Classical.byContradiction fun hno => ?_
 let q : Nat → Bool := fun v => @decide (¬Reach (OpenJ c L R) u v) (Classical.propDecidable _)
 have hq : ∀ v, q v = true ↔ ¬Reach (OpenJ c L R) u v := fun v => @decide_eq_true_iff _ (Classical.propDecidable _)
 obtain ⟨cl, hcl⟩ : ∃ cl : List Bool, cl = (List.range m).map q := ⟨_, rfl⟩
 have inc : ∀ v : Nat, v < m → (inS cl v = true ↔ ¬Reach (OpenJ c L R) u v) := fun v hv => by
  unfold inS
  rw [hcl, Int.toNat_natCast, List.getD_eq_getElem?_getD, List.getElem?_map, List.getElem?_range hv]
  exact hq v
 have inf : ∀ v : Nat, v < m → (inS cl v = false ↔ Reach (OpenJ c L R) u v) := fun v hv => by
  rw [Bool.eq_false_iff, ne_eq, inc v hv]; exact Classical.not_not
 have he := r.he
 have hw := h.within r
 have hac : ∀ k, k ≤ n.Arcs.length → acK n.Arcs (flN n.Arcs R) cl k ≤ 0 := by
  intro k
  induction k with
  | zero => intro _; simp [acK]
  | succ k ih =>
   intro hk
   have h0 := he k hk false
   have h1 := he k hk true
   simp only [vtx, Bool.false_eq_true, if_false, if_true] at h0 h1
   have hf := (hw.2.2 k hk).1
   have ih := ih (by omega)
   simp only [acK]
   by_cases c1 : inS cl (n.Arcs.getD k default).fr = true ∧ inS cl (n.Arcs.getD k default).to = false
   ·
    have hz : (flN n.Arcs R).getD k 0 = 0 := by
     rw [Z72 hk]
     by_cases e : (n.Arcs.getD k default).fr = (n.Arcs.getD k default).to
     · rw [if_pos e]
     ·
      rw [if_neg e]
      obtain ⟨-, a2, a3⟩ := r.cpPos hk e true
      have z := r.is.ok.hat k hk e true
      have z2 := r.is.ok.hat k hk e false
      have nnR := (h.res _ a3).1
      refine Int.le_antisymm (Int.not_lt.1 fun hpos => ?_) nnR
      obtain ⟨p, hp⟩ : ∃ p : Nat, (n.Arcs.getD k default).fr = p := ⟨(n.Arcs.getD k default).fr.toNat, by omega⟩
      obtain ⟨t, ht⟩ : ∃ t : Nat, (n.Arcs.getD k default).to = t := ⟨(n.Arcs.getD k default).to.toNat, by omega⟩
      rw [hp, ht] at c1
      have r1 := (inf t (by omega)).1 c1.2
      refine (inc p (by omega)).1 c1.1 (.step r1 ⟨_, a3, ?_, ?_, hpos⟩)
      · unfold tl hd; rw [a2]; simp only [Bool.not_true]; rw [z2.1]; simp only [vtx, Bool.not_false, if_true, ht]; omega
      · unfold hd; rw [z.1]; simp only [vtx, Bool.not_true, Bool.false_eq_true, if_false, hp]; omega
    rw [if_pos c1, hz]; split <;> omega
   · rw [if_neg c1]; split <;> omega
 have hpc : ∀ j, j ≤ m → 0 ≤ Ze1 n.Arcs (flN n.Arcs R) cl j n.Arcs.length ∧ (u < j → 0 < Ze1 n.Arcs (flN n.Arcs R) cl j n.Arcs.length) := by
  intro j
  induction j with
  | zero => intro _; rw [show ((0 : Nat) : Int) = 0 from rfl, Zd3 he _ (Nat.le_refl _)]; exact ⟨Int.le_refl _, fun h => by omega⟩
  | succ j ih =>
   intro hj
   obtain ⟨i1, i2⟩ := ih (by omega)
   rw [Int.natCast_succ, Zd2]
   by_cases c1 : inS cl j = false
   ·
    rw [if_pos c1, ← h.ex j (by omega)]
    have hjS : j ≠ S := fun e => hno (by rw [← e]; exact (inf j (by omega)).1 c1)
    have := nn j (by omega) hjS
    refine ⟨by omega, fun hlt => ?_⟩
    by_cases e : u = j
    · subst e; omega
    · have := i2 (by omega); omega
   ·
    rw [if_neg c1]
    refine ⟨by omega, fun hlt => ?_⟩
    by_cases e : u = j
    · subst e; exact absurd ((inf u hu).2 .refl) c1
    · have := i2 (by omega); omega
 have := (hpc m (Nat.le_refl _)).2 hu
 rw [Zec he _ (Nat.le_refl _)] at this
 have := hac _ (Nat.le_refl _)
 omega
theorem Zhm {R : List Int} {H : Nat → Int} {S u : Nat} (r : Row n m L c) (hu : u < m) (hval : ∀ j, j < L → 0 < R.getD j 0 → H (tl c j) ≤ H (hd c j) + 1) (hHS : H S = m) (hr : Reach (OpenJ c L R) u S) : H u < 2 * m := by
 refine Int.not_le.1 fun hge => ?_
 refine Zfc (m := m) (H := H) (a := m) fun k hk => ?_
 obtain ⟨w, h1, h2⟩ := Zeg (H := H) (G := OpenJ c L R) (fun a b ⟨j, g1, g2, g3, g4⟩ => by rw [← g2, ← g3]; exact hval j g1 g4) hr (m + k) (by omega) (by omega)
 exact ⟨w, Zjg r hu h1, h2⟩
theorem PreOK.lift {p : Pre} {u : Nat} (h : PreOK n m L c p) (r : Row n m L c) (hu : u < m) (hS : Zdx n c p u) : PreOK n m L c (Zkf c p m u) ∧ p.H.getD u 0 ≤ Zm9 c p m u := by
 obtain ⟨⟨S, hnS, -, hSm⟩, ⟨T, hnT, -, hTm⟩, -, -⟩ := r.ends
 have lh := h.hs.1
 obtain ⟨⟨hA1, hA2, hA3⟩, hB⟩ := hS
 have huS : u ≠ S := by omega
 have huT : u ≠ T := by omega
 have hlow : p.H.getD u 0 ≤ Zm9 c p m u := by
  have h2 := h.hs.2.2.2 u hu
  rcases (lowV_at p r hu).2 with h1 | ⟨j, h1, h3, h4, h5⟩
  · omega
  ·
   have h6 := h.val j h1 h4
   rw [h3] at h6
   have h7 := (r.range h1 hu).2 h3
   have h8 := hB j h7.1 h7.2
   have : p.H.getD u 0 ≠ p.H.getD (hd c j) 0 + 1 := fun e => h8 ⟨h4, e⟩
   omega
 have hHu : ∀ v, (p.H.set u (Zm9 c p m u + 1)).getD v 0 = if v = u then Zm9 c p m u + 1 else p.H.getD v 0 := fun v => by
  rw [Zbw]
  by_cases e : v = u
  · rw [if_pos ⟨e.symm, by omega⟩, if_pos e]
  · rw [if_neg fun h => e h.1.symm, if_neg e]
 have hval : ∀ j, j < L → 0 < p.Res.getD j 0 → (p.H.set u (Zm9 c p m u + 1)).getD (tl c j) 0 ≤ (p.H.set u (Zm9 c p m u + 1)).getD (hd c j) 0 + 1 := fun j hj h0 => by
  have ht := r.tlh hj
  rw [hHu, hHu]
  by_cases c1 : tl c j = u
  ·
   have := lowV_le r hu hj c1 h0
   rw [if_pos c1, if_neg fun e => ht.2.2.2 (c1.trans e.symm)]; omega
  ·
   rw [if_neg c1]
   have := h.val j hj h0
   by_cases c2 : hd c j = u
   · rw [if_pos c2]; rw [c2] at this; omega
   · rw [if_neg c2]; exact this
 have hreach := Zf8 r h.ok hnS (fun v hv hvS => h.nn v hv (by omega)) hu hA3
 have hbound := Zhm (H := fun v => (p.H.set u (Zm9 c p m u + 1)).getD v 0) r hu hval (by simp only [hHu]; rw [if_neg fun e => huS e.symm]; exact h.hs.2.1 S hnS) hreach
 simp only [hHu, if_true] at hbound
 refine ⟨⟨h.ok, h.nn, ⟨by simp [Zkf, lh], fun s hs => ?_, fun t ht => ?_, fun v hv => ?_⟩, hval⟩, hlow⟩
 · simp only [Zkf]; rw [hHu, if_neg (by omega)]; exact h.hs.2.1 s hs
 · simp only [Zkf]; rw [hHu, if_neg (by omega)]; exact h.hs.2.2.1 t ht
 ·
  have h1 := h.hs.2.2.2 v hv
  have h2 := h.hs.2.2.2 u hu
  simp only [Zkf]; rw [hHu]
  by_cases e : v = u
  · rw [if_pos e]; omega
  · rw [if_neg e]; exact h1
end row
end Go.Acq
namespace Go.Acq
open Go
set_option linter.unusedSimpArgs false
theorem Zhn {α : Type} {z v : α} {k i : Int} : ∀ mp : List (Int × α), Zmv z i (putM k v mp) = if i = k then v else Zmv z i mp
 | [] => by simp only [putM, Zmv]
 | x :: mp => by
  simp only [putM]
  by_cases h : k = x.1
  ·
   rw [if_pos h]; simp only [Zmv]
   by_cases e : i = k
   · rw [if_pos e, if_pos e]
   · rw [if_neg e, if_neg e, if_neg (by omega)]
  ·
   rw [if_neg h]; simp only [Zmv]
   by_cases e : i = x.1
   · rw [if_pos e, if_pos e, if_neg (by omega)]
   · rw [if_neg e, if_neg e, Zhn mp]
theorem Zgh {α : Type} {v : α} {k : Int} : ∀ {mp : List (Int × α)} {x : Int × α}, x ∈ putM k v mp → x.1 = k ∨ ∃ y, y ∈ mp ∧ y.1 = x.1
 | [], x, h => by simp only [putM, List.mem_singleton] at h; left; rw [h]
 | y :: mp, x, h => by
  simp only [putM] at h
  by_cases e : k = y.1
  ·
   rw [if_pos e] at h
   rcases List.mem_cons.1 h with h | h
   · left; rw [h]
   · exact .inr ⟨x, List.mem_cons_of_mem _ h, rfl⟩
  ·
   rw [if_neg e] at h
   rcases List.mem_cons.1 h with h | h
   · exact .inr ⟨y, List.mem_cons_self, by rw [h]⟩
   ·
    rcases Zgh h with h | ⟨z, h1, h2⟩
    · exact .inl h
    · exact .inr ⟨z, List.mem_cons_of_mem _ h1, h2⟩
def Apart {α : Type} : List (Int × α) → Prop
  | [] => True
  | x :: mp => (∀ y, y ∈ mp → y.1 ≠ x.1) ∧ Apart mp
theorem Apart.put {α : Type} {v : α} {k : Int} : ∀ {mp : List (Int × α)}, Apart mp → Apart (putM k v mp)
 | [], _ => ⟨fun y h => (by cases h), trivial⟩
 | x :: mp, h => by
  simp only [putM]
  by_cases e : k = x.1
  · rw [if_pos e]; exact ⟨fun y hy => by rw [e]; exact h.1 y hy, h.2⟩
  ·
   rw [if_neg e]
   refine ⟨fun y hy => ?_, Apart.put h.2⟩
   rcases Zgh hy with h1 | ⟨z, h1, h2⟩
   · rw [h1]; exact e
   · rw [← h2]; exact h.1 z h1
theorem Apart.at {α : Type} {z : α} (d : Int × α) : ∀ {mp : List (Int × α)} {j : Nat}, Apart mp → j < mp.length → Zmv z (mp.getD j d).1 mp = (mp.getD j d).2
 | [], j, _, h => by simp at h
 | x :: mp, 0, _, _ => by simp [Zmv]
 | x :: mp, j + 1, h, hj => by
  have hj' : j < mp.length := by simpa using hj
  have hm := h.1 _ (Z9d hj' d)
  show Zmv z (mp.getD j d).1 (x :: mp) = (mp.getD j d).2
  simp only [Zmv]
  rw [if_neg hm]; exact Apart.at d h.2 hj'
def hok (n : Net) (h : Hop) : Prop := 0 ≤ h.Arc ∧ h.Arc < n.Arcs.length
def cntH (l : List Hop) (i : Int) : Nat → Int
  | 0 => 0
  | k + 1 => cntH l i k + (if (l.getD k default).Arc = i then (if (l.getD k default).Back = true then -1 else 1) else 0)
structure MapIs (n : Net) (mp : List (Int × Int)) (l : List Hop) (k : Nat) : Prop where
  val : ∀ i, Zmv 0 i mp = cntH l i k
  key : ∀ x, x ∈ mp → 0 ≤ x.1 ∧ x.1 < n.Arcs.length
  apart : Apart mp
theorem MapIs.put {n : Net} {mp : List (Int × Int)} {l : List Hop} {k : Nat} (h : MapIs n mp l k) (hk : hok n (l.getD k default)) {v : Int} (hv : v = cntH l (l.getD k default).Arc k + (if (l.getD k default).Back = true then -1 else 1)) : MapIs n (putM (l.getD k default).Arc v mp) l (k + 1) := by
 refine ⟨fun i => ?_, fun x hx => ?_, h.apart.put⟩
 ·
  rw [Zhn]
  simp only [cntH]
  by_cases e : i = (l.getD k default).Arc
  · rw [if_pos e, if_pos e.symm, hv, e]
  · rw [if_neg e, if_neg (fun h => e h.symm), h.val, Int.add_zero]
 ·
  rcases Zgh hx with h1 | ⟨y, h1, h2⟩
  · rw [h1]; exact hk
  · rw [← h2]; exact h.key y h1
end Go.Acq
namespace Go.Acq
open Go
set_option linter.unusedSimpArgs false
def fits (n : Net) (f : List Int) (i : Nat) (c d : Int) : Prop := 0 ≤ f.getD i 0 + d * c ∧ f.getD i 0 + d * c ≤ (n.Arcs.getD i default).cap
end Go.Acq
namespace Go.Acq
open Go
set_option linter.unusedSimpArgs false
section row
variable {n : Net} {m L : Nat} {c : Csr}
def StepP (n : Net) (m L : Nat) (c : Csr) (was p : Pre) : Prop :=
  (∃ j, j < L ∧ Zh4 n was.Ex (tl c j) ∧ Zh2 c was (tl c j) j ∧ p = pushP c was j) ∨ (∃ u, u < m ∧ Zdx n c was u ∧ p = Zkf c was m u)
theorem PreOK.hb {p : Pre} (h : PreOK n m L c p) (r : Row n m L c) : HtB m p.H := h.hs.hb r
theorem PreOK.step {was p : Pre} (h : PreOK n m L c was) (r : Row n m L c) (hs : StepP n m L c was p) : PreOK n m L c p := by
 rcases hs with ⟨j, h1, h2, h3, rfl⟩ | ⟨u, h1, h2, rfl⟩
 · exact h.push r h1 h2 h3
 · exact (h.lift r h1 h2).1
def arcsOf (n : Net) (L : Nat) (c : Csr) (p : Pre) : List Int := Zhc (fun j => decide (Zh4 n p.Ex (tl c j) ∧ Zh2 c p (tl c j) j)) L
def vertsOf (n : Net) (m : Nat) (c : Csr) (p : Pre) : List Int := Zhc (fun u => decide (Zdx n c p u)) m
theorem PreOK.may {p : Pre} (h : PreOK n m L c p) (r : Row n m L c) : Zef c p = some (arcsOf n L c p, vertsOf n m c p) := s_May r h.ok.lr h.ok.lx (h.hb r)
end row
end Go.Acq
namespace Go.Acq
open Go
set_option linter.unusedSimpArgs false
set_option linter.unusedVariables false
section row
variable {n : Net} {m L : Nat} {c : Csr}
theorem open_j {R : List Int} (r : Row n m L c) (hR : ∀ j, j < L → 0 ≤ R.getD j 0 ∧ R.getD j 0 + R.getD (rv c j) 0 = cp c j) {u v : Nat} (h : Zc9 n (flN n.Arcs R) u v) : OpenJ c L R u v := by
 obtain ⟨i, hi, hne, h⟩ := h
 rw [Z72 hi, if_neg hne] at h
 have ha : ∀ s, hd c (pos n.Arcs i s) = (vtx (n.Arcs.getD i default) (!s)).toNat := fun s => by unfold hd; rw [(r.is.ok.hat i hi hne s).1]
 have ht : ∀ s, tl c (pos n.Arcs i s) = (vtx (n.Arcs.getD i default) s).toNat := fun s => by unfold tl; rw [(r.cpPos hi hne s).2.1, ha, Bool.not_not]
 have e0 := r.he i hi false
 have e1 := r.he i hi true
 obtain ⟨c1, c2, c3⟩ := r.cpPos hi hne false
 obtain ⟨d1, d2, d3⟩ := r.cpPos hi hne true
 have hf := hR _ c3
 simp only [Bool.not_false, Bool.not_true] at c2 d2
 rw [c2, c1] at hf
 rcases h with ⟨a1, a2, a3⟩ | ⟨a1, a2, a3⟩
 ·
  refine ⟨pos n.Arcs i false, c3, ?_, ?_, by omega⟩
  · rw [ht]; simp only [vtx, Bool.false_eq_true, if_false]; omega
  · rw [ha]; simp only [vtx, Bool.not_false, if_true]; omega
 ·
  refine ⟨pos n.Arcs i true, d3, ?_, ?_, by omega⟩
  · rw [ht]; simp only [vtx, if_true]; omega
  · rw [ha]; simp only [vtx, Bool.not_true, Bool.false_eq_true, if_false]; omega
theorem PreOK.far {p : Pre} {S T : Nat} (h : PreOK n m L c p) (r : Row n m L c) (hS : n.S = S) (hT : n.T = T) : ¬Reach (Zc9 n (flN n.Arcs p.Res)) S T := fun hr => by
 obtain ⟨⟨S', hS', -, hSm⟩, ⟨T', hT', -, hTm⟩, -, -⟩ := r.ends
 have hr2 : Reach (OpenJ c L p.Res) S T := hr.mono fun u v ho => open_j r h.ok.res ho
 have hp := Zeg (H := fun v => p.H.getD v 0) (G := OpenJ c L p.Res) (fun u v ⟨j, hj, h1, h2, h3⟩ => by have := h.val j hj h3; rw [h1, h2] at this; exact this) hr2
 have h1 := h.hs.2.1 S hS
 have h2 := h.hs.2.2.1 T hT
 simp only [h1, h2] at hp
 refine Zfc (m := m) (H := fun v => p.H.getD v 0) (a := 0) fun k hk => ?_
 obtain ⟨w, hw, he⟩ := hp k (by omega) (by omega)
 exact ⟨w, Zjg r (by omega) hw, by omega⟩
theorem PreOK.flow {p : Pre} (h : PreOK n m L c p) (r : Row n m L c) (ha : ∀ u, u < m → ¬Zh4 n p.Ex u) : AllP n (flN n.Arcs p.Res) (fun x => x = 0) [n.S, n.T] := by
 refine ⟨h.ok.within r, fun v hv => ?_⟩
 have hm := r.hm
 by_cases hc : (v : Int) ∈ [n.S, n.T]
 · exact .inr hc
 ·
  left
  simp only [List.mem_cons, List.not_mem_nil, or_false, not_or] at hc
  have hvm : v < m := by omega
  have h1 := h.nn v hvm hc.1
  have h2 := h.ok.ex v hvm
  have h3 : ¬0 < p.Ex.getD v 0 := fun h0 => ha v hvm ⟨hc.1, hc.2, h0⟩
  omega
end row
end Go.Acq
namespace Go.Acq
open Go
set_option linter.unusedSimpArgs false
set_option linter.unusedVariables false
theorem Zmr : Z41 = some true := by decide +kernel
theorem aw24 : Ok (Option.bind Z41 fun r => some r) (fun a => a = true) := Ok.bind.2 (Zbu Zmr (Ok.some.2 rfl))
section
variable {n : Net} {m : Nat} {f : List Int} {s : List Bool}
theorem part_two (hm : n.N = m) (he : Z4i m n.Arcs) (hA : AllP n f (fun x => x = 0) [n.S, n.T]) (hST : n.S ≠ n.T) (hS : 0 ≤ n.S ∧ n.S < m) (hT : 0 ≤ n.T ∧ n.T < m) : ex n.Arcs f n.S n.Arcs.length = -ex n.Arcs f n.T n.Arcs.length := by
 have key : ∀ j : Nat, j ≤ m → part n.Arcs f j n.Arcs.length = (if n.S < j then ex n.Arcs f n.S n.Arcs.length else 0) + (if n.T < j then ex n.Arcs f n.T n.Arcs.length else 0) := fun j => by
  induction j with
  | zero => intro _; rw [if_neg (by omega), if_neg (by omega)]; exact Zhh he _ (Nat.le_refl _)
  | succ j ih =>
   intro hj
   have h1 := ih (by omega)
   have h2 := Zhg (al := n.Arcs) (f := f) (j : Int) n.Arcs.length
   rw [show ((j + 1 : Nat) : Int) = (j : Int) + 1 by omega, h2, h1]
   have hA1 : n.S ≠ (j : Int) ∨ ex n.Arcs f n.S n.Arcs.length = ex n.Arcs f j n.Arcs.length := (Decidable.em (n.S = (j : Int))).elim (fun e => .inr (by rw [e])) .inl
   have hA2 : n.T ≠ (j : Int) ∨ ex n.Arcs f n.T n.Arcs.length = ex n.Arcs f j n.Arcs.length := (Decidable.em (n.T = (j : Int))).elim (fun e => .inr (by rw [e])) .inl
   have h3 : ex n.Arcs f j n.Arcs.length = 0 ∨ (j : Int) = n.S ∨ (j : Int) = n.T := by simpa using hA.2 j (by omega)
   split <;> split <;> split <;> split <;> omega
 have h1 := key m (Nat.le_refl _)
 rw [Zji he _ (Nat.le_refl _), if_pos hS.2, if_pos hT.2] at h1
 omega
theorem Zk9 (hf : f.length = n.Arcs.length) (hk : Z64 n.N n.S n.T n.Arcs = 0) (hl : lenok n.Arcs.length) : Ok (Z31 ⟨n, f, s, []⟩) (fun b => b = true ↔ FwithinP n f) := by
 unfold Z31
 refine Ok.bind.2 (Z8z (fun x => ∃ k : Nat, x = k ∧ k ≤ n.Arcs.length ∧ ∀ i, i < k → 0 ≤ f.getD i 0 ∧ f.getD i 0 ≤ (n.Arcs.getD i default).cap) (fun x => (n.Arcs.length - x).toNat) ⟨0, rfl, by omega, fun i hi => by omega⟩ (by unfold Z5g; omega) ?_)
 rintro x ⟨k, rfl, hkl, hI⟩ P next exit
 unfold Z30
 simp only [Int.toNat_natCast]
 refine Ok.ite.2 ⟨fun hx => ?_, fun hx => Ok.some.2 (exit _ ?_)⟩
 ·
  refine Ok.gd.2 ⟨(by omega), Ok.gd.2 ⟨(by omega), Ok.ite.2 ⟨fun h => Ok.some.2 (exit _ (Ok.some.2 ⟨fun h => (by cases h), fun h2 => by have := (h2.2.2 k (by omega)).1; omega⟩)), fun h => Ok.gd.2 ⟨(by omega), Ok.ite.2 ⟨fun h' => Ok.some.2 (exit _ (Ok.some.2 ⟨fun h => (by cases h), fun h2 => by have := (h2.2.2 k (by omega)).2; omega⟩)), fun h' => Ok.gd.2 ⟨(by omega), Ok.some.2 (next _ ⟨k + 1, by simp, by omega, fun i hi => ?_⟩ (by omega))⟩⟩⟩⟩⟩⟩
  rcases Nat.lt_or_ge i k with h4 | h4
  · exact hI i h4
  ·
   obtain rfl : i = k := by omega
   omega
 ·
  obtain rfl : k = n.Arcs.length := by omega
  exact Ok.some.2 ⟨fun _ => ⟨hk, hf, hI⟩, fun _ => rfl⟩
theorem s_keeps (hm : n.N = m) (hl : lenok n.Arcs.length) (hw : FwithinP n f) : Ok (Z3c ⟨n, f, s, []⟩) (fun t => t.2.out.length = m ∧ (∀ v : Nat, v < m → t.2.out.getD v 0 = -ex n.Arcs f v n.Arcs.length) ∧ (t.1 = true ↔ AllP n f (fun x => x = 0) [n.S, n.T])) := by
 have hz := Z29 hw.1
 have he : Z4i m n.Arcs := Z73 (by rw [← hm]; exact hz.2.2.2.1)
 have hfl := hw.2.1
 unfold Z3c
 rw [hm]
 simp only [Int.toNat_natCast]
 refine Ok.gd.2 ⟨(by omega), Ok.bind.2 ?_⟩
 refine Z8z (fun s => ∃ k : Nat, s.2 = k ∧ k ≤ n.Arcs.length ∧ s.1.length = m ∧ ∀ v : Nat, v < m → s.1.getD v 0 = -ex n.Arcs f v k) (fun s => (n.Arcs.length - s.2).toNat) ⟨0, rfl, by omega, List.length_replicate, fun v _ => by rw [Z3r]; rfl⟩ (by unfold Z5g; simp only; omega) ?_
 rintro ⟨xs, x⟩ ⟨k, h1, hk, h3, h4⟩ P next exit
 simp only at h1 h3 h4 next ⊢
 subst h1
 unfold Z36
 simp only [Int.toNat_natCast]
 refine Ok.ite.2 ⟨fun hx => ?_, fun hx => ?_⟩
 ·
  have hkl : k < n.Arcs.length := by omega
  have e0 := he k hkl false
  have e1 := he k hkl true
  simp only [vtx, Bool.false_eq_true, if_false, if_true] at e0 e1
  obtain ⟨p, hp⟩ : ∃ p : Nat, (n.Arcs.getD k default).fr = p := ⟨(n.Arcs.getD k default).fr.toNat, by omega⟩
  obtain ⟨q, hq⟩ : ∃ q : Nat, (n.Arcs.getD k default).to = q := ⟨(n.Arcs.getD k default).to.toNat, by omega⟩
  have hfk := hw.2.2 k hkl
  have b0 := ex_le (al := n.Arcs) (f := f) (p : Int) (fun i hi => (hw.2.2 i hi).1) k hk
  have b1 := ex_le (al := n.Arcs) (f := f) (q : Int) (fun i hi => (hw.2.2 i hi).1) k hk
  have t0 := hw.tot k hk
  have t1 := hw.tot (k + 1) hkl
  simp only [tot] at t1
  rw [hp] at e0
  rw [hq] at e1
  have v0 := h4 p (by omega)
  have v1 := h4 q (by omega)
  simp only [hp, hq, Int.toNat_natCast, v0, Zbw, List.length_set, h3]
  refine Ok.gd.2 ⟨(by omega), Ok.gd.2 ⟨(by omega), Ok.gd.2 ⟨(by omega), Ok.gd.2 ⟨(by omega), Ok.gd.2 ⟨(by omega), Ok.gd.2 ⟨(by omega), Ok.gd.2 ⟨(by omega), Ok.gd.2 ⟨by split <;> constructor <;> omega, Ok.gd.2 ⟨(by omega), Ok.gd.2 ⟨(by omega), Ok.some.2 (next _ ⟨k + 1, by simp, by omega, by simp [h3], fun v hv => ?_⟩ (by simp only; omega))⟩⟩⟩⟩⟩⟩⟩⟩⟩⟩
  simp only [Zbw, List.length_set, h3, ex, hp, hq]
  rw [h4 v hv]
  by_cases c1 : p = v
  ·
   subst c1
   by_cases c2 : q = p
   ·
    subst c2
    simp only [true_and, if_true]
    rw [if_pos (by omega)]; simp [show q < m by omega]
   · rw [if_neg (fun h => c2 h.1), if_pos ⟨rfl, by omega⟩, if_pos rfl, if_neg (by omega)]; omega
  ·
   by_cases c2 : q = v
   ·
    subst c2
    rw [if_pos ⟨rfl, by omega⟩, if_neg (fun h => c1 h.1), if_neg (by omega), if_pos rfl, v1]; omega
   · rw [if_neg (fun h => c2 h.1), if_neg (fun h => c1 h.1), if_neg (by omega), if_neg (by omega)]; omega
 ·
  obtain rfl : k = n.Arcs.length := by omega
  refine Ok.some.2 (exit _ ?_)
  unfold Z48
  refine Ok.bind.2 (Z8z (fun x => ∃ k : Nat, x = k ∧ k ≤ m ∧ ∀ v : Nat, v < k → ex n.Arcs f v n.Arcs.length = 0 ∨ (v : Int) ∈ [n.S, n.T]) (fun x => (m - x).toNat) ⟨0, rfl, by omega, fun v hv => by omega⟩ (by unfold Z5g; omega) ?_)
  rintro x ⟨k, rfl, hkl, hI⟩ P2 next2 exit2
  unfold Z35
  simp only [Int.toNat_natCast, h3]
  refine Ok.ite.2 ⟨fun hx => ?_, fun hx => Ok.some.2 (exit2 _ ?_)⟩
  ·
   have hkm : k < m := by omega
   have hv := h4 k hkm
   have go : (ex n.Arcs f k n.Arcs.length = 0 ∨ (k : Int) ∈ [n.S, n.T]) → P2 (.inl ((k : Int) + 1)) := fun h => next2 _ ⟨k + 1, by simp, by omega, fun v hv => by
    rcases Nat.lt_or_ge v k with h5 | h5
    · exact hI v h5
    ·
     obtain rfl : v = k := by omega
     exact h⟩ (by omega)
   rw [hv]
   refine Ok.gd.2 ⟨(by omega), Ok.ite.2 ⟨fun h => Ok.ite.2 ⟨fun hS => Ok.ite.2 ⟨fun hT => Ok.some.2 (exit2 _ (Ok.some.2 ⟨h3, h4, fun h => (by cases h), fun hA => ?_⟩)), fun hT => Ok.gd.2 ⟨(by omega), Ok.some.2 (go (.inr (by simp; omega)))⟩⟩, fun hS => Ok.gd.2 ⟨(by omega), Ok.some.2 (go (.inr (by simp; omega)))⟩⟩, fun h => Ok.gd.2 ⟨(by omega), Ok.some.2 (go (.inl (by omega)))⟩⟩⟩
   rcases hA.2 k (by omega) with h6 | h6
   · omega
   ·
    have : (k : Int) = n.S ∨ (k : Int) = n.T := by simpa using h6
    omega
  ·
   obtain rfl : k = m := by omega
   unfold Z47
   exact Ok.some.2 ⟨h3, h4, fun _ => ⟨hw, fun v hv => hI v (by omega)⟩, fun _ => rfl⟩
theorem s_parts (hs : s.length = m) (hS : 0 ≤ n.S ∧ n.S < m) (hT : 0 ≤ n.T ∧ n.T < m) {o : List Int} : Ok (Z3b ⟨n, f, s, o⟩) (fun b => b = true ↔ (inS s n.S = true ∧ inS s n.T = false)) := by
 unfold Z3b
 refine Ok.gd.2 ⟨(by simp only [List.length_set, List.length_replicate]; omega), Ok.ite.2 ⟨fun h => Ok.gd.2 ⟨(by simp only [List.length_set, List.length_replicate]; omega), Ok.some.2 ?_⟩, fun h => Ok.some.2 ⟨fun h => (by cases h), fun h2 => absurd h2.1 h⟩⟩⟩
 have h : inS s n.S = true := h
 rw [h]
 unfold inS
 cases s.getD n.T.toNat false <;> simp
theorem s_worth (hm : n.N = m) (hl : lenok n.Arcs.length) (hw : FwithinP n f) (hs : s.length = m) {o : List Int} (ho : o.length = m) (hov : ∀ v : Nat, v < m → o.getD v 0 = -ex n.Arcs f v n.Arcs.length) (hS : 0 ≤ n.S ∧ n.S < m) : Ok (Z3a ⟨n, f, s, o⟩) (fun b => b = true ↔ -ex n.Arcs f n.S n.Arcs.length = Zht n.Arcs s n.Arcs.length) := by
 have hz := Z29 hw.1
 have he : Z4i m n.Arcs := Z73 (by rw [← hm]; exact hz.2.2.2.1)
 have hc0 := Zb9 hw.1
 have hb := Zmc hw n.S
 unfold Z3a
 have e0 := hov n.S.toNat (by omega)
 rw [Int.toNat_of_nonneg hS.1] at e0
 simp only [e0]
 refine Ok.gd.2 ⟨(by omega), Ok.bind.2 ?_⟩
 refine Z8z (fun z => ∃ k : Nat, z.2 = k ∧ k ≤ n.Arcs.length ∧ z.1 = -ex n.Arcs f n.S n.Arcs.length - Zht n.Arcs s k) (fun z => (n.Arcs.length - z.2).toNat) ⟨0, rfl, by omega, by simp [Zht]⟩ (by unfold Z5g; simp only; omega) ?_
 rintro ⟨y, x⟩ ⟨k, h1, hk, h3⟩ P next exit
 simp only at h1 h3 next ⊢
 subst h1
 unfold Z34
 simp only [Int.toNat_natCast]
 refine Ok.ite.2 ⟨fun hx => ?_, fun hx => Ok.some.2 (exit _ ?_)⟩
 ·
  have hkl : k < n.Arcs.length := by omega
  have e0 := he k hkl false
  have e1 := he k hkl true
  simp only [vtx, Bool.false_eq_true, if_false, if_true] at e0 e1
  have c0 := Zj4 (c := s) hc0 k hk
  have c1 := Zj4 (c := s) hc0 (k + 1) hkl
  have t1 := Zcz hw.1 (k + 1) hkl
  have t0 := Zcz hw.1 k hk
  have hcap := hc0 k hkl
  have go : ∀ b : Bool, (b = true ↔ (inS s (n.Arcs.getD k default).fr = true ∧ inS s (n.Arcs.getD k default).to = false)) → Ok (Z2j ⟨n, f, s, o⟩ y (k : Int) b) P := by
   intro b hb'
   unfold Z2j
   simp only [Int.toNat_natCast]
   simp only [Zht] at c1
   refine Ok.ite.2 ⟨fun h => ?_, fun h => ?_⟩
   ·
    rw [if_pos (hb'.1 h)] at c1
    exact Ok.gd.2 ⟨by constructor <;> omega, Ok.gd.2 ⟨(by omega), Ok.some.2 (next _ ⟨k + 1, by simp, by omega, by simp only [Zht]; rw [if_pos (hb'.1 h)]; omega⟩ (by simp only; omega))⟩⟩
   · exact Ok.gd.2 ⟨(by omega), Ok.some.2 (next _ ⟨k + 1, by simp, by omega, by simp only [Zht]; rw [if_neg (fun h2 => h (hb'.2 h2))]; omega⟩ (by simp only; omega))⟩
  refine Ok.gd.2 ⟨(by omega), Ok.gd.2 ⟨(by omega), Ok.ite.2 ⟨fun h => Ok.gd.2 ⟨(by omega), go _ ?_⟩, fun h => go _ ⟨fun h => (by cases h), fun h2 => absurd h2.1 h⟩⟩⟩⟩
  have h : inS s (n.Arcs.getD k default).fr = true := h
  rw [h]
  unfold inS
  cases s.getD (n.Arcs.getD k default).to.toNat false <;> simp
 ·
  obtain rfl : k = n.Arcs.length := by omega
  unfold Z46
  refine Ok.some.2 ?_
  rw [decide_eq_true_eq]; omega
def WhyP (n : Net) (m : Nat) (f : List Int) (s : List Bool) (e : Int) : Prop :=
  (¬(f.length = n.Arcs.length ∧ s.length = m) ∧ e = 60) ∨ ((f.length = n.Arcs.length ∧ s.length = m) ∧
  ((¬FwithinP n f ∧ e = 61) ∨ (FwithinP n f ∧
  ((¬AllP n f (fun x => x = 0) [n.S, n.T] ∧ e = 62) ∨ (AllP n f (fun x => x = 0) [n.S, n.T] ∧
  ((¬CutR n s ∧ e = 63) ∨ (CutR n s ∧
  ((ex n.Arcs f n.T n.Arcs.length ≠ Zht n.Arcs s n.Arcs.length ∧ e = 64) ∨ (ex n.Arcs f n.T n.Arcs.length = Zht n.Arcs s n.Arcs.length ∧ e = 0)))))))))
theorem s_why (hm : n.N = m) (hk : Z64 n.N n.S n.T n.Arcs = 0) (hl : lenok n.Arcs.length) : Ok (Z3w ⟨n, f, s, []⟩) (fun t => WhyP n m f s t.1 ∧ (t.1 = 0 → t.2.out.length = m ∧ ∀ v : Nat, v < m → t.2.out.getD v 0 = -ex n.Arcs f v n.Arcs.length)) := by
  have hz := Z29 hk
  simp only [Z44, decide_eq_true_eq] at hz
  have he : Z4i m n.Arcs := Z73 (by rw [← hm]; exact hz.2.2.2.1)
  have hS : 0 ≤ n.S ∧ n.S < m := by omega
  have hT : 0 ≤ n.T ∧ n.T < m := by omega
  have hST := hz.2.2.1.2.2
  unfold Z3w Z5d
  refine Ok.bind.2 (Zbu (Zix n hl) (Ok.ite.2 ⟨fun h => absurd hk h, fun _ => Ok.bind.2 ?_⟩))
  have long : ∀ b : Bool, (b = true ↔ (f.length = n.Arcs.length ∧ s.length = m)) → Ok (if (!b) = true then (some (60, (⟨n, f, s, []⟩ : CheckAnswer))) else Option.bind (Z31 ⟨n, f, s, []⟩) fun r15 =>
      if (!r15) = true then (some (61, ⟨n, f, s, []⟩)) else Option.bind (Z3c ⟨n, f, s, []⟩) fun (r20, r21) =>
      if (!r20) = true then (some (62, (CheckAnswer.mk n f s r21.out))) else Option.bind (Z3b (CheckAnswer.mk n f s r21.out)) fun r35 =>
      if (!r35) = true then (some (63, (CheckAnswer.mk n f s r21.out))) else Option.bind (Z3a (CheckAnswer.mk n f s r21.out)) fun r40 =>
      if (!r40) = true then (some (64, (CheckAnswer.mk n f s r21.out))) else Z3t ⟨n, f, s, []⟩ r21.out) (fun t => WhyP n m f s t.1 ∧ (t.1 = 0 → t.2.out.length = m ∧ ∀ v : Nat, v < m → t.2.out.getD v 0 = -ex n.Arcs f v n.Arcs.length)) := by
    intro b hb
    cases b with
    | false => exact Ok.ite.2 ⟨fun _ => Ok.some.2 ⟨.inl ⟨fun h => (by have := hb.2 h; cases this), rfl⟩, fun h => (by cases h)⟩, fun h => absurd rfl h⟩
    | true =>
      obtain ⟨hf, hs⟩ := hb.1 rfl
      refine Ok.ite.2 ⟨fun h => by simp at h, fun _ => Ok.bind.2 (Ok.mono (Zk9 hf hk hl) fun b2 hb2 => ?_)⟩
      cases b2 with
      | false => exact Ok.ite.2 ⟨fun _ => Ok.some.2 ⟨.inr ⟨⟨hf, hs⟩, .inl ⟨fun h => (by have := hb2.2 h; cases this), rfl⟩⟩, fun h => (by cases h)⟩, fun h => absurd rfl h⟩
      | true =>
        have hw := hb2.1 rfl
        refine Ok.ite.2 ⟨fun h => by simp at h, fun _ => Ok.bind.2 (Ok.mono (s_keeps hm hl hw) ?_)⟩
        rintro ⟨b3, q⟩ ⟨ho, hov, hb3⟩
        simp only at ho hov hb3 ⊢
        cases b3 with
        | false => exact Ok.ite.2 ⟨fun _ => Ok.some.2 ⟨.inr ⟨⟨hf, hs⟩, .inr ⟨hw, .inl ⟨fun h => (by have := hb3.2 h; cases this), rfl⟩⟩⟩, fun h => (by cases h)⟩, fun h => absurd rfl h⟩
        | true =>
          have hA := hb3.1 rfl
          refine Ok.ite.2 ⟨fun h => by simp at h, fun _ => Ok.bind.2 (Ok.mono (s_parts hs hS hT) fun b4 hb4 => ?_)⟩
          cases b4 with
          | false => exact Ok.ite.2 ⟨fun _ => Ok.some.2 ⟨.inr ⟨⟨hf, hs⟩, .inr ⟨hw, .inr ⟨hA, .inl ⟨fun h => (by have := hb4.2 h.2.2; cases this), rfl⟩⟩⟩⟩, fun h => (by cases h)⟩, fun h => absurd rfl h⟩
          | true =>
            have hC : CutR n s := ⟨hk, by omega, hb4.1 rfl⟩
            have h2 := part_two hm he hA hST hS hT
            refine Ok.ite.2 ⟨fun h => by simp at h, fun _ => Ok.bind.2 (Ok.mono (s_worth hm hl hw hs ho hov hS) fun b5 hb5 => ?_)⟩
            cases b5 with
            | false => exact Ok.ite.2 ⟨fun _ => Ok.some.2 ⟨.inr ⟨⟨hf, hs⟩, .inr ⟨hw, .inr ⟨hA, .inr ⟨hC, .inl ⟨fun h => (by have := hb5.2 (by omega); cases this), rfl⟩⟩⟩⟩⟩, fun h => (by cases h)⟩, fun h => absurd rfl h⟩
            | true =>
              have h3 := hb5.1 rfl
              refine Ok.ite.2 ⟨fun h => by simp at h, fun _ => ?_⟩
              unfold Z3t
              exact Ok.some.2 ⟨.inr ⟨⟨hf, hs⟩, .inr ⟨hw, .inr ⟨hA, .inr ⟨hC, .inr ⟨by omega, rfl⟩⟩⟩⟩⟩, fun _ => ⟨ho, hov⟩⟩
  refine Ok.ite.2 ⟨fun h => Ok.some.2 (long _ ?_), fun h => Ok.some.2 (long _ ⟨fun h => (by cases h), fun h2 => absurd (by rw [h2.1]) h⟩)⟩
  have h : (f.length : Int) = (n.Arcs.length : Int) := h
  rw [decide_eq_true_eq]
  show (s.length : Int) = n.N ↔ _
  exact ⟨fun h2 => ⟨by omega, by omega⟩, fun h2 => by omega⟩
theorem Zbt (hm : n.N = m) (hk : Z64 n.N n.S n.T n.Arcs = 0) (hl : lenok n.Arcs.length) : Ok (Z2r n f s) (fun e => WhyP n m f s e) := by
 unfold Z2r
 refine Ok.bind.2 (Ok.mono (s_why hm hk hl) ?_)
 rintro ⟨e, a⟩ ⟨h, -⟩
 exact Ok.some.2 h
def Zg0 (n : Net) (f : List Int) (s : List Bool) : Prop := AllP n f (fun x => x = 0) [n.S, n.T] ∧ CutR n s ∧ ex n.Arcs f n.T n.Arcs.length = Zht n.Arcs s n.Arcs.length
theorem WhyP.iff {e : Int} (hm : n.N = m) (h : WhyP n m f s e) : e = 0 ↔ Zg0 n f s := by
 rcases h with ⟨h, rfl⟩ | ⟨h0, ⟨h, rfl⟩ | ⟨h1, ⟨h, rfl⟩ | ⟨h2, ⟨h, rfl⟩ | ⟨h3, ⟨h, rfl⟩ | ⟨h4, rfl⟩⟩⟩⟩⟩
 · exact ⟨fun h => (by cases h), fun hR => absurd ⟨hR.1.1.2.1, by have := hR.2.1.2.1; omega⟩ h⟩
 · exact ⟨fun h => (by cases h), fun hR => absurd hR.1.1 h⟩
 · exact ⟨fun h => (by cases h), fun hR => absurd hR.1 h⟩
 · exact ⟨fun h => (by cases h), fun hR => absurd hR.2.1 h⟩
 · exact ⟨fun h => (by cases h), fun hR => absurd hR.2.2 h⟩
 · exact ⟨fun _ => ⟨h2, h3, h4⟩, fun _ => rfl⟩
theorem Zmm (hm : n.N = m) (hk : Z64 n.N n.S n.T n.Arcs = 0) (hl : lenok n.Arcs.length) : Ok (Z61 n f s) (fun b => b = true ↔ Zg0 n f s) := by
 unfold Z61
 refine Ok.bind.2 (Ok.mono (Zbt hm hk hl) fun e h => Ok.some.2 ?_)
 rw [decide_eq_true_eq]
 exact h.iff hm
end
end Go.Acq
namespace Go.Acq
open Go
set_option linter.unusedSimpArgs false
section
variable {n : Net} {m : Nat} {f : List Int}
theorem Zki {b : List Bool} {S : Nat} (he : Z4i m n.Arcs) (hb : ∀ v, v < m → (b.getD v false = true ↔ Reach (Zc9 n f) S v)) : ∀ i, i < n.Arcs.length → Zdh n.Arcs f b i := fun i hi => by
 have e0 := he i hi false
 have e1 := he i hi true
 simp only [vtx, Bool.false_eq_true, if_false, if_true] at e0 e1
 obtain ⟨p, hp⟩ : ∃ p : Nat, (n.Arcs.getD i default).fr = p := ⟨(n.Arcs.getD i default).fr.toNat, by omega⟩
 obtain ⟨q, hq⟩ : ∃ q : Nat, (n.Arcs.getD i default).to = q := ⟨(n.Arcs.getD i default).to.toNat, by omega⟩
 rw [hp] at e0
 rw [hq] at e1
 unfold Zdh inS
 rw [hp, hq, Int.toNat_natCast, Int.toNat_natCast]
 have step : ∀ u v : Nat, u < m → v < m → Zc9 n f u v → b.getD u false = true → b.getD v false = true := fun u v hu hv ho h => (hb v hv).2 (.step ((hb u hu).1 h) ho)
 refine ⟨fun h4 h5 => Int.not_lt.1 fun h6 => ?_, fun h4 h5 => Int.not_lt.1 fun h6 => ?_⟩
 ·
  have hne : (n.Arcs.getD i default).fr ≠ (n.Arcs.getD i default).to := fun e => by rw [show p = q by omega, h5] at h4; cases h4
  rw [step p q (by omega) (by omega) ⟨i, hi, hne, .inl ⟨hp, hq, h6⟩⟩ h4] at h5; cases h5
 ·
  have hne : (n.Arcs.getD i default).fr ≠ (n.Arcs.getD i default).to := fun e => by rw [show p = q by omega, h5] at h4; cases h4
  rw [step q p (by omega) (by omega) ⟨i, hi, hne, .inr ⟨hq, hp, h6⟩⟩ h5] at h4; cases h4
theorem Ziy {b : List Bool} (hm : n.N = m) (hG : GoodF n f) (hC : CutR n b) (ht : ∀ i, i < n.Arcs.length → Zdh n.Arcs f b i) : Zg0 n f b := by
 have he : Z4i m n.Arcs := Z73 (by rw [← hm]; exact (Z29 hC.1).2.2.2.1)
 have h1 := Zj0 hm he hG.all hC
 have h2 := (Zn5 (c := b) hG.all.1.2.2 n.Arcs.length (Nat.le_refl _)).2.2 ht
 exact ⟨hG.all, hC, by omega⟩
theorem Zkb {b : List Bool} (hm : n.N = m) (hk : Z64 n.N n.S n.T n.Arcs = 0) (hG : GoodF n f) (hno : ¬Reach (Zc9 n f) n.S.toNat n.T.toNat) (hl : b.length = m) (hb : ∀ v, v < m → (b.getD v false = true ↔ Reach (Zc9 n f) n.S.toNat v)) : Zg0 n f b := by
 have hz := Z29 hk
 simp only [Z44, decide_eq_true_eq] at hz
 have he : Z4i m n.Arcs := Z73 (by rw [← hm]; exact hz.2.2.2.1)
 refine Ziy hm hG ⟨hk, by omega, (hb _ (by omega)).2 .refl, ?_⟩ (Zki he hb)
 show b.getD n.T.toNat false = false
 rw [Bool.eq_false_iff]
 exact fun h => hno ((hb _ (by omega)).1 h)
end
end Go.Acq
namespace Go.Acq
open Go
set_option linter.unusedSimpArgs false
set_option linter.unusedVariables false
theorem addW_i64 {x y : Int} (hx : i64ok x) (hy : i64ok y) : i64ok (Zjv .i64 x y) ∧ (y ≠ 0 → Zjv .i64 x y ≠ x) := by
 unfold Zjv
 rw [IntKind.wrap_i64]
 constructor
 · constructor <;> omega
 · intro h; omega
theorem s_CSj3 {r : Net} {m : Nat} {f : List Int} {s : List Bool} (hm : r.N = m) (hk : Z64 r.N r.S r.T r.Arcs = 0) (hl : lenok r.Arcs.length) (hR : Zg0 r f s) : Ok (Z19 r f s) (fun b => b = true) := by
 have hz := Z29 hk
 simp only [Z44, decide_eq_true_eq] at hz
 obtain ⟨hA, hC, hE⟩ := hR
 have hsl : s.length = m := by have := hC.2.1; omega
 have hfl := hA.1.2.1
 unfold Z19
 have six3 : ∀ t : List Bool, t.length = m → ¬CutR r t → ∀ e, WhyP r m f t e → e = 63 := by
  intro t ht hn e h
  rcases h with ⟨h, -⟩ | ⟨-, ⟨h, -⟩ | ⟨-, ⟨h, -⟩ | ⟨-, ⟨-, h⟩ | ⟨h, -⟩⟩⟩⟩
  · exact absurd ⟨hfl, ht⟩ h
  · exact absurd hA.1 h
  · exact absurd hA h
  · exact h
  · exact absurd h hn
 have six0 : ∀ (g : List Int) (t : List Bool), ¬(g.length = r.Arcs.length ∧ t.length = m) → ∀ e, WhyP r m g t e → e = 60 := by
  intro g t hn e h
  rcases h with ⟨-, h⟩ | ⟨h, -⟩
  · exact h
  · exact absurd h hn
 refine Ok.gd.2 ⟨by rw [hsl]; constructor <;> omega, Ok.gd.2 ⟨by rw [hsl]; constructor <;> omega, Ok.gd.2 ⟨by rw [hsl]; constructor <;> omega, Ok.gd.2 ⟨by rw [hsl]; constructor <;> omega, ?_⟩⟩⟩⟩
 refine Ok.bind.2 (Ok.mono (Zbt hm hk hl) fun e h => ?_)
 have h1 := six3 _ (by rw [List.length_set]; exact hsl) (fun hc => by
  have := hc.2.2.2
  unfold inS at this
  rw [Zbw, if_pos ⟨rfl, by omega⟩] at this; cases this) e h
 refine Ok.ite.2 ⟨fun _ => ?_, fun h => absurd h1 h⟩
 refine Ok.bind.2 (Ok.mono (Zbt hm hk hl) fun e h => ?_)
 have h2 := six3 _ (by rw [List.length_set]; exact hsl) (fun hc => by
  have := hc.2.2.1
  unfold inS at this
  rw [Zbw, if_pos ⟨rfl, by omega⟩] at this; cases this) e h
 refine Ok.ite.2 ⟨fun _ => ?_, fun h => absurd h2 h⟩
 refine Ok.gd.2 ⟨by rw [List.length_append, List.length_singleton]; constructor <;> omega, ?_⟩
 refine Ok.bind.2 (Ok.mono (Zbt hm hk hl) fun e h => ?_)
 have h3 := six0 _ _ (fun h => by rw [List.length_append, List.length_singleton] at h; omega) e h
 refine Ok.ite.2 ⟨fun _ => ?_, fun h => absurd h3 h⟩
 refine Ok.gd.2 ⟨by rw [hsl]; constructor <;> omega, ?_⟩
 refine Ok.bind.2 (Ok.mono (Zbt hm hk hl) fun e h => ?_)
 have h4 := six0 _ _ (fun h => by rw [List.length_drop, hsl] at h; have := h.2; omega) e h
 refine Ok.ite.2 ⟨fun _ => ?_, fun h => absurd h4 h⟩
 refine Ok.gd.2 ⟨by rw [List.length_append, List.length_singleton]; constructor <;> omega, ?_⟩
 refine Ok.bind.2 (Ok.mono (Zbt hm hk hl) fun e h => ?_)
 have h5 := six0 _ _ (fun h => by rw [List.length_append, List.length_singleton] at h; omega) e h
 exact Ok.ite.2 ⟨fun _ => aw24, fun h => absurd h5 h⟩
theorem p_CheckSpoilt {n : Net} {a d : Int} (hn : NetIn n) (ha : u8ok a) (hd : i64ok d) : Z3m n a d = some true := by
 refine Zms ?_
 unfold Z3m
 refine Ok.bind.2 (Ok.mono (s_Some hn (by omega) (by omega) (by omega) (by omega)) fun r hr => ?_)
 obtain ⟨m, hm, hso⟩ := hr.nat
 have hlen := hr.arcs
 have hv := hr.verts
 have hends := hr.ends
 have hk := hr.check
 have hcaps := Made.caps hso
 have hll : lenok r.Arcs.length := by omega
 refine Ok.gd.2 ⟨by constructor <;> omega, ?_⟩
 rw [Int.toNat_natCast]
 refine Ok.bind.2 (Ok.mono (Zka hm hk (by omega) (by omega)) ?_)
 rintro ⟨f, ok⟩ ⟨h1, hG, hno⟩
 simp only at h1 hG hno ⊢
 subst h1
 refine Ok.ite.2 ⟨fun h => by simp at h, fun _ => ?_⟩
 refine Ok.bind.2 (Ok.mono (s_From hll) ?_)
 rintro ⟨s, e⟩ (⟨-, e1, a1, a2⟩ | ⟨h, -⟩)
 rotate_left
 · exact absurd hG.all.1 h
 simp only at e1 a1 a2 ⊢
 subst e1
 have hR := Zkb hm hk hG hno (by omega) (fun v hv => a2 v (by omega))
 have he : Z4i m r.Arcs := Z73 (by rw [← hm]; exact (Z29 hk).2.2.2.1)
 refine Ok.ite.2 ⟨fun h => absurd rfl h, fun _ => Ok.bind.2 (Ok.mono (Zmm hm hk hll) fun b hb => ?_)⟩
 have hb := hb.2 hR
 subst hb
 refine Ok.ite.2 ⟨fun h => by simp at h, fun _ => ?_⟩
 have hfl := hG.all.1.2.1
 have fin := s_CSj3 hm hk hll hR
 have j1 : ∀ x : Bool, (x = true → 0 < f.length ∧ d ≠ 0) → Ok (Z1w a d r f s x) (fun b => b = true) := by
  intro x hx
  unfold Z1w
  refine Ok.ite.2 ⟨fun h => ?_, fun _ => fin⟩
  obtain ⟨hf0, hd0⟩ := hx h
  obtain ⟨k, hkk, hkl⟩ : ∃ k : Nat, a.tmod (f.length : Int) = k ∧ k < f.length := by
   have h1 := Int.tmod_lt_of_pos a (show (0 : Int) < f.length by omega)
   have h2 := Int.tmod_nonneg (f.length : Int) (show 0 ≤ a by omega)
   exact ⟨(a.tmod (f.length : Int)).toNat, by omega, by omega⟩
  simp only [hkk, Int.toNat_natCast]
  have hfk := hG.all.1.2.2 k (by omega)
  have hck := hcaps k (by omega)
  obtain ⟨hw1, hw2⟩ := addW_i64 (x := f.getD k 0) (y := d) (by constructor <;> omega) hd
  have hw2 := hw2 hd0
  obtain ⟨y, hy⟩ : ∃ y, Zjv .i64 (f.getD k 0) d = y := ⟨_, rfl⟩
  simp only [hy] at hw1 hw2 ⊢
  obtain ⟨g, hg⟩ : ∃ g, f.set k y = g := ⟨_, rfl⟩
  have hgl : g.length = r.Arcs.length := by rw [← hg, List.length_set]; exact hfl
  have hgk : g.getD k 0 = y := by rw [← hg, Zbw, if_pos ⟨rfl, hkl⟩]
  have hgd : ∀ i, g.getD i 0 = f.getD i 0 + if i = k then y - f.getD k 0 else 0 := fun i => by
   rw [← hg, Zbw]
   by_cases e : k = i
   · subst e; rw [if_pos ⟨rfl, hkl⟩, if_pos rfl]; omega
   · rw [if_neg (fun h => e h.1), if_neg (fun h => e h.symm)]; omega
  have hex : ∀ v : Int, ex r.Arcs g v r.Arcs.length = ex r.Arcs f v r.Arcs.length + ((if (r.Arcs.getD k default).to = v then y - f.getD k 0 else 0) - (if (r.Arcs.getD k default).fr = v then y - f.getD k 0 else 0)) := fun v => Zmx v (by omega) fun i _ => hgd i
  simp only [hg, hgk]
  have hsl : s.length = m := by omega
  have j2 : ∀ b : Bool, (b = true ↔ (0 ≤ y ∧ y ≤ (r.Arcs.getD k default).cap)) → Ok (Z1v a d r f s b) (fun b => b = true) := by
   intro b hb
   unfold Z1v
   simp only [hkk, Int.toNat_natCast, hy, hg]
   refine Ok.bind.2 (Ok.mono (Zbt hm hk hll) fun e h => ?_)
   cases b with
   | false =>
    have : e = 61 := by
     rcases h with ⟨h, -⟩ | ⟨-, ⟨-, h⟩ | ⟨h, -⟩⟩
     · exact absurd ⟨hgl, hsl⟩ h
     · exact h
     ·
      have h7 := h.2.2 k (by omega)
      rw [hgk] at h7
      have := hb.2 h7; cases this
    exact Ok.ite.2 ⟨fun _ => Ok.ite.2 ⟨fun h => absurd this h, fun _ => fin⟩, fun h => absurd rfl h⟩
   | true =>
    have hb := hb.1 rfl
    have hwg : FwithinP r g := ⟨hk, hgl, fun i hi => by
     by_cases e : i = k
     · subst e; rw [hgk]; exact hb
     ·
      have h8 := hgd i
      rw [if_neg e] at h8
      have := hG.all.1.2.2 i hi
      omega⟩
    refine Ok.ite.2 ⟨fun h => by simp at h, fun _ => Ok.ite.2 ⟨fun hs => ?_, fun hs => ?_⟩⟩
    ·
     have hsame : ∀ v : Int, ex r.Arcs g v r.Arcs.length = ex r.Arcs f v r.Arcs.length := fun v => by
      rw [hex v, hs]; split <;> omega
     have hRg : Zg0 r g s := ⟨⟨hwg, fun v hv => by rw [hsame]; exact hG.all.2 v hv⟩, hR.2.1, by rw [hsame]; exact hR.2.2⟩
     have := (h.iff hm).2 hRg
     exact Ok.ite.2 ⟨fun h => absurd this h, fun _ => fin⟩
    ·
     have : e = 62 ∨ e = 64 := by
      rcases h with ⟨h, -⟩ | ⟨-, ⟨h, -⟩ | ⟨-, ⟨-, h⟩ | ⟨hAg, ⟨h, -⟩ | ⟨-, ⟨-, h⟩ | ⟨hEg, -⟩⟩⟩⟩⟩
      · exact absurd ⟨hgl, hsl⟩ h
      · exact absurd hwg h
      · exact .inl h
      · exact absurd hR.2.1 h
      · exact .inr h
      ·
       exfalso
       have e0 := he k (by omega) false
       have e1 := he k (by omega) true
       simp only [vtx, Bool.false_eq_true, if_false, if_true] at e0 e1
       have two : ∀ v : Int, 0 ≤ v → v < m → (v = (r.Arcs.getD k default).fr ∨ v = (r.Arcs.getD k default).to) → v = r.S ∨ v = r.T := by
        intro v v0 v1 hv
        have h1 := hAg.2 v.toNat (by omega)
        have h2 := hG.all.2 v.toNat (by omega)
        rw [Int.toNat_of_nonneg v0] at h1 h2
        have h3 := hex v
        rcases h1 with h1 | h1
        ·
         rcases h2 with h2 | h2
         ·
          exfalso
          rcases hv with hv | hv
          · rw [if_neg (fun e => hs (by rw [← hv, ← e])), if_pos hv.symm] at h3; omega
          · rw [if_pos hv.symm, if_neg (fun e => hs (by rw [e, ← hv]))] at h3; omega
         · simpa using h2
        · simpa using h1
       have t0 := two _ e0.1 e0.2 (.inl rfl)
       have t1 := two _ e1.1 e1.2 (.inr rfl)
       have h3 := hex r.T
       have h4 := hR.2.2
       rcases t0 with t0 | t0 <;> rcases t1 with t1 | t1
       · exact hs (by rw [t0, t1])
       · rw [if_pos t1, if_neg (fun e => hs (by rw [e, t1]))] at h3; omega
       · rw [if_neg (fun e => hs (by rw [e, t0])), if_pos t0] at h3; omega
       · exact hs (by rw [t0, t1])
     refine Ok.ite.2 ⟨fun h62 => Ok.ite.2 ⟨fun h64 => ?_, fun _ => fin⟩, fun _ => fin⟩
     rcases this with h | h
     · exact absurd h h62
     · exact absurd h h64
  refine Ok.gd.2 ⟨by constructor <;> omega, Ok.gd.2 ⟨by omega, Ok.gd.2 ⟨by constructor <;> omega, Ok.gd.2 ⟨by constructor <;> omega, Ok.gd.2 ⟨by constructor <;> omega, Ok.gd.2 ⟨by constructor <;> omega, Ok.gd.2 ⟨by rw [hgl]; constructor <;> omega, Ok.ite.2 ⟨fun hy0 => Ok.gd.2 ⟨by rw [hgl]; constructor <;> omega, j2 _ ?_⟩, fun hy0 => j2 _ ⟨fun h => (by cases h), fun h => absurd h.1 hy0⟩⟩⟩⟩⟩⟩⟩⟩⟩
  rw [decide_eq_true_eq]
  exact ⟨fun h => ⟨hy0, h⟩, fun h => h.2⟩
 refine Ok.ite.2 ⟨fun h0 => j1 _ fun hx => ⟨by omega, of_decide_eq_true hx⟩, fun _ => j1 _ fun hx => (by cases hx)⟩
end Go.Acq
