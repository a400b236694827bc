/- Texts of this claim, one behind the other. -/
import Derived.Test.YtfdhelnfgfaeaaaA5
import Derived.Test.YtfdhelnfgfaeaaaA2
set_option linter.unusedVariables false
set_option linter.unusedSimpArgs false
namespace Go.Acq
open Go
section
variable {n : Net} {m : Nat} {f : List Int} {out : List (List Int)}
def OrdP (n : Net) (f : List Int) (o : List Int) : Prop := ∀ i, i < o.length → ∀ k, k < n.Arcs.length → 0 < f.getD k 0 → (n.Arcs.getD k default).to = o.getD i 0 → ∃ j, j < i ∧ o.getD j 0 = (n.Arcs.getD k default).fr
structure RowP (m : Nat) (o : List Int) : Prop where
  nd : o.Nodup
  lt : ∀ x, x ∈ o → ∃ v : Nat, x = v ∧ v < m
theorem RowP.len {o : List Int} (h : RowP m o) : o.length ≤ m := by
 have := List.Nodup.length_le_of_subset h.nd (l₂ := (List.range m).map fun v : Nat => (v : Int)) (fun x hx => by
  obtain ⟨v, rfl, hv⟩ := h.lt x hx
  exact List.mem_map.2 ⟨v, List.mem_range.2 hv, rfl⟩)
 rw [List.length_map, List.length_range] at this
 exact this
theorem RowP.perm {o o' : List Int} (h : RowP m o) (hp : List.Perm o o') : RowP m o' := ⟨(List.Perm.nodup_iff hp).1 h.nd, fun x hx => h.lt x ((List.Perm.mem_iff hp).2 hx)⟩
theorem RowP.left {o o' : List Int} (h : RowP m (o ++ o')) : RowP m o := ⟨(List.nodup_append.1 h.nd).1, fun x hx => h.lt x (List.mem_append_left _ hx)⟩
structure KP (n : Net) (m : Nat) (f : List Int) (out : List (List Int)) (o left fr : List Int) (rem : Nat → Bool) : Prop where
  cnt : CntP n m f left rem
  row : RowP m (o ++ fr)
  zero : ∀ v : Nat, v < m → ((v : Int) ∈ o ++ fr ↔ left.getD v 0 = 0)
  ord : OrdP n f o
  none : (∀ k, k < n.Arcs.length → ¬ 0 < f.getD k 0) → o ++ fr = (List.range m).map fun v : Nat => (v : Int)
theorem ins_perm (fr : List Int) (i : Nat) (w : Int) : List.Perm (fr.take i ++ [w] ++ fr.drop i) (w :: fr) := by
 have h1 : List.Perm (fr.take i ++ [w] ++ fr.drop i) ([w] ++ fr.take i ++ fr.drop i) := List.Perm.append_right _ List.perm_append_comm
 have e : [w] ++ fr.take i ++ fr.drop i = w :: fr := by rw [List.append_assoc, List.take_append_drop]; rfl
 rw [e] at h1
 exact h1
theorem KP.start (ho : OutIs n m f out) {left : List Int} (h : CntP n m f left fun _ => false) : KP n m f out [] left (((List.range m).filter fun v => left.getD v 0 = 0).map fun v : Nat => (v : Int)) fun _ => false := by
 refine ⟨h, ⟨?_, fun x hx => ?_⟩, fun v hv => ?_, fun i hi => by simp at hi, fun hn => ?_⟩
 ·
  rw [List.nil_append]
  refine List.pairwise_map.2 (List.Pairwise.imp (fun {a b} hab => ?_) (List.Pairwise.filter _ List.nodup_range))
  exact fun e => hab (Int.natCast_inj.1 e)
 ·
  rw [List.nil_append] at hx
  obtain ⟨v, hv, rfl⟩ := List.mem_map.1 hx
  exact ⟨v, rfl, List.mem_range.1 (List.mem_filter.1 hv).1⟩
 ·
  rw [List.nil_append, List.mem_map]
  constructor
  ·
   rintro ⟨u, hu, e⟩
   rw [← Int.natCast_inj.1 e]
   simpa using (List.mem_filter.1 hu).2
  ·
   intro h0
   exact ⟨v, List.mem_filter.2 ⟨List.mem_range.2 hv, by simpa using h0⟩, rfl⟩
 ·
  rw [List.nil_append, List.filter_eq_self.2]
  intro v hv
  have hv := List.mem_range.1 hv
  rw [decide_eq_true_eq, h.2 v hv, cntIn_zero.2 (fun k hk hf _ => absurd hf (hn k hk))]; rfl
theorem s_round (hm2 : m ≤ 4096) (hl : n.Arcs.length ≤ 16384) (he : Vh m n.Arcs) (ho : OutIs n m f out) {A : List Int} {D O : List Bool} {W : List Int} {o left fr : List Int} {rem : Nat → Bool} (h : KP n m f out o left fr rem) (hr : ∀ k, k < n.Arcs.length → 0 < f.getD k 0 → (rem k = true ↔ (n.Arcs.getD k default).fr ∈ o)) {v : Nat} (Vf : fr.getD 0 0 = (v : Int)) (hf0 : 0 < fr.length) :
    Ok (Ym (fun s => Z2o n (CyclesSearch.mk n out A D O W) o fr s.1 s.2.1 s.2.2) Yc (left, fr.drop 1, 0)) (fun r => r.2.1 = o ++ [(v : Int)] ∧ ∃ rem', KP n m f out (o ++ [(v : Int)]) r.1 r.2.2 rem' ∧ ∀ k, k < n.Arcs.length → 0 < f.getD k 0 → (rem' k = true ↔ (n.Arcs.getD k default).fr ∈ o ++ [(v : Int)])) := by
  obtain ⟨fr', rfl⟩ : ∃ fr', fr = (v : Int) :: fr' := by
    cases fr with
    | nil => simp at hf0
    | cons x fr' => simp only [List.getD_cons_zero] at Vf; subst Vf; exact ⟨fr', rfl⟩
  have happ : o ++ (v : Int) :: fr' = (o ++ [(v : Int)]) ++ fr' := by simp
  obtain ⟨v', e, hvm⟩ := h.row.lt (v : Int) (by simp)
  have e := Int.natCast_inj.1 e
  subst e
  have hvo : (v : Int) ∉ o := fun hm => by
    have := (List.nodup_append.1 h.row.nd).2.2 _ hm _ (.head _)
    exact this rfl
  have hlv : left.getD v 0 = 0 := (h.zero v hvm).1 (by simp)
  have hnd : (out.getD v []).Nodup := by rw [ho.2 v hvm]; exact Z9v _
  have hlo := ho.len hvm
  have hord : OrdP n f (o ++ [(v : Int)]) := by
    intro i hi k hk hf hto
    rw [List.length_append, List.length_singleton] at hi
    by_cases e : i < o.length
    · rw [appL e] at hto
      obtain ⟨j, hj, e2⟩ := h.ord i e k hk hf hto
      exact ⟨j, hj, by rw [appL (by omega)]; exact e2⟩
    · rw [appR (by omega), show i - o.length = 0 by omega] at hto
      have h0 : Jt n.Arcs f rem v n.Arcs.length = 0 := by
        have := h.cnt.2 v hvm
        omega
      have := (hr k hk hf).1 (cntIn_zero.1 h0 k hk hf hto)
      obtain ⟨j, hj, e2⟩ := List.getElem_of_mem this
      exact ⟨j, by omega, by rw [appL hj, List.getD_eq_getElem?_getD, List.getElem?_eq_getElem hj, e2]; rfl⟩
  rw [List.drop_succ_cons, List.drop_zero]
  refine Wy (fun s => ∃ q : Nat, s.2.2 = q ∧ q ≤ (out.getD v []).length ∧ ∃ rem, KP n m f out (o ++ [(v : Int)]) s.1 s.2.1 rem ∧ ∀ k, k < n.Arcs.length → 0 < f.getD k 0 → (rem k = true ↔ (n.Arcs.getD k default).fr ∈ o ∨ ∃ p, p < q ∧ (out.getD v []).getD p 0 = (k : Int))) (fun s => ((out.getD v []).length - s.2.2).toNat)
    ⟨0, rfl, by omega, rem, ⟨h.cnt, by rw [← happ]; exact h.row, fun u hu => by rw [← happ]; exact h.zero u hu, hord, fun hn => by rw [← happ]; exact h.none hn⟩, fun k hk hf => by
      rw [hr k hk hf]
      exact ⟨fun h => .inl h, fun h => by rcases h with h | ⟨p, hp, -⟩; (exact h); omega⟩⟩ (by unfold Yc; simp only; omega) ?_
  rintro ⟨left, fr, y⟩ ⟨q, h1, hq, rem, hK, hrem⟩ P next exit
  simp only at h1 hK next ⊢
  subst h1
  have hoo := ho.1
  have hll := hK.cnt.1
  have hrl := hK.row.len
  rw [List.length_append, List.length_append] at hrl
  unfold Z2o
  simp only [List.getD_cons_zero, Int.toNat_natCast, show (0 : Int).toNat = 0 from rfl]
  refine Ok.ite.2 ⟨fun hy => ?_, fun hy => Ok.some.2 (exit _ ⟨rfl, rem, hK, fun k hk hf => ?_⟩)⟩
  · have hql : q < (out.getD v []).length := by omega
    obtain ⟨k, hk, hkl, hf, hfk⟩ := ho.at hvm hql
    have e1 := he k hkl true
    simp only [Yw, if_true] at e1
    obtain ⟨w, hto⟩ : ∃ w : Nat, (n.Arcs.getD k default).to = (w : Int) := ⟨(n.Arcs.getD k default).to.toNat, by omega⟩
    have hw : w < m := by omega
    have hcw := hK.cnt.2 w hw
    have hcl := Zav (al := n.Arcs) (f := f) (rem := rem) (w := w) n.Arcs.length
    have hrk : rem k = false := by
      rw [Bool.eq_false_iff]
      intro h2
      rcases (hrem k hkl hf).1 h2 with h3 | ⟨p, hp, h3⟩
      · rw [hfk] at h3; exact hvo h3
      · have e : p = q := by
          have g1 : (out.getD v [])[p]'(by omega) = (out.getD v [])[q] := by
            rw [List.getD_eq_getElem?_getD, List.getElem?_eq_getElem (by omega)] at h3 hk
            exact h3.trans hk.symm
          exact (List.getElem_inj hnd).1 g1
        omega
    have hflip := fun u => Zb5 (al := n.Arcs) (f := f) (rem := fun j => if j = k then true else rem j) (rem' := rem) (w := u) (k0 := k) (K := n.Arcs.length) hkl hf (if_pos rfl) hrk (fun j _ hne _ => (if_neg hne).symm)
    have hfw := hflip w
    rw [if_pos hto] at hfw
    have hwn : (w : Int) ∉ (o ++ [(v : Int)]) ++ fr := fun hm => by
      have := (hK.zero w hw).1 hm
      omega
    have hcnt' : CntP n m f (left.set w (left.getD w 0 - 1)) (fun j => if j = k then true else rem j) := ⟨by rw [List.length_set]; exact hll, fun u hu => by
      have := hflip u
      have h2 := hK.cnt.2 u hu
      rw [hto] at this
      rw [Wo, hll]
      by_cases e : w = u
      · subst e; rw [if_pos ⟨rfl, hw⟩]; omega
      · rw [if_neg (fun h => e h.1)]; rw [if_neg (by omega)] at this; omega⟩
    have hrem' : ∀ j, j < n.Arcs.length → 0 < f.getD j 0 → ((if j = k then true else rem j) = true ↔ (n.Arcs.getD j default).fr ∈ o ∨ ∃ p, p < q + 1 ∧ (out.getD v []).getD p 0 = (j : Int)) := by
      intro j hj hfj
      by_cases e : j = k
      · subst e
        rw [if_pos rfl]
        exact ⟨fun _ => .inr ⟨q, by omega, hk⟩, fun _ => rfl⟩
      · rw [if_neg e, hrem j hj hfj]
        constructor
        · rintro (h | ⟨p, hp, h⟩)
          · exact .inl h
          · exact .inr ⟨p, by omega, h⟩
        · rintro (h | ⟨p, hp, h⟩)
          · exact .inl h
          · rcases Nat.lt_or_ge p q with h2 | h2
            · exact .inr ⟨p, h2, h⟩
            · rw [show p = q by omega, hk] at h; exact absurd (Int.natCast_inj.1 h).symm e
    have hnone : ¬ ∀ k, k < n.Arcs.length → ¬ 0 < f.getD k 0 := fun h => h k hkl hf
    simp only [hk, hto, Int.toNat_natCast, List.length_set, Kf (show w < left.length by omega)]
    refine Ok.gd.2 ⟨(by constructor <;> omega), Ok.gd.2 ⟨(by constructor <;> omega), Ok.gd.2 ⟨(by constructor <;> omega), Ok.gd.2 ⟨by rw [hcw]; constructor <;> omega, Ok.gd.2 ⟨(by constructor <;> omega), Ok.gd.2 ⟨(by constructor <;> omega), Ok.ite.2 ⟨fun h0 => ?_, fun h0 => ?_⟩⟩⟩⟩⟩⟩⟩
    · refine Ok.bind.2 (Ok.mono (s_BinS (by omega)) ?_)
      rintro ⟨i, b⟩ ⟨hi0, hi1⟩
      simp only at hi0 hi1 ⊢
      unfold Z94
      refine Ok.bind.2 (Ok.gd.2 ⟨⟨hi0, hi1, by simp, by rw [List.length_append]; simp only [List.length_singleton]; constructor <;> omega⟩, Ok.some.2 ?_⟩)
      have hp := ins_perm fr i.toNat (w : Int)
      have hp2 : List.Perm ((w : Int) :: ((o ++ [(v : Int)]) ++ fr)) ((o ++ [(v : Int)]) ++ (fr.take i.toNat ++ [(w : Int)] ++ fr.drop i.toNat)) :=
        List.perm_middle.symm.trans (List.Perm.append_left _ hp.symm)
      have hrow : RowP m ((w : Int) :: ((o ++ [(v : Int)]) ++ fr)) := ⟨List.nodup_cons.2 ⟨hwn, hK.row.nd⟩, fun x hx => by
        rcases List.mem_cons.1 hx with rfl | hx
        · exact ⟨w, rfl, hw⟩
        · exact hK.row.lt x hx⟩
      refine Ok.gd.2 ⟨(by constructor <;> omega), Ok.some.2 (next _ ⟨q + 1, by simp, by omega, _, ⟨hcnt', hrow.perm hp2, fun u hu => ?_, hord, fun hn => absurd hn hnone⟩, hrem'⟩ (by simp only; omega))⟩
      rw [← List.Perm.mem_iff hp2, List.mem_cons, hK.zero u hu, Wo, hll]
      by_cases e : w = u
      · subst e
        rw [if_pos ⟨rfl, hw⟩]
        exact ⟨fun _ => h0, fun _ => .inl rfl⟩
      · rw [if_neg (fun h => e h.1)]
        exact ⟨fun h => by rcases h with h | h; (exact absurd (Int.natCast_inj.1 h).symm e); exact h, fun h => .inr h⟩
    · refine Ok.gd.2 ⟨(by constructor <;> omega), Ok.some.2 (next _ ⟨q + 1, by simp, by omega, _, ⟨hcnt', hK.row, fun u hu => ?_, hord, fun hn => absurd hn hnone⟩, hrem'⟩ (by simp only; omega))⟩
      rw [Wo, hll]
      by_cases e : w = u
      · subst e
        rw [if_pos ⟨rfl, hw⟩]
        exact ⟨fun h => absurd h hwn, fun h => absurd h h0⟩
      · rw [if_neg (fun h => e h.1)]; exact hK.zero u hu
  · rw [hrem k hk hf, List.mem_append, List.mem_singleton]
    constructor
    · rintro (h | ⟨p, hp, h⟩)
      · exact .inl h
      · obtain ⟨k', hk', -, -, hfk⟩ := ho.at hvm (q := p) (by omega)
        rw [hk'] at h
        rw [← Int.natCast_inj.1 h]; exact .inr hfk
    · rintro (h | h)
      · exact .inl h
      · obtain ⟨p, hp, h2⟩ := ho.in hvm hk hf h
        exact .inr ⟨p, by omega, h2⟩
def Topo (n : Net) (m : Nat) (f : List Int) (o : List Int) : Prop := o.length = m ∧ RowP m o ∧ OrdP n f o
theorem Topo.mem {o : List Int} (h : Topo n m f o) {v : Nat} (hv : v < m) : (v : Int) ∈ o := by
 apply Classical.byContradiction
 intro hn
 have : RowP m ((v : Int) :: o) := ⟨List.nodup_cons.2 ⟨hn, h.2.1.nd⟩, fun x hx => by
  rcases List.mem_cons.1 hx with rfl | hx
  · exact ⟨v, rfl, hv⟩
  · exact h.2.1.lt x hx⟩
 have := this.len
 rw [List.length_cons, h.1] at this
 omega
theorem Topo.acyc {o : List Int} (he : Vh m n.Arcs) (h : Topo n m f o) : Acyc n f := by
 refine ⟨fun v => m - o.idxOf (v : Int), fun k hk hf => ?_⟩
 have e0 := he k hk false
 have e1 := he k hk true
 simp only [Yw, Bool.false_eq_true, if_false, if_true] at e0 e1
 have hto := h.mem (v := (n.Arcs.getD k default).to.toNat) (by omega)
 rw [Int.toNat_of_nonneg e1.1] at hto
 show m - o.idxOf (((n.Arcs.getD k default).to.toNat : Nat) : Int) < m - o.idxOf (((n.Arcs.getD k default).fr.toNat : Nat) : Int)
 rw [Int.toNat_of_nonneg e1.1, Int.toNat_of_nonneg e0.1]
 have hi := List.idxOf_lt_length_of_mem hto
 have hg : o.getD (o.idxOf (n.Arcs.getD k default).to) 0 = (n.Arcs.getD k default).to := by
  rw [List.getD_eq_getElem?_getD, List.getElem?_eq_getElem hi]
  exact List.getElem_idxOf hi
 obtain ⟨j, hj, e⟩ := h.2.2 _ hi k hk hf hg.symm
 have hjl : j < o.length := by omega
 have hle : o.idxOf (n.Arcs.getD k default).fr ≤ j := by
  rw [List.getD_eq_getElem?_getD, List.getElem?_eq_getElem hjl] at e
  have e : o[j] = (n.Arcs.getD k default).fr := e
  have hm : (n.Arcs.getD k default).fr ∈ o := e ▸ List.getElem_mem hjl
  have h2 := List.getElem_idxOf (List.idxOf_lt_length_of_mem hm)
  have := (List.getElem_inj h.2.1.nd (i := o.idxOf (n.Arcs.getD k default).fr) (j := j)).1 (h2.trans e.symm)
  omega
 have := h.1
 omega
theorem Zg7 (ρ : Nat → Nat) : ∀ m : Nat, ∃ B, ∀ v, v < m → ρ v ≤ B
 | 0 => ⟨0, fun v hv => by omega⟩
 | m + 1 => by
  obtain ⟨B, hB⟩ := Zg7 ρ m
  refine ⟨max B (ρ m), fun v hv => ?_⟩
  rcases Nat.lt_or_ge v m with h | h
  · have := hB v h; omega
  · rw [show v = m by omega]; omega
theorem s_Order (hl : lenok n.Arcs.length) : Ok (Z4h n f) (fun r => (¬ FwithinP n f ∧ r = ([], false)) ∨
    (FwithinP n f ∧ (r.2 = true → Topo n n.N.toNat f r.1) ∧ (r.2 = false → r.1 = [] ∧ ¬ Acyc n f) ∧ ((∀ k, k < n.Arcs.length → ¬ 0 < f.getD k 0) → r = ((List.range n.N.toNat).map fun v : Nat => (v : Int), true)))) := by
  unfold Z4h
  refine Ok.bind.2 (Ok.mono (Z3w hl) fun b hb => Ok.ite.2 ⟨fun h => Ok.some.2 (.inl ⟨fun h2 => (by rw [hb.2 h2] at h; cases h), rfl⟩), fun h => ?_⟩)
  have hw : FwithinP n f := hb.1 (by cases b; exact absurd rfl h; rfl)
  obtain ⟨m, hm, -, hm2, hl2, he, hfl⟩ := hw.vert
  refine Ok.bind.2 (Ok.mono (Zeg hm hm2 he hl2 hfl) ?_)
  rintro s ⟨out, rfl, ho⟩
  rw [hm, Int.toNat_natCast]
  refine Ok.gd.2 ⟨(by constructor <;> omega), Ok.bind.2 (Ok.mono (s_count hm2 hl2 he ho) fun left hc => ?_)⟩
  unfold Z7u
  refine Ok.bind.2 (Ok.mono (s_free hm2 hc.1) fun fr Vf => ?_)
  unfold Z6y
  have hst := KP.start ho hc
  rw [← Vf] at hst
  refine Ok.bind.2 (Wy (fun s => ∃ rem, KP n m f out s.2.1 s.1 s.2.2 rem ∧ ∀ k, k < n.Arcs.length → 0 < f.getD k 0 → (rem k = true ↔ (n.Arcs.getD k default).fr ∈ s.2.1)) (fun s => m - s.2.1.length) ⟨_, hst, fun k hk hf => ⟨fun h => (by cases h), fun h => (by cases h)⟩⟩ (by unfold Yc; simp only; omega) ?_)
  rintro ⟨left, o, fr⟩ ⟨rem, hK, hr⟩ P next exit
  simp only at hK hr next ⊢
  have hrl := hK.row.len
  rw [List.length_append] at hrl
  have hoo := ho.1
  unfold Z61
  refine Ok.ite.2 ⟨fun hf => ?_, fun hf => Ok.some.2 (exit _ ?_)⟩
  · have hf0 : 0 < fr.length := by omega
    obtain ⟨v, hv, hvm⟩ := hK.row.lt (fr.getD 0 0) (List.mem_append_right _ (Ku hf0 0))
    simp only [show (0 : Int).toNat = 0 from rfl, show (1 : Int).toNat = 1 from rfl, hv]
    refine Ok.gd.2 ⟨(by constructor <;> omega), Ok.gd.2 ⟨(by constructor <;> omega), Ok.gd.2 ⟨by rw [List.length_append]; simp only [List.length_singleton]; constructor <;> omega, Ok.gd.2 ⟨(by constructor <;> omega), Ok.bind.2 (Ok.mono (s_round hm2 hl2 he ho hK hr hv hf0) ?_)⟩⟩⟩⟩
    rintro ⟨left', o', fr'⟩ ⟨h1, rem', hK', hr'⟩
    simp only at h1 hK' ⊢
    subst h1
    exact Ok.some.2 (next _ ⟨rem', hK', hr'⟩ (by simp only [List.length_append, List.length_singleton]; omega))
  · have hfn : fr = [] := List.eq_nil_of_length_eq_zero (by omega)
    subst hfn
    have hrow := hK.row
    have hzero := hK.zero
    have hnone := hK.none
    rw [List.append_nil] at hrow hnone
    simp only [List.append_nil] at hzero
    unfold Z76
    refine Ok.ite.2 ⟨fun hlt => Ok.some.2 (.inr ⟨hw, fun h => (by cases h), fun _ => ⟨rfl, ?_⟩, fun hn => ?_⟩), fun hge => Ok.some.2 (.inr ⟨hw, fun _ => ⟨by show o.length = m; omega, hrow, hK.ord⟩, fun h => (by cases h), fun hn => ?_⟩)⟩
    · rintro ⟨ρ, hρ⟩
      obtain ⟨B, hB⟩ := Zg7 ρ m
      have key : ∀ N, ∃ v, v < m ∧ (v : Int) ∉ o ∧ N ≤ ρ v := by
        intro N
        induction N with
        | zero =>
          apply Classical.byContradiction
          intro hno
          have : RowP m ((List.range m).map fun v : Nat => (v : Int)) := ⟨List.pairwise_map.2 (List.Pairwise.imp (fun {a b} hab e => hab (Int.natCast_inj.1 e)) List.nodup_range), fun x hx => by
            obtain ⟨v, hv, rfl⟩ := List.mem_map.1 hx
            exact ⟨v, rfl, List.mem_range.1 hv⟩⟩
          have := List.Nodup.length_le_of_subset this.nd (l₂ := o) (fun x hx => by
            obtain ⟨v, hv, rfl⟩ := List.mem_map.1 hx
            exact Classical.byContradiction fun h => hno ⟨v, List.mem_range.1 hv, h, Nat.zero_le _⟩)
          rw [List.length_map, List.length_range] at this
          omega
        | succ N ih =>
          obtain ⟨v, hv, hvo, hN⟩ := ih
          have h0 : ¬ left.getD v 0 = 0 := fun h => hvo ((hzero v hv).2 h)
          have hc := hK.cnt.2 v hv
          have h1 : ¬ Jt n.Arcs f rem v n.Arcs.length = 0 := by omega
          have h2 : ¬ ∀ k, k < n.Arcs.length → 0 < f.getD k 0 → (n.Arcs.getD k default).to = (v : Int) → rem k = true := fun h => h1 (cntIn_zero.2 h)
          obtain ⟨k, h3⟩ := Classical.not_forall.1 h2
          simp only [Classical.not_imp] at h3
          obtain ⟨hk, hfk, hto, hrk⟩ := h3
          have e0 := he k hk false
          simp only [Yw, Bool.false_eq_true, if_false] at e0
          have := hρ k hk hfk
          rw [hto, Int.toNat_natCast] at this
          refine ⟨(n.Arcs.getD k default).fr.toNat, by omega, ?_, by omega⟩
          rw [Int.toNat_of_nonneg e0.1]
          exact fun hm => hrk ((hr k hk hfk).2 hm)
      obtain ⟨v, hv, -, hN⟩ := key (B + 1)
      have := hB v hv
      omega
    · have := hnone hn
      rw [this, List.length_map, List.length_range] at hlt
      omega
    · rw [hnone hn]
end
end Go.Acq
namespace Go.Acq
open Go
def Jw (f : List Int) : Nat → Nat
  | 0 => 0
  | k + 1 => Jw f k + (if 0 < f.getD k 0 then 1 else 0)
theorem Zfo (f : List Int) : ∀ k, Jw f k ≤ k
 | 0 => Nat.le_refl _
 | k + 1 => by have := Zfo f k; simp only [Jw]; split <;> omega
theorem Zdc {f g : List Int} : ∀ {k : Nat}, (∀ i, i < k → g.getD i 0 ≤ f.getD i 0) → Jw g k ≤ Jw f k
 | 0, _ => Nat.le_refl _
 | k + 1, h => by
  have := Zdc (k := k) fun i hi => h i (by omega)
  have := h k (by omega)
  simp only [Jw]; split <;> split <;> omega
theorem Zdy {f g : List Int} {a : Nat} : ∀ {k : Nat}, (∀ i, i < k → g.getD i 0 ≤ f.getD i 0) → a < k → 0 < f.getD a 0 → g.getD a 0 ≤ 0 → Jw g k < Jw f k
 | 0, _, h, _, _ => by omega
 | k + 1, h, ha, hf, hg => by
  by_cases e : a = k
  ·
   subst e
   have := Zdc (k := a) fun i hi => h i (by omega)
   simp only [Jw]
   rw [if_neg (show ¬ 0 < g.getD a 0 by omega), if_pos hf]; omega
  ·
   have := Zdy (k := k) (fun i hi => h i (by omega)) (by omega) hf hg
   have := h k (by omega)
   simp only [Jw]; split <;> split <;> omega
theorem Zag {al : List Arc} {f : List Int} {i : Nat} {y : Int} (hi : i < f.length) (v : Int) : ∀ k, ex al (f.set i y) v k = ex al f v k + if i < k then ((if (al.getD i default).to = v then y - f.getD i 0 else 0) - (if (al.getD i default).fr = v then y - f.getD i 0 else 0)) else 0
 | 0 => by simp [ex]
 | k + 1 => by
  have ih := Zag (al := al) hi v (y := y) k
  simp only [ex]
  rw [ih]
  by_cases e : i = k
  ·
   subst e
   rw [if_neg (show ¬ i < i by omega), if_pos (show i < i + 1 by omega), Kf hi]
   split <;> split <;> omega
  ·
   rw [Vo e]
   by_cases e2 : i < k
   · rw [if_pos e2, if_pos (show i < k + 1 by omega)]; omega
   · rw [if_neg e2, if_neg (show ¬ i < k + 1 by omega)]; omega
structure Canc (n : Net) (f g : List Int) : Prop where
  len : g.length = n.Arcs.length
  le : ∀ i, i < n.Arcs.length → 0 ≤ g.getD i 0 ∧ g.getD i 0 ≤ f.getD i 0
  ex : ∀ v, ex n.Arcs g v n.Arcs.length = ex n.Arcs f v n.Arcs.length
  all : ∀ a, a < n.Arcs.length → (∀ f' c, (∀ i, i < n.Arcs.length → f'.getD i 0 ≤ f.getD i 0) → Cyc n f' c → ∃ j, j < c.length ∧ c.getD j 0 = (a : Int)) → ∀ b, b < n.Arcs.length → f.getD b 0 - g.getD b 0 ≤ f.getD a 0 - g.getD a 0
theorem Canc.refl {n : Net} {f : List Int} (hl : f.length = n.Arcs.length) (h : ∀ i, i < n.Arcs.length → 0 ≤ f.getD i 0) : Canc n f f := ⟨hl, fun i hi => ⟨h i hi, Int.le_refl _⟩, fun _ => rfl, fun a _ _ b _ => by omega⟩
theorem Canc.trans {n : Net} {f g h : List Int} (h1 : Canc n f g) (h2 : Canc n g h) : Canc n f h :=
 ⟨h2.len, fun i hi => by have := h1.le i hi; have := h2.le i hi; omega, fun v => (h2.ex v).trans (h1.ex v), fun a ha hc b hb => by
  have e1 := h1.all a ha hc b hb
  have e2 := h2.all a ha (fun f' c hf' hcy => hc f' c (fun i hi => by have := hf' i hi; have := h1.le i hi; omega) hcy) b hb
  omega⟩
theorem Canc.within {n : Net} {f g : List Int} (h : Canc n f g) (hw : FwithinP n f) : FwithinP n g := ⟨hw.1, h.len, fun i hi => by have := h.le i hi; have := hw.2.2 i hi; omega⟩
section
variable {n : Net} {f c : List Int}
theorem s_least (hc : Cyc n f c) (hf : f.length = n.Arcs.length) (hl : n.Arcs.length ≤ 16384) (hcl : c.length ≤ n.Arcs.length) :
    Ok (Ym (fun s => Z2p f c s.1 s.2) Yc (f.getD (c.getD 0 0).toNat 0, 0)) (fun d => (∀ j, j < c.length → d ≤ f.getD (c.getD j 0).toNat 0) ∧ ∃ j, j < c.length ∧ d = f.getD (c.getD j 0).toNat 0) := by
  refine Wy (fun s => ∃ j : Nat, s.2 = j ∧ j ≤ c.length ∧ (∀ i, i < j → s.1 ≤ f.getD (c.getD i 0).toNat 0) ∧ ∃ i, i < c.length ∧ s.1 = f.getD (c.getD i 0).toNat 0) (fun s => (c.length - s.2).toNat) ⟨0, rfl, by omega, fun i hi => by omega, 0, hc.1, rfl⟩ (by unfold Yc; simp only; omega) ?_
  rintro ⟨d, x⟩ ⟨j, h1, hj, h2, h3⟩ P next exit
  simp only at h1 h2 h3 next ⊢
  subst h1
  unfold Z2p
  simp only [Int.toNat_natCast]
  refine Ok.ite.2 ⟨fun hx => ?_, fun hx => Ok.some.2 (exit _ ⟨fun i hi => h2 i (by omega), h3⟩)⟩
  obtain ⟨k, hk, hkl, hfk, -⟩ := hc.2.1 j (by omega)
  simp only [hk]
  refine Ok.gd.2 ⟨(by constructor <;> omega), Ok.gd.2 ⟨(by constructor <;> omega), Ok.gd.2 ⟨(by constructor <;> omega), Ok.some.2 (next _ ⟨j + 1, by simp, by omega, fun i hi => ?_, ?_⟩ (by simp only; omega))⟩⟩⟩
  · simp only [Int.toNat_natCast]
    rcases Nat.lt_or_ge i j with h | h
    · have := h2 i h; omega
    · rw [show i = j by omega, hk, Int.toNat_natCast]; omega
  · simp only [Int.toNat_natCast]
    obtain ⟨i, hi, e⟩ := h3
    by_cases hle : d ≤ f.getD k 0
    · exact ⟨i, hi, by rw [Int.min_eq_left hle]; exact e⟩
    · exact ⟨j, by omega, by rw [Int.min_eq_right (by omega), hk, Int.toNat_natCast]⟩
theorem Cyc.arc_inj (hc : Cyc n f c) {i j : Nat} (hi : i < c.length) (hj : j < c.length) (h : c.getD i 0 = c.getD j 0) : i = j := hc.2.2 i j hi hj (by rw [h])
theorem Cyc.len (hc : Cyc n f c) : c.length ≤ n.Arcs.length := by
 have hnd : (c.map Int.toNat).Nodup := by
  refine List.pairwise_iff_getElem.2 fun i j hi hj hij h => ?_
  rw [List.length_map] at hi hj
  rw [List.getElem_map, List.getElem_map] at h
  obtain ⟨a, ha, -⟩ := hc.2.1 i (by omega)
  obtain ⟨b, hb, -⟩ := hc.2.1 j hj
  have e1 : c.getD i 0 = c[i] := by rw [List.getD_eq_getElem?_getD, List.getElem?_eq_getElem (by omega)]; rfl
  have e2 : c.getD j 0 = c[j] := by rw [List.getD_eq_getElem?_getD, List.getElem?_eq_getElem hj]; rfl
  have := hc.arc_inj (i := i) (j := j) (by omega) hj (by rw [ha, hb]; rw [← e1, ← e2, ha, hb, Int.toNat_natCast, Int.toNat_natCast] at h; rw [h])
  omega
 have := List.Nodup.length_le_of_subset hnd (l₂ := List.range n.Arcs.length) (fun u hu => by
  obtain ⟨x, hx, rfl⟩ := List.mem_map.1 hu
  obtain ⟨i, hi, rfl⟩ := List.getElem_of_mem hx
  obtain ⟨a, ha, hal, -⟩ := hc.2.1 i hi
  have e1 : c.getD i 0 = c[i] := by rw [List.getD_eq_getElem?_getD, List.getElem?_eq_getElem hi]; rfl
  rw [← e1, ha, Int.toNat_natCast]
  exact List.mem_range.2 hal)
 rw [List.length_map, List.length_range] at this
 exact this
theorem s_take {d : Int} (hc : Cyc n f c) (hw : FwithinP n f) (hl : n.Arcs.length ≤ 16384) (hd0 : 0 < d) (hd : ∀ j, j < c.length → d ≤ f.getD (c.getD j 0).toNat 0) :
    Ok (Ym (fun s => Z1c c d s.1 s.2) Yc (f, 0)) (fun g => Canc n f g ∧ ∀ j, j < c.length → g.getD (c.getD j 0).toNat 0 = f.getD (c.getD j 0).toNat 0 - d) := by
  have hcl := hc.len
  have hfl := hw.2.1
  refine Wy (fun s => ∃ j : Nat, s.2 = j ∧ j ≤ c.length ∧ s.1.length = n.Arcs.length ∧ (∀ i, i < n.Arcs.length → (s.1.getD i 0 = f.getD i 0 ∧ ∀ p, p < j → c.getD p 0 ≠ (i : Int)) ∨ (s.1.getD i 0 = f.getD i 0 - d ∧ ∃ p, p < j ∧ c.getD p 0 = (i : Int))) ∧
    ∀ v, ex n.Arcs s.1 v n.Arcs.length = ex n.Arcs f v n.Arcs.length + (if (n.Arcs.getD (c.getD 0 0).toNat default).fr = v then d else 0) - (if (n.Arcs.getD (c.getD (j % c.length) 0).toNat default).fr = v then d else 0))
    (fun s => (c.length - s.2).toNat) ⟨0, rfl, by omega, hfl, fun i hi => .inl ⟨rfl, fun p hp => by omega⟩, fun v => by rw [Nat.zero_mod]; simp only; omega⟩ (by unfold Yc; simp only; omega) ?_
  rintro ⟨xs, x⟩ ⟨j, h1, hj, hxl, hxs, hex⟩ P next exit
  simp only at h1 hxl hxs hex next ⊢
  subst h1
  unfold Z1c
  simp only [Int.toNat_natCast]
  refine Ok.ite.2 ⟨fun hx => ?_, fun hx => ?_⟩
  · have hjl : j < c.length := by omega
    obtain ⟨k, hk, hkl, hfk, hto⟩ := hc.2.1 j hjl
    have hdk := hd j hjl
    rw [hk, Int.toNat_natCast] at hdk
    have hwk := hw.2.2 k hkl
    have ht1 := hw.tot (k + 1) (by omega)
    have ht0 := hw.tot k (by omega)
    simp only [tot] at ht1
    have hxk : xs.getD k 0 = f.getD k 0 := by
      rcases hxs k hkl with h | ⟨-, p, hp, e⟩
      · exact h.1
      · have := hc.arc_inj (i := p) (j := j) (by omega) hjl (by rw [e, hk]); omega
    simp only [hk, Int.toNat_natCast, hxk]
    refine Ok.gd.2 ⟨(by constructor <;> omega), Ok.gd.2 ⟨(by constructor <;> omega), Ok.gd.2 ⟨(by constructor <;> omega), Ok.gd.2 ⟨(by constructor <;> omega), Ok.gd.2 ⟨(by constructor <;> omega), Ok.some.2 (next _ ⟨j + 1, by simp, by omega, by simp [hxl], fun i hi => ?_, fun v => ?_⟩ (by simp only; omega))⟩⟩⟩⟩⟩
    · by_cases e : k = i
      · subst e
        exact .inr ⟨Kf (by omega), j, by omega, hk⟩
      · simp only [Vo e]
        rcases hxs i hi with ⟨h, h2⟩ | ⟨h, p, hp, h2⟩
        · refine .inl ⟨h, fun p hp => ?_⟩
          rcases Nat.lt_or_ge p j with h3 | h3
          · exact h2 p h3
          · rw [show p = j by omega, hk]; omega
        · exact .inr ⟨h, p, by omega, h2⟩
    · simp only
      rw [Zag (by omega), if_pos hkl, hex v, hxk, Nat.mod_eq_of_lt hjl, hk, Int.toNat_natCast, hto]
      split <;> split <;> split <;> omega
  · have e : j = c.length := by omega
    subst e
    refine Ok.some.2 (exit _ ⟨⟨hxl, fun i hi => ?_, fun v => ?_, fun a ha hca b hb => ?_⟩, fun p hp => ?_⟩)
    · have := hw.2.2 i hi
      rcases hxs i hi with ⟨h, -⟩ | ⟨h, p, hp, h2⟩
      · omega
      · have := hd p hp
        rw [h2, Int.toNat_natCast] at this; omega
    · rw [hex v, Nat.mod_self]; omega
    · obtain ⟨p, hp, h2⟩ := hca f c (fun i _ => Int.le_refl _) hc
      have ea : xs.getD a 0 = f.getD a 0 - d := by
        rcases hxs a ha with ⟨-, h⟩ | ⟨h, -⟩
        · exact absurd h2 (h p hp)
        · exact h
      rcases hxs b hb with ⟨h, -⟩ | ⟨h, -⟩ <;> omega
    · obtain ⟨k, hk, hkl, -⟩ := hc.2.1 p hp
      rw [hk, Int.toNat_natCast]
      rcases hxs k hkl with ⟨-, h⟩ | ⟨h, -⟩
      · exact absurd hk (h p hp)
      · exact h
theorem s_Cancel (hl : lenok n.Arcs.length) : Ok (Z5o n f) (fun r => (¬ FwithinP n f ∧ r = ([], 0, 20)) ∨
    (FwithinP n f ∧ r.2.2 = 0 ∧ Canc n f r.1 ∧ Acyc n r.1 ∧ Z1k n r.1 = some [] ∧ 0 ≤ r.2.1 ∧ r.2.1 ≤ Jw f n.Arcs.length ∧ (Acyc n f → r.1 = f ∧ r.2.1 = 0) ∧ (¬ Acyc n f → 0 < r.2.1))) := by
  unfold Z5o
  refine Ok.bind.2 (Ok.mono (Z3w hl) fun b hb => Ok.ite.2 ⟨fun h => Ok.some.2 (.inl ⟨fun h2 => (by rw [hb.2 h2] at h; cases h), rfl⟩), fun h => ?_⟩)
  have hw : FwithinP n f := hb.1 (by cases b; exact absurd rfl h; rfl)
  obtain ⟨m, hm, -, hm2, hl2, he, hfl⟩ := hw.vert
  have hcl : Lk f = some f := by
    refine Jl ?_
    unfold Lk
    exact Ok.gd.2 ⟨by constructor <;> omega, Ok.some.2 rfl⟩
  refine Ok.bind.2 (Vl hcl (Ok.bind.2 ?_))
  have hpl := Zfo f n.Arcs.length
  refine Wy (fun s => Canc n f s.1 ∧ 0 ≤ s.2 ∧ s.2 + Jw s.1 n.Arcs.length ≤ Jw f n.Arcs.length ∧ (Acyc n f → s.1 = f ∧ s.2 = 0) ∧ (¬ Acyc n f → (s.1 = f ∧ s.2 = 0) ∨ 0 < s.2)) (fun s => Jw s.1 n.Arcs.length) ⟨Canc.refl hfl fun i hi => (hw.2.2 i hi).1, by simp only; omega, by simp only; omega, fun _ => ⟨rfl, rfl⟩, fun _ => .inl ⟨rfl, rfl⟩⟩ (by unfold Yc; simp only; omega) ?_
  rintro ⟨g, k⟩ ⟨hC, hk0, hk, hA, hB⟩ P next exit
  simp only at hC hk0 hk hA hB next ⊢
  have hwg := hC.within hw
  unfold Z6j
  obtain ⟨c, hc1, hc2⟩ := s_first hm hm2 hl2 he hC.len
  refine Ok.bind.2 (Vl hc1 (Ok.ite.2 ⟨fun hx => ?_, fun hx => ?_⟩))
  · have hcn : c = [] := List.eq_nil_of_length_eq_zero (by omega)
    subst hcn
    have hacy : Acyc n g := by
      rcases hc2 with h | h
      · have := h.1; simp at this
      · exact h.2
    refine Ok.some.2 (exit _ (Ok.some.2 (.inr ⟨hw, rfl, hC, hacy, hc1, hk0, (by show k ≤ _; omega), hA, fun h => ?_⟩)))
    rcases hB h with ⟨h1, -⟩ | h1
    · subst h1; exact absurd hacy h
    · exact h1
  · have hcy : Cyc n g c := by
      rcases hc2 with h | h
      · exact h
      · rw [h.1] at hx; exact absurd rfl hx
    have hnA : ¬ Acyc n f := fun h => by
      have := (hA h).1
      subst this
      exact hcy.not h
    have hcl := hcy.len
    obtain ⟨k0, hk0', hk0l, hk0f, -⟩ := hcy.2.1 0 hcy.1
    have hgl := hC.len
    simp only [show (0 : Int).toNat = 0 from rfl]
    refine Ok.gd.2 ⟨by have := hcy.1; constructor <;> omega, Ok.gd.2 ⟨by simp only [hk0']; constructor <;> omega, Ok.bind.2 (Ok.mono (s_least hcy hC.len hl2 hcl) ?_)⟩⟩
    rintro d ⟨hd1, p, hp, hd2⟩
    unfold Z7h
    obtain ⟨a, ha, hal, haf, -⟩ := hcy.2.1 p hp
    rw [ha, Int.toNat_natCast] at hd2
    refine Ok.bind.2 (Ok.mono (s_take hcy hwg hl2 (by omega) hd1) ?_)
    rintro g2 ⟨hC2, hg2⟩
    unfold Z9p
    have h0 := hg2 p hp
    rw [ha, Int.toNat_natCast] at h0
    have hlt := Zdy (f := g) (g := g2) (a := a) (k := n.Arcs.length) (fun i hi => (hC2.le i hi).2) hal haf (by omega)
    exact Ok.gd.2 ⟨by constructor <;> omega, Ok.some.2 (next _ ⟨hC.trans hC2, by simp only; omega, by simp only; omega, fun h => absurd h hnA, fun _ => .inr (by simp only; omega)⟩ hlt)⟩
end
end Go.Acq
namespace Go.Acq
open Go
def FirstAt (l : List Int) (x : Int) (r : Nat) : Prop := r ≤ l.length ∧ (∀ k, k < r → l.getD k 0 < x) ∧ (r < l.length → x ≤ l.getD r 0)
theorem Zit {l : List Int} {x : Int} (hl : l.length ≤ 4611686018427387904) (hm : ∀ i j, i ≤ j → j < l.length → l.getD i 0 ≤ l.getD j 0) : Ok (Z5i l x) (fun r => ∃ n : Nat, r = n ∧ FirstAt l x n) := by
 unfold Z5i Z99
 refine Ok.bind.2 (Ok.bind.2 (Wy (fun s => ∃ i j : Nat, s = ((i : Int), (j : Int)) ∧ i ≤ j ∧ j ≤ l.length ∧ (∀ k, k < i → l.getD k 0 < x) ∧ (j < l.length → x ≤ l.getD j 0)) (fun s => (s.2 - s.1).toNat) ⟨0, l.length, rfl, by omega, by omega, fun k h => by omega, fun h => by omega⟩ (by unfold Yc; omega) ?_))
 rintro s ⟨i, j, rfl, h1, h2, h3, h4⟩ P next exit
 unfold Z4i Z8h
 have next : ∀ i' j' : Nat, i' ≤ j' → j' ≤ l.length → (∀ k, k < i' → l.getD k 0 < x) → (j' < l.length → x ≤ l.getD j' 0) → j' - i' < j - i → P (.inl ((i' : Int), (j' : Int))) := fun i' j' a b c d e => next _ ⟨i', j', rfl, a, b, c, d⟩ (by simp only; omega)
 simp only
 refine Ok.ite.2 ⟨fun hx => ?_, fun hx => Ok.some.2 (exit _ ?_)⟩
 ·
  have hd : Int.fdiv ((i : Int) + j) (2 ^ 1) = ((i + j) / 2 : Nat) := by rw [Int.fdiv_eq_ediv_of_nonneg _ (by omega)]; omega
  simp only [hd, Int.toNat_natCast]
  refine Ok.gd.2 ⟨(by omega), Ok.gd.2 ⟨(by omega), Ok.gd.2 ⟨(by omega), Ok.bind.2 (Ok.gd.2 ⟨(by omega), Ok.some.2 (Ok.ite.2 ⟨fun hb => ?_, fun hb => ?_⟩)⟩)⟩⟩⟩
  ·
   have hb : l.getD ((i + j) / 2) 0 < x := by
    have : ¬ x ≤ l.getD ((i + j) / 2) 0 := by simpa using hb
    omega
   refine Ok.gd.2 ⟨(by omega), Ok.some.2 ?_⟩
   have := next ((i + j) / 2 + 1) j (by omega) h2 (fun k hk => by have := hm k ((i + j) / 2) (by omega) (by omega); omega) h4 (by omega)
   rwa [show (((i + j) / 2 + 1 : Nat) : Int) = (((i + j) / 2 : Nat) : Int) + 1 by omega] at this
  ·
   have hb : x ≤ l.getD ((i + j) / 2) 0 := by
    have : ¬ ¬ x ≤ l.getD ((i + j) / 2) 0 := by simpa using hb
    omega
   exact Ok.some.2 (next i ((i + j) / 2) (by omega) (by omega) h3 (fun _ => hb) (by omega))
 ·
  unfold Z8k
  have : i = j := by omega
  subst this
  exact Ok.some.2 (Ok.some.2 ⟨i, rfl, h2, h3, h4⟩)
theorem s_Len (c : Csr) : Z03 c = some (c.Head.length : Int) := rfl
theorem s_Tail {n : Net} {m : Nat} {c : Csr} (hc : CsrIs n m c) (he : Vh m n.Arcs) (hm : m ≤ 4096) (hl : n.Arcs.length ≤ 16384) {i : Nat} {s : Bool} (hi : i < n.Arcs.length) (hne : (n.Arcs.getD i default).fr ≠ (n.Arcs.getD i default).to) :
    Z1m c (Zm n.Arcs i s : Nat) = some (Yw (n.Arcs.getD i default) s, true) := by
  refine Jl ?_
  have hp := Na (s := s) hi hne he
  have hbs := Z00 (al := n.Arcs) (v := m) (by omega) (by omega)
  have lf := hc.ok.lf
  have lh := hc.ok.lh
  unfold Z1m
  refine Ok.ite.2 ⟨fun h => by omega, fun _ => Ok.bind.2 (Vl (s_Len c) ?_)⟩
  unfold Z4u
  refine Ok.ite.2 ⟨fun h => by have := of_decide_eq_true h; omega, fun _ => Ok.gd.2 ⟨(by omega), ?_⟩⟩
  refine Ok.bind.2 (Ok.mono (Zit (by omega) fun a b hab hb => ?_) ?_)
  · rw [hc.ok.hf a (by omega), hc.ok.hf b (by omega)]
    have := Gs (al := n.Arcs) hab
    omega
  rintro r ⟨k, rfl, g1, g2, g3⟩
  have hv := he i hi s
  obtain ⟨v, hv'⟩ : ∃ v : Nat, Yw (n.Arcs.getD i default) s = v := ⟨(Yw (n.Arcs.getD i default) s).toNat, by omega⟩
  have hcl := Rq (s := s) hi hne hv.1
  have hpos : Zm n.Arcs i s = Yo n.Arcs v + cnt n.Arcs v i := by unfold Zm; rw [hv', Int.toNat_natCast]
  rw [hv'] at hv hcl ⊢
  rw [Int.toNat_natCast] at hcl
  have hb1 : Yo n.Arcs (v + 1) = Yo n.Arcs v + cnt n.Arcs v n.Arcs.length := rfl
  have e : k = v + 1 := by
    rcases Nat.lt_trichotomy k (v + 1) with h | h | h
    · have h3 := g3 (by omega)
      rw [hc.ok.hf k (by omega)] at h3
      have := Gs (al := n.Arcs) (show k ≤ v by omega)
      omega
    · exact h
    · have h3 := g2 (v + 1) h
      rw [hc.ok.hf (v + 1) (by omega)] at h3
      omega
  subst e
  refine Ok.gd.2 ⟨(by omega), Ok.some.2 ?_⟩
  simp
end Go.Acq
namespace Go.Acq
open Go
theorem Le {α : Type} {xs ys : List α} {d : α} {i : Nat} (h : i < xs.length) : (xs ++ ys).getD i d = xs.getD i d := by
 rw [List.getD_eq_getElem?_getD, List.getElem?_append_left h, List.getD_eq_getElem?_getD]
theorem Z37 {α : Type} {xs ys : List α} {d : α} {i : Nat} (h : xs.length ≤ i) : (xs ++ ys).getD i d = ys.getD (i - xs.length) d := by
 rw [List.getD_eq_getElem?_getD, List.getElem?_append_right h, List.getD_eq_getElem?_getD]
theorem Zg9 {al : List Arc} {i v : Nat} {s : Bool} (hi : i < al.length) (hne : (al.getD i default).fr ≠ (al.getD i default).to) (h0 : 0 ≤ Yw (al.getD i default) s) (h1 : Yo al v ≤ Zm al i s) (h2 : Zm al i s < Yo al (v + 1)) : Yw (al.getD i default) s = v ∧ Zm al i s = Yo al v + cnt al v i := by
 obtain ⟨u, hu⟩ : ∃ u : Nat, Yw (al.getD i default) s = u := ⟨(Yw (al.getD i default) s).toNat, by omega⟩
 have hcl := Rq (s := s) hi hne h0
 have hpos : Zm al i s = Yo al u + cnt al u i := by unfold Zm; rw [hu, Int.toNat_natCast]
 rw [hu, Int.toNat_natCast] at hcl
 have hb1 : Yo al (u + 1) = Yo al u + cnt al u al.length := rfl
 have : u = v := by
  rcases Nat.lt_trichotomy u v with h | h | h
  · have := Gs (al := al) (show u + 1 ≤ v by omega); omega
  · exact h
  · have := Gs (al := al) (show v + 1 ≤ u by omega); omega
 subst this
 exact ⟨hu, hpos⟩
end Go.Acq
namespace Go.Acq
open Go
def Xz (c : List Bool) (v : Int) : Bool := c.getD v.toNat false
def Ly (n : Net) (c : List Bool) : Prop := Us n.N n.S n.T n.Arcs = 0 ∧ (c.length : Int) = n.N ∧ Xz c n.S = true ∧ Xz c n.T = false
theorem Zju {n : Net} {c : List Bool} (hl : lenok n.Arcs.length) : Ok (Z5e n c) (fun b => b = true ↔ Ly n c) := by
 unfold Z5e
 refine Ok.bind.2 (Vl (Za4 n hl) (Ok.ite.2 ⟨fun h0 => Ok.ite.2 ⟨fun h1 => ?_, fun h1 => Ok.some.2 ⟨fun h => (by cases h), fun h => absurd h.2.1 h1⟩⟩, fun h0 => Ok.some.2 ⟨fun h => (by cases h), fun h => absurd h.1 h0⟩⟩))
 have hz := Un h0
 simp only [Uh, decide_eq_true_eq] at hz
 refine Ok.gd.2 ⟨(by omega), Ok.ite.2 ⟨fun h2 => Ok.gd.2 ⟨(by omega), Ok.some.2 ⟨fun h3 => ⟨h0, h1, h2, by simpa [Xz] using h3⟩, fun h3 => by have := h3.2.2.2; simpa [Xz] using this⟩⟩, fun h2 => Ok.some.2 ⟨fun h => (by cases h), fun h => absurd h.2.2.1 h2⟩⟩⟩
theorem s_has {c : List Bool} {v : Int} (h0 : 0 ≤ v) (h : v < c.length) : Z33 c v = some (Xz c v) := by
 unfold Z33
 rw [if_pos h, Ko ⟨h0, h⟩]; rfl
theorem s_across {S X : Type} {y : S → Int × Bool → Option (S ⊕ X)} {n : Net} {c : List Bool} {m : Nat} {s0 : S} (I : Nat → S → Prop) (J : X → Prop) (he : Vh m n.Arcs) (hc : c.length = m) (hl : lenok n.Arcs.length) (h0 : I 0 s0)
    (hstep : ∀ k s, k < n.Arcs.length → I k s → (Xz c (n.Arcs.getD k default).fr ≠ Xz c (n.Arcs.getD k default).to → Ok (y s ((k : Int), Xz c (n.Arcs.getD k default).fr)) (fun r => match r with | .inl s' => I (k + 1) s' | .inr x => J x)) ∧
      (Xz c (n.Arcs.getD k default).fr = Xz c (n.Arcs.getD k default).to → I (k + 1) s)) :
    Ok (Z5b y n c (.inl s0)) (fun t => match t with | .inl s => I n.Arcs.length s | .inr x => J x) := by
  unfold Z5b
  refine Ok.bind.2 (Wy (fun s => ∃ (k : Nat) (st : S), s = ((k : Int), Sum.inl st) ∧ k ≤ n.Arcs.length ∧ I k st) (fun s => (n.Arcs.length - s.1).toNat) ⟨0, s0, rfl, by omega, h0⟩ (by unfold Yc; simp only; omega) ?_)
  rintro s ⟨k, st, rfl, hk, hI⟩ P next exit
  unfold Z6g
  simp only [Int.toNat_natCast]
  refine Ok.ite.2 ⟨fun hx => ?_, fun hx => Ok.some.2 (exit _ (Ok.some.2 ?_))⟩
  · have hkl : k < n.Arcs.length := by omega
    have e0 := he k hkl false
    have e1 := he k hkl true
    simp only [Yw, Bool.false_eq_true, if_false, if_true] at e0 e1
    obtain ⟨g1, g2⟩ := hstep k st hkl hI
    refine Ok.gd.2 ⟨(by omega), Ok.bind.2 (Vl (s_has e0.1 (by omega)) (Ok.bind.2 (Vl (s_has e1.1 (by omega)) (Ok.ite.2 ⟨fun h => ?_, fun h => ?_⟩))))⟩
    · have hne : Xz c (n.Arcs.getD k default).fr ≠ Xz c (n.Arcs.getD k default).to := fun e => by rw [e] at h; simp at h
      refine Ok.bind.2 ?_
      show Ok (y st _) _
      refine Ok.mono (g1 hne) ?_
      rintro (s' | x) hr
      · exact Ok.ite.2 ⟨fun h => by simp at h, fun _ => Ok.gd.2 ⟨(by omega), Ok.some.2 (next _ ⟨k + 1, s', by simp, by omega, hr⟩ (by simp only; omega))⟩⟩
      · exact Ok.ite.2 ⟨fun _ => Ok.some.2 (exit _ (Ok.some.2 hr)), fun h => by simp at h⟩
    · have heq : Xz c (n.Arcs.getD k default).fr = Xz c (n.Arcs.getD k default).to := by simpa using h
      exact Ok.gd.2 ⟨(by omega), Ok.some.2 (next _ ⟨k + 1, st, by simp, by omega, g2 heq⟩ (by simp only; omega))⟩
  · obtain rfl : k = n.Arcs.length := by omega
    exact hI
def Lz (al : List Arc) (c : List Bool) : Nat → Int
  | 0 => 0
  | k + 1 => Lz al c k + (if Xz c (al.getD k default).fr = true ∧ Xz c (al.getD k default).to = false then (al.getD k default).cap else 0)
def Ng (al : List Arc) (f : List Int) (c : List Bool) : Nat → Int
  | 0 => 0
  | k + 1 => Ng al f c k + (if Xz c (al.getD k default).fr = true ∧ Xz c (al.getD k default).to = false then f.getD k 0 else 0) - (if Xz c (al.getD k default).fr = false ∧ Xz c (al.getD k default).to = true then f.getD k 0 else 0)
def totC (al : List Arc) : Nat → Int
  | 0 => 0
  | k + 1 => totC al k + (al.getD k default).cap
theorem Zd3 (al : List Arc) : ∀ k, k ≤ al.length → totC al k = tot (al.map (·.cap)) k
 | 0, _ => rfl
 | k + 1, hk => by
  simp only [totC, tot, Zd3 al k (by omega)]
  rw [List.getD_eq_getElem?_getD, List.getD_eq_getElem?_getD, List.getElem?_map, List.getElem?_eq_getElem (show k < al.length by omega)]; rfl
theorem Zk7 {al : List Arc} {i : Nat} (hi : i < al.length) : (al.map (·.cap)).getD i 0 = (al.getD i default).cap := by
 rw [List.getD_eq_getElem?_getD, List.getD_eq_getElem?_getD, List.getElem?_map, List.getElem?_eq_getElem hi]; rfl
theorem Zli {n : Net} (h : Us n.N n.S n.T n.Arcs = 0) (hc : ∀ i, i < n.Arcs.length → 0 ≤ (n.Arcs.getD i default).cap) : FwithinP n (n.Arcs.map (·.cap)) :=
 ⟨h, by simp, fun i hi => by rw [Zk7 hi]; exact ⟨hc i hi, Int.le_refl _⟩⟩
theorem Za7 {n : Net} (h : Us n.N n.S n.T n.Arcs = 0) : ∀ i, i < n.Arcs.length → 0 ≤ (n.Arcs.getD i default).cap := fun i hi => by
 have := List.all_eq_true.1 (Un h).2.2.2.2.1 _ (Ku hi default)
 simpa [Nn] using this
theorem Z8p {n : Net} (h : Us n.N n.S n.T n.Arcs = 0) : ∀ k, k ≤ n.Arcs.length → 0 ≤ totC n.Arcs k ∧ totC n.Arcs k ≤ 4611686018427387904 := fun k hk => by
 rw [Zd3 _ k hk]
 have := (Zli h (Za7 h)).tot k (by simpa using hk)
 exact this
theorem Zbi {n : Net} (h : Us n.N n.S n.T n.Arcs = 0) : ∃ m : Nat, n.N = m ∧ Vh m n.Arcs := by
 have hz := Un h
 obtain ⟨m, hm⟩ : ∃ m : Nat, n.N = m := ⟨n.N.toNat, by omega⟩
 exact ⟨m, hm, Z17 (by rw [← hm]; exact hz.2.2.2.1)⟩
def Kz (al : List Arc) (f : List Int) (c : List Bool) (i : Nat) : Prop :=
  (Xz c (al.getD i default).fr = true → Xz c (al.getD i default).to = false → (al.getD i default).cap ≤ f.getD i 0) ∧ (Xz c (al.getD i default).fr = false → Xz c (al.getD i default).to = true → f.getD i 0 ≤ 0)
theorem s_Tight {n : Net} {f : List Int} {c : List Bool} (hl : lenok n.Arcs.length) : Ok (Z47 n f c) (fun b => b = true ↔ Ly n c ∧ FwithinP n f ∧ ∀ i, i < n.Arcs.length → Kz n.Arcs f c i) := by
 unfold Z47
 refine Ok.bind.2 (Ok.mono (Zju hl) fun b hb => Ok.ite.2 ⟨fun h => Ok.some.2 ⟨fun h2 => (by cases h2), fun h2 => (by rw [hb.2 h2.1] at h; cases h)⟩, fun h => ?_⟩)
 have hR := hb.1 (Z0f h)
 refine Ok.bind.2 (Ok.mono (Z3w hl) fun b hb => Ok.ite.2 ⟨fun h => Ok.some.2 ⟨fun h2 => (by cases h2), fun h2 => (by rw [hb.2 h2.2.1] at h; cases h)⟩, fun h => ?_⟩)
 have hw := hb.1 (Z0f h)
 have hfl := hw.2.1
 obtain ⟨m, hm, he⟩ := Zbi hR.1
 refine Ok.bind.2 (Ok.some.2 (Ok.bind.2 (Ok.mono (s_across (m := m) (fun k _ => ∀ i, i < k → Kz n.Arcs f c i) (fun _ => ¬∀ i, i < n.Arcs.length → Kz n.Arcs f c i) he (by have := hR.2.1; omega) hl (fun i hi => by omega) ?_) ?_)))
 ·
  rintro k ⟨⟩ hk hI
  have more : Kz n.Arcs f c k → ∀ i, i < k + 1 → Kz n.Arcs f c i := fun ht i hi => by
   rcases Nat.lt_or_ge i k with h | h
   · exact hI i h
   · rw [show i = k by omega]; exact ht
  refine ⟨fun hne => ?_, fun heq => more ⟨fun h1 h2 => (by rw [heq, h2] at h1; cases h1), fun h1 h2 => (by rw [heq, h2] at h1; cases h1)⟩⟩
  unfold Z2w
  simp only [Int.toNat_natCast]
  refine Ok.ite.2 ⟨fun h => ?_, fun h => ?_⟩
  ·
   have h' : Xz c (n.Arcs.getD k default).to = false := by cases hq : Xz c (n.Arcs.getD k default).to; rfl; rw [h, hq] at hne; exact absurd rfl hne
   refine Ok.gd.2 ⟨(by omega), Ok.gd.2 ⟨(by omega), Ok.ite.2 ⟨fun h1 => Ok.some.2 fun hall => ?_, fun h1 => Ok.ite.2 ⟨fun h2 => (by rw [h] at h2; cases h2), fun _ => Ok.some.2 (more ⟨fun _ _ => by omega, fun h2 => (by rw [h] at h2; cases h2)⟩)⟩⟩⟩⟩
   have := (hall k hk).1 h h'; omega
  ·
   have h2 : Xz c (n.Arcs.getD k default).fr = false := by simpa using h
   have h' : Xz c (n.Arcs.getD k default).to = true := by cases hq : Xz c (n.Arcs.getD k default).to; rw [h2, hq] at hne; exact absurd rfl hne; rfl
   refine Ok.ite.2 ⟨fun _ => Ok.gd.2 ⟨(by omega), Ok.ite.2 ⟨fun h1 => Ok.some.2 fun hall => ?_, fun h1 => Ok.some.2 (more ⟨fun h3 => (by rw [h2] at h3; cases h3), fun _ _ => by omega⟩)⟩⟩, fun h3 => (by rw [h2] at h3; exact absurd rfl h3)⟩
   have := (hall k hk).2 h2 h'; omega
 ·
  rintro (s | x) hs
  · exact Ok.some.2 ⟨fun _ => ⟨hR, hw, hs⟩, fun _ => rfl⟩
  · exact Ok.some.2 ⟨fun h => (by cases h), fun h => absurd h.2.2 hs⟩
end Go.Acq
namespace Go.Acq
open Go
inductive Reach (G : Nat → Nat → Prop) (s : Nat) : Nat → Prop
  | refl : Reach G s s
  | step {u v : Nat} : Reach G s u → G u v → Reach G s v
theorem Reach.trans {G : Nat → Nat → Prop} {a b c : Nat} (h : Reach G a b) (g : Reach G b c) : Reach G a c := by
 induction g with
 | refl => exact h
 | step _ h2 ih => exact .step ih h2
theorem Reach.flip {G : Nat → Nat → Prop} {a b : Nat} (h : Reach G a b) : Reach (fun u v => G v u) b a := by
 induction h with
 | refl => exact .refl
 | step _ h2 ih => exact Reach.trans (.step .refl h2) ih
theorem Reach.mono {G K : Nat → Nat → Prop} {a b : Nat} (h : Reach G a b) (hk : ∀ u v, G u v → K u v) : Reach K a b := by
 induction h with
 | refl => exact .refl
 | step _ h2 ih => exact .step ih (hk _ _ h2)
def tc (l : List Bool) : Nat → Nat
  | 0 => 0
  | k + 1 => tc l k + if l.getD k false = true then 1 else 0
theorem tc_le (l : List Bool) : ∀ k, tc l k ≤ k
 | 0 => Nat.le_refl _
 | k + 1 => by have := tc_le l k; simp only [tc]; split <;> omega
theorem Z4s {l : List Bool} {i : Nat} (hi : i < l.length) (hf : l.getD i false = false) : ∀ k : Nat, tc (l.set i true) k = tc l k + (if i < k then 1 else 0)
 | 0 => by simp [tc]
 | k + 1 => by
  have ih := Z4s hi hf k
  simp only [tc, ih, Wo]
  by_cases c : i = k
  ·
   subst c
   rw [if_neg (show ¬ i < i by omega), if_pos (show i = i ∧ i < l.length from ⟨rfl, hi⟩), hf, if_pos rfl, if_pos (show i < i + 1 by omega)]; rfl
  ·
   rw [if_neg (show ¬(i = k ∧ i < l.length) from fun h => c h.1)]
   by_cases c2 : i < k
   · rw [if_pos c2, if_pos (show i < k + 1 by omega)]; omega
   · rw [if_neg c2, if_neg (show ¬ i < k + 1 by omega)]; omega
theorem Zb2 (n : Nat) : ∀ k, tc (List.replicate n false) k = 0
 | 0 => rfl
 | k + 1 => by simp only [tc, Zb2 n k, Ke]; rfl
def g_s2 (c0 : Csr) (my : Int → Option Bool) (i25 : Int) (xs29 : List Bool) (row31 : List Int) (a41 : Int) : Option ((List Bool × List Int × Int) ⊕ (List Bool × List Int)) :=
  gd (inb i25 row31.length) <|
  gd (i64ok ((row31.getD i25.toNat 0) + 1)) <|
  gd (inb ((row31.getD i25.toNat 0) + 1) c0.First.length) <|
  if a41 < (c0.First.getD ((row31.getD i25.toNat 0) + 1).toNat 0) then
  (Option.bind (my a41) fun r46 =>
  if r46 = true then
  (gd (inb a41 c0.Head.length) <|
  Option.bind (Z3d (c0.Head.getD a41.toNat 0) xs29 row31) fun (r50, r51) =>
  gd (i64ok (a41 + 1)) <|
  some (.inl (r50, r51, (a41 + 1))))
  else
  gd (i64ok (a41 + 1)) <|
  some (.inl (xs29, row31, (a41 + 1))))
  else
  some (.inr (xs29, row31))
def g_s1 (c0 : Csr) (my : Int → Option Bool) (xs13 : List Bool) (row15 : List Int) (i25 : Int) : Option ((List Bool × List Int × Int) ⊕ (List Bool)) :=
  if i25 < (row15.length : Int) then
  (gd (inb i25 row15.length) <|
  gd (inb (row15.getD i25.toNat 0) c0.First.length) <|
  Option.bind (Ym (fun s => g_s2 c0 my i25 s.1 s.2.1 s.2.2) Yc (xs13, row15, (c0.First.getD (row15.getD i25.toNat 0).toNat 0))) fun (p2_0_0, p2_0_1) => gd (i64ok (i25 + 1)) <| some (.inl (p2_0_0, p2_0_1, (i25 + 1))))
  else
  some (.inr xs13)
def g_met (c0 : Csr) (from1 : Int) (my : Int → Option Bool) : Option (List Bool) :=
  gd (mkok c0.N) <|
  gd (inb from1 (List.replicate c0.N.toNat (false : Bool)).length) <|
  Option.bind (Ym (fun s => g_s1 c0 my s.1 s.2.1 s.2.2) Yc (((List.replicate c0.N.toNat (false : Bool)).set from1.toNat true), [from1], 0)) fun p1_0_0 => some p1_0_0
theorem g_To (c : Csr) (s : Int) (r : List Int) (d : Csr) : Z8g c s r d = g_met c s (fun a => Z6b a r d) := rfl
structure MetI (G : Nat → Nat → Prop) (s m : Nat) (xs : List Bool) (row : List Int) : Prop where
  len : xs.length = m
  nat : ∀ q, q < row.length → ∃ v : Nat, row.getD q 0 = v ∧ v < m ∧ xs.getD v false = true ∧ Reach G s v
  has : ∀ v, v < m → xs.getD v false = true → ∃ q, q < row.length ∧ row.getD q 0 = (v : Int)
  cnt : row.length = tc xs m
theorem MetI.le {G : Nat → Nat → Prop} {s m : Nat} {xs : List Bool} {row : List Int} (h : MetI G s m xs row) : row.length ≤ m := by rw [h.cnt]; exact tc_le _ _
theorem MetI.put {G : Nat → Nat → Prop} {s m v : Nat} {xs : List Bool} {row : List Int} (h : MetI G s m xs row) (hv : v < m) (hf : xs.getD v false = false) (hr : Reach G s v) : MetI G s m (xs.set v true) (row ++ [(v : Int)]) := by
 have hl := h.len
 refine ⟨by simp [hl], fun q hq => ?_, fun u hu hx => ?_, ?_⟩
 ·
  rw [List.length_append, List.length_singleton] at hq
  rcases Nat.lt_or_ge q row.length with h1 | h1
  ·
   obtain ⟨u, h2, h3, h4, h5⟩ := h.nat q h1
   refine ⟨u, by rw [Le h1]; exact h2, h3, ?_, h5⟩
   rw [Wo]; split
   · rfl
   · exact h4
  ·
   refine ⟨v, ?_, hv, by rw [Wo, if_pos ⟨rfl, by omega⟩], hr⟩
   rw [Z37 h1, show q - row.length = 0 by omega]; rfl
 ·
  rw [Wo] at hx
  by_cases c : v = u
  ·
   refine ⟨row.length, by simp, ?_⟩
   rw [Z37 (Nat.le_refl _), Nat.sub_self, ← c]; rfl
  ·
   rw [if_neg (fun h => c h.1)] at hx
   obtain ⟨q, h1, h2⟩ := h.has u hu hx
   exact ⟨q, by rw [List.length_append]; omega, by rw [Le h1]; exact h2⟩
 · rw [List.length_append, List.length_singleton, Z4s (by omega) hf, if_pos hv, h.cnt]
theorem s_met {n : Net} {m s : Nat} {c : Csr} {my : Int → Option Bool} {mb : Nat → Bool} (hc : CsrIs n m c) (he : Vh m n.Arcs) (hm : m ≤ 4096) (hl : n.Arcs.length ≤ 16384) (hs : s < m) (hmy : ∀ j : Nat, j < Yo n.Arcs m → my j = some (mb j)) :
    Ok (g_met c s my) (fun r => r.length = m ∧ ∀ v, v < m → (r.getD v false = true ↔ Reach (fun u w => ∃ j, Yo n.Arcs u ≤ j ∧ j < Yo n.Arcs (u + 1) ∧ mb j = true ∧ c.Head.getD j 0 = w) s v)) := by
  obtain ⟨G, hG⟩ : ∃ G : Nat → Nat → Prop, (fun (u w : Nat) => ∃ j, Yo n.Arcs u ≤ j ∧ j < Yo n.Arcs (u + 1) ∧ mb j = true ∧ c.Head.getD j 0 = (w : Int)) = G := ⟨_, rfl⟩
  rw [hG]
  have hbs := Z00 (al := n.Arcs) (v := m) hm hl
  have lf := hc.ok.lf
  have lh := hc.ok.lh
  have hf := hc.ok.hf
  unfold g_met
  rw [hc.hN]
  simp only [Int.toNat_natCast]
  refine Ok.gd.2 ⟨(by omega), Ok.gd.2 ⟨by rw [List.length_replicate]; constructor <;> omega, Ok.bind.2 ?_⟩⟩
  refine Wy (fun st => ∃ k : Nat, st.2.2 = k ∧ k ≤ st.2.1.length ∧ MetI G s m st.1 st.2.1 ∧ st.1.getD s false = true ∧ ∀ q, q < k → ∀ w, w < m → G (st.2.1.getD q 0).toNat w → st.1.getD w false = true) (fun st => (m - st.2.2).toNat)
    ⟨0, rfl, by omega, ⟨by simp, fun q hq => ?_, fun v hv hx => ?_, ?_⟩, by rw [Wo, if_pos ⟨rfl, by simpa using hs⟩], fun q hq => by omega⟩ (by unfold Yc; simp only; omega) ?_
  · have : q = 0 := by simp at hq; exact hq
    subst this
    exact ⟨s, rfl, hs, by rw [Wo, if_pos ⟨rfl, by simpa using hs⟩], .refl⟩
  · rw [Wo] at hx
    by_cases c1 : s = v
    · exact ⟨0, by simp, by rw [← c1]; rfl⟩
    · rw [if_neg (fun h => c1 h.1), Ke] at hx; cases hx
  · rw [Z4s (by simpa using hs) (Ke _ _ _), Zb2, if_pos hs]; rfl
  rintro ⟨xs, row, x⟩ ⟨k, h1, hk, hI, hS, hP⟩ P next exit
  simp only at h1 hk hI hS hP next ⊢
  subst h1
  unfold g_s1
  have hle := hI.le
  simp only [Int.toNat_natCast]
  refine Ok.ite.2 ⟨fun hx => ?_, fun hx => Ok.some.2 (exit _ (Ok.some.2 ?_))⟩
  · obtain ⟨u, hu, hum, -, hur⟩ := hI.nat k (by omega)
    simp only [hu, Int.toNat_natCast, hf u (by omega)]
    refine Ok.gd.2 ⟨(by omega), Ok.gd.2 ⟨(by omega), Ok.bind.2 ?_⟩⟩
    have hmo := Gs (al := n.Arcs) (show u ≤ u + 1 by omega)
    have hmo2 := Gs (al := n.Arcs) (show u + 1 ≤ m by omega)
    refine Wy (fun st => ∃ j : Nat, st.2.2 = j ∧ Yo n.Arcs u ≤ j ∧ j ≤ Yo n.Arcs (u + 1) ∧ MetI G s m st.1 st.2.1 ∧ st.1.getD s false = true ∧ k < st.2.1.length ∧ st.2.1.getD k 0 = u ∧ (∀ q, q < k → ∀ w, w < m → G (st.2.1.getD q 0).toNat w → st.1.getD w false = true) ∧
      ∀ i, Yo n.Arcs u ≤ i → i < j → mb i = true → ∀ w : Nat, c.Head.getD i 0 = (w : Int) → st.1.getD w false = true) (fun st => (Yo n.Arcs (u + 1) - st.2.2).toNat) ⟨_, rfl, Nat.le_refl _, hmo, hI, hS, by simp only; omega, hu, hP, fun i h1 h2 => by omega⟩ (by unfold Yc; simp only; omega) ?_
    rintro ⟨ys, rw', y⟩ ⟨j, h1, hj0, hj1, hI2, hS2, hkl, hku, hP2, hA⟩ P2 next2 exit2
    simp only at h1 hI2 hS2 hkl hku hP2 hA next2 ⊢
    subst h1
    unfold g_s2
    have eu : ((u : Int) + 1).toNat = u + 1 := by omega
    have hle2 := hI2.le
    have hyl := hI2.len
    simp only [Int.toNat_natCast, hku, eu, hf (u + 1) (by omega)]
    refine Ok.gd.2 ⟨(by omega), Ok.gd.2 ⟨(by omega), Ok.gd.2 ⟨(by omega), Ok.ite.2 ⟨fun hy => ?_, fun hy => Ok.some.2 (exit2 _ ?_)⟩⟩⟩⟩
    · refine Ok.bind.2 (Vl (hmy j (by omega)) (Ok.ite.2 ⟨fun hb => ?_, fun hb => ?_⟩))
      · obtain ⟨i, t, hi, hne, hp, q1, -, -, -, -⟩ := hc.ok.place (j := j) (by omega)
        have hv := he i hi (!t)
        obtain ⟨v, hvv⟩ : ∃ v : Nat, Yw (n.Arcs.getD i default) (!t) = v := ⟨(Yw (n.Arcs.getD i default) (!t)).toNat, by omega⟩
        rw [hvv] at q1 hv
        have hGu : G u v := by rw [← hG]; exact ⟨j, hj0, by omega, hb, q1⟩
        simp only [q1]
        refine Ok.gd.2 ⟨(by omega), Ok.bind.2 ?_⟩
        unfold Z3d
        simp only [Int.toNat_natCast]
        refine Ok.gd.2 ⟨(by omega), Ok.ite.2 ⟨fun hn => ?_, fun hn => Ok.some.2 (Ok.gd.2 ⟨(by omega), Ok.some.2 (next2 _ ⟨j + 1, by simp, by omega, by omega, hI2, hS2, hkl, hku, hP2, fun i' h1 h2 h3 w hw => ?_⟩ (by simp only; omega))⟩)⟩⟩
        · have hn' : ys.getD v false = false := by simpa using hn
          have hI3 := hI2.put (by omega) hn' (.step hur hGu)
          have up : ∀ w, ys.getD w false = true → (ys.set v true).getD w false = true := fun w hw => by
            rw [Wo]; split
            · rfl
            · exact hw
          refine Ok.gd.2 ⟨(by omega), Ok.gd.2 ⟨?_, Ok.some.2 (Ok.gd.2 ⟨(by omega), Ok.some.2 (next2 _ ⟨j + 1, by simp, by omega, by omega, hI3, up _ hS2, by rw [List.length_append]; omega, by rw [Le hkl]; exact hku, fun q hq w hw hg => ?_, fun i' h1 h2 h3 w hw => ?_⟩ (by simp only; omega))⟩)⟩⟩
          · rw [List.length_append, List.length_singleton]; constructor <;> omega
          · simp only at hg ⊢
            rw [Le (by omega)] at hg
            exact up w (hP2 q hq w hw hg)
          · simp only
            rcases Nat.lt_or_ge i' j with h4 | h4
            · exact up w (hA i' h1 h4 h3 w hw)
            · rw [show i' = j by omega, q1] at hw
              have : v = w := by omega
              subst this
              rw [Wo, if_pos ⟨rfl, by omega⟩]
        · simp only
          rcases Nat.lt_or_ge i' j with h4 | h4
          · exact hA i' h1 h4 h3 w hw
          · rw [show i' = j by omega, q1] at hw
            have : v = w := by omega
            subst this
            simpa using hn
      · refine Ok.gd.2 ⟨(by omega), Ok.some.2 (next2 _ ⟨j + 1, by simp, by omega, by omega, hI2, hS2, hkl, hku, hP2, fun i' h1 h2 h3 w hw => ?_⟩ (by simp only; omega))⟩
        rcases Nat.lt_or_ge i' j with h4 | h4
        · exact hA i' h1 h4 h3 w hw
        · rw [show i' = j by omega] at h3; exact absurd h3 hb
    · obtain rfl : j = Yo n.Arcs (u + 1) := by omega
      refine Ok.gd.2 ⟨(by omega), Ok.some.2 (next _ ⟨k + 1, by simp, by simp only; omega, hI2, hS2, fun q hq w hw hg => ?_⟩ (by simp only; omega))⟩
      simp only at hg ⊢
      rcases Nat.lt_or_ge q k with h4 | h4
      · exact hP2 q h4 w hw hg
      · rw [show q = k by omega, hku, Int.toNat_natCast, ← hG] at hg
        obtain ⟨i, h5, h6, h7, h8⟩ := hg
        exact hA i h5 h6 h7 w h8
  · obtain rfl : k = row.length := by omega
    refine ⟨hI.len, fun v hv => ⟨fun hx => ?_, fun hr => ?_⟩⟩
    · obtain ⟨q, hq, hqv⟩ := hI.has v hv hx
      obtain ⟨u, h1, h2, h3, h4⟩ := hI.nat q hq
      have : u = v := by omega
      subst this; exact h4
    · clear hv
      have : v < m ∧ xs.getD v false = true := by
        induction hr with
        | refl => exact ⟨hs, hS⟩
        | step _ hg ih =>
          obtain ⟨h1, h2⟩ := ih
          rename_i u w _
          have hw : w < m := by
            rw [← hG] at hg
            obtain ⟨i, h5, h6, h7, h8⟩ := hg
            have := Gs (al := n.Arcs) (show u + 1 ≤ m by omega)
            obtain ⟨i', t, hi, hne, hp, q1, -, -, -, -⟩ := hc.ok.place (j := i) (by omega)
            have hv := he i' hi (!t)
            omega
          obtain ⟨q, hq, hqv⟩ := hI.has u h1 h2
          refine ⟨hw, hP q hq w hw ?_⟩
          rw [hqv, Int.toNat_natCast]; exact hg
      exact this.2
def Gl (n : Net) (f : List Int) (u v : Nat) : Prop := ∃ i, i < n.Arcs.length ∧ (n.Arcs.getD i default).fr ≠ (n.Arcs.getD i default).to ∧
  (((n.Arcs.getD i default).fr = u ∧ (n.Arcs.getD i default).to = v ∧ f.getD i 0 < (n.Arcs.getD i default).cap) ∨ ((n.Arcs.getD i default).to = u ∧ (n.Arcs.getD i default).fr = v ∧ 0 < f.getD i 0))
theorem s_left {n : Net} {f : List Int} (hl : lenok n.Arcs.length) : Ok (Z3e n f) (fun r => (FwithinP n f ∧ r.2.2 = 0 ∧ CsrIs n n.N.toNat r.1 ∧ ResAt r.1.Arc r.1.Cap r.1.Back f (Yo n.Arcs n.N.toNat) (Yo n.Arcs n.N.toNat) r.2.1) ∨ (¬FwithinP n f ∧ r.2.2 = 20)) := by
 unfold Z3e
 refine Ok.bind.2 (Ok.mono (Z3w hl) fun b hb => Ok.ite.2 ⟨fun h => Ok.some.2 (.inr ⟨fun h2 => (by rw [hb.2 h2] at h; cases h), rfl⟩), fun h => ?_⟩)
 have hw := hb.1 (Z0f h)
 have hz := Un hw.1
 obtain ⟨m, hm, he⟩ := Zbi hw.1
 refine Ok.bind.2 (Ok.mono (Z7q hm hw.1 hl) ?_)
 rintro ⟨c, e⟩ ⟨hc, rfl⟩
 have hc : CsrIs n m c := hc
 simp only
 rw [if_neg (by simp)]
 have hbs := Z00 (al := n.Arcs) (v := m) (by omega) (by omega)
 have hcaps := Za7 hw.1
 have hcapt : ∀ i, i < n.Arcs.length → (n.Arcs.getD i default).cap ≤ 4611686018427387904 := fun i hi => by
  have h1 := Z8p hw.1 (i + 1) hi
  have h2 := Z8p hw.1 i (by omega)
  simp only [totC] at h1
  omega
 refine Ok.bind.2 (Ok.mono (s_Res (L := Yo n.Arcs m) hc.ok.lh hc.ok.lc hc.ok.la hc.ok.lb hbs hc.ok.aa0 fun j hj => ?_) ?_)
 ·
  obtain ⟨i, s, hi, hne, hp, q1, q2, q3, q4, q5⟩ := hc.ok.place hj
  have := hcaps i hi
  have := hcapt i hi
  rw [q3]; split <;> omega
 ·
  rintro ⟨r, e⟩ (⟨-, h1, h2⟩ | ⟨⟨j, hj, hbad⟩, -⟩)
  ·
   refine Ok.some.2 (.inl ⟨hw, h1, ?_, ?_⟩)
   · rw [hm, Int.toNat_natCast]; exact hc
   · rw [hm, Int.toNat_natCast]; exact h2
  ·
   exfalso
   obtain ⟨i, s, hi, hne, hp, q1, q2, q3, q4, q5⟩ := hc.ok.place hj
   refine hbad ?_
   unfold Z0z
   rw [q3, q4, q5]
   have := hw.2.1
   refine ⟨by omega, ?_⟩
   cases s
   · right; simp only [Int.toNat_natCast, Bool.false_eq_true, if_false]; exact hw.2.2 i hi
   · exact .inl rfl
theorem Z63 {n : Net} {m : Nat} {c : Csr} {f r : List Int} (hc : CsrIs n m c) (he : Vh m n.Arcs) (hr : ResAt c.Arc c.Cap c.Back f (Yo n.Arcs m) (Yo n.Arcs m) r) {i : Nat} {s : Bool} (hi : i < n.Arcs.length) (hne : (n.Arcs.getD i default).fr ≠ (n.Arcs.getD i default).to) :
    r.getD (Zm n.Arcs i s) 0 = if s then f.getD i 0 else (n.Arcs.getD i default).cap - f.getD i 0 := by
  obtain ⟨z1, z2, z3, z4, z5⟩ := hc.ok.hat i hi hne s
  rw [(hr.2 _ (Na hi hne he)).2]
  unfold resV
  rw [z3, z4, z5]
  cases s <;> simp
theorem Zl2 {n : Net} {m : Nat} {c : Csr} {f r : List Int} (hc : CsrIs n m c) (he : Vh m n.Arcs) (hr : ResAt c.Arc c.Cap c.Back f (Yo n.Arcs m) (Yo n.Arcs m) r) {u v : Nat} (hu : u < m) (t : Bool) :
    (∃ j, Yo n.Arcs u ≤ j ∧ j < Yo n.Arcs (u + 1) ∧ (decide (0 < r.getD (if t then (c.Rev.getD j 0).toNat else j) 0)) = true ∧ c.Head.getD j 0 = (v : Int)) ↔ (if t then Gl n f v u else Gl n f u v) := by
  have hmo := Gs (al := n.Arcs) (show u + 1 ≤ m by omega)
  constructor
  · rintro ⟨j, h1, h2, h3, h4⟩
    obtain ⟨i, s, hi, hne, hp, q1, q2, q3, q4, q5⟩ := hc.ok.place (j := j) (by omega)
    have hv := he i hi s
    obtain ⟨p1, p2⟩ := Zg9 (v := u) hi hne hv.1 (by omega) (by omega)
    have h3 := of_decide_eq_true h3
    rw [q1] at h4
    have ha : (if t then (c.Rev.getD j 0).toNat else j) = Zm n.Arcs i (if t then !s else s) := by
      cases t
      · exact hp.symm
      · show (c.Rev.getD j 0).toNat = _
        rw [q2, Int.toNat_natCast]; rfl
    rw [ha, Z63 hc he hr hi hne] at h3
    cases t <;> cases s <;> simp only [Bool.not_true, Bool.not_false, if_true, if_false, Bool.false_eq_true, Yw] at h3 h4 p1 ⊢
    · exact ⟨i, hi, hne, .inl ⟨p1, h4, by omega⟩⟩
    · exact ⟨i, hi, hne, .inr ⟨p1, h4, h3⟩⟩
    · exact ⟨i, hi, hne, .inr ⟨h4, p1, h3⟩⟩
    · exact ⟨i, hi, hne, .inl ⟨h4, p1, by omega⟩⟩
  · intro h
    have key : ∀ (i : Nat) (s : Bool), i < n.Arcs.length → (n.Arcs.getD i default).fr ≠ (n.Arcs.getD i default).to → Yw (n.Arcs.getD i default) s = (u : Int) → Yw (n.Arcs.getD i default) (!s) = (v : Int) → 0 < r.getD (Zm n.Arcs i (if t then !s else s)) 0 →
        ∃ j, Yo n.Arcs u ≤ j ∧ j < Yo n.Arcs (u + 1) ∧ (decide (0 < r.getD (if t then (c.Rev.getD j 0).toNat else j) 0)) = true ∧ c.Head.getD j 0 = (v : Int) := by
      intro i s hi hne hu' hv' h0
      have hcl := Rq (s := s) hi hne (by omega)
      have hpos : Zm n.Arcs i s = Yo n.Arcs u + cnt n.Arcs u i := by unfold Zm; rw [hu', Int.toNat_natCast]
      rw [hu', Int.toNat_natCast] at hcl
      have hb1 : Yo n.Arcs (u + 1) = Yo n.Arcs u + cnt n.Arcs u n.Arcs.length := rfl
      obtain ⟨z1, z2, z3, z4, z5⟩ := hc.ok.hat i hi hne s
      refine ⟨Zm n.Arcs i s, by omega, by omega, decide_eq_true ?_, by rw [z1]; exact hv'⟩
      rw [z2]
      cases t
      · simpa using h0
      · simpa using h0
    cases t
    · simp only [Bool.false_eq_true, if_false] at h key ⊢
      obtain ⟨i, hi, hne, ⟨a1, a2, a3⟩ | ⟨a1, a2, a3⟩⟩ := h
      · refine key i false hi hne (by simpa [Yw] using a1) (by simpa [Yw] using a2) ?_
        rw [Z63 hc he hr hi hne]; simp only [Bool.false_eq_true, if_false]; omega
      · refine key i true hi hne (by simpa [Yw] using a1) (by simpa [Yw] using a2) ?_
        rw [Z63 hc he hr hi hne]; simpa using a3
    · simp only [if_true] at h key ⊢
      obtain ⟨i, hi, hne, ⟨a1, a2, a3⟩ | ⟨a1, a2, a3⟩⟩ := h
      · refine key i true hi hne (by simpa [Yw] using a2) (by simpa [Yw] using a1) ?_
        rw [Z63 hc he hr hi hne]; simp only [Bool.not_true, Bool.false_eq_true, if_false]; omega
      · refine key i false hi hne (by simpa [Yw] using a2) (by simpa [Yw] using a1) ?_
        rw [Z63 hc he hr hi hne]; simpa using a3
theorem Zim {n : Net} {m : Nat} {f : List Int} (he : Vh m n.Arcs) {G : Nat → Nat → Prop} {s : Nat} (hs : s < m) (h : ∀ u v, u < m → (G u v ↔ Gl n f v u)) {v : Nat} : Reach G s v ↔ Reach (Gl n f) v s := by
 have lt : ∀ {u w}, Gl n f u w → u < m ∧ w < m := by
  rintro u w ⟨i, hi, _, h1⟩
  have h0 := he i hi false
  have h2 := he i hi true
  simp only [Yw, Bool.false_eq_true, if_false, if_true] at h0 h2
  omega
 constructor
 ·
  intro hr
  have : v < m ∧ Reach (fun a b => Gl n f b a) s v := by
   induction hr with
   | refl => exact ⟨hs, .refl⟩
   | step _ hg ih => have ho := (h _ _ ih.1).1 hg; exact ⟨(lt ho).1, .step ih.2 ho⟩
  exact this.2.flip
 ·
  intro hr
  exact hr.flip.mono fun u w ho => (h u w (lt ho).2).2 ho
theorem s_To {n : Net} {f : List Int} (hl : lenok n.Arcs.length) : Ok (Z1u n f) (fun r => (FwithinP n f ∧ r.2 = 0 ∧ r.1.length = n.N.toNat ∧ ∀ v, v < n.N.toNat → (r.1.getD v false = true ↔ ¬Reach (Gl n f) v n.T.toNat)) ∨ (¬FwithinP n f ∧ r = ([], 20))) := by
 unfold Z1u
 refine Ok.bind.2 (Ok.mono (s_left hl) ?_)
 rintro ⟨c, r, e⟩ (⟨hw, h1, hc, hr⟩ | ⟨hw, h1⟩)
 rotate_left
 ·
  simp only at h1
  subst h1
  exact Ok.ite.2 ⟨fun _ => Ok.some.2 (.inr ⟨hw, rfl⟩), fun h => absurd (by omega) h⟩
 simp only at h1 hc hr
 subst h1
 simp only
 rw [if_neg (by simp)]
 have hz := Un hw.1
 simp only [Uh, decide_eq_true_eq] at hz
 obtain ⟨m, hm, he⟩ := Zbi hw.1
 obtain ⟨t, ht⟩ : ∃ t : Nat, n.T = t := ⟨n.T.toNat, by omega⟩
 rw [hm, Int.toNat_natCast] at hc hr
 have hbs := Z00 (al := n.Arcs) (v := m) (by omega) (by omega)
 have hrl := hr.1
 have hlr := hc.ok.lr
 rw [g_To, ht]
 refine Ok.bind.2 (Ok.mono (s_met (mb := fun j => decide (0 < r.getD (c.Rev.getD j 0).toNat 0)) hc he (by omega) (by omega) (show t < m by omega) fun j hj => ?_) fun x hx => Ok.bind.2 ?_)
 ·
  unfold Z6b
  obtain ⟨i, s, hi, hne, hp, q1, q2, q3, q4, q5⟩ := hc.ok.place hj
  have hq : Zm n.Arcs i (!s) < Yo n.Arcs m := Na hi hne he
  simp only [Int.toNat_natCast, q2]
  rw [Ko (by constructor <;> omega), Ko (by constructor <;> omega)]
 have hxl := hx.1
 refine Wy (fun s => ∃ k : Nat, s.2 = k ∧ k ≤ m ∧ s.1.length = m ∧ ∀ v, v < m → s.1.getD v false = if v < k then !x.getD v false else x.getD v false) (fun s => (m - s.2).toNat) ⟨0, rfl, by omega, hxl, fun v hv => by rw [if_neg (by omega)]⟩ (by unfold Yc; simp only; omega) ?_
 rintro ⟨ys, y⟩ ⟨k, h1, hk, hyl, hy⟩ P next exit
 simp only at h1 hyl hy next ⊢
 subst h1
 unfold Z68
 simp only [Int.toNat_natCast]
 refine Ok.ite.2 ⟨fun h => Ok.gd.2 ⟨(by omega), Ok.gd.2 ⟨(by omega), Ok.gd.2 ⟨(by omega), Ok.some.2 (next _ ⟨k + 1, by simp, by omega, by simp [hyl], fun v hv => ?_⟩ (by simp only; omega))⟩⟩⟩, fun h => Ok.some.2 (exit _ ?_)⟩
 ·
  simp only [Wo]
  by_cases c1 : k = v
  ·
   subst c1
   rw [if_pos ⟨rfl, by omega⟩, if_pos (by omega), hy k hv, if_neg (by omega)]
  ·
   rw [if_neg (fun h => c1 h.1), hy v hv]
   by_cases c2 : v < k
   · rw [if_pos c2, if_pos (by omega)]
   · rw [if_neg c2, if_neg (by omega)]
 ·
  obtain rfl : k = m := by omega
  unfold Z6z
  refine Ok.some.2 (.inl ⟨hw, rfl, by simp only [hm, Int.toNat_natCast]; exact hyl, fun v hv => ?_⟩)
  rw [hm, Int.toNat_natCast] at hv
  simp only
  rw [hy v hv, if_pos hv, Int.toNat_natCast]
  have h2 := (hx.2 v hv).trans (Zim he (by omega) fun u w hu => by simpa using Zl2 (v := w) hc he hr hu true)
  rw [← h2]
  cases x.getD v false <;> simp
end Go.Acq
namespace Go.Acq
open Go
def Gv (al : List Arc) (f : List Int) (c : List Bool) (j : Int) : Nat → Int
  | 0 => 0
  | k + 1 => Gv al f c j k - (if (al.getD k default).fr < j ∧ Xz c (al.getD k default).fr = false then f.getD k 0 else 0) + (if (al.getD k default).to < j ∧ Xz c (al.getD k default).to = false then f.getD k 0 else 0)
theorem Z9i {al : List Arc} {f : List Int} {c : List Bool} (j : Int) : ∀ k, Gv al f c (j + 1) k = Gv al f c j k + (if Xz c j = false then ex al f j k else 0)
 | 0 => by simp [Gv, ex]
 | k + 1 => by
  have ih := Z9i (al := al) (f := f) (c := c) j k
  simp only [Gv, ex, ih]
  have e1 : ∀ x : Int, (if x < j + 1 ∧ Xz c x = false then f.getD k 0 else 0) = (if x < j ∧ Xz c x = false then f.getD k 0 else 0) + (if x = j ∧ Xz c j = false then f.getD k 0 else 0) := fun x => by
   by_cases h1 : x < j
   ·
    by_cases h3 : Xz c x = false
    · rw [if_pos ⟨by omega, h3⟩, if_pos ⟨h1, h3⟩, if_neg (fun h => by omega)]; omega
    · rw [if_neg (fun h => h3 h.2), if_neg (fun h => h3 h.2), if_neg (fun h => by omega)]; omega
   ·
    by_cases h2 : x = j
    ·
     subst h2
     by_cases h3 : Xz c x = false
     · rw [if_pos ⟨by omega, h3⟩, if_neg (fun h => h1 h.1), if_pos ⟨rfl, h3⟩]; omega
     · rw [if_neg (fun h => h3 h.2), if_neg (fun h => h3 h.2), if_neg (fun h => h3 h.2)]; omega
    · rw [if_neg (fun h => by omega), if_neg (fun h => by omega), if_neg (fun h => h2 h.1)]; omega
  rw [e1, e1]
  by_cases h : Xz c j = false
  ·
   simp only [h, and_true, if_true]
   omega
  ·
   simp only [h, Bool.not_eq_false, and_false, if_false, ite_false, reduceCtorEq]
   omega
theorem Z8i {al : List Arc} {f : List Int} {c : List Bool} {m : Nat} (he : Vh m al) : ∀ k, k ≤ al.length → Gv al f c 0 k = 0
 | 0, _ => rfl
 | k + 1, hk => by
  have h0 := he k hk false
  have h1 := he k hk true
  simp only [Yw, Bool.false_eq_true, if_false, if_true] at h0 h1
  simp only [Gv, Z8i he k (by omega)]
  rw [if_neg (fun h => by omega), if_neg (fun h => by omega)]; rfl
theorem Z9a {al : List Arc} {f : List Int} {c : List Bool} {m : Nat} (he : Vh m al) : ∀ k, k ≤ al.length → Gv al f c m k = Ng al f c k
 | 0, _ => rfl
 | k + 1, hk => by
  have h0 := he k hk false
  have h1 := he k hk true
  simp only [Yw, Bool.false_eq_true, if_false, if_true] at h0 h1
  simp only [Gv, Ng, Z9a he k (by omega)]
  obtain ⟨A, hA⟩ : ∃ A, al.getD k default = A := ⟨_, rfl⟩
  obtain ⟨F, hF⟩ : ∃ F, f.getD k 0 = F := ⟨_, rfl⟩
  rw [hA] at h0 h1 ⊢
  rw [hF]
  cases a : Xz c A.fr <;> cases b : Xz c A.to <;> simp [h0.2, h1.2] <;> omega
theorem Z7z {al : List Arc} {f : List Int} {c : List Bool} (h : ∀ i, i < al.length → 0 ≤ f.getD i 0 ∧ f.getD i 0 ≤ (al.getD i default).cap) : ∀ k, k ≤ al.length → Ng al f c k ≤ Lz al c k ∧ (Ng al f c k = Lz al c k ↔ ∀ i, i < k → Kz al f c i)
 | 0, _ => ⟨Int.le_refl _, fun _ i hi => by omega, fun _ => rfl⟩
 | k + 1, hk => by
  obtain ⟨g1, g2⟩ := Z7z (c := c) h k (by omega)
  have hf := h k (by omega)
  have key : (∀ i, i < k + 1 → Kz al f c i) ↔ (∀ i, i < k → Kz al f c i) ∧ Kz al f c k :=
   ⟨fun hh => ⟨fun i hi => hh i (by omega), hh k (by omega)⟩, fun hh i hi => by
    rcases Nat.lt_or_ge i k with h1 | h1
    · exact hh.1 i h1
    · rw [show i = k by omega]; exact hh.2⟩
  rw [key, ← g2]
  simp only [Ng, Lz, Kz]
  obtain ⟨A, hA⟩ : ∃ A, al.getD k default = A := ⟨_, rfl⟩
  obtain ⟨F, hF⟩ : ∃ F, f.getD k 0 = F := ⟨_, rfl⟩
  rw [hA, hF] at hf
  rw [hA, hF]
  cases a : Xz c A.fr <;> cases b : Xz c A.to <;> simp <;> omega
theorem Zfg {n : Net} {f : List Int} {c : List Bool} {m : Nat} (hm : n.N = m) (he : Vh m n.Arcs) (hA : Ka n f (fun x => x = 0) [n.S, n.T]) (hc : Ly n c) : Ng n.Arcs f c n.Arcs.length = ex n.Arcs f n.T n.Arcs.length := by
 have hz := Un hc.1
 simp only [Uh, decide_eq_true_eq] at hz
 have hj : ∀ j : Nat, j ≤ m → Gv n.Arcs f c j n.Arcs.length = if n.T < j then ex n.Arcs f n.T n.Arcs.length else 0 := by
  intro j
  induction j with
  | zero => intro _; rw [show ((0 : Nat) : Int) = 0 from rfl, Z8i he _ (Nat.le_refl _), if_neg (by omega)]
  | succ j ih =>
   intro hj
   rw [Int.natCast_succ, Z9i, ih (by omega)]
   by_cases c1 : n.T = j
   · rw [← c1, if_neg (by omega), if_pos hc.2.2.2, if_pos (by omega)]; omega
   ·
    have hz : (if Xz c j = false then ex n.Arcs f j n.Arcs.length else 0) = 0 := by
     by_cases c2 : Xz c j = false
     ·
      rw [if_pos c2]
      rcases hA.2 j (by omega) with h7 | h7
      · exact h7
      ·
       simp only [List.mem_cons, List.not_mem_nil, or_false] at h7
       rcases h7 with h7 | h7
       · rw [h7, hc.2.2.1] at c2; cases c2
       · exact absurd h7.symm c1
     · rw [if_neg c2]
    rw [hz]
    by_cases c3 : n.T < j
    · rw [if_pos c3, if_pos (by omega)]; omega
    · rw [if_neg c3, if_neg (by omega)]; rfl
 have := hj m (Nat.le_refl _)
 rw [Z9a he _ (Nat.le_refl _), if_pos (by omega)] at this
 exact this
end Go.Acq
namespace Go.Acq
open Go
def Wc (g : Nat → Int) : Nat → Int
  | 0 => 0
  | k + 1 => Wc g k + g k
theorem Zg5 {g h : Nat → Int} : ∀ {k : Nat}, (∀ i, i < k → g i = h i) → Wc g k = Wc h k
 | 0, _ => rfl
 | k + 1, e => by simp only [Wc]; rw [Zg5 fun i hi => e i (by omega), e k (by omega)]
theorem Zb9 (g h : Nat → Int) : ∀ k, Wc (fun i => g i + h i) k = Wc g k + Wc h k
 | 0 => rfl
 | k + 1 => by simp only [Wc, Zb9 g h k]; omega
theorem Zgx {g : Nat → Int} {k : Nat} (h : ∀ i, i < k → g i = 0) : Wc g k = 0 := by
 induction k with
 | zero => rfl
 | succ k ih => simp only [Wc]; rw [ih fun i hi => h i (by omega), h k (by omega)]; rfl
theorem Z9n {g : Nat → Int} {i : Nat} : ∀ {k : Nat}, i < k → (∀ j, j < k → j ≠ i → g j = 0) → Wc g k = g i
 | 0, h, _ => by omega
 | k + 1, h, e => by
  simp only [Wc]
  by_cases c : i = k
  · subst c; rw [Zgx fun j hj => e j (by omega) (by omega)]; omega
  · rw [Z9n (show i < k by omega) fun j hj hne => e j (by omega) hne, e k (by omega) (fun h => c h.symm)]; omega
theorem Z4x {g h : Nat → Int} : ∀ {k : Nat}, (∀ i, i < k → g i ≤ h i) → Wc g k ≤ Wc h k
 | 0, _ => Int.le_refl _
 | k + 1, e => by
  have := Z4x (k := k) fun i hi => e i (by omega)
  have := e k (by omega)
  simp only [Wc]; omega
theorem Zek {g : Nat → Int} {k : Nat} : ∀ {l : Nat}, k ≤ l → (∀ i, i < l → 0 ≤ g i) → Wc g k ≤ Wc g l
 | 0, h, _ => by rw [show k = 0 by omega]; exact Int.le_refl _
 | l + 1, h, e => by
  by_cases c : k = l + 1
  · subst c; exact Int.le_refl _
  ·
   have := Zek (show k ≤ l by omega) fun i hi => e i (by omega)
   have := e l (by omega)
   simp only [Wc]; omega
theorem sumN_nn {g : Nat → Int} {k : Nat} (h : ∀ i, i < k → 0 ≤ g i) : 0 ≤ Wc g k := Zek (Nat.zero_le k) h
def hd (c : Csr) (j : Nat) : Nat := (c.Head.getD j 0).toNat
def rv (c : Csr) (j : Nat) : Nat := (c.Rev.getD j 0).toNat
def fs (c : Csr) (v : Nat) : Nat := (c.First.getD v 0).toNat
def tl (c : Csr) (j : Nat) : Nat := hd c (rv c j)
def bk (c : Csr) (j : Nat) : Bool := c.Back.getD j false
def cp (c : Csr) (j : Nat) : Int := max (c.Cap.getD j 0) (c.Cap.getD (rv c j) 0)
structure Row (n : Net) (m L : Nat) (c : Csr) : Prop where
  is : CsrIs n m c
  chk : Us n.N n.S n.T n.Arcs = 0
  hm : n.N = m
  hL : Yo n.Arcs m = L
section row
variable {n : Net} {m L : Nat} {c : Csr}
theorem Row.he (r : Row n m L c) : Vh m n.Arcs := Z17 (by rw [← r.hm]; exact (Un r.chk).2.2.2.1)
theorem Row.bd (r : Row n m L c) : 2 ≤ m ∧ m ≤ 4096 ∧ n.Arcs.length ≤ 16384 ∧ L ≤ 67108864 := by
 have hz := Un r.chk
 have := r.hm
 have hb := Z00 (al := n.Arcs) (v := m) (by omega) (by omega)
 have := r.hL
 omega
theorem Row.ends (r : Row n m L c) : (∃ S : Nat, n.S = S ∧ c.S = S ∧ S < m) ∧ (∃ T : Nat, n.T = T ∧ c.T = T ∧ T < m) ∧ n.S ≠ n.T ∧ c.N = m := by
 have hz := Un r.chk
 simp only [Uh, decide_eq_true_eq] at hz
 have h1 := r.hm
 have h2 := r.is.hS
 have h3 := r.is.hT
 exact ⟨⟨n.S.toNat, by omega, by omega, by omega⟩, ⟨n.T.toNat, by omega, by omega, by omega⟩, hz.2.2.1.2.2, r.is.hN⟩
theorem Row.caps (r : Row n m L c) : ∀ i, i < n.Arcs.length → 0 ≤ (n.Arcs.getD i default).cap ∧ (n.Arcs.getD i default).cap ≤ 4611686018427387904 := fun i hi => by
 have h0 := Za7 r.chk i hi
 have h1 := Z8p r.chk (i + 1) hi
 have h2 := Z8p r.chk i (by omega)
 simp only [totC] at h1
 omega
theorem Row.lens (r : Row n m L c) : c.First.length = m + 1 ∧ c.Head.length = L ∧ c.Rev.length = L ∧ c.Cap.length = L ∧ c.Arc.length = L ∧ c.Back.length = L := by
 have h := r.is.ok
 rw [← r.hL]
 exact ⟨h.lf, h.lh, h.lr, h.lc, h.la, h.lb⟩
theorem Row.at (r : Row n m L c) {j : Nat} (hj : j < L) : ∃ i s, i < n.Arcs.length ∧ (n.Arcs.getD i default).fr ≠ (n.Arcs.getD i default).to ∧ Zm n.Arcs i s = j ∧ c.Head.getD j 0 = (hd c j : Nat) ∧ (hd c j : Int) = Yw (n.Arcs.getD i default) (!s) ∧ (tl c j : Int) = Yw (n.Arcs.getD i default) s ∧
    c.Rev.getD j 0 = (rv c j : Nat) ∧ rv c j = Zm n.Arcs i (!s) ∧ c.Cap.getD j 0 = (if s then 0 else (n.Arcs.getD i default).cap) ∧ c.Arc.getD j 0 = i ∧ bk c j = s := by
  obtain ⟨i, s, hi, hne, hp, q1, q2, q3, q4, q5⟩ := r.is.ok.place (by rw [r.hL]; exact hj)
  have hv := r.he i hi (!s)
  have hv2 := r.he i hi s
  have hr : rv c j = Zm n.Arcs i (!s) := by unfold rv; rw [q2, Int.toNat_natCast]
  refine ⟨i, s, hi, hne, hp, by unfold hd; omega, by unfold hd; omega, ?_, by unfold rv; omega, hr, q3, q4, q5⟩
  unfold tl hd
  rw [hr, (r.is.ok.hat i hi hne (!s)).1, Bool.not_not]; omega
theorem Row.head (r : Row n m L c) {j : Nat} (hj : j < L) : c.Head.getD j 0 = (hd c j : Nat) ∧ hd c j < m := by
 obtain ⟨i, s, hi, hne, hp, q1, q2, q3, q4, q5, q6, q7, q8⟩ := r.at hj
 have hv := r.he i hi (!s)
 exact ⟨q1, by omega⟩
theorem Row.rev (r : Row n m L c) {j : Nat} (hj : j < L) : c.Rev.getD j 0 = (rv c j : Nat) ∧ rv c j < L ∧ rv c (rv c j) = j ∧ rv c j ≠ j := by
 obtain ⟨i, s, hi, hne, hp, q1, q2, q3, q4, q5, q6, q7, q8⟩ := r.at hj
 have hq : Zm n.Arcs i (!s) < L := by rw [← r.hL]; exact Na hi hne r.he
 refine ⟨q4, by rw [q5]; exact hq, ?_, fun e => ?_⟩
 ·
  have := (r.is.ok.hat i hi hne (!s)).2.1
  rw [q5]; unfold rv; rw [this, Int.toNat_natCast, Bool.not_not, hp]
 ·
  have := (Lx r.he hi hi hne hne (q5.symm.trans (e.trans hp.symm))).2
  cases s <;> cases this
theorem Row.tlh (r : Row n m L c) {j : Nat} (hj : j < L) : tl c j < m ∧ tl c (rv c j) = hd c j ∧ hd c (rv c j) = tl c j ∧ tl c j ≠ hd c j := by
 obtain ⟨i, s, hi, hne, hp, q1, q2, q3, q4, q5, q6, q7, q8⟩ := r.at hj
 have hv := r.he i hi s
 refine ⟨by omega, ?_, rfl, fun e => ?_⟩
 · unfold tl; rw [(r.rev hj).2.2.1]
 ·
  apply hne
  have : Yw (n.Arcs.getD i default) s = Yw (n.Arcs.getD i default) (!s) := by omega
  cases s <;> simpa [Yw, eq_comm] using this
theorem Row.back (r : Row n m L c) {j : Nat} (hj : j < L) : bk c (rv c j) = !bk c j := by
 obtain ⟨i, s, hi, hne, hp, q1, q2, q3, q4, q5, q6, q7, q8⟩ := r.at hj
 unfold bk at q8 ⊢
 rw [q5, (r.is.ok.hat i hi hne (!s)).2.2.2.2, q8]
theorem Row.first (r : Row n m L c) : (∀ v, v ≤ m → c.First.getD v 0 = (fs c v : Nat) ∧ fs c v = Yo n.Arcs v) ∧ fs c 0 = 0 ∧ fs c m = L ∧ ∀ v, v < m → fs c v ≤ fs c (v + 1) ∧ fs c (v + 1) ≤ L := by
 have h : ∀ v, v ≤ m → c.First.getD v 0 = (fs c v : Nat) ∧ fs c v = Yo n.Arcs v := fun v hv => by
  have := r.is.ok.hf v hv
  unfold fs; rw [this, Int.toNat_natCast]; exact ⟨rfl, rfl⟩
 refine ⟨h, by rw [(h 0 (by omega)).2]; rfl, by rw [(h m (Nat.le_refl _)).2]; exact r.hL, fun v hv => ?_⟩
 rw [(h v (by omega)).2, (h (v + 1) (by omega)).2, ← r.hL]
 exact ⟨Gs (by omega), Gs (by omega)⟩
theorem Row.range (r : Row n m L c) {j u : Nat} (hj : j < L) (hu : u < m) : (fs c u ≤ j ∧ j < fs c (u + 1)) ↔ tl c j = u := by
 obtain ⟨i, s, hi, hne, hp, q1, q2, q3, q4, q5, q6, q7, q8⟩ := r.at hj
 have hv := r.he i hi s
 have f1 := (r.first.1 u (by omega)).2
 have f2 := (r.first.1 (u + 1) (by omega)).2
 constructor
 ·
  rintro ⟨h1, h2⟩
  have := (Zg9 (v := u) hi hne hv.1 (by omega) (by omega)).1
  omega
 ·
  intro h
  have hcl := Rq (s := s) hi hne hv.1
  have hpos : Zm n.Arcs i s = Yo n.Arcs (Yw (n.Arcs.getD i default) s).toNat + cnt n.Arcs (Yw (n.Arcs.getD i default) s).toNat i := rfl
  have e : (Yw (n.Arcs.getD i default) s).toNat = u := by omega
  rw [e] at hcl hpos
  have hb1 : Yo n.Arcs (u + 1) = Yo n.Arcs u + cnt n.Arcs u n.Arcs.length := rfl
  omega
theorem Row.cap (r : Row n m L c) {j : Nat} (hj : j < L) : 0 ≤ c.Cap.getD j 0 ∧ c.Cap.getD j 0 + c.Cap.getD (rv c j) 0 = cp c j ∧ cp c (rv c j) = cp c j ∧ 0 ≤ cp c j ∧ cp c j ≤ 4611686018427387904 ∧ (bk c j = true → c.Cap.getD j 0 = 0) := by
 obtain ⟨i, s, hi, hne, hp, q1, q2, q3, q4, q5, q6, q7, q8⟩ := r.at hj
 have hc := r.caps i hi
 have h2 : c.Cap.getD (rv c j) 0 = if (!s) then 0 else (n.Arcs.getD i default).cap := by rw [q5]; exact (r.is.ok.hat i hi hne (!s)).2.2.1
 have h3 := (r.rev hj).2.2.1
 unfold cp
 rw [h3, q6, h2, q8]
 cases s
 · simp only [Bool.not_false, if_true, Bool.false_eq_true, if_false, false_implies, and_true]; omega
 · simp only [Bool.not_true, if_true, Bool.false_eq_true, if_false, true_implies, and_true]; omega
theorem Row.cpPos (r : Row n m L c) {i : Nat} (hi : i < n.Arcs.length) (hne : (n.Arcs.getD i default).fr ≠ (n.Arcs.getD i default).to) (s : Bool) : cp c (Zm n.Arcs i s) = (n.Arcs.getD i default).cap ∧ rv c (Zm n.Arcs i s) = Zm n.Arcs i (!s) ∧ Zm n.Arcs i s < L := by
 have z := r.is.ok.hat i hi hne s
 have z2 := r.is.ok.hat i hi hne (!s)
 have hc := r.caps i hi
 have hr : rv c (Zm n.Arcs i s) = Zm n.Arcs i (!s) := by unfold rv; rw [z.2.1, Int.toNat_natCast]
 refine ⟨?_, hr, by rw [← r.hL]; exact Na hi hne r.he⟩
 unfold cp
 rw [hr, z.2.2.1, z2.2.2.1]
 cases s <;> simp only [Bool.not_true, Bool.not_false, if_true, Bool.false_eq_true, if_false] <;> omega
theorem Row.tailM (r : Row n m L c) {j : Nat} (hj : j < L) : Z1m c (j : Nat) = some (((tl c j : Nat) : Int), true) := by
 obtain ⟨i, s, hi, hne, hp, q1, q2, q3, q4, q5, q6, q7, q8⟩ := r.at hj
 have b := r.bd
 have := s_Tail r.is r.he (by omega) (by omega) (s := s) hi hne
 rw [hp] at this
 rw [this, q3]
theorem Z3c {S X : Type} {y : S → Int → Option (S ⊕ X)} {s0 : S} {u : Nat} (r : Row n m L c) (hu : u < m) (I : Nat → S → Prop) (J : X → Prop) (h0 : I (fs c u) s0)
    (hstep : ∀ j s, fs c u ≤ j → j < fs c (u + 1) → I j s → Ok (y s (j : Nat)) (fun t => match t with | .inl s' => I (j + 1) s' | .inr x => J x)) :
    Ok (Rv y c (u : Nat) (.inl s0)) (fun t => match t with | .inl s => I (fs c (u + 1)) s | .inr x => J x) := by
  have lf := r.lens.1
  have b := r.bd
  have f1 := (r.first.1 u (by omega)).1
  have f2 := (r.first.1 (u + 1) (by omega)).1
  have f3 := r.first.2.2.2 u hu
  have e1 : ((u : Int) + 1).toNat = u + 1 := by omega
  unfold Rv
  simp only [Int.toNat_natCast, f1]
  refine Ok.gd.2 ⟨(by omega), Ok.bind.2 (Wy (fun s => ∃ (k : Nat) (st : S), s = ((k : Int), Sum.inl st) ∧ fs c u ≤ k ∧ k ≤ fs c (u + 1) ∧ I k st) (fun s => (fs c (u + 1) - s.1).toNat) ⟨fs c u, s0, rfl, Nat.le_refl _, f3.1, h0⟩ (by unfold Yc; simp only; omega) ?_)⟩
  rintro s ⟨k, st, rfl, hk0, hk, hI⟩ P next exit
  unfold Z6h
  simp only [Int.toNat_natCast, e1, f2]
  refine Ok.gd.2 ⟨(by omega), Ok.gd.2 ⟨(by omega), Ok.ite.2 ⟨fun hx => ?_, fun hx => Ok.some.2 (exit _ (Ok.some.2 ?_))⟩⟩⟩
  · refine Ok.bind.2 ?_
    show Ok (y st _) _
    refine Ok.mono (hstep k st hk0 (by omega) hI) ?_
    rintro (s' | x) hr
    · exact Ok.ite.2 ⟨fun h => by simp at h, fun _ => Ok.gd.2 ⟨(by omega), Ok.some.2 (next _ ⟨k + 1, s', by simp, by omega, by omega, hr⟩ (by simp only; omega))⟩⟩
    · exact Ok.ite.2 ⟨fun _ => Ok.some.2 (exit _ (Ok.some.2 hr)), fun h => by simp at h⟩
  · obtain rfl : k = fs c (u + 1) := by omega
    exact hI
def Ul (al : List Arc) (R : List Int) : List Int := (List.range al.length).map fun i => if (al.getD i default).fr = (al.getD i default).to then 0 else R.getD (Zm al i true) 0
theorem Zdr (al : List Arc) (R : List Int) : (Ul al R).length = al.length := by simp [Ul]
theorem Rc {al : List Arc} {R : List Int} {i : Nat} (h : i < al.length) : (Ul al R).getD i 0 = if (al.getD i default).fr = (al.getD i default).to then 0 else R.getD (Zm al i true) 0 := by
 unfold Ul
 rw [List.getD_eq_getElem?_getD, List.getElem?_map, List.getElem?_range h]; rfl
structure ResOK (n : Net) (m L : Nat) (c : Csr) (R X : List Int) : Prop where
  lr : R.length = L
  lx : X.length = m
  res : ∀ j, j < L → 0 ≤ R.getD j 0 ∧ R.getD j 0 + R.getD (rv c j) 0 = cp c j
  ex : ∀ v : Nat, v < m → X.getD v 0 = ex n.Arcs (Ul n.Arcs R) v n.Arcs.length
theorem Zid {R : List Int} (r : Row n m L c) (h : ∀ j, j < L → 0 ≤ R.getD j 0 ∧ R.getD j 0 + R.getD (rv c j) 0 = cp c j) : FwithinP n (Ul n.Arcs R) := by
 refine ⟨r.chk, Zdr _ _, fun i hi => ?_⟩
 rw [Rc hi]
 have hc := r.caps i hi
 by_cases e : (n.Arcs.getD i default).fr = (n.Arcs.getD i default).to
 · rw [if_pos e]; omega
 ·
  rw [if_neg e]
  obtain ⟨a1, a2, a3⟩ := r.cpPos hi e true
  have h1 := h _ a3
  have h2 := h _ (r.rev a3).2.1
  omega
theorem ResOK.within {R X : List Int} (h : ResOK n m L c R X) (r : Row n m L c) : FwithinP n (Ul n.Arcs R) := Zid r h.res
theorem Zbd {f : List Int} (hw : FwithinP n f) (v : Int) : -4611686018427387904 ≤ ex n.Arcs f v n.Arcs.length ∧ ex n.Arcs f v n.Arcs.length ≤ 4611686018427387904 := by
 have := ex_le (al := n.Arcs) v (fun i hi => (hw.2.2 i hi).1) n.Arcs.length (Nat.le_refl _)
 have := hw.tot n.Arcs.length (Nat.le_refl _)
 omega
theorem ResOK.bnd {R X : List Int} (h : ResOK n m L c R X) (r : Row n m L c) {v : Nat} (hv : v < m) : -4611686018427387904 ≤ X.getD v 0 ∧ X.getD v 0 ≤ 4611686018427387904 := by
 rw [h.ex v hv]; exact Zbd (h.within r) v
theorem ResOK.rle {R X : List Int} (h : ResOK n m L c R X) (r : Row n m L c) {j : Nat} (hj : j < L) : 0 ≤ R.getD j 0 ∧ R.getD j 0 ≤ cp c j ∧ R.getD j 0 ≤ 4611686018427387904 := by
 have h1 := h.res j hj
 have h2 := h.res _ (r.rev hj).2.1
 have h3 := r.cap hj
 omega
def mvR (c : Csr) (R : List Int) (j : Nat) (d : Int) : List Int := (R.set j (R.getD j 0 - d)).set (rv c j) (R.getD (rv c j) 0 + d)
def mvX (c : Csr) (X : List Int) (j : Nat) (d : Int) : List Int := (X.set (tl c j) (X.getD (tl c j) 0 - d)).set (hd c j) (X.getD (hd c j) 0 + d)
theorem Rs {R : List Int} {j k : Nat} {d : Int} (r : Row n m L c) (hl : R.length = L) (hj : j < L) : (mvR c R j d).getD k 0 = if k = rv c j then R.getD (rv c j) 0 + d else if k = j then R.getD j 0 - d else R.getD k 0 := by
 have := r.rev hj
 unfold mvR
 rw [Wo, Wo, List.length_set]
 by_cases c1 : k = rv c j
 · rw [if_pos ⟨c1.symm, by omega⟩, if_pos c1]
 ·
  rw [if_neg fun h => c1 h.1.symm, if_neg c1]
  by_cases c2 : k = j
  · rw [if_pos ⟨c2.symm, by omega⟩, if_pos c2]
  · rw [if_neg fun h => c2 h.1.symm, if_neg c2]
theorem Z1i {X : List Int} {j k : Nat} {d : Int} (r : Row n m L c) (hl : X.length = m) (hj : j < L) : (mvX c X j d).getD k 0 = X.getD k 0 - (if tl c j = k then d else 0) + (if hd c j = k then d else 0) := by
 have h1 := r.tlh hj
 have h2 := r.head hj
 unfold mvX
 rw [Wo, Wo, List.length_set]
 by_cases c1 : hd c j = k
 ·
  subst c1
  rw [if_pos ⟨rfl, by omega⟩, if_neg h1.2.2.2, if_pos rfl]; omega
 ·
  rw [if_neg fun h => c1 h.1]
  by_cases c2 : tl c j = k
  ·
   subst c2
   rw [if_pos ⟨rfl, by omega⟩, if_pos rfl, if_neg c1]; omega
  · rw [if_neg fun h => c2 h.1, if_neg c2, if_neg c1]; omega
theorem ex_bump {al : List Arc} {f g : List Int} {i : Nat} {δ : Int} {K : Nat} (v : Int) (hi : i < K) (h : ∀ k, k < K → g.getD k 0 = f.getD k 0 + if k = i then δ else 0) :
    ex al g v K = ex al f v K + ((if (al.getD i default).to = v then δ else 0) - (if (al.getD i default).fr = v then δ else 0)) := by
  have key : ∀ k, k ≤ K → ex al g v k = ex al f v k + if i < k then ((if (al.getD i default).to = v then δ else 0) - (if (al.getD i default).fr = v then δ else 0)) else 0 := by
    intro k
    induction k with
    | zero => intro _; rw [if_neg (by omega)]; rfl
    | succ k ih =>
      intro hk
      simp only [ex]
      rw [ih (by omega), h k (by omega)]
      by_cases e : k = i
      · subst e
        rw [if_neg (show ¬ k < k by omega), if_pos rfl, if_pos (show k < k + 1 by omega)]
        split <;> split <;> omega
      · rw [if_neg e]
        by_cases e2 : i < k
        · rw [if_pos e2, if_pos (show i < k + 1 by omega)]; simp only [Int.add_zero]; omega
        · rw [if_neg e2, if_neg (show ¬ i < k + 1 by omega)]; simp only [Int.add_zero]
  rw [key K (Nat.le_refl _), if_pos hi]
theorem ResOK.move {R X : List Int} {j : Nat} {d : Int} (h : ResOK n m L c R X) (r : Row n m L c) (hj : j < L) (d0 : 0 ≤ d) (d1 : d ≤ R.getD j 0) : ResOK n m L c (mvR c R j d) (mvX c X j d) := by
 have hr := r.rev hj
 have hlr := h.lr
 have hlx := h.lx
 refine ⟨by simp [mvR, hlr], by simp [mvX, hlx], fun k hk => ?_, fun v hv => ?_⟩
 ·
  have hk2 := r.rev hk
  have a := h.res k hk
  have a2 := h.res _ hr.2.1
  have a3 := h.res j hj
  have a4 := r.cap hj
  rw [Rs r hlr hj, Rs r hlr hj]
  by_cases c1 : k = rv c j
  ·
   subst c1
   rw [if_pos rfl, hr.2.2.1, if_neg fun e => hr.2.2.2 e.symm, if_pos rfl, a4.2.2.1]; omega
  ·
   by_cases c2 : k = j
   ·
    subst c2
    rw [if_neg c1, if_pos rfl, if_pos rfl]; omega
   ·
    have c3 : rv c k ≠ rv c j := fun e => c2 (by rw [← hk2.2.2.1, e, hr.2.2.1])
    have c4 : rv c k ≠ j := fun e => c1 (by rw [← e, hk2.2.2.1])
    rw [if_neg c1, if_neg c2, if_neg c3, if_neg c4]; exact a
 ·
  obtain ⟨i, s, hi, hne, hp, q1, q2, q3, q4, q5, q6, q7, q8⟩ := r.at hj
  rw [Z1i r hlx hj, h.ex v hv, ex_bump (f := Ul n.Arcs R) (g := Ul n.Arcs (mvR c R j d)) (i := i) (δ := if s then -d else d) (v : Int) hi fun k hk => ?_]
  ·
   have t1 : (tl c j = v) ↔ Yw (n.Arcs.getD i default) s = (v : Int) := by rw [← q3]; omega
   have t2 : (hd c j = v) ↔ Yw (n.Arcs.getD i default) (!s) = (v : Int) := by rw [← q2]; omega
   simp only [t1, t2]
   cases s <;> simp only [Yw, Bool.not_false, Bool.not_true, if_true, if_false, Bool.false_eq_true] <;> split <;> split <;> omega
  ·
   rw [Rc hk, Rc hk]
   by_cases e : (n.Arcs.getD k default).fr = (n.Arcs.getD k default).to
   ·
    have : k ≠ i := fun e2 => by subst e2; exact hne e
    rw [if_pos e, if_pos e, if_neg this]; rfl
   ·
    rw [if_neg e, if_neg e, Rs r hlr hj]
    by_cases e2 : k = i
    ·
     subst e2
     cases s
     ·
      have b1 : Zm n.Arcs k true = rv c j := by rw [q5]; rfl
      rw [if_pos b1, if_pos rfl, b1]; rfl
     ·
      have b1 : Zm n.Arcs k true ≠ rv c j := fun e3 => by rw [q5] at e3; have := (Lx r.he hk hk e e e3).2; cases this
      rw [if_neg b1, if_pos hp, if_pos rfl, hp]; rfl
    ·
     have b1 : Zm n.Arcs k true ≠ rv c j := fun e3 => by rw [q5] at e3; exact e2 (Lx r.he hk hi e hne e3).1
     have b2 : Zm n.Arcs k true ≠ j := fun e3 => by rw [← hp] at e3; exact e2 (Lx r.he hk hi e hne e3).1
     rw [if_neg b1, if_neg b2, if_neg e2, Int.add_zero]
theorem Zb1 {p : Pre} {j : Nat} {d : Int} (r : Row n m L c) (h : ResOK n m L c p.Res p.Ex) (hj : j < L) (d0 : 0 ≤ d) (d1 : d ≤ p.Res.getD j 0) : Z2r c p (j : Nat) d = some ⟨mvR c p.Res j d, mvX c p.Ex j d, p.H⟩ := by
 refine Jl ?_
 obtain ⟨-, lh, lr, -, -, -⟩ := r.lens
 have h1 := r.head hj
 have h2 := r.rev hj
 have h3 := r.tlh hj
 have h4 := r.head h2.2.1
 have hlr := h.lr
 have hlx := h.lx
 have hm := h.move r hj d0 d1
 have b1 := h.bnd r h3.1
 have b2 := hm.bnd r h1.2
 have b3 := h.rle r hj
 have b4 := hm.rle r h2.2.1
 have b5 := h.rle r h2.2.1
 rw [Z1i r hlx hj, if_neg h3.2.2.2, if_pos rfl] at b2
 rw [Rs r hlr hj, if_pos rfl] at b4
 have e1 : (p.Res.set j (p.Res.getD j 0 - d)).getD (rv c j) 0 = p.Res.getD (rv c j) 0 := Vo fun e => h2.2.2.2 e.symm
 have e2 : (p.Ex.set (tl c j) (p.Ex.getD (tl c j) 0 - d)).getD (hd c j) 0 = p.Ex.getD (hd c j) 0 := Vo h3.2.2.2
 have e3 : c.Head.getD (rv c j) 0 = (tl c j : Nat) := h4.1
 unfold Z2r
 simp only [Int.toNat_natCast, h1.1, h2.1, e3, e1, e2, List.length_set, hlr, hlx, lh, lr]
 have i1 : inb (j : Int) L := by constructor <;> omega
 have i2 : inb ((rv c j : Nat) : Int) L := by constructor <;> omega
 have i3 : inb ((tl c j : Nat) : Int) m := by constructor <;> omega
 have i4 : inb ((hd c j : Nat) : Int) m := by constructor <;> omega
 have o1 : i64ok (p.Res.getD j 0 - d) := by constructor <;> omega
 have o2 : i64ok (p.Res.getD (rv c j) 0 + d) := by constructor <;> omega
 have o3 : i64ok (p.Ex.getD (tl c j) 0 - d) := by constructor <;> omega
 have o4 : i64ok (p.Ex.getD (hd c j) 0 + d) := by constructor <;> omega
 refine Ok.gd.2 ⟨i1, Ok.gd.2 ⟨i2, Ok.gd.2 ⟨i1, Ok.gd.2 ⟨o1, Ok.gd.2 ⟨i1, Ok.gd.2 ⟨i1, Ok.gd.2 ⟨i2, Ok.gd.2 ⟨o2, Ok.gd.2 ⟨i2, Ok.gd.2 ⟨i3, Ok.gd.2 ⟨o3, Ok.gd.2 ⟨i3, Ok.gd.2 ⟨i1, Ok.gd.2 ⟨i4, Ok.gd.2 ⟨o4, Ok.gd.2 ⟨i4, Ok.some.2 rfl⟩⟩⟩⟩⟩⟩⟩⟩⟩⟩⟩⟩⟩⟩⟩⟩
theorem Z87 {xs : List Int} (h : xs.length ≤ 1000000000) : Lk xs = some xs := by
 refine Jl ?_
 unfold Lk
 exact Ok.gd.2 ⟨by constructor <;> omega, Ok.some.2 rfl⟩
theorem s_CloneI {xs : List Int} (h : xs.length ≤ 1000000000) : Ln xs = some xs := by
 refine Jl ?_
 unfold Ln
 exact Ok.gd.2 ⟨by constructor <;> omega, Ok.some.2 rfl⟩
end row
end Go.Acq
namespace Go.Acq
open Go
def Re (al : List Arc) (v : Nat) : Nat → List Int
  | 0 => []
  | k + 1 => Re al v k ++ (if (al.getD k default).to = (v : Int) then [(k : Int)] else [])
theorem intoK_mem {al : List Arc} {v : Nat} {x : Int} : ∀ {k : Nat}, x ∈ Re al v k ↔ ∃ i : Nat, i < k ∧ x = i ∧ (al.getD i default).to = (v : Int)
 | 0 => by simp [Re]
 | k + 1 => by
  rw [Re, List.mem_append, intoK_mem (k := k)]
  constructor
  ·
   rintro (⟨i, h1, h2⟩ | h)
   · exact ⟨i, by omega, h2⟩
   ·
    split at h
    · rename_i h2; rw [List.mem_singleton] at h; exact ⟨k, by omega, h, h2⟩
    · cases h
  ·
   rintro ⟨i, h1, h2, h3⟩
   rcases Nat.lt_or_ge i k with h | h
   · exact .inl ⟨i, h, h2, h3⟩
   ·
    have e : i = k := by omega
    subst e
    exact .inr (by rw [if_pos h3, h2]; exact .head _)
theorem Zbg {al : List Arc} {v : Nat} : ∀ k, (Re al v k).length ≤ k
 | 0 => Nat.le_refl _
 | k + 1 => by
  have := Zbg (al := al) (v := v) k
  rw [Re, List.length_append]
  split <;> simp <;> omega
def IntoIs (n : Net) (m : Nat) (arcs : List (List Int)) : Prop := arcs.length = m ∧ ∀ v, v < m → arcs.getD v [] = Re n.Arcs v n.Arcs.length
theorem IntoIs.at {n : Net} {m : Nat} {arcs : List (List Int)} (h : IntoIs n m arcs) {v q : Nat} (hv : v < m) (hq : q < (arcs.getD v []).length) :
    ∃ k : Nat, (arcs.getD v []).getD q 0 = k ∧ k < n.Arcs.length ∧ (n.Arcs.getD k default).to = (v : Int) := by
  have := Ku hq 0
  rw [h.2 v hv] at this
  obtain ⟨i, h1, h2, h3⟩ := intoK_mem.1 this
  exact ⟨i, by rw [h.2 v hv]; exact h2, h1, h3⟩
theorem IntoIs.in {n : Net} {m : Nat} {arcs : List (List Int)} (h : IntoIs n m arcs) {v k : Nat} (hv : v < m) (hk : k < n.Arcs.length) (he : (n.Arcs.getD k default).to = (v : Int)) :
    ∃ q, q < (arcs.getD v []).length ∧ (arcs.getD v []).getD q 0 = k := by
  have : (k : Int) ∈ arcs.getD v [] := by rw [h.2 v hv]; exact intoK_mem.2 ⟨k, hk, rfl, he⟩
  obtain ⟨q, hq, e⟩ := List.getElem_of_mem this
  exact ⟨q, hq, by rw [List.getD_eq_getElem?_getD, List.getElem?_eq_getElem hq]; exact e⟩
theorem IntoIs.len {n : Net} {m : Nat} {arcs : List (List Int)} (h : IntoIs n m arcs) {v : Nat} (hv : v < m) : (arcs.getD v []).length ≤ n.Arcs.length := by
 rw [h.2 v hv]; exact Zbg _
theorem Zdk {al : List Arc} {f : List Int} {v : Int} : ∀ {k : Nat}, (∀ i, i < k → 0 ≤ f.getD i 0) → (∀ i, i < k → (al.getD i default).to = v → f.getD i 0 = 0) → ex al f v k ≤ 0
 | 0, _, _ => Int.le_refl _
 | k + 1, h0, h => by
  have ih := Zdk (k := k) (fun i hi => h0 i (by omega)) fun i hi => h i (by omega)
  have h1 := h0 k (by omega)
  have h2 := h k (by omega)
  rw [ex]
  by_cases e : (al.getD k default).to = v
  · rw [if_pos e, h2 e]; split <;> omega
  · rw [if_neg e]; split <;> omega
structure GB (n : Net) (m : Nat) (f g X : List Int) : Prop where
  len : g.length = n.Arcs.length
  le : ∀ i, i < n.Arcs.length → 0 ≤ g.getD i 0 ∧ g.getD i 0 ≤ f.getD i 0
  lx : X.length = m
  ex : ∀ v : Nat, v < m → X.getD v 0 = ex n.Arcs g v n.Arcs.length
  nn : ∀ v : Nat, v < m → (v : Int) ≠ n.S → 0 ≤ X.getD v 0
  atT : ∀ v : Nat, v < m → (v : Int) = n.T → Acq.ex n.Arcs f v n.Arcs.length ≤ X.getD v 0 ∧ ((∀ i, i < n.Arcs.length → (n.Arcs.getD i default).fr = n.T → f.getD i 0 = 0) → X.getD v 0 = Acq.ex n.Arcs f v n.Arcs.length)
  same : (∀ v : Nat, v < m → (v : Int) ≠ n.S → (v : Int) ≠ n.T → Acq.ex n.Arcs f v n.Arcs.length = 0) → g = f
section
variable {n : Net} {m : Nat} {f g X : List Int}
theorem GB.within (h : GB n m f g X) (hw : FwithinP n f) : FwithinP n g := ⟨hw.1, h.len, fun i hi => by have := h.le i hi; have := hw.2.2 i hi; omega⟩
theorem GB.start (hf : f.length = n.Arcs.length) (h0 : ∀ i, i < n.Arcs.length → 0 ≤ f.getD i 0) (hX : X.length = m) (he : ∀ v : Nat, v < m → X.getD v 0 = Acq.ex n.Arcs f v n.Arcs.length) (hn : ∀ v : Nat, v < m → (v : Int) ≠ n.S → 0 ≤ Acq.ex n.Arcs f v n.Arcs.length) : GB n m f f X :=
 ⟨hf, fun i hi => ⟨h0 i hi, Int.le_refl _⟩, hX, he, fun v hv hS => by rw [he v hv]; exact hn v hv hS, fun v hv hT => by rw [he v hv]; exact ⟨Int.le_refl _, fun _ => rfl⟩, fun _ => rfl⟩
theorem Zc4 {u v w : Nat} {d : Int} (hv : v < X.length) (hu : u < X.length) : ((X.set v (X.getD v 0 - d)).set u ((X.set v (X.getD v 0 - d)).getD u 0 + d)).getD w 0 = X.getD w 0 - (if v = w then d else 0) + (if u = w then d else 0) := by
 rw [Wo, List.length_set]
 by_cases e : u = w
 ·
  subst e
  rw [if_pos ⟨rfl, hu⟩, if_pos rfl, Wo]
  by_cases e2 : v = u
  ·
   subst e2
   rw [if_pos ⟨rfl, hv⟩, if_pos rfl]
  · rw [if_neg (fun h => e2 h.1), if_neg e2]; omega
 ·
  rw [if_neg (fun h => e h.1), if_neg e, Wo]
  by_cases e2 : v = w
  ·
   subst e2
   rw [if_pos ⟨rfl, hv⟩, if_pos rfl]; omega
  · rw [if_neg (fun h => e2 h.1), if_neg e2]; omega
theorem GB.give (h : GB n m f g X) {i u v : Nat} {d : Int} (hi : i < n.Arcs.length) (hv : v < m) (hu : u < m) (hto : (n.Arcs.getD i default).to = (v : Int)) (Vf : (n.Arcs.getD i default).fr = (u : Int))
    (hS : (v : Int) ≠ n.S) (hT : (v : Int) ≠ n.T) (h0 : 0 ≤ d) (h1 : d ≤ X.getD v 0) (h2 : d ≤ g.getD i 0) :
    GB n m f (g.set i (g.getD i 0 - d)) ((X.set v (X.getD v 0 - d)).set u ((X.set v (X.getD v 0 - d)).getD u 0 + d)) := by
  have hl := h.len
  have hx := h.lx
  have hg := fun w => Zc4 (X := X) (u := u) (v := v) (w := w) (d := d) (by omega) (by omega)
  refine ⟨by rw [List.length_set]; exact hl, fun j hj => ?_, by simp [hx], fun w hw => ?_, fun w hw hwS => ?_, fun w hw hwT => ?_, fun hz => ?_⟩
  · have := h.le j hj
    have := h.le i hi
    by_cases e : i = j
    · subst e; rw [Kf (by omega)]; omega
    · rw [Vo e]; omega
  · rw [hg, Zag (by omega), if_pos hi, hto, Vf, h.ex w hw]
    by_cases e1 : v = w <;> by_cases e2 : u = w
    · rw [if_pos e1, if_pos e2, if_pos (by omega), if_pos (by omega)]; omega
    · rw [if_pos e1, if_neg e2, if_pos (by omega), if_neg (by omega)]; omega
    · rw [if_neg e1, if_pos e2, if_neg (by omega), if_pos (by omega)]; omega
    · rw [if_neg e1, if_neg e2, if_neg (by omega), if_neg (by omega)]; omega
  · have := h.nn w hw hwS
    rw [hg]
    by_cases e : v = w
    · subst e; rw [if_pos rfl]; split <;> omega
    · rw [if_neg e]; split <;> omega
  · have h3 := h.atT w hw hwT
    rw [hg, if_neg (by omega)]
    refine ⟨by split <;> omega, fun hz => ?_⟩
    have h4 := h3.2 hz
    by_cases e : u = w
    · have h5 := hz i hi (by omega)
      have := h.le i hi
      rw [if_pos e]; omega
    · rw [if_neg e]; omega
  · have e := h.same hz
    have h3 := hz v hv hS hT
    have h4 := h.ex v hv
    rw [e] at h4
    have h5 : d = 0 := by omega
    subst h5
    rw [← e]
    refine Zcn 0 (by rw [List.length_set]) fun j hj => ?_
    by_cases e2 : i = j
    · subst e2; rw [Kf (by omega)]; omega
    · rw [Vo e2]
def DoneP (n : Net) (m : Nat) (o X : List Int) (p : Nat) : Prop := ∀ q, p ≤ q → q < m → ∀ v : Nat, o.getD q 0 = (v : Int) → (v : Int) ≠ n.S → (v : Int) ≠ n.T → X.getD v 0 = 0
theorem DoneP.give {o : List Int} {p : Nat} (hd : DoneP n m o X (p + 1)) (ho : Topo n m f o) (hp : p < m) (h : GB n m f g X) {i u v : Nat} {d : Int} (hv : v < m) (hov : o.getD p 0 = (v : Int)) (hu : u < m) (hi : i < n.Arcs.length) (hto : (n.Arcs.getD i default).to = (v : Int)) (Vf : (n.Arcs.getD i default).fr = (u : Int))
    (h0 : 0 ≤ d) (h2 : d ≤ g.getD i 0) : DoneP n m o ((X.set v (X.getD v 0 - d)).set u ((X.set v (X.getD v 0 - d)).getD u 0 + d)) (p + 1) ∧ (0 < d → u ≠ v) := by
  have hx := h.lx
  have hnd := ho.2.1.nd
  have hol := ho.1
  have inj : ∀ q q', q < m → q' < m → o.getD q 0 = o.getD q' 0 → q = q' := fun q q' hq hq' e => by
    rw [List.getD_eq_getElem?_getD, List.getElem?_eq_getElem (by omega), List.getD_eq_getElem?_getD, List.getElem?_eq_getElem (by omega)] at e
    exact (List.getElem_inj hnd).1 e
  have hb : 0 < d → ∃ j, j < p ∧ o.getD j 0 = (u : Int) := fun hd0 => by
    have := h.le i hi
    obtain ⟨j, hj, e⟩ := ho.2.2 p (by omega) i hi (by omega) (hto.trans hov.symm)
    exact ⟨j, hj, e.trans Vf⟩
  refine ⟨fun q h1 h3 w hw hS hT => ?_, fun hd0 e => ?_⟩
  · rw [Zc4 (by omega) (by omega), hd q h1 h3 w hw hS hT]
    have e1 : v ≠ w := fun e => by
      subst e
      have := inj p q hp h3 (hov.trans hw.symm)
      omega
    rw [if_neg e1]
    by_cases e2 : u = w
    · subst e2
      rw [if_pos rfl]
      rcases Int.lt_or_le 0 d with h4 | h4
      · obtain ⟨j, hj, e⟩ := hb h4
        have := inj j q (by omega) h3 (e.trans hw.symm)
        omega
      · omega
    · rw [if_neg e2]; omega
  · obtain ⟨j, hj, e2⟩ := hb hd0
    subst e
    have := inj j p (by omega) hp (e2.trans hov.symm)
    omega
theorem GB.done (h : GB n m f g X) {v : Nat} (hv : v < m) (hS : (v : Int) ≠ n.S) (hz : X.getD v 0 = 0 ∨ ∀ i, i < n.Arcs.length → (n.Arcs.getD i default).to = (v : Int) → g.getD i 0 = 0) : X.getD v 0 = 0 := by
 rcases hz with h1 | h1
 · exact h1
 ·
  have h2 := Zdk (al := n.Arcs) (f := g) (v := v) (fun i hi => (h.le i hi).1) h1
  have := h.nn v hv hS
  have := h.ex v hv
  omega
structure BackP (n : Net) (f g : List Int) : Prop where
  len : g.length = n.Arcs.length
  le : ∀ i, i < n.Arcs.length → 0 ≤ g.getD i 0 ∧ g.getD i 0 ≤ f.getD i 0
  all : Ka n g (fun x => x = 0) [n.S, n.T]
  atT : ex n.Arcs f n.T n.Arcs.length ≤ ex n.Arcs g n.T n.Arcs.length
  eqT : (∀ i, i < n.Arcs.length → (n.Arcs.getD i default).fr = n.T → f.getD i 0 = 0) → ex n.Arcs g n.T n.Arcs.length = ex n.Arcs f n.T n.Arcs.length
  acyc : Acyc n g
  same : Acyc n f → Ka n f (fun x => x = 0) [n.S, n.T] → g = f
theorem Acyc.le (h : Acyc n f) (hg : ∀ i, i < n.Arcs.length → g.getD i 0 ≤ f.getD i 0) : Acyc n g := by
 obtain ⟨ρ, hρ⟩ := h
 exact ⟨ρ, fun k hk h0 => hρ k hk (by have := hg k hk; omega)⟩
end
end Go.Acq
namespace Go.Acq
open Go
theorem Zl1 {n : Net} {f : List Int} {c : List Bool} {m : Nat} (hm : n.N = m) (he : Vh m n.Arcs) (hc : Ly n c) (hz : ∀ v : Nat, v < m → Xz c v = false → (v : Int) ≠ n.T → ex n.Arcs f v n.Arcs.length = 0) : Ng n.Arcs f c n.Arcs.length = ex n.Arcs f n.T n.Arcs.length := by
 have hk := Un hc.1
 simp only [Uh, decide_eq_true_eq] at hk
 have hj : ∀ j : Nat, j ≤ m → Gv n.Arcs f c j n.Arcs.length = if n.T < j then ex n.Arcs f n.T n.Arcs.length else 0 := by
  intro j
  induction j with
  | zero => intro _; rw [show ((0 : Nat) : Int) = 0 from rfl, Z8i he _ (Nat.le_refl _), if_neg (by omega)]
  | succ j ih =>
   intro hj
   rw [Int.natCast_succ, Z9i, ih (by omega)]
   by_cases c1 : n.T = j
   · rw [← c1, if_neg (by omega), if_pos hc.2.2.2, if_pos (by omega)]; omega
   ·
    have h0 : (if Xz c j = false then ex n.Arcs f j n.Arcs.length else 0) = 0 := by
     by_cases c2 : Xz c j = false
     · rw [if_pos c2]; exact hz j (by omega) c2 (fun h => c1 h.symm)
     · rw [if_neg c2]
    rw [h0]
    by_cases c3 : n.T < j
    · rw [if_pos c3, if_pos (by omega)]; omega
    · rw [if_neg c3, if_neg (by omega)]; rfl
 have := hj m (Nat.le_refl _)
 rw [Z9a he _ (Nat.le_refl _), if_pos (by omega)] at this
 exact this
end Go.Acq
namespace Go.Acq
open Go
theorem aw23 : Z5q = some true := by decide +kernel
section
variable {n : Net} {m : Nat} {f : List Int} {arcs : List (List Int)}
theorem s_into (hm : n.N = m) (hm2 : m ≤ 4096) (he : Vh m n.Arcs) (hl : n.Arcs.length ≤ 16384) : Ok (Z5m n) (fun arcs => IntoIs n m arcs) := by
 unfold Z5m
 rw [hm]
 refine Ok.gd.2 ⟨(by omega), Ok.bind.2 ?_⟩
 simp only [Int.toNat_natCast]
 refine Wy (fun s => ∃ k : Nat, s.2 = k ∧ k ≤ n.Arcs.length ∧ s.1.length = m ∧ ∀ v, v < m → s.1.getD v [] = Re n.Arcs v k) (fun s => (n.Arcs.length - s.2).toNat) ⟨0, rfl, by omega, List.length_replicate, fun v _ => by rw [Ke]; rfl⟩ (by unfold Yc; simp only; omega) ?_
 rintro ⟨xs, x⟩ ⟨k, h1, hk, h3, h4⟩ P next exit
 simp only at h1 h3 h4 next ⊢
 subst h1
 unfold Z3i
 simp only [Int.toNat_natCast]
 refine Ok.ite.2 ⟨fun hx => ?_, fun hx => ?_⟩
 ·
  have hkl : k < n.Arcs.length := by omega
  have e0 := he k hkl true
  simp only [Yw, if_true] at e0
  obtain ⟨p, hp⟩ : ∃ p : Nat, (n.Arcs.getD k default).to = p := ⟨(n.Arcs.getD k default).to.toNat, by omega⟩
  rw [hp] at e0
  have h5 := h4 p (by omega)
  have h6 := Zbg (al := n.Arcs) (v := p) k
  simp only [hp, Int.toNat_natCast]
  refine Ok.gd.2 ⟨(by constructor <;> omega), Ok.gd.2 ⟨(by constructor <;> omega), Ok.gd.2 ⟨?_, Ok.gd.2 ⟨(by constructor <;> omega), Ok.some.2 (next _ ⟨k + 1, by simp, by omega, by simp [h3], fun v hv => ?_⟩ (by simp only; omega))⟩⟩⟩⟩
  · rw [List.length_append, h5]; simp only [List.length_singleton]; constructor <;> omega
  ·
   rw [Wo, h3, h5, Re]
   by_cases e : p = v
   · subst e; rw [if_pos ⟨rfl, by omega⟩, if_pos hp]
   · rw [if_neg (fun h => e h.1), if_neg (fun h => by rw [hp] at h; omega), List.append_nil]; exact h4 v hv
 ·
  refine Ok.some.2 (exit _ ?_)
  unfold Z7e
  exact Ok.some.2 ⟨h3, fun v hv => by rw [h4 v hv, show k = n.Arcs.length by omega]⟩
theorem DoneP.skip {o X : List Int} {p v : Nat} (hD : DoneP n m o X (p + 1)) (hov : o.getD p 0 = (v : Int)) (h : (v : Int) ≠ n.S → (v : Int) ≠ n.T → X.getD v 0 = 0) : DoneP n m o X p := fun q h1 h2 w hw hS hT => by
 rcases Nat.lt_or_ge p q with h3 | h3
 · exact hD q (by omega) h2 w hw hS hT
 ·
  have e : q = p := by omega
  subst e
  have e : v = w := by have := hov.symm.trans hw; omega
  subst e
  exact h hS hT
theorem s_gifts {g X o : List Int} {p v : Nat} (hm2 : m ≤ 4096) (hl : n.Arcs.length ≤ 16384) (he : Vh m n.Arcs) (hi : IntoIs n m arcs) (hw : FwithinP n f) (ho : Topo n m f o) (hp : p < m) (hov : o.getD p 0 = (v : Int)) (hv : v < m) (hS : (v : Int) ≠ n.S) (hT : (v : Int) ≠ n.T) (hG : GB n m f g X) (hD : DoneP n m o X (p + 1)) :
    Ok (Ym (fun s => Z2z n arcs v s.1 s.2.1 s.2.2) Yc (g, X, 0)) (fun r => GB n m f r.1 r.2 ∧ DoneP n m o r.2 p) := by
  have hal := hi.len hv
  refine Wy (fun s => ∃ q : Nat, s.2.2 = q ∧ q ≤ (arcs.getD v []).length ∧ GB n m f s.1 s.2.1 ∧ DoneP n m o s.2.1 (p + 1) ∧ (s.2.1.getD v 0 = 0 ∨ ∀ i, i < q → s.1.getD ((arcs.getD v []).getD i 0).toNat 0 = 0)) (fun s => ((arcs.getD v []).length - s.2.2).toNat) ⟨0, rfl, by omega, hG, hD, .inr fun i hi => by omega⟩ (by unfold Yc; simp only; omega) ?_
  rintro ⟨g, X, y⟩ ⟨q, h1, hq, hG, hD, hz⟩ P next exit
  simp only at h1 hG hD hz next ⊢
  subst h1
  unfold Z2z
  simp only [Int.toNat_natCast]
  refine Ok.ite.2 ⟨fun hy => ?_, fun hy => Ok.some.2 (exit _ ⟨hG, hD.skip hov fun _ _ => hG.done hv hS ?_⟩)⟩
  · obtain ⟨k, hk, hkl, hto⟩ := hi.at hv (q := q) (by omega)
    have e0 := he k hkl false
    simp only [Yw, Bool.false_eq_true, if_false] at e0
    obtain ⟨u, Vf⟩ : ∃ u : Nat, (n.Arcs.getD k default).fr = (u : Int) := ⟨(n.Arcs.getD k default).fr.toNat, by omega⟩
    have hu : u < m := by omega
    simp only [hk, Vf, Int.toNat_natCast]
    have hgk := hG.le k hkl
    have hXv := hG.nn v hv hS
    obtain ⟨d, hd⟩ : ∃ d, min (X.getD v 0) (g.getD k 0) = d := ⟨_, rfl⟩
    simp only [hd]
    have hG2 := hG.give hkl hv hu hto Vf hS hT (d := d) (by omega) (by omega) (by omega)
    obtain ⟨hD2, hne⟩ := hD.give ho hp hG hv hov hu hkl hto Vf (d := d) (by omega) (by omega)
    have hwG := hG.within hw
    have b1 := Zbd hwG v
    rw [← hG.ex v hv] at b1
    have b2 := Zbd (hG2.within hw) u
    have hlx := hG.lx
    have hlg := hG.len
    rw [← hG2.ex u hu, Kf (by rw [List.length_set]; omega)] at b2
    have t1 := hwG.tot (k + 1) (by omega)
    have t0 := hwG.tot k (by omega)
    simp only [tot] at t1
    refine Ok.gd.2 ⟨(by constructor <;> omega), Ok.gd.2 ⟨(by constructor <;> omega), Ok.gd.2 ⟨(by constructor <;> omega), Ok.gd.2 ⟨(by constructor <;> omega), Ok.gd.2 ⟨(by constructor <;> omega), Ok.gd.2 ⟨(by constructor <;> omega), Ok.gd.2 ⟨(by constructor <;> omega), Ok.gd.2 ⟨(by constructor <;> omega), Ok.gd.2 ⟨(by constructor <;> omega), Ok.gd.2 ⟨(by constructor <;> omega), Ok.gd.2 ⟨(by simp only [List.length_set, List.length_replicate]; constructor <;> omega), Ok.gd.2 ⟨(by constructor <;> omega), Ok.gd.2 ⟨(by simp only [List.length_set, List.length_replicate]; constructor <;> omega), Ok.gd.2 ⟨(by constructor <;> omega), Ok.some.2 (next _ ⟨q + 1, by simp, by omega, hG2, hD2, ?_⟩ (by simp only; omega))⟩⟩⟩⟩⟩⟩⟩⟩⟩⟩⟩⟩⟩⟩
    simp only
    rw [Zc4 (by omega) (by omega), if_pos rfl]
    rcases hz with h0 | h0
    · left
      have hd0 : d = 0 := by omega
      subst hd0
      split <;> omega
    · by_cases hdx : d = X.getD v 0
      · left
        by_cases hd0 : 0 < d
        · rw [if_neg (hne hd0)]; omega
        · split <;> omega
      · right
        intro i hi2
        rw [Wo]
        by_cases e : k = ((arcs.getD v []).getD i 0).toNat
        · rw [if_pos ⟨e, by omega⟩]; omega
        · rw [if_neg (fun h => e h.1)]
          rcases Nat.lt_or_ge i q with h | h
          · exact h0 i h
          · rw [show i = q by omega, hk, Int.toNat_natCast] at e; exact absurd rfl e
  · rcases hz with h0 | h0
    · exact .inl h0
    · refine .inr fun k hk hto => ?_
      obtain ⟨q', hq', e⟩ := hi.in hv hk hto
      have := h0 q' (by omega)
      rw [e, Int.toNat_natCast] at this
      exact this
theorem s_each {X o : List Int} (hm2 : m ≤ 4096) (hl : n.Arcs.length ≤ 16384) (he : Vh m n.Arcs) (hi : IntoIs n m arcs) (hw : FwithinP n f) (ho : Topo n m f o) (hG : GB n m f f X) :
    Ok (Z4f (fun s v => Rh n arcs s.1 s.2 v.1 v.2) o (.inl (f, X))) (fun t => ∃ g X, t = .inl (g, X) ∧ GB n m f g X ∧ DoneP n m o X 0) := by
  have hol := ho.1
  unfold Z4f
  refine Ok.gd.2 ⟨by rw [hol]; constructor <;> omega, Ok.bind.2 (Wy (fun s => ∃ (p : Nat) (g X : List Int), s = ((p : Int) - 1, Sum.inl (g, X)) ∧ p ≤ m ∧ GB n m f g X ∧ DoneP n m o X p) (fun s => (s.1 + 1).toNat) ⟨m, f, X, by rw [hol], Nat.le_refl _, hG, fun q h1 h2 => by omega⟩ (by unfold Yc; simp only; omega) ?_)⟩
  rintro s ⟨p, g, X, rfl, hp, hG, hD⟩ P next exit
  unfold Z5d
  refine Ok.ite.2 ⟨fun hx => ?_, fun hx => Ok.some.2 (exit _ (Ok.some.2 ⟨g, X, rfl, hG, ?_⟩))⟩
  · obtain ⟨p, rfl⟩ : ∃ q, p = q + 1 := ⟨p - 1, by omega⟩
    have e1 : ((p + 1 : Nat) : Int) - 1 = p := by omega
    simp only [e1, Int.toNat_natCast]
    obtain ⟨v, hov, hv⟩ := ho.2.1.lt (o.getD p 0) (Ku (by omega) 0)
    refine Ok.gd.2 ⟨(by constructor <;> omega), Ok.bind.2 ?_⟩
    show Ok (Rh n arcs g X p (o.getD p 0)) _
    rw [hov]
    have key : Ok (Rh n arcs g X p v) (fun t => ∃ g X, t = .inl (g, X) ∧ GB n m f g X ∧ DoneP n m o X p) := by
      unfold Rh
      refine Ok.ite.2 ⟨fun h => Ok.some.2 ⟨g, X, rfl, hG, hD.skip hov fun h2 => absurd h h2⟩, fun hS => Ok.ite.2 ⟨fun h => Ok.some.2 ⟨g, X, rfl, hG, hD.skip hov fun _ h2 => absurd h h2⟩, fun hT => ?_⟩⟩
      have hil := hi.1
      refine Ok.gd.2 ⟨(by constructor <;> omega), Ok.bind.2 (Ok.mono (s_gifts hm2 hl he hi hw ho (by omega) hov hv hS hT hG hD) ?_)⟩
      rintro ⟨g', X'⟩ ⟨h1, h2⟩
      exact Ok.some.2 ⟨g', X', rfl, h1, h2⟩
    refine Ok.mono key ?_
    rintro _ ⟨g', X', rfl, hG', hD'⟩
    exact Ok.ite.2 ⟨fun h => by simp at h, fun _ => Ok.gd.2 ⟨(by constructor <;> omega), Ok.some.2 (next _ ⟨p, g', X', rfl, by omega, hG', hD'⟩ (by simp only; omega))⟩⟩
  · rw [show p = 0 by omega] at hD; exact hD
theorem s_Back (hl : lenok n.Arcs.length) : Ok (Z30 n f) (fun r => (¬ Ka n f (fun x => 0 ≤ x) [n.S] ∧ r = ([], 20)) ∨ (Ka n f (fun x => 0 ≤ x) [n.S] ∧ r.2 = 0 ∧ BackP n f r.1)) := by
 unfold Z30
 refine Ok.bind.2 (Ok.mono (s_Pre hl) fun b hb => Ok.ite.2 ⟨fun h => Ok.some.2 (.inl ⟨fun h2 => (by rw [hb.2 h2] at h; cases h), rfl⟩), fun h => ?_⟩)
 have hP := hb.1 (Z0f h)
 obtain ⟨m, hm, -, hm2, hl2, he, hfl⟩ := hP.1.vert
 refine Ok.bind.2 (Ok.mono (s_Cancel hl) ?_)
 rintro ⟨f', t, e⟩ (⟨h, -⟩ | ⟨-, h0, hC, hA, -, -, -, hsame, -⟩)
 · exact absurd hP.1 h
 simp only at h0 hC hA hsame ⊢
 subst h0
 have hw' := hC.within hP.1
 refine Ok.ite.2 ⟨fun h => absurd rfl h, fun _ => Ok.bind.2 (Ok.mono (Z4c hl) ?_)⟩
 rintro ⟨X, e⟩ (⟨-, h1, hxl, hx⟩ | ⟨h, -⟩)
 rotate_left
 · exact absurd hw' h
 simp only at h1 hxl hx ⊢
 subst h1
 rw [hm, Int.toNat_natCast] at hxl hx
 refine Ok.ite.2 ⟨fun h => absurd rfl h, fun _ => Ok.bind.2 (Ok.mono (s_Order hl) ?_)⟩
 rintro ⟨o, b2⟩ (⟨h, -⟩ | ⟨-, h2, h3, -⟩)
 · exact absurd hw' h
 simp only at h2 h3 ⊢
 rw [hm, Int.toNat_natCast] at h2
 have ho : Topo n m f' o := by
  cases b2
  · exact absurd hA (h3 rfl).2
  · exact h2 rfl
 have hz := Un hP.1.1
 simp only [Uh, decide_eq_true_eq] at hz
 have hst : GB n m f' f' X := GB.start hC.len (fun i hi => (hC.le i hi).1) hxl hx fun v hv hS => by
  rw [hC.ex]
  rcases hP.2 v (by omega) with h | h
  · exact h
  · rw [List.mem_singleton] at h; exact absurd h hS
 refine Ok.bind.2 (Ok.mono (s_into hm hm2 he hl2) fun arcs hi => ?_)
 unfold Z6l
 refine Ok.bind.2 (Ok.some.2 (Ok.bind.2 (Ok.mono (s_each hm2 hl2 he hi hw' ho hst) ?_)))
 rintro _ ⟨g, Y, rfl, hG, hD⟩
 obtain ⟨T, hT⟩ : ∃ T : Nat, n.T = T := ⟨n.T.toNat, by omega⟩
 have hTm : T < m := by omega
 have h5 := hG.atT T hTm hT.symm
 have h6 := hG.ex T hTm
 refine Ok.some.2 (.inr ⟨hP, rfl, hG.len, fun i hi => ?_, ⟨hG.within hw', fun v hv => ?_⟩, ?_, fun hz => ?_, hA.le fun i hi => (hG.le i hi).2, fun h1 h2 => ?_⟩)
 ·
  have := hG.le i hi
  have := hC.le i hi
  show 0 ≤ g.getD i 0 ∧ g.getD i 0 ≤ _
  omega
 ·
  rw [hm, Int.toNat_natCast] at hv
  by_cases c1 : (v : Int) = n.S
  · exact .inr (by rw [c1]; exact .head _)
  ·
   by_cases c2 : (v : Int) = n.T
   · exact .inr (by rw [c2]; exact .tail _ (.head _))
   ·
    left
    obtain ⟨q, hq, e⟩ := List.getElem_of_mem (ho.mem hv)
    have hol := ho.1
    rw [← hG.ex v hv]
    exact hD q (Nat.zero_le _) (by omega) v (by rw [List.getD_eq_getElem?_getD, List.getElem?_eq_getElem hq]; exact e) c1 c2
 · rw [hT, ← hC.ex]; show _ ≤ ex n.Arcs g _ _; omega
 ·
  rw [hT, ← hC.ex]
  show ex n.Arcs g _ _ = _
  rw [← h6]
  exact h5.2 fun i hi Vf => by
   have := hC.le i hi
   have := hz i hi Vf
   omega
 ·
  have e := (hsame h1).1
  show g = f
  rw [← e]
  refine hG.same fun v hv hS hT => ?_
  rw [e]
  rcases h2.2 v (by omega) with h | h
  · exact h
  ·
   simp only [List.mem_cons, List.not_mem_nil, or_false] at h
   rcases h with h | h
   · exact absurd h hS
   · exact absurd h hT
end
end Go.Acq
namespace Go.Acq
open Go
theorem s_FlowG {n : Net} {m a : Nat} {c : Csr} {res : List Int} (h : CsrIs n m c) (he : Vh m n.Arcs) (hm : m ≤ 4096) (hl : n.Arcs.length ≤ 16384) (hal : ∀ j, j < Yo n.Arcs m → c.Arc.getD j 0 < a) (ha : a ≤ 16384)
    (hcap : ∀ i, i < n.Arcs.length → 0 ≤ (n.Arcs.getD i default).cap ∧ (n.Arcs.getD i default).cap ≤ 4611686018427387904) (hr : res.length = Yo n.Arcs m) :
    Ok (Z0b c res a) (fun r => ((∀ j, j < Yo n.Arcs m → Ls c.Rev c.Cap res j) ∧ r.2 = 0 ∧ FlowK n.Arcs a res (Yo n.Arcs m) r.1) ∨ ((∃ j, j < Yo n.Arcs m ∧ ¬Ls c.Rev c.Cap res j) ∧ r = ([], 20))) := by
  have hok := h.ok
  have lh := hok.lh
  have lr := hok.lr
  have lc := hok.lc
  have la := hok.la
  have lb := hok.lb
  have hbs := Z00 (al := n.Arcs) (v := m) hm hl
  unfold Z0b Z03
  refine Ok.bind.2 (Ok.some.2 (Ok.ite.2 ⟨fun hx => by omega, fun _ => Ok.ite.2 ⟨fun hx => by omega, fun _ => Ok.ite.2 ⟨fun hx => by omega, fun _ => Ok.bind.2 (Ok.mono (s_over (by omega)) ?_)⟩⟩⟩))
  rintro b rfl
  have hno : ¬ ∃ j, j < c.Arc.length ∧ (a : Int) ≤ c.Arc.getD j 0 := by
    rintro ⟨j, hj, hja⟩
    have := hal j (by omega)
    omega
  unfold Z0n
  refine Ok.ite.2 ⟨fun hx => absurd (of_decide_eq_true hx) hno, fun _ => Ok.gd.2 ⟨(by omega), Ok.bind.2 ?_⟩⟩
  refine Wy (fun s => ∃ k : Nat, s.2 = k ∧ k ≤ Yo n.Arcs m ∧ FlowK n.Arcs a res k s.1 ∧ ∀ j, j < k → Ls c.Rev c.Cap res j) (fun s => (Yo n.Arcs m - s.2).toNat) ⟨0, rfl, by omega, ⟨by simp, fun i => ?_⟩, fun j hj => by omega⟩ (by unfold Yc; simp only; omega) ?_
  · simp only [Ke, Nat.not_lt_zero, and_false, if_false]
  rintro ⟨fl, x⟩ ⟨k, g1, g2, g3, g4⟩ P next exit
  simp only at g1 g2 g3 next ⊢
  subst g1
  unfold Z65
  simp only [Int.toNat_natCast]
  have hfl := g3.1
  refine Ok.ite.2 ⟨fun hx => ?_, fun hx => ?_⟩
  · have hk : k < Yo n.Arcs m := by omega
    obtain ⟨i, s, hi, hne, hp, q1, q2, q3, q4, q5⟩ := hok.place hk
    have hq : Zm n.Arcs i (!s) < Yo n.Arcs m := Na hi hne he
    have hp2 : Zm n.Arcs i s < Yo n.Arcs m := Na hi hne he
    have hci := hcap i hi
    have hia := hal k hk
    rw [q4] at hia
    have r3 : c.Cap.getD (Zm n.Arcs i (!s)) 0 = (if (!s) then 0 else (n.Arcs.getD i default).cap) := (hok.hat i hi hne (!s)).2.2.1
    have bad : ¬Ls c.Rev c.Cap res k → P (.inr (.inl ([], 20))) := fun hr => exit _ (Ok.some.2 (.inr ⟨⟨k, hk, hr⟩, rfl⟩))
    have hmax : max (c.Cap.getD k 0) (c.Cap.getD (c.Rev.getD k 0).toNat 0) = (n.Arcs.getD i default).cap := by
      rw [q2, Int.toNat_natCast, q3, r3]; cases s <;> simp only [Bool.not_false, Bool.not_true, if_true, Bool.false_eq_true, if_false] <;> omega
    have j3 : ∀ t : Bool, (t = true → ¬Ls c.Rev c.Cap res k) → (t = false → Ls c.Rev c.Cap res k) → Ok (Z15 c res fl k t) P := by
      intro t t1 t2
      unfold Z15
      simp only [Int.toNat_natCast]
      refine Ok.ite.2 ⟨fun ht => Ok.some.2 (bad (t1 ht)), fun ht => ?_⟩
      have hfk := t2 (by simpa using ht)
      have hall : ∀ j, j < k + 1 → Ls c.Rev c.Cap res j := fun j hj => by
        rcases Nat.lt_or_ge j k with h | h
        · exact g4 j h
        · rw [show j = k by omega]; exact hfk
      refine Ok.gd.2 ⟨(by omega), Ok.ite.2 ⟨fun hb => ?_, fun hb => ?_⟩⟩
      · have hs : s = true := by rw [q5] at hb; exact hb
        subst hs
        simp only [q4, Int.toNat_natCast]
        refine Ok.gd.2 ⟨(by omega), Ok.gd.2 ⟨(by omega), Ok.gd.2 ⟨(by omega), Ok.some.2 (next _ ⟨k + 1, by simp, by omega, ⟨by simp [hfl], fun i' => ?_⟩, hall⟩ (by simp only; omega))⟩⟩⟩
        simp only
        rw [Wo]
        by_cases e : i = i'
        · subst e
          rw [if_pos ⟨rfl, by omega⟩, if_pos ⟨hi, hne, by omega⟩, hp]
        · rw [if_neg (fun h => e h.1), g3.2 i']
          by_cases c1 : i' < n.Arcs.length ∧ (n.Arcs.getD i' default).fr ≠ (n.Arcs.getD i' default).to
          · have : Zm n.Arcs i' true ≠ k := fun h => e (Lx he hi c1.1 hne c1.2 (hp.trans h.symm)).1
            by_cases c2 : Zm n.Arcs i' true < k
            · rw [if_pos ⟨c1.1, c1.2, c2⟩, if_pos ⟨c1.1, c1.2, by omega⟩]
            · rw [if_neg (fun h => c2 h.2.2), if_neg (fun h => by have := h.2.2; omega)]
          · rw [if_neg (fun h => c1 ⟨h.1, h.2.1⟩), if_neg (fun h => c1 ⟨h.1, h.2.1⟩)]
      · have hs : s = false := by rw [q5] at hb; simpa using hb
        subst hs
        refine Ok.gd.2 ⟨(by omega), Ok.some.2 (next _ ⟨k + 1, by simp, by omega, ⟨hfl, fun i' => ?_⟩, hall⟩ (by simp only; omega))⟩
        rw [g3.2 i']
        by_cases c1 : i' < n.Arcs.length ∧ (n.Arcs.getD i' default).fr ≠ (n.Arcs.getD i' default).to
        · have : Zm n.Arcs i' true ≠ k := fun h => by have := (Lx he hi c1.1 hne c1.2 (hp.trans h.symm)).2; cases this
          by_cases c2 : Zm n.Arcs i' true < k
          · rw [if_pos ⟨c1.1, c1.2, c2⟩, if_pos ⟨c1.1, c1.2, by omega⟩]
          · rw [if_neg (fun h => c2 h.2.2), if_neg (fun h => by have := h.2.2; omega)]
        · rw [if_neg (fun h => c1 ⟨h.1, h.2.1⟩), if_neg (fun h => c1 ⟨h.1, h.2.1⟩)]
    have hrev : inb (c.Rev.getD k 0) c.Cap.length := by rw [q2]; constructor <;> omega
    have hrev2 : inb (c.Rev.getD k 0) res.length := by rw [q2]; constructor <;> omega
    refine Ok.gd.2 ⟨(by omega), Ok.gd.2 ⟨(by omega), Ok.gd.2 ⟨(by omega), Ok.gd.2 ⟨hrev, Ok.ite.2 ⟨fun h1 => ?_, fun h1 => Ok.ite.2 ⟨fun h2 => ?_, fun h2 => ?_⟩⟩⟩⟩⟩⟩
    · exact j3 true (fun _ hf => by have := hf.1; omega) (fun h => by cases h)
    · exact j3 true (fun _ hf => by have := hf.2.1; omega) (fun h => by cases h)
    · refine Ok.gd.2 ⟨(by omega), Ok.gd.2 ⟨hrev2, Ok.gd.2 ⟨by rw [hmax]; constructor <;> omega, j3 _ (fun h hf => (of_decide_eq_true h) hf.2.2) (fun h => ⟨by omega, by omega, ?_⟩)⟩⟩⟩
      exact Classical.not_not.1 (of_decide_eq_false h)
  · refine Ok.some.2 (exit _ ?_)
    unfold Z7r
    have : k = Yo n.Arcs m := by omega
    subst this
    exact Ok.some.2 (.inl ⟨g4, rfl, g3⟩)
section row
variable {n : Net} {m L : Nat} {c : Csr}
theorem Zi5 {R : List Int} (r : Row n m L c) : (∀ j, j < L → Ls c.Rev c.Cap R j) ↔ ∀ j, j < L → 0 ≤ R.getD j 0 ∧ R.getD j 0 + R.getD (rv c j) 0 = cp c j := by
 constructor
 ·
  intro h j hj
  have := h j hj
  unfold Ls at this
  rw [(r.rev hj).1, Int.toNat_natCast] at this
  unfold cp; omega
 ·
  intro h j hj
  have h1 := h j hj
  have h2 := h _ (r.rev hj).2.1
  unfold Ls
  rw [(r.rev hj).1, Int.toNat_natCast]
  unfold cp at h1; omega
def HeightsP (n : Net) (m : Nat) (h : List Int) : Prop := h.length = m ∧ (∀ s : Nat, n.S = s → h.getD s 0 = m) ∧ (∀ t : Nat, n.T = t → h.getD t 0 = 0) ∧ ∀ v, v < m → 0 ≤ h.getD v 0 ∧ h.getD v 0 < 2 * m
structure PreOK (n : Net) (m L : Nat) (c : Csr) (p : Pre) : Prop where
  ok : ResOK n m L c p.Res p.Ex
  nn : ∀ v, v < m → (v : Int) ≠ n.S → 0 ≤ p.Ex.getD v 0
  hs : HeightsP n m p.H
  val : ∀ j, j < L → 0 < p.Res.getD j 0 → p.H.getD (tl c j) 0 ≤ p.H.getD (hd c j) 0 + 1
structure PreLen (p : Pre) : Prop where
  r : lenok p.Res.length
  x : lenok p.Ex.length
  h : lenok p.H.length
theorem PreOK.len {p : Pre} (h : PreOK n m L c p) (r : Row n m L c) : PreLen p := by
 have := r.bd
 have h1 := h.ok.lr
 have h2 := h.ok.lx
 have h3 := h.hs.1
 exact ⟨by omega, by omega, by omega⟩
end row
end Go.Acq
namespace Go.Acq
open Go
def Wz (n : Net) (X : List Int) (u : Nat) : Prop := (u : Int) ≠ n.S ∧ (u : Int) ≠ n.T ∧ 0 < X.getD u 0
instance (n : Net) (X : List Int) (u : Nat) : Decidable (Wz n X u) := by unfold Wz; infer_instance
def Ud (c : Csr) (p : Pre) (u j : Nat) : Prop := 0 < p.Res.getD j 0 ∧ p.H.getD u 0 = p.H.getD (hd c j) 0 + 1
instance (c : Csr) (p : Pre) (u j : Nat) : Decidable (Ud c p u j) := by unfold Ud; infer_instance
def Gk (n : Net) (c : Csr) (p : Pre) (u : Nat) : Prop := Wz n p.Ex u ∧ ∀ j, fs c u ≤ j → j < fs c (u + 1) → ¬Ud c p u j
instance (n : Net) (c : Csr) (p : Pre) (u : Nat) : Decidable (Gk n c p u) :=
  if h : Wz n p.Ex u ∧ ∀ j, j < fs c (u + 1) → fs c u ≤ j → ¬Ud c p u j then .isTrue ⟨h.1, fun j a b => h.2 j b a⟩ else .isFalse fun g => h ⟨g.1, fun j a b => g.2 j b a⟩
def Kg (p : Nat → Bool) : Nat → List Int
  | 0 => []
  | k + 1 => Kg p k ++ (if p k = true then [(k : Int)] else [])
theorem Za0 (p : Nat → Bool) : ∀ k, (Kg p k).length ≤ k
 | 0 => Nat.le_refl _
 | k + 1 => by
  have := Za0 p k
  simp only [Kg, List.length_append]
  split <;> simp <;> omega
theorem mem_selN {p : Nat → Bool} {a : Int} : ∀ {k : Nat}, a ∈ Kg p k ↔ ∃ i : Nat, i < k ∧ p i = true ∧ a = i
 | 0 => by simp [Kg]
 | k + 1 => by
  simp only [Kg, List.mem_append, mem_selN (k := k)]
  constructor
  ·
   rintro (⟨i, h1, h2, h3⟩ | h)
   · exact ⟨i, by omega, h2, h3⟩
   ·
    by_cases c : p k = true
    · rw [if_pos c] at h; exact ⟨k, by omega, c, List.mem_singleton.1 h⟩
    · rw [if_neg c] at h; cases h
  ·
   rintro ⟨i, h1, h2, h3⟩
   rcases Nat.lt_or_ge i k with h | h
   · exact .inl ⟨i, h, h2, h3⟩
   ·
    have : i = k := by omega
    subst this
    right; rw [if_pos h2]; exact List.mem_singleton.2 h3
section row
variable {n : Net} {m L : Nat} {c : Csr}
theorem Zbv {p : Pre} {u : Nat} (r : Row n m L c) (lx : p.Ex.length = m) (hu : u < m) : Z08 c p (u : Nat) = some (decide (Wz n p.Ex u)) := by
 have h2 := r.is.hS
 have h3 := r.is.hT
 unfold Z08 Wz
 rw [h2, h3]
 by_cases a : (u : Int) ≠ n.S
 ·
  by_cases b : (u : Int) ≠ n.T
  · rw [if_pos a, if_pos b, Ko (by constructor <;> omega), Int.toNat_natCast]; simp [a, b]
  · rw [if_pos a, if_neg b]; simp [b]
 · rw [if_neg a]; simp [a]
def HtB (m : Nat) (h : List Int) : Prop := h.length = m ∧ ∀ v, v < m → -1000000 ≤ h.getD v 0 ∧ h.getD v 0 ≤ 1000000
theorem HeightsP.hb {h : List Int} (r : Row n m L c) (hh : HeightsP n m h) : HtB m h := ⟨hh.1, fun v hv => by have := hh.2.2.2 v hv; have := r.bd; omega⟩
theorem Zcc {p : Pre} {u j : Nat} (r : Row n m L c) (lr : p.Res.length = L) (hb : HtB m p.H) (hu : u < m) (hj : j < L) : Z0o c p (u : Nat) (j : Nat) = some (decide (Ud c p u j)) := by
 have g1 := r.head hj
 have g2 := hb.2 _ g1.2
 have := hb.1
 have := r.lens.2.1
 unfold Z0o Ud
 simp only [Int.toNat_natCast, g1.1]
 rw [Ko (by constructor <;> omega)]
 by_cases h : 0 < p.Res.getD j 0
 ·
  rw [if_pos h, Ko (by constructor <;> omega), Ko (by constructor <;> omega), Ko (by constructor <;> omega), Ko (by constructor <;> omega)]
  exact congrArg some (decide_eq_decide.2 ⟨fun e => ⟨h, e⟩, fun e => e.2⟩)
 ·
  rw [if_neg h]
  exact congrArg some (decide_eq_false fun e => h e.1).symm
theorem Zei {p : Pre} {u : Nat} (r : Row n m L c) (lr : p.Res.length = L) (lx : p.Ex.length = m) (hb : HtB m p.H) (hu : u < m) : Ok (Z1b c p (u : Nat)) (fun b => b = decide (Gk n c p u)) := by
 have hfl := r.first.2.2.2 u hu
 unfold Z1b Nq
 refine Ok.bind.2 (Ok.some.2 (Ok.bind.2 (Ok.mono (Z3c r hu (fun j _ => ∀ i, fs c u ≤ i → i < j → ¬Ud c p u i) (fun _ => ∃ j, fs c u ≤ j ∧ j < fs c (u + 1) ∧ Ud c p u j) (fun i h1 h2 => by omega) fun j s h1 h2 h3 => ?_) ?_)))
 ·
  unfold Z35
  refine Ok.bind.2 (Vl (Zcc r lr hb hu (by omega)) (Ok.ite.2 ⟨fun h => Ok.some.2 ⟨j, h1, h2, of_decide_eq_true h⟩, fun h => Ok.some.2 fun i h4 h5 => ?_⟩))
  rcases Nat.lt_or_ge i j with h6 | h6
  · exact h3 i h4 h6
  · rw [show i = j by omega]; exact fun h7 => h (decide_eq_true h7)
 ·
  rintro (s | x) h
  ·
   refine Ok.bind.2 (Vl (Zbv r lx hu) (Ok.some.2 ?_))
   rw [Bool.eq_iff_iff, decide_eq_true_iff, decide_eq_true_iff]
   exact ⟨fun h1 => ⟨h1, h⟩, fun h1 => h1.1⟩
  ·
   obtain ⟨j, h1, h2, h3⟩ := h
   exact Ok.some.2 (decide_eq_false fun h4 => h4.2 j h1 h2 h3).symm
theorem s_all {p : Nat → Bool} {step : List Int → Int → Option ((List Int × Int) ⊕ List Int)} (hm : m ≤ 4096)
    (hs : ∀ (o : List Int) (k : Nat), k ≤ m → o.length ≤ k → step o k = if k < m then (if p k = true then some (.inl (o ++ [(k : Int)], (k : Int) + 1)) else some (.inl (o, (k : Int) + 1))) else some (.inr o)) : Ok (Ym (fun s => step s.1 s.2) Yc ([], 0)) (fun o => o = Kg p m) := by
  refine Wy (fun s => ∃ k : Nat, s.2 = k ∧ k ≤ m ∧ s.1 = Kg p k) (fun s => (m - s.2).toNat) ⟨0, rfl, by omega, rfl⟩ (by unfold Yc; simp only; omega) ?_
  rintro ⟨o, x⟩ ⟨k, h1, hk, ho⟩ P next exit
  simp only at h1 ho next ⊢
  subst h1; subst ho
  rw [hs _ k hk (Za0 p k)]
  refine Ok.ite.2 ⟨fun hx => Ok.ite.2 ⟨fun h => Ok.some.2 (next _ ⟨k + 1, by simp, by omega, by simp only [Kg]; rw [if_pos h]⟩ (by simp only; omega)), fun h => Ok.some.2 (next _ ⟨k + 1, by simp, by omega, by simp only [Kg]; rw [if_neg h, List.append_nil]⟩ (by simp only; omega))⟩, fun hx => Ok.some.2 (exit _ (by rw [show k = m by omega]))⟩
theorem s_May {p : Pre} (r : Row n m L c) (lr : p.Res.length = L) (lx : p.Ex.length = m) (hb : HtB m p.H) : Z2u c p = some (Kg (fun j => decide (Wz n p.Ex (tl c j) ∧ Ud c p (tl c j) j)) L, Kg (fun u => decide (Gk n c p u)) m) := by
 have b := r.bd
 have hN := r.is.hN
 refine Jl ?_
 unfold Z2u
 refine Ok.bind.2 (Wy (fun s => ∃ k : Nat, s.2 = k ∧ k ≤ m ∧ s.1 = Kg (fun j => decide (Wz n p.Ex (tl c j) ∧ Ud c p (tl c j) j)) (fs c k)) (fun s => (m - s.2).toNat) ⟨0, rfl, by omega, by rw [r.first.2.1]; rfl⟩ (by unfold Yc; simp only; omega) ?_)
 rintro ⟨o, x⟩ ⟨k, h1, hk, ho⟩ P next exit
 simp only at h1 ho next ⊢
 subst h1
 unfold Z5x
 rw [hN]
 refine Ok.ite.2 ⟨fun hx => ?_, fun hx => Ok.some.2 (exit _ ?_)⟩
 ·
  have hkm : k < m := by omega
  have hfl := r.first.2.2.2 k hkm
  unfold Nq
  refine Ok.bind.2 (Ok.some.2 (Ok.bind.2 (Ok.mono (Z3c r hkm (fun j s => s = Kg (fun j => decide (Wz n p.Ex (tl c j) ∧ Ud c p (tl c j) j)) j) (fun _ => False) ho fun j s g1 g2 g3 => ?_) ?_)))
  ·
   have hjL : j < L := by omega
   have ht := (r.range hjL hkm).1 ⟨g1, g2⟩
   subst g3
   have hle := Za0 (fun j => decide (Wz n p.Ex (tl c j) ∧ Ud c p (tl c j) j)) j
   have j3 : ∀ (b : Bool) (P : List Int ⊕ Empty → Prop), (P (.inl (Kg (fun j => decide (Wz n p.Ex (tl c j) ∧ Ud c p (tl c j) j)) (j + 1)))) → (b = true ↔ (Wz n p.Ex k ∧ Ud c p k j)) → Ok (Z2n (Kg (fun j => decide (Wz n p.Ex (tl c j) ∧ Ud c p (tl c j) j)) j) (j : Nat) b) P := by
    intro b P hP hb
    unfold Z2n
    have e : decide (Wz n p.Ex (tl c j) ∧ Ud c p (tl c j) j) = b := by rw [ht, Bool.eq_iff_iff, decide_eq_true_iff]; exact hb.symm
    refine Ok.ite.2 ⟨fun h => Ok.gd.2 ⟨?_, Ok.some.2 ?_⟩, fun h => Ok.some.2 ?_⟩
    · rw [List.length_append, List.length_singleton]; constructor <;> omega
    · simp only [Kg] at hP; rw [if_pos (e.trans h)] at hP; exact hP
    · simp only [Kg] at hP; rw [if_neg (by rw [e]; exact h), List.append_nil] at hP; exact hP
   unfold Z2s
   refine Ok.bind.2 (Vl (Zbv r lx hkm) (Ok.ite.2 ⟨fun h => Ok.bind.2 (Vl (Zcc r lr hb hkm hjL) (j3 _ _ rfl ?_)), fun h => j3 false _ rfl ⟨fun h2 => (by cases h2), fun h2 => absurd (decide_eq_true h2.1) h⟩⟩))
   rw [decide_eq_true_iff]
   exact ⟨fun h2 => ⟨of_decide_eq_true h, h2⟩, fun h2 => h2.2⟩
  ·
   rintro (s | x) h
   · exact Ok.gd.2 ⟨(by omega), Ok.some.2 (next _ ⟨k + 1, by simp, by omega, h⟩ (by simp only; omega))⟩
   · exact h.elim
 ·
  obtain rfl : k = m := by omega
  unfold Z9q Z70
  refine Ok.bind.2 (Ok.bind.2 (Ok.mono (s_all (m := k) (p := fun u => decide (Gk n c p u)) (step := fun o x => Z2d c c p o x) (by omega) fun o q hq hol => ?_) fun o2 ho2 => ?_))
  ·
   unfold Z2d Z9d
   rw [hN]
   by_cases h : q < k
   ·
    obtain ⟨b, hb1, hb2⟩ := Zei r lr lx hb h
    rw [if_pos (by omega), if_pos h, hb1]
    simp only [Option.bind_some]
    rw [hb2]
    by_cases h2 : decide (Gk n c p q) = true
    · rw [if_pos h2, if_pos h2, Ko (by rw [List.length_append, List.length_singleton]; constructor <;> omega), Ko (by constructor <;> omega)]
    · rw [if_neg h2, if_neg h2, Ko (by constructor <;> omega)]
   · rw [if_neg (by omega), if_neg h]
  ·
   unfold Z88
   refine Ok.some.2 (Ok.some.2 ?_)
   rw [ho, r.first.2.2.1, ho2]
def Uu (c : Csr) (p : Pre) (j : Nat) : Int := min (p.Ex.getD (tl c j) 0) (p.Res.getD j 0)
def Uj (c : Csr) (p : Pre) (j : Nat) : Pre := ⟨mvR c p.Res j (Uu c p j), mvX c p.Ex j (Uu c p j), p.H⟩
theorem Za2 {p : Pre} (h1 : p.Res.length ≤ 1000000000) (h2 : p.Ex.length ≤ 1000000000) (h3 : p.H.length ≤ 1000000000) : Z09 p = some p := by
 unfold Z09
 rw [Z87 h1, Z87 h2, s_CloneI h3]; rfl
theorem s_Push {p : Pre} {j : Nat} (r : Row n m L c) (h : ResOK n m L c p.Res p.Ex) (hb : HtB m p.H) (hj : j < L) :
    Z1s c p (j : Nat) = some (if Wz n p.Ex (tl c j) ∧ Ud c p (tl c j) j then (Uj c p j, Uu c p j, 0) else (⟨[], [], []⟩, 0, 30)) := by
  have b := r.bd
  have lr := h.lr
  have lx := h.lx
  have lh := hb.1
  have ht := (r.tlh hj).1
  unfold Z1s
  rw [r.tailM hj]
  simp only [Option.bind_some]
  rw [if_neg (by simp), Zbv r lx ht]
  simp only [Option.bind_some]
  have j1 : Wz n p.Ex (tl c j) ∧ Ud c p (tl c j) j → Z01 c p (j : Nat) (tl c j : Nat) false = some (Uj c p j, Uu c p j, 0) := fun hA => by
    unfold Z01
    rw [if_neg (by simp), Za2 (by omega) (by omega) (by omega)]
    simp only [Option.bind_some, Int.toNat_natCast]
    have h1 := hA.1.2.2
    have h2 := hA.2.1
    rw [Ko (by constructor <;> omega), Ko (by constructor <;> omega), Zb1 r h hj (by omega) (by omega)]
    rfl
  by_cases hA : Wz n p.Ex (tl c j)
  · rw [if_neg (by simp [hA]), Zcc r lr hb ht hj]
    simp only [Option.bind_some]
    by_cases hB : Ud c p (tl c j) j
    · rw [if_pos ⟨hA, hB⟩, decide_eq_true hB]; exact j1 ⟨hA, hB⟩
    · rw [if_neg fun h => hB h.2, decide_eq_false hB]
      unfold Z01; rw [if_pos (by decide)]
  · rw [if_pos (by simp [hA]), if_neg fun h => hA h.1]
    unfold Z01; rw [if_pos rfl]
theorem PreOK.push {p : Pre} {j : Nat} (h : PreOK n m L c p) (r : Row n m L c) (hj : j < L) (hA : Wz n p.Ex (tl c j)) (hB : Ud c p (tl c j) j) : PreOK n m L c (Uj c p j) := by
 have h1 := hA.2.2
 have h2 := hB.1
 have hD : Uu c p j = min (p.Ex.getD (tl c j) 0) (p.Res.getD j 0) := rfl
 have hlr := h.ok.lr
 have hlx := h.ok.lx
 have ht := r.tlh hj
 have hr := r.rev hj
 refine ⟨h.ok.move r hj (by omega) (by omega), fun v hv hvS => ?_, h.hs, fun k hk h0 => ?_⟩
 ·
  have := h.nn v hv hvS
  simp only [Uj]
  rw [Z1i r hlx hj]
  by_cases c1 : tl c j = v
  ·
   subst c1
   rw [if_pos rfl, if_neg fun e => ht.2.2.2 e.symm]; omega
  · rw [if_neg c1]; split <;> omega
 ·
  simp only [Uj] at h0 ⊢
  rw [Rs r hlr hj] at h0
  by_cases c1 : k = rv c j
  ·
   subst c1
   rw [ht.2.1, ht.2.2.1]
   have := hB.2
   omega
  ·
   rw [if_neg c1] at h0
   by_cases c2 : k = j
   · subst c2; exact h.val k hk h2
   · rw [if_neg c2] at h0; exact h.val k hk h0
def Kx (c : Csr) (p : Pre) (m : Nat) (a : Nat) : Nat → Int
  | 0 => 2 * m
  | k + 1 => if 0 < p.Res.getD (a + k) 0 then min (Kx c p m a k) (p.H.getD (hd c (a + k)) 0) else Kx c p m a k
def Uv (c : Csr) (p : Pre) (m u : Nat) : Int := Kx c p m (fs c u) (fs c (u + 1) - fs c u)
def Kt (c : Csr) (p : Pre) (m u : Nat) : Pre := ⟨p.Res, p.Ex, p.H.set u (Uv c p m u + 1)⟩
theorem Zg6 {p : Pre} {a : Nat} : ∀ {k i : Nat}, i < k → 0 < p.Res.getD (a + i) 0 → Kx c p m a k ≤ p.H.getD (hd c (a + i)) 0
 | 0, _, h, _ => by omega
 | k + 1, i, h, h0 => by
  simp only [Kx]
  rcases Nat.lt_or_ge i k with h1 | h1
  ·
   have := Zg6 h1 h0
   split <;> omega
  ·
   have : i = k := by omega
   subst this
   rw [if_pos h0]; omega
theorem Zc5 (p : Pre) (a : Nat) : ∀ k : Nat, Kx c p m a k ≤ 2 * m ∧ (Kx c p m a k = 2 * m ∨ ∃ i, i < k ∧ 0 < p.Res.getD (a + i) 0 ∧ p.H.getD (hd c (a + i)) 0 = Kx c p m a k)
 | 0 => ⟨Int.le_refl _, .inl rfl⟩
 | k + 1 => by
  obtain ⟨h1, h2⟩ := Zc5 p a k
  simp only [Kx]
  by_cases h : 0 < p.Res.getD (a + k) 0
  ·
   rw [if_pos h]
   refine ⟨by omega, ?_⟩
   by_cases h3 : p.H.getD (hd c (a + k)) 0 ≤ Kx c p m a k
   · exact .inr ⟨k, by omega, h, by omega⟩
   ·
    rcases h2 with h2 | ⟨i, g1, g2, g3⟩
    · exact .inl (by omega)
    · exact .inr ⟨i, by omega, g2, by omega⟩
  ·
   rw [if_neg h]
   refine ⟨h1, ?_⟩
   rcases h2 with h2 | ⟨i, g1, g2, g3⟩
   · exact .inl h2
   · exact .inr ⟨i, by omega, g2, g3⟩
theorem lowV_le {p : Pre} {u j : Nat} (r : Row n m L c) (hu : u < m) (hj : j < L) (ht : tl c j = u) (h0 : 0 < p.Res.getD j 0) : Uv c p m u ≤ p.H.getD (hd c j) 0 := by
 have h1 := (r.range hj hu).2 ht
 have e : fs c u + (j - fs c u) = j := by omega
 have := Zg6 (c := c) (m := m) (p := p) (a := fs c u) (k := fs c (u + 1) - fs c u) (i := j - fs c u) (by omega) (by rw [e]; exact h0)
 rw [e] at this; exact this
theorem Z43 (p : Pre) {u : Nat} (r : Row n m L c) (hu : u < m) : Uv c p m u ≤ 2 * m ∧ (Uv c p m u = 2 * m ∨ ∃ j, j < L ∧ tl c j = u ∧ 0 < p.Res.getD j 0 ∧ p.H.getD (hd c j) 0 = Uv c p m u) := by
 have hfl := r.first.2.2.2 u hu
 obtain ⟨h1, h2⟩ := Zc5 (c := c) (m := m) p (fs c u) (fs c (u + 1) - fs c u)
 refine ⟨h1, ?_⟩
 rcases h2 with h2 | ⟨i, g1, g2, g3⟩
 · exact .inl h2
 · exact .inr ⟨fs c u + i, by omega, (r.range (by omega) hu).1 ⟨by omega, by omega⟩, g2, g3⟩
theorem s_Lift {p : Pre} {u : Nat} (r : Row n m L c) (lr : p.Res.length = L) (lx : p.Ex.length = m) (hb : HtB m p.H) (hu : u < m) :
    Z2m c p (u : Nat) = some (if Gk n c p u then (Kt c p m u, 0) else (⟨[], [], []⟩, 30)) := by
  have b := r.bd
  have hN := r.is.hN
  have lh := hb.1
  have llh := r.lens.2.1
  have hfl := r.first.2.2.2 u hu
  refine Jl ?_
  unfold Z2m
  rw [if_neg (by omega), hN]
  unfold Z58
  rw [if_neg (by simp; omega), hN]
  refine Ok.bind.2 (Ok.mono (Zei r lr lx hb hu) ?_)
  rintro q rfl
  by_cases hS : Gk n c p u
  · rw [if_neg (by simp [hS]), if_pos hS]
    unfold Nq
    refine Ok.gd.2 ⟨by constructor <;> omega, Ok.bind.2 (Ok.some.2 (Ok.bind.2 (Ok.mono (Z3c r hu (fun j s => s = Kx c p m (fs c u) (j - fs c u)) (fun _ => False) (by rw [Nat.sub_self]; rfl) fun j s h1 h2 h3 => ?_) ?_)))⟩
    · have hjL : j < L := by omega
      have g1 := r.head hjL
      have e1 : j + 1 - fs c u = (j - fs c u) + 1 := by omega
      have e2 : fs c u + (j - fs c u) = j := by omega
      subst h3
      unfold Z2k
      simp only [Int.toNat_natCast, g1.1]
      refine Ok.gd.2 ⟨by constructor <;> omega, Ok.ite.2 ⟨fun h0 => Ok.gd.2 ⟨by constructor <;> omega, Ok.gd.2 ⟨by constructor <;> omega, Ok.some.2 ?_⟩⟩, fun h0 => Ok.some.2 ?_⟩⟩
      · rw [e1]; simp only [Kx, e2]; rw [if_pos h0]
      · rw [e1]; simp only [Kx, e2]; rw [if_neg h0]
    · rintro (s | x) h
      · simp only at h
        subst h
        have hv := (Z43 p r hu).1
        have hlow : -1000000 ≤ Uv c p m u := by
          rcases (Z43 p r hu).2 with h | ⟨j, h1, -, -, h4⟩
          · omega
          · have := hb.2 _ (r.head h1).2; omega
        unfold Uv at hv hlow
        refine Ok.bind.2 (Vl (Za2 (by omega) (by omega) (by omega)) (Ok.gd.2 ⟨by constructor <;> omega, Ok.gd.2 ⟨by constructor <;> omega, Ok.some.2 ?_⟩⟩))
        rw [Int.toNat_natCast]; rfl
      · exact h.elim
  · rw [if_pos (by simp [hS]), if_neg hS]; exact Ok.some.2 rfl
def OpenJ (c : Csr) (L : Nat) (R : List Int) (u v : Nat) : Prop := ∃ j, j < L ∧ tl c j = u ∧ hd c j = v ∧ 0 < R.getD j 0
theorem OpenJ.lt {R : List Int} (r : Row n m L c) {u v : Nat} (h : OpenJ c L R u v) : u < m ∧ v < m := by
 obtain ⟨j, h1, h2, h3, _⟩ := h
 exact ⟨by rw [← h2]; exact (r.tlh h1).1, by rw [← h3]; exact (r.head h1).2⟩
theorem Zds {H : Nat → Int} {G : Nat → Nat → Prop} (hG : ∀ u v, G u v → H u ≤ H v + 1) {u v : Nat} (hr : Reach G u v) : ∀ k : Int, H v ≤ k → k ≤ H u → ∃ w, Reach G u w ∧ H w = k := by
 induction hr with
 | refl => intro k h1 h2; exact ⟨u, .refl, by omega⟩
 | step h1 h2 ih =>
  rename_i x y
  intro k h3 h4
  by_cases c : H x ≤ k
  · exact ih k c h4
  ·
   have := hG _ _ h2
   exact ⟨y, .step h1 h2, by omega⟩
theorem pigeon : ∀ (m : Nat) (f : Nat → Nat), (∀ k, k ≤ m → f k < m) → ∃ i j, i < j ∧ j ≤ m ∧ f i = f j
 | 0, f, h => absurd (h 0 (Nat.le_refl _)) (by omega)
 | m + 1, f, h => by
  by_cases e : ∃ i, i ≤ m ∧ f i = f (m + 1)
  ·
   obtain ⟨i, h1, h2⟩ := e
   exact ⟨i, m + 1, by omega, by omega, h2⟩
  ·
   have ne : ∀ i, i ≤ m → f i ≠ f (m + 1) := fun i hi h2 => e ⟨i, hi, h2⟩
   obtain ⟨i, j, h1, h2, h3⟩ := pigeon m (fun k => if f (m + 1) < f k then f k - 1 else f k) fun k hk => by
    have a := h k (by omega)
    have a2 := h (m + 1) (by omega)
    have a3 := ne k hk
    split <;> omega
   have a1 := ne i (by omega)
   have a2 := ne j (by omega)
   refine ⟨i, j, h1, by omega, ?_⟩
   split at h3 <;> split at h3 <;> omega
theorem Zeq {H : Nat → Int} {a : Int} (h : ∀ k : Nat, k ≤ m → ∃ w, w < m ∧ H w = a + k) : False := by
 have : ∀ k : Nat, ∃ w, k ≤ m → w < m ∧ H w = a + k := fun k => by
  by_cases c : k ≤ m
  · obtain ⟨w, hw⟩ := h k c; exact ⟨w, fun _ => hw⟩
  · exact ⟨0, fun h => absurd h c⟩
 obtain ⟨f, hf⟩ := Classical.axiomOfChoice this
 obtain ⟨i, j, h1, h2, h3⟩ := pigeon m f fun k hk => (hf k hk).1
 have a1 := (hf i (by omega)).2
 have a2 := (hf j h2).2
 rw [h3] at a1
 omega
theorem Zfe {R : List Int} (r : Row n m L c) {u v : Nat} (hu : u < m) (h : Reach (OpenJ c L R) u v) : v < m := by
 induction h with
 | refl => exact hu
 | step _ h2 _ => exact (h2.lt r).2
theorem Zjw {R X : List Int} {S u : Nat} (r : Row n m L c) (h : ResOK n m L c R X) (hS : n.S = S) (nn : ∀ v, v < m → v ≠ S → 0 ≤ X.getD v 0) (hu : u < m) (hx : 0 < X.getD u 0) : Reach (OpenJ c L R) u S := by
 refine Classical.byContradiction fun hno => ?_
 let q : Nat → Bool := fun v => @decide (¬Reach (OpenJ c L R) u v) (Classical.propDecidable _)
 have hq : ∀ v, q v = true ↔ ¬Reach (OpenJ c L R) u v := fun v => @decide_eq_true_iff _ (Classical.propDecidable _)
 obtain ⟨cl, hcl⟩ : ∃ cl : List Bool, cl = (List.range m).map q := ⟨_, rfl⟩
 have inc : ∀ v : Nat, v < m → (Xz cl v = true ↔ ¬Reach (OpenJ c L R) u v) := fun v hv => by
  unfold Xz
  rw [hcl, Int.toNat_natCast, List.getD_eq_getElem?_getD, List.getElem?_map, List.getElem?_range hv]
  exact hq v
 have inf : ∀ v : Nat, v < m → (Xz cl v = false ↔ Reach (OpenJ c L R) u v) := fun v hv => by
  rw [Bool.eq_false_iff, ne_eq, inc v hv]; exact Classical.not_not
 have he := r.he
 have hw := h.within r
 have hac : ∀ k, k ≤ n.Arcs.length → Ng n.Arcs (Ul n.Arcs R) cl k ≤ 0 := by
  intro k
  induction k with
  | zero => intro _; simp [Ng]
  | succ k ih =>
   intro hk
   have h0 := he k hk false
   have h1 := he k hk true
   simp only [Yw, Bool.false_eq_true, if_false, if_true] at h0 h1
   have hf := (hw.2.2 k hk).1
   have ih := ih (by omega)
   simp only [Ng]
   by_cases c1 : Xz cl (n.Arcs.getD k default).fr = true ∧ Xz cl (n.Arcs.getD k default).to = false
   ·
    have hz : (Ul n.Arcs R).getD k 0 = 0 := by
     rw [Rc hk]
     by_cases e : (n.Arcs.getD k default).fr = (n.Arcs.getD k default).to
     · rw [if_pos e]
     ·
      rw [if_neg e]
      obtain ⟨-, a2, a3⟩ := r.cpPos hk e true
      have z := r.is.ok.hat k hk e true
      have z2 := r.is.ok.hat k hk e false
      have nnR := (h.res _ a3).1
      refine Int.le_antisymm (Int.not_lt.1 fun hpos => ?_) nnR
      obtain ⟨p, hp⟩ : ∃ p : Nat, (n.Arcs.getD k default).fr = p := ⟨(n.Arcs.getD k default).fr.toNat, by omega⟩
      obtain ⟨t, ht⟩ : ∃ t : Nat, (n.Arcs.getD k default).to = t := ⟨(n.Arcs.getD k default).to.toNat, by omega⟩
      rw [hp, ht] at c1
      have r1 := (inf t (by omega)).1 c1.2
      refine (inc p (by omega)).1 c1.1 (.step r1 ⟨_, a3, ?_, ?_, hpos⟩)
      · unfold tl hd; rw [a2]; simp only [Bool.not_true]; rw [z2.1]; simp only [Yw, Bool.not_false, if_true, ht]; omega
      · unfold hd; rw [z.1]; simp only [Yw, Bool.not_true, Bool.false_eq_true, if_false, hp]; omega
    rw [if_pos c1, hz]; split <;> omega
   · rw [if_neg c1]; split <;> omega
 have hpc : ∀ j, j ≤ m → 0 ≤ Gv n.Arcs (Ul n.Arcs R) cl j n.Arcs.length ∧ (u < j → 0 < Gv n.Arcs (Ul n.Arcs R) cl j n.Arcs.length) := by
  intro j
  induction j with
  | zero => intro _; rw [show ((0 : Nat) : Int) = 0 from rfl, Z8i he _ (Nat.le_refl _)]; exact ⟨Int.le_refl _, fun h => by omega⟩
  | succ j ih =>
   intro hj
   obtain ⟨i1, i2⟩ := ih (by omega)
   rw [Int.natCast_succ, Z9i]
   by_cases c1 : Xz cl j = false
   ·
    rw [if_pos c1, ← h.ex j (by omega)]
    have hjS : j ≠ S := fun e => hno (by rw [← e]; exact (inf j (by omega)).1 c1)
    have := nn j (by omega) hjS
    refine ⟨by omega, fun hlt => ?_⟩
    by_cases e : u = j
    · subst e; omega
    · have := i2 (by omega); omega
   ·
    rw [if_neg c1]
    refine ⟨by omega, fun hlt => ?_⟩
    by_cases e : u = j
    · subst e; exact absurd ((inf u hu).2 .refl) c1
    · have := i2 (by omega); omega
 have := (hpc m (Nat.le_refl _)).2 hu
 rw [Z9a he _ (Nat.le_refl _)] at this
 have := hac _ (Nat.le_refl _)
 omega
theorem Zhc {R : List Int} {H : Nat → Int} {S u : Nat} (r : Row n m L c) (hu : u < m) (hval : ∀ j, j < L → 0 < R.getD j 0 → H (tl c j) ≤ H (hd c j) + 1) (hHS : H S = m) (hr : Reach (OpenJ c L R) u S) : H u < 2 * m := by
 refine Int.not_le.1 fun hge => ?_
 refine Zeq (m := m) (H := H) (a := m) fun k hk => ?_
 obtain ⟨w, h1, h2⟩ := Zds (H := H) (G := OpenJ c L R) (fun a b ⟨j, g1, g2, g3, g4⟩ => by rw [← g2, ← g3]; exact hval j g1 g4) hr (m + k) (by omega) (by omega)
 exact ⟨w, Zfe r hu h1, h2⟩
theorem PreOK.lift {p : Pre} {u : Nat} (h : PreOK n m L c p) (r : Row n m L c) (hu : u < m) (hS : Gk n c p u) : PreOK n m L c (Kt c p m u) ∧ p.H.getD u 0 ≤ Uv c p m u := by
 obtain ⟨⟨S, hnS, -, hSm⟩, ⟨T, hnT, -, hTm⟩, -, -⟩ := r.ends
 have lh := h.hs.1
 obtain ⟨⟨hA1, hA2, hA3⟩, hB⟩ := hS
 have huS : u ≠ S := by omega
 have huT : u ≠ T := by omega
 have hlow : p.H.getD u 0 ≤ Uv c p m u := by
  have h2 := h.hs.2.2.2 u hu
  rcases (Z43 p r hu).2 with h1 | ⟨j, h1, h3, h4, h5⟩
  · omega
  ·
   have h6 := h.val j h1 h4
   rw [h3] at h6
   have h7 := (r.range h1 hu).2 h3
   have h8 := hB j h7.1 h7.2
   have : p.H.getD u 0 ≠ p.H.getD (hd c j) 0 + 1 := fun e => h8 ⟨h4, e⟩
   omega
 have hHu : ∀ v, (p.H.set u (Uv c p m u + 1)).getD v 0 = if v = u then Uv c p m u + 1 else p.H.getD v 0 := fun v => by
  rw [Wo]
  by_cases e : v = u
  · rw [if_pos ⟨e.symm, by omega⟩, if_pos e]
  · rw [if_neg fun h => e h.1.symm, if_neg e]
 have hval : ∀ j, j < L → 0 < p.Res.getD j 0 → (p.H.set u (Uv c p m u + 1)).getD (tl c j) 0 ≤ (p.H.set u (Uv c p m u + 1)).getD (hd c j) 0 + 1 := fun j hj h0 => by
  have ht := r.tlh hj
  rw [hHu, hHu]
  by_cases c1 : tl c j = u
  ·
   have := lowV_le r hu hj c1 h0
   rw [if_pos c1, if_neg fun e => ht.2.2.2 (c1.trans e.symm)]; omega
  ·
   rw [if_neg c1]
   have := h.val j hj h0
   by_cases c2 : hd c j = u
   · rw [if_pos c2]; rw [c2] at this; omega
   · rw [if_neg c2]; exact this
 have hreach := Zjw r h.ok hnS (fun v hv hvS => h.nn v hv (by omega)) hu hA3
 have hbound := Zhc (H := fun v => (p.H.set u (Uv c p m u + 1)).getD v 0) r hu hval (by simp only [hHu]; rw [if_neg fun e => huS e.symm]; exact h.hs.2.1 S hnS) hreach
 simp only [hHu, if_true] at hbound
 refine ⟨⟨h.ok, h.nn, ⟨by simp [Kt, lh], fun s hs => ?_, fun t ht => ?_, fun v hv => ?_⟩, hval⟩, hlow⟩
 · simp only [Kt]; rw [hHu, if_neg (by omega)]; exact h.hs.2.1 s hs
 · simp only [Kt]; rw [hHu, if_neg (by omega)]; exact h.hs.2.2.1 t ht
 ·
  have h1 := h.hs.2.2.2 v hv
  have h2 := h.hs.2.2.2 u hu
  simp only [Kt]; rw [hHu]
  by_cases e : v = u
  · rw [if_pos e]; omega
  · rw [if_neg e]; exact h1
end row
end Go.Acq
namespace Go.Acq
open Go
theorem Zfi {α : Type} {z v : α} {k i : Int} : ∀ mp : List (Int × α), Lb z i (Lv k v mp) = if i = k then v else Lb z i mp
 | [] => by simp only [Lv, Lb]
 | x :: mp => by
  simp only [Lv]
  by_cases h : k = x.1
  ·
   rw [if_pos h]; simp only [Lb]
   by_cases e : i = k
   · rw [if_pos e, if_pos e]
   · rw [if_neg e, if_neg e, if_neg (by omega)]
  ·
   rw [if_neg h]; simp only [Lb]
   by_cases e : i = x.1
   · rw [if_pos e, if_pos e, if_neg (by omega)]
   · rw [if_neg e, if_neg e, Zfi mp]
theorem Zaj {α : Type} {v : α} {k : Int} : ∀ {mp : List (Int × α)} {x : Int × α}, x ∈ Lv k v mp → x.1 = k ∨ ∃ y, y ∈ mp ∧ y.1 = x.1
 | [], x, h => by simp only [Lv, List.mem_singleton] at h; left; rw [h]
 | y :: mp, x, h => by
  simp only [Lv] at h
  by_cases e : k = y.1
  ·
   rw [if_pos e] at h
   rcases List.mem_cons.1 h with h | h
   · left; rw [h]
   · exact .inr ⟨x, List.mem_cons_of_mem _ h, rfl⟩
  ·
   rw [if_neg e] at h
   rcases List.mem_cons.1 h with h | h
   · exact .inr ⟨y, List.mem_cons_self, by rw [h]⟩
   ·
    rcases Zaj h with h | ⟨z, h1, h2⟩
    · exact .inl h
    · exact .inr ⟨z, List.mem_cons_of_mem _ h1, h2⟩
def Apart {α : Type} : List (Int × α) → Prop
  | [] => True
  | x :: mp => (∀ y, y ∈ mp → y.1 ≠ x.1) ∧ Apart mp
theorem Apart.put {α : Type} {v : α} {k : Int} : ∀ {mp : List (Int × α)}, Apart mp → Apart (Lv k v mp)
 | [], _ => ⟨fun y h => (by cases h), trivial⟩
 | x :: mp, h => by
  simp only [Lv]
  by_cases e : k = x.1
  · rw [if_pos e]; exact ⟨fun y hy => by rw [e]; exact h.1 y hy, h.2⟩
  ·
   rw [if_neg e]
   refine ⟨fun y hy => ?_, Apart.put h.2⟩
   rcases Zaj hy with h1 | ⟨z, h1, h2⟩
   · rw [h1]; exact e
   · rw [← h2]; exact h.1 z h1
theorem Apart.at {α : Type} {z : α} (d : Int × α) : ∀ {mp : List (Int × α)} {j : Nat}, Apart mp → j < mp.length → Lb z (mp.getD j d).1 mp = (mp.getD j d).2
 | [], j, _, h => by simp at h
 | x :: mp, 0, _, _ => by simp [Lb]
 | x :: mp, j + 1, h, hj => by
  have hj' : j < mp.length := by simpa using hj
  have hm := h.1 _ (Ku hj' d)
  show Lb z (mp.getD j d).1 (x :: mp) = (mp.getD j d).2
  simp only [Lb]
  rw [if_neg hm]; exact Apart.at d h.2 hj'
theorem Apart.inj {α : Type} (d : Int × α) : ∀ {mp : List (Int × α)} {i j : Nat}, Apart mp → i < mp.length → j < mp.length → (mp.getD i d).1 = (mp.getD j d).1 → i = j
 | [], i, _, _, h, _, _ => by simp at h
 | x :: mp, 0, 0, _, _, _, _ => rfl
 | x :: mp, 0, j + 1, h, _, hj, e => absurd e.symm (h.1 _ (Ku (by simpa using hj) d))
 | x :: mp, i + 1, 0, h, hi, _, e => absurd e (h.1 _ (Ku (by simpa using hi) d))
 | x :: mp, i + 1, j + 1, h, hi, hj, e => congrArg (· + 1) (Apart.inj d h.2 (by simpa using hi) (by simpa using hj) e)
def Vf (n : Net) (h : Hop) : Int := if h.Back = true then (n.Arcs.getD h.Arc.toNat default).to else (n.Arcs.getD h.Arc.toNat default).fr
def hto (n : Net) (h : Hop) : Int := if h.Back = true then (n.Arcs.getD h.Arc.toNat default).fr else (n.Arcs.getD h.Arc.toNat default).to
def hok (n : Net) (h : Hop) : Prop := 0 ≤ h.Arc ∧ h.Arc < n.Arcs.length
def WayK (n : Net) (l : List Hop) (k : Nat) : Prop := (∀ i, i < k → hok n (l.getD i default)) ∧ ∀ i, i + 1 < k → Vf n (l.getD (i + 1) default) = hto n (l.getD i default)
def Nd (l : List Hop) (i : Int) : Nat → Int
  | 0 => 0
  | k + 1 => Nd l i k + (if (l.getD k default).Arc = i then (if (l.getD k default).Back = true then -1 else 1) else 0)
structure MapIs (n : Net) (mp : List (Int × Int)) (l : List Hop) (k : Nat) : Prop where
  val : ∀ i, Lb 0 i mp = Nd l i k
  key : ∀ x, x ∈ mp → 0 ≤ x.1 ∧ x.1 < n.Arcs.length
  apart : Apart mp
theorem MapIs.put {n : Net} {mp : List (Int × Int)} {l : List Hop} {k : Nat} (h : MapIs n mp l k) (hk : hok n (l.getD k default)) {v : Int} (hv : v = Nd l (l.getD k default).Arc k + (if (l.getD k default).Back = true then -1 else 1)) : MapIs n (Lv (l.getD k default).Arc v mp) l (k + 1) := by
 refine ⟨fun i => ?_, fun x hx => ?_, h.apart.put⟩
 ·
  rw [Zfi]
  simp only [Nd]
  by_cases e : i = (l.getD k default).Arc
  · rw [if_pos e, if_pos e.symm, hv, e]
  · rw [if_neg e, if_neg (fun h => e h.symm), h.val, Int.add_zero]
 ·
  rcases Zaj hx with h1 | ⟨y, h1, h2⟩
  · rw [h1]; exact hk
  · rw [← h2]; exact h.key y h1
end Go.Acq
namespace Go.Acq
open Go
def fits (n : Net) (f : List Int) (i : Nat) (c d : Int) : Prop := 0 ≤ f.getD i 0 + d * c ∧ f.getD i 0 + d * c ≤ (n.Arcs.getD i default).cap
theorem Ze6 {a b : Int} (ha : 0 ≤ a) (hb : 0 < b) : 0 ≤ a.tdiv b ∧ a.tdiv b ≤ a := by
 rw [Int.tdiv_eq_ediv_of_nonneg ha]
 exact ⟨Int.ediv_nonneg ha (by omega), Int.ediv_le_self b ha⟩
end Go.Acq
namespace Go.Acq
open Go
section row
variable {n : Net} {m L : Nat} {c : Csr}
theorem Zad {al : List Arc} {f : List Int} {v : Int} : ∀ {k : Nat}, (∀ i, i < k → f.getD i 0 = 0) → ex al f v k = 0
 | 0, _ => rfl
 | k + 1, h => by simp only [ex]; rw [Zad fun i hi => h i (by omega), h k (by omega)]; simp
theorem Zay (r : Row n m L c) : Ok (Rp c) (fun p => PreOK n m L c p) := by
 have b := r.bd
 obtain ⟨⟨S, hS, hcS, hSm⟩, ⟨T, hT, hcT, hTm⟩, hne, hN⟩ := r.ends
 obtain ⟨-, -, -, lc, -, -⟩ := r.lens
 have hfl := r.first.2.2.2 S hSm
 unfold Rp
 refine Ok.bind.2 (Vl (Z87 (by omega)) ?_)
 rw [hN, hcS]
 simp only [Int.toNat_natCast]
 obtain ⟨H0, hH0⟩ : ∃ H0, (List.replicate m (0 : Int)).set S m = H0 := ⟨_, rfl⟩
 have hHl : H0.length = m := by rw [← hH0]; simp
 have hHv : ∀ v, H0.getD v 0 = if v = S then (m : Int) else 0 := fun v => by
  rw [← hH0, Wo, List.length_replicate, Ke]
  by_cases e : v = S
  · rw [if_pos ⟨e.symm, hSm⟩, if_pos e]
  · rw [if_neg fun h => e h.1.symm, if_neg e]
 rw [hH0]
 unfold Nq
 refine Ok.gd.2 ⟨(by omega), Ok.gd.2 ⟨(by omega), Ok.gd.2 ⟨by rw [List.length_replicate]; constructor <;> omega, Ok.bind.2 (Ok.some.2 (Ok.bind.2 (Ok.mono (Z3c r hSm
  (fun k s => ResOK n m L c s.1 s.2 ∧ (∀ v, v < m → v ≠ S → 0 ≤ s.2.getD v 0) ∧ ∀ i, fs c S ≤ i → i < k → s.1.getD i 0 = 0) (fun _ => False) ⟨⟨lc, by simp, fun j hj => ?_, fun v hv => ?_⟩, fun v hv _ => by rw [Ke]; exact Int.le_refl _, fun i h1 h2 => by omega⟩ fun j s h1 h2 h3 => ?_) ?_)))⟩⟩⟩
 · have := r.cap hj; exact ⟨this.1, this.2.1⟩
 ·
  rw [Ke, Zad fun i hi => ?_]
  rw [Rc hi]
  by_cases e : (n.Arcs.getD i default).fr = (n.Arcs.getD i default).to
  · rw [if_pos e]
  · rw [if_neg e, (r.is.ok.hat i hi e true).2.2.1]; rfl
 ·
  obtain ⟨xs, ys⟩ := s
  obtain ⟨g1, g2, g3⟩ := h3
  simp only at g1 g2 g3
  have hjL : j < L := by omega
  have ht := (r.range hjL hSm).1 ⟨h1, h2⟩
  have htl := r.tlh hjL
  have hrv := r.rev hjL
  have hle := g1.rle r hjL
  have hxl := g1.lr
  unfold Z0l
  rw [hN, hcS]
  simp only [Int.toNat_natCast, hH0]
  refine Ok.gd.2 ⟨(by omega), Ok.bind.2 (Vl (Zb1 (p := ⟨xs, ys, H0⟩) r g1 hjL hle.1 (Int.le_refl _)) (Ok.some.2 ⟨g1.move r hjL hle.1 (Int.le_refl _), fun v hv hvS => ?_, fun i h4 h5 => ?_⟩))⟩
  ·
   simp only
   rw [Z1i r g1.lx hjL, ht, if_neg fun e => hvS e.symm]
   have := g2 v hv hvS
   split <;> omega
  ·
   simp only
   have hiL : i < L := by omega
   have hti := (r.range hiL hSm).1 ⟨h4, by omega⟩
   rw [Rs r hxl hjL, if_neg fun e => by rw [e, htl.2.1] at hti; exact htl.2.2.2 (ht.trans hti.symm)]
   by_cases e : i = j
   · rw [if_pos e]; omega
   · rw [if_neg e]; exact g3 i h4 (by omega)
 ·
  rintro (⟨xs, ys⟩ | x) h
  ·
   obtain ⟨g1, g2, g3⟩ := h
   simp only at g1 g2 g3
   refine Ok.some.2 ⟨g1, fun v hv hvS => g2 v hv (by omega), ⟨hHl, fun s hs => ?_, fun t ht => ?_, fun v hv => ?_⟩, fun j hj h0 => ?_⟩
   · simp only; rw [hHv, if_pos (by omega)]
   · simp only; rw [hHv, if_neg (by omega)]
   · simp only; rw [hHv]; split <;> omega
   ·
    simp only at h0 ⊢
    rw [hHv, hHv]
    by_cases e : tl c j = S
    ·
     have := (r.range hj hSm).2 e
     rw [g3 j this.1 this.2] at h0; omega
    · rw [if_neg e]; split <;> omega
  · exact h.elim
def StepP (n : Net) (m L : Nat) (c : Csr) (was p : Pre) : Prop :=
  (∃ j, j < L ∧ Wz n was.Ex (tl c j) ∧ Ud c was (tl c j) j ∧ p = Uj c was j) ∨ (∃ u, u < m ∧ Gk n c was u ∧ p = Kt c was m u)
theorem PreOK.hb {p : Pre} (h : PreOK n m L c p) (r : Row n m L c) : HtB m p.H := h.hs.hb r
theorem PreOK.step {was p : Pre} (h : PreOK n m L c was) (r : Row n m L c) (hs : StepP n m L c was p) : PreOK n m L c p := by
 rcases hs with ⟨j, h1, h2, h3, rfl⟩ | ⟨u, h1, h2, rfl⟩
 · exact h.push r h1 h2 h3
 · exact (h.lift r h1 h2).1
def Li (n : Net) (L : Nat) (c : Csr) (p : Pre) : List Int := Kg (fun j => decide (Wz n p.Ex (tl c j) ∧ Ud c p (tl c j) j)) L
def Rr (n : Net) (m : Nat) (c : Csr) (p : Pre) : List Int := Kg (fun u => decide (Gk n c p u)) m
theorem PreOK.may {p : Pre} (h : PreOK n m L c p) (r : Row n m L c) : Z2u c p = some (Li n L c p, Rr n m c p) := s_May r h.ok.lr h.ok.lx (h.hb r)
theorem idx_lt {k : Int} {l : List Int} (hk : 0 ≤ k) (hl : 0 < l.length) : inb ((k.tdiv 2).tmod (l.length : Int)) l.length := by
 have h1 : 0 ≤ k.tdiv 2 := (Ze6 hk (by omega)).1
 have := Zfc h1 (show (0 : Int) < l.length by omega)
 exact ⟨this.1, this.2⟩
theorem push_at {p : Pre} {i : Nat} (h : PreOK n m L c p) (r : Row n m L c) (hi : i < (Li n L c p).length) : ∃ j, j < L ∧ Wz n p.Ex (tl c j) ∧ Ud c p (tl c j) j ∧ (Li n L c p).getD i 0 = (j : Nat) ∧ Z1s c p ((Li n L c p).getD i 0) = some (Uj c p j, Uu c p j, 0) := by
 obtain ⟨j, h1, h2, h3⟩ := mem_selN.1 (Ku hi 0)
 have h2 := of_decide_eq_true h2
 refine ⟨j, h1, h2.1, h2.2, h3, ?_⟩
 have h3' : (Li n L c p).getD i 0 = (j : Nat) := h3
 rw [h3', s_Push r h.ok (h.hb r) h1, if_pos h2]
theorem lift_at {p : Pre} {i : Nat} (h : PreOK n m L c p) (r : Row n m L c) (hi : i < (Rr n m c p).length) : ∃ u, u < m ∧ Gk n c p u ∧ (Rr n m c p).getD i 0 = (u : Nat) ∧ Z2m c p ((Rr n m c p).getD i 0) = some (Kt c p m u, 0) := by
 obtain ⟨u, h1, h2, h3⟩ := mem_selN.1 (Ku hi 0)
 have h2 := of_decide_eq_true h2
 have h3' : (Rr n m c p).getD i 0 = (u : Nat) := h3
 refine ⟨u, h1, h2, h3', ?_⟩
 rw [h3', s_Lift r h.ok.lr h.ok.lx (h.hb r) h1, if_pos h2]
theorem Za9 {m : Nat} (hc : CsrIs n m c) (hm : n.N = m) (hk : Us n.N n.S n.T n.Arcs = 0) : Row n m (Yo n.Arcs m) c := ⟨hc, hk, hm, rfl⟩
end row
end Go.Acq
namespace Go.Acq
open Go
section row
variable {n : Net} {m L : Nat} {c : Csr}
theorem open_j {R : List Int} (r : Row n m L c) (hR : ∀ j, j < L → 0 ≤ R.getD j 0 ∧ R.getD j 0 + R.getD (rv c j) 0 = cp c j) {u v : Nat} (h : Gl n (Ul n.Arcs R) u v) : OpenJ c L R u v := by
 obtain ⟨i, hi, hne, h⟩ := h
 rw [Rc hi, if_neg hne] at h
 have ha : ∀ s, hd c (Zm n.Arcs i s) = (Yw (n.Arcs.getD i default) (!s)).toNat := fun s => by unfold hd; rw [(r.is.ok.hat i hi hne s).1]
 have ht : ∀ s, tl c (Zm n.Arcs i s) = (Yw (n.Arcs.getD i default) s).toNat := fun s => by unfold tl; rw [(r.cpPos hi hne s).2.1, ha, Bool.not_not]
 have e0 := r.he i hi false
 have e1 := r.he i hi true
 obtain ⟨c1, c2, c3⟩ := r.cpPos hi hne false
 obtain ⟨d1, d2, d3⟩ := r.cpPos hi hne true
 have hf := hR _ c3
 simp only [Bool.not_false, Bool.not_true] at c2 d2
 rw [c2, c1] at hf
 rcases h with ⟨a1, a2, a3⟩ | ⟨a1, a2, a3⟩
 ·
  refine ⟨Zm n.Arcs i false, c3, ?_, ?_, by omega⟩
  · rw [ht]; simp only [Yw, Bool.false_eq_true, if_false]; omega
  · rw [ha]; simp only [Yw, Bool.not_false, if_true]; omega
 ·
  refine ⟨Zm n.Arcs i true, d3, ?_, ?_, by omega⟩
  · rw [ht]; simp only [Yw, if_true]; omega
  · rw [ha]; simp only [Yw, Bool.not_true, Bool.false_eq_true, if_false]; omega
theorem PreOK.far {p : Pre} {S T : Nat} (h : PreOK n m L c p) (r : Row n m L c) (hS : n.S = S) (hT : n.T = T) : ¬Reach (Gl n (Ul n.Arcs p.Res)) S T := fun hr => by
 obtain ⟨⟨S', hS', -, hSm⟩, ⟨T', hT', -, hTm⟩, -, -⟩ := r.ends
 have hr2 : Reach (OpenJ c L p.Res) S T := hr.mono fun u v ho => open_j r h.ok.res ho
 have hp := Zds (H := fun v => p.H.getD v 0) (G := OpenJ c L p.Res) (fun u v ⟨j, hj, h1, h2, h3⟩ => by have := h.val j hj h3; rw [h1, h2] at this; exact this) hr2
 have h1 := h.hs.2.1 S hS
 have h2 := h.hs.2.2.1 T hT
 simp only [h1, h2] at hp
 refine Zeq (m := m) (H := fun v => p.H.getD v 0) (a := 0) fun k hk => ?_
 obtain ⟨w, hw, he⟩ := hp k (by omega) (by omega)
 exact ⟨w, Zfe r (by omega) hw, by omega⟩
theorem PreOK.flow {p : Pre} (h : PreOK n m L c p) (r : Row n m L c) (ha : ∀ u, u < m → ¬Wz n p.Ex u) : Ka n (Ul n.Arcs p.Res) (fun x => x = 0) [n.S, n.T] := by
 refine ⟨h.ok.within r, fun v hv => ?_⟩
 have hm := r.hm
 by_cases hc : (v : Int) ∈ [n.S, n.T]
 · exact .inr hc
 ·
  left
  simp only [List.mem_cons, List.not_mem_nil, or_false, not_or] at hc
  have hvm : v < m := by omega
  have h1 := h.nn v hvm hc.1
  have h2 := h.ok.ex v hvm
  have h3 : ¬0 < p.Ex.getD v 0 := fun h0 => ha v hvm ⟨hc.1, hc.2, h0⟩
  omega
theorem Zch {f : List Int} {b : List Bool} {T : Nat} (he : Vh m n.Arcs) (hb : ∀ v, v < m → (b.getD v false = true ↔ ¬Reach (Gl n f) v T)) : ∀ i, i < n.Arcs.length → Kz n.Arcs f b i := fun i hi => by
 have e0 := he i hi false
 have e1 := he i hi true
 simp only [Yw, Bool.false_eq_true, if_false, if_true] at e0 e1
 obtain ⟨p, hp⟩ : ∃ p : Nat, (n.Arcs.getD i default).fr = p := ⟨(n.Arcs.getD i default).fr.toNat, by omega⟩
 obtain ⟨q, hq⟩ : ∃ q : Nat, (n.Arcs.getD i default).to = q := ⟨(n.Arcs.getD i default).to.toNat, by omega⟩
 rw [hp] at e0
 rw [hq] at e1
 unfold Kz Xz
 rw [hp, hq, Int.toNat_natCast, Int.toNat_natCast]
 have step : ∀ u v : Nat, u < m → v < m → Gl n f u v → b.getD u false = true → b.getD v false = true := fun u v hu hv ho h => (hb v hv).2 fun h7 => (hb u hu).1 h (Reach.trans (.step .refl ho) h7)
 refine ⟨fun h4 h5 => Int.not_lt.1 fun h6 => ?_, fun h4 h5 => Int.not_lt.1 fun h6 => ?_⟩
 ·
  have hne : (n.Arcs.getD i default).fr ≠ (n.Arcs.getD i default).to := fun e => by rw [show p = q by omega, h5] at h4; cases h4
  rw [step p q (by omega) (by omega) ⟨i, hi, hne, .inl ⟨hp, hq, h6⟩⟩ h4] at h5; cases h5
 ·
  have hne : (n.Arcs.getD i default).fr ≠ (n.Arcs.getD i default).to := fun e => by rw [show p = q by omega, h5] at h4; cases h4
  rw [step q p (by omega) (by omega) ⟨i, hi, hne, .inr ⟨hq, hp, h6⟩⟩ h5] at h4; cases h4
theorem Za1 {R : List Int} (r : Row n m L c) (hr : R.length = L) (hR : ∀ j, j < L → 0 ≤ R.getD j 0 ∧ R.getD j 0 + R.getD (rv c j) 0 = cp c j) : Ok (Z0b c R (n.Arcs.length : Int)) (fun t => t = (Ul n.Arcs R, 0)) := by
 have hbd := r.bd
 refine Ok.mono (s_FlowG r.is r.he hbd.2.1 hbd.2.2.1 (fun j hj => ?_) hbd.2.2.1 r.caps (by rw [r.hL]; exact hr)) ?_
 ·
  rw [r.hL] at hj
  obtain ⟨i, s, hi, _, _, _, _, _, _, _, _, h, _⟩ := r.at hj
  omega
 rintro ⟨f, e⟩ (⟨-, h1, h2⟩ | ⟨⟨j, hj, hn⟩, -⟩)
 ·
  simp only at h1 h2
  subst h1
  rw [show f = Ul n.Arcs R from Zcn 0 (by rw [h2.1, Zdr]) fun i hi => by
   rw [h2.1] at hi
   rw [h2.2 i, Rc hi]
   by_cases hne : (n.Arcs.getD i default).fr = (n.Arcs.getD i default).to
   · rw [if_pos hne, if_neg (fun h => h.2.1 hne)]
   · rw [if_neg hne, if_pos ⟨hi, hne, Na hi hne r.he⟩]]
 ·
  rw [r.hL] at hj
  exact absurd ((Zi5 r).2 hR j hj) hn
end row
end Go.Acq
namespace Go.Acq
open Go
section
variable {n : Net} {m L : Nat} {c : Csr}
def TZ (c : Csr) (L T : Nat) (R : List Int) : Prop := ∀ k, k < L → hd c k = T → bk c k = true → R.getD k 0 = 0
theorem TZ.move {R : List Int} {T j : Nat} {d : Int} (h : TZ c L T R) (r : Row n m L c) (hl : R.length = L) (hj : j < L) (hT : tl c j ≠ T) (d0 : 0 ≤ d) (d1 : d ≤ R.getD j 0) : TZ c L T (mvR c R j d) := fun k hk h1 h2 => by
 rw [Rs r hl hj]
 by_cases e : k = rv c j
 ·
  subst e
  exact absurd ((r.tlh hj).2.2.1.symm.trans h1) hT
 ·
  rw [if_neg e]
  by_cases e2 : k = j
  ·
   subst e2
   have := h k hk h1 h2
   rw [if_pos rfl]; omega
  · rw [if_neg e2]; exact h k hk h1 h2
theorem TZ.flow {R : List Int} {T : Nat} (h : TZ c L T R) (r : Row n m L c) (hT : n.T = T) : ∀ i, i < n.Arcs.length → (n.Arcs.getD i default).fr = n.T → (Ul n.Arcs R).getD i 0 = 0 := fun i hi hf => by
 rw [Rc hi]
 by_cases e : (n.Arcs.getD i default).fr = (n.Arcs.getD i default).to
 · rw [if_pos e]
 ·
  rw [if_neg e]
  have z := r.is.ok.hat i hi e true
  refine h _ (r.cpPos hi e true).2.2 ?_ z.2.2.2.2
  unfold hd
  rw [z.1]
  simp only [Yw, Bool.not_true, Bool.false_eq_true, if_false]
  omega
theorem s_BeginT (r : Row n m L c) {T : Nat} (hT : n.T = T) : Ok (Rp c) (fun p => TZ c L T p.Res) := by
 have b := r.bd
 obtain ⟨⟨S, hS, hcS, hSm⟩, ⟨T', hT', hcT, hTm⟩, hne, hN⟩ := r.ends
 obtain ⟨-, -, -, lc, -, -⟩ := r.lens
 have hfl := r.first.2.2.2 S hSm
 unfold Rp
 refine Ok.bind.2 (Vl (Z87 (by omega)) ?_)
 rw [hN, hcS]
 simp only [Int.toNat_natCast]
 obtain ⟨H0, hH0⟩ : ∃ H0, (List.replicate m (0 : Int)).set S m = H0 := ⟨_, rfl⟩
 rw [hH0]
 unfold Nq
 refine Ok.gd.2 ⟨(by omega), Ok.gd.2 ⟨(by omega), Ok.gd.2 ⟨by rw [List.length_replicate]; constructor <;> omega, Ok.bind.2 (Ok.some.2 (Ok.bind.2 (Ok.mono (Z3c r hSm
  (fun k s => ResOK n m L c s.1 s.2 ∧ TZ c L T s.1) (fun _ => False) ⟨⟨lc, by simp, fun j hj => ?_, fun v hv => ?_⟩, fun k hk h1 h2 => (r.cap hk).2.2.2.2.2 h2⟩ fun j s h1 h2 h3 => ?_) ?_)))⟩⟩⟩
 · have := r.cap hj; exact ⟨this.1, this.2.1⟩
 ·
  rw [Ke, Zad fun i hi => ?_]
  rw [Rc hi]
  by_cases e : (n.Arcs.getD i default).fr = (n.Arcs.getD i default).to
  · rw [if_pos e]
  · rw [if_neg e, (r.is.ok.hat i hi e true).2.2.1]; rfl
 ·
  obtain ⟨xs, ys⟩ := s
  obtain ⟨g1, g2⟩ := h3
  simp only at g1 g2
  have hjL : j < L := by omega
  have ht := (r.range hjL hSm).1 ⟨h1, h2⟩
  have hle := g1.rle r hjL
  have hxl := g1.lr
  unfold Z0l
  rw [hN, hcS]
  simp only [Int.toNat_natCast, hH0]
  exact Ok.gd.2 ⟨(by omega), Ok.bind.2 (Vl (Zb1 (p := ⟨xs, ys, H0⟩) r g1 hjL hle.1 (Int.le_refl _)) (Ok.some.2 ⟨g1.move r hjL hle.1 (Int.le_refl _), g2.move r hxl hjL (by omega) hle.1 (Int.le_refl _)⟩))⟩
 ·
  rintro (⟨xs, ys⟩ | x) h
  · exact Ok.some.2 h.2
  · exact h.elim
theorem TZ.push {p : Pre} {T j : Nat} (h : TZ c L T p.Res) (hp : PreOK n m L c p) (r : Row n m L c) (hT : n.T = T) (hj : j < L) (hA : Wz n p.Ex (tl c j)) : TZ c L T (Uj c p j).Res := by
 have h1 := hp.ok.rle r hj
 have h2 := hA.2.1
 have h3 := hA.2.2
 have hD : Uu c p j = min (p.Ex.getD (tl c j) 0) (p.Res.getD j 0) := rfl
 exact h.move r hp.ok.lr hj (by omega) (by omega) (by omega)
theorem ok_and {α : Type} {x : Option α} {P Q : α → Prop} (h1 : Ok x P) (h2 : Ok x Q) : Ok x (fun a => P a ∧ Q a) := by
 obtain ⟨a, e, hP⟩ := h1
 obtain ⟨b, e2, hQ⟩ := h2
 rw [e] at e2
 injection e2 with e2
 subst e2
 exact ⟨a, e, hP, hQ⟩
end
end Go.Acq
namespace Go.Acq
open Go
end Go.Acq
namespace Go.Acq
open Go
structure ByteRow (l : List Int) : Prop where
  row : ∀ x, x ∈ l → u8ok x
  len : l.length ≤ 9223372036854775807
theorem Z69 {α : Type} {xs : List α} {y d : α} {i : Nat} (h : i < xs.length) : (xs ++ [y]).getD i d = xs.getD i d := by
 rw [List.getD_eq_getElem?_getD, List.getElem?_append_left h, List.getD_eq_getElem?_getD]
theorem Z6s {α : Type} {xs : List α} {y d : α} {i : Nat} (h : i = xs.length) : (xs ++ [y]).getD i d = y := by
 subst h
 rw [List.getD_eq_getElem?_getD, List.getElem?_append_right (Nat.le_refl _)]; simp
structure PathP (n : Net) (v : Int) (l : List Hop) (w : Int) : Prop where
  way : WayK n l l.length
  start : 0 < l.length → Vf n (l.getD 0 default) = v
  fin : w = if l.length = 0 then v else hto n (l.getD (l.length - 1) default)
theorem PathP.nil (n : Net) (v : Int) : PathP n v [] v := ⟨⟨fun i h => by simp at h, fun i h => by simp at h⟩, fun h => by simp at h, rfl⟩
theorem PathP.app {n : Net} {v w : Int} {l : List Hop} (h : PathP n v l w) {p : Hop} (hp : hok n p) (hw : Vf n p = w) : PathP n v (l ++ [p]) (hto n p) := by
 refine ⟨⟨fun i hi => ?_, fun i hi => ?_⟩, fun _ => ?_, ?_⟩
 ·
  rw [List.length_append, List.length_singleton] at hi
  rcases Nat.lt_or_ge i l.length with h1 | h1
  · rw [Z69 h1]; exact h.way.1 i h1
  · rw [Z6s (by omega)]; exact hp
 ·
  rw [List.length_append, List.length_singleton] at hi
  rcases Nat.lt_or_ge (i + 1) l.length with h1 | h1
  · rw [Z69 h1, Z69 (by omega)]; exact h.way.2 i h1
  · rw [Z6s (by omega), Z69 (by omega), hw, h.fin, if_neg (by omega), show l.length - 1 = i by omega]
 ·
  rcases Nat.lt_or_ge 0 l.length with h1 | h1
  · rw [Z69 h1]; exact h.start h1
  · rw [Z6s (by omega), hw, h.fin, if_pos (by omega)]
 · rw [List.length_append, List.length_singleton, if_neg (by omega), Nat.add_sub_cancel, Z6s rfl]
def one (a b : Int) : Int := if a = b then 1 else 0
def Z2a (h : Hop) : Hop := ⟨h.Arc, !h.Back⟩
theorem hfr_flip (n : Net) (h : Hop) : Vf n (Z2a h) = hto n h := by
 unfold Vf hto Z2a
 cases hB : h.Back <;> simp
theorem hto_flip (n : Net) (h : Hop) : hto n (Z2a h) = Vf n h := by
 unfold Vf hto Z2a
 cases hB : h.Back <;> simp
def BackIs (l b : List Hop) : Prop := b.length = l.length ∧ ∀ q, q < l.length → b.getD q default = Z2a (l.getD (l.length - 1 - q) default)
theorem BackIs.way {n : Net} {l b : List Hop} (h : BackIs l b) (hw : WayK n l l.length) : WayK n b b.length := by
 rw [h.1]
 refine ⟨fun i hi => ?_, fun i hi => ?_⟩
 · rw [h.2 i hi]; exact hw.1 _ (by omega)
 ·
  rw [h.2 i (by omega), h.2 (i + 1) hi, hfr_flip, hto_flip]
  have := hw.2 (l.length - 1 - (i + 1)) (by omega)
  rw [show l.length - 1 - (i + 1) + 1 = l.length - 1 - i by omega] at this
  exact this.symm
theorem BackIs.cnt {l b : List Hop} (h : BackIs l b) (i : Int) : Nd b i b.length = -Nd l i l.length := by
 have key : ∀ q, q ≤ l.length → Nd b i q = Nd l i (l.length - q) - Nd l i l.length := by
  intro q
  induction q with
  | zero => intro _; simp only [Nd, Nat.sub_zero]; omega
  | succ q ih =>
   intro hq
   have e : l.length - q = (l.length - 1 - q) + 1 := by omega
   have ih := ih (by omega)
   rw [e] at ih
   simp only [Nd] at ih ⊢
   rw [ih, h.2 q (by omega), show l.length - (q + 1) = l.length - 1 - q by omega]
   simp only [Z2a]
   by_cases c : (l.getD (l.length - 1 - q) default).Arc = i
   ·
    by_cases hB : (l.getD (l.length - 1 - q) default).Back = true
    · simp only [c, hB, if_true, Bool.not_true, Bool.false_eq_true, if_false]; omega
    · simp only [c, if_true, Bool.eq_false_iff.2 hB, Bool.not_false, Bool.false_eq_true, if_false]; omega
   · simp only [c, if_false]; omega
 rw [h.1, key _ (Nat.le_refl _), Nat.sub_self]
 simp only [Nd]; omega
end Go.Acq
namespace Go.Acq
open Go
theorem PreOK.pre {n : Net} {m L : Nat} {c : Csr} {p : Pre} (h : PreOK n m L c p) (r : Row n m L c) : Ka n (Ul n.Arcs p.Res) (fun x => 0 ≤ x) [n.S] := ⟨h.ok.within r, fun v hv => by
 have hm := r.hm
 by_cases e : (v : Int) = n.S
 · exact .inr (by rw [e]; exact .head _)
 ·
  left
  have := h.nn v (by omega) e
  rw [h.ok.ex v (by omega)] at this
  exact this⟩
def MvP (q : Net) (m : Nat) (f : List Int) : Prop := ∃ L c p, Row q m L c ∧ PreOK q m L c p ∧ f = Ul q.Arcs p.Res ∧ ∀ T : Nat, q.T = T → TZ c L T p.Res
theorem s_moved {q : Net} {m : Nat} {moves : List Int} (hm : q.N = m) (hk : Us q.N q.S q.T q.Arcs = 0) (hll : lenok q.Arcs.length) (hmv : ByteRow moves) :
    Ok (Z3g q moves) (fun t => t.1 = q ∧ t.2.2 = true ∧ MvP q m t.2.1) := by
  have hml := hmv.len
  obtain ⟨mv, hmE⟩ : ∃ mv, moves.take (min (moves.length : Int) 80).toNat = mv := ⟨_, rfl⟩
  have hb : ∀ x, x ∈ mv → u8ok x := fun x hx => hmv.row x (by rw [← hmE] at hx; exact List.mem_of_mem_take hx)
  have hl80 : mv.length ≤ 80 := by rw [← hmE, List.length_take]; omega
  unfold Z3g
  refine Ok.bind.2 (Ok.mono (Z7q hm hk hll) ?_)
  rintro ⟨c, e⟩ ⟨hc, h0⟩
  simp only at hc h0 ⊢
  subst h0
  have r := Za9 hc hm hk
  obtain ⟨L, hL⟩ : ∃ L, Yo q.Arcs m = L := ⟨_, rfl⟩
  rw [hL] at r
  obtain ⟨-, ⟨T, hT, -, hTm⟩, -, -⟩ := r.ends
  rw [if_neg (by simp)]
  refine Ok.bind.2 (Ok.mono (ok_and (Zay r) (s_BeginT r hT)) fun p0 hp0 => Ok.gd.2 ⟨by constructor <;> omega, Ok.bind.2 ?_⟩)
  refine Wy (fun s => ∃ k : Nat, s.2.2.2.2 = k ∧ k ≤ mv.length ∧ s.1 = 0 ∧ PreOK q m L c ⟨s.2.1, s.2.2.1, s.2.2.2.1⟩ ∧ TZ c L T s.2.1) (fun s => (mv.length - s.2.2.2.2).toNat) ⟨0, rfl, by omega, rfl, hp0⟩ (by unfold Yc; simp only; omega) ?_
  rintro ⟨e, R, X, H, x⟩ ⟨k, h1, hk1, h2, hp, hz⟩ P next exit
  simp only at h1 h2 hp hz next ⊢
  subst h1; subst h2
  unfold Z3z
  simp only [hmE]
  refine Ok.ite.2 ⟨fun hx => ?_, fun hx => Ok.some.2 (exit _ ?_)⟩
  · have hbk := hb _ (Ku (show k < mv.length by omega) 0)
    simp only [Int.toNat_natCast]
    refine Ok.gd.2 ⟨(by constructor <;> omega), Ok.bind.2 (Vl (hp.may r) (Ok.gd.2 ⟨(by constructor <;> omega), ?_⟩))⟩
    have hdv := Ze6 (show 0 ≤ mv.getD k 0 by omega) (show (0 : Int) < 2 by omega)
    have j3 : ∀ y : Pre, PreOK q m L c y → TZ c L T y.Res → Ok (Z0s q k 0 y.Res y.Ex y.H) P := fun y hy hyz => by
      unfold Z0s
      rw [if_neg (by simp)]
      exact Ok.gd.2 ⟨(by constructor <;> omega), Ok.some.2 (next _ ⟨k + 1, by simp, by omega, rfl, hy, hyz⟩ (by simp only; omega))⟩
    have j2 : ∀ b : Bool, (b = true → 0 < (Li q L c ⟨R, X, H⟩).length) → Ok (Z0x q moves c 0 R X H k (Li q L c ⟨R, X, H⟩) (Rr q m c ⟨R, X, H⟩) b) P := by
      intro b hb
      unfold Z0x
      simp only [hmE, Int.toNat_natCast]
      refine Ok.ite.2 ⟨fun h => ?_, fun h => Ok.ite.2 ⟨fun h2 => ?_, fun h2 => j3 ⟨R, X, H⟩ hp hz⟩⟩
      · have hlen := hb h
        have hi := idx_lt (k := mv.getD k 0) (by omega) hlen
        obtain ⟨i, hie⟩ : ∃ i : Nat, ((mv.getD k 0).tdiv 2).tmod ((Li q L c ⟨R, X, H⟩).length : Int) = i := ⟨_, (Int.toNat_of_nonneg hi.1).symm⟩
        rw [hie] at hi
        simp only [hie]
        obtain ⟨j, g1, g2, g3, -, g4⟩ := push_at hp r (show i < (Li q L c ⟨R, X, H⟩).length by have := hi.2; omega)
        refine Ok.gd.2 ⟨⟨by omega, by constructor <;> omega⟩, Ok.gd.2 ⟨(by omega), Ok.gd.2 ⟨hi, ?_⟩⟩⟩
        rw [Int.toNat_natCast, g4]
        refine Ok.bind.2 (Ok.some.2 ?_)
        exact j3 _ (hp.push r g1 g2 g3) (TZ.push hz hp r hT g1 g2)
      · have hi := idx_lt (k := mv.getD k 0) (by omega) (show 0 < (Rr q m c ⟨R, X, H⟩).length by omega)
        obtain ⟨i, hie⟩ : ∃ i : Nat, ((mv.getD k 0).tdiv 2).tmod ((Rr q m c ⟨R, X, H⟩).length : Int) = i := ⟨_, (Int.toNat_of_nonneg hi.1).symm⟩
        rw [hie] at hi
        simp only [hie]
        obtain ⟨u, g1, g2, -, g4⟩ := lift_at hp r (show i < (Rr q m c ⟨R, X, H⟩).length by have := hi.2; omega)
        refine Ok.gd.2 ⟨⟨by omega, by constructor <;> omega⟩, Ok.gd.2 ⟨(by omega), Ok.gd.2 ⟨hi, ?_⟩⟩⟩
        rw [Int.toNat_natCast, g4]
        refine Ok.bind.2 (Ok.some.2 ?_)
        exact j3 _ (hp.lift r g1 g2).1 hz
    refine Ok.ite.2 ⟨fun h => (have h' : 0 < ((Li q L c ⟨R, X, H⟩).length : Int) := h; Ok.ite.2 ⟨fun _ => j2 true fun _ => by omega, fun _ => j2 _ fun _ => by omega⟩), fun h => j2 false fun h2 => (by cases h2)⟩
  · simp only
    unfold Z8j
    refine Ok.bind.2 (Ok.mono (Za1 r hp.ok.lr hp.ok.res) ?_)
    rintro _ rfl
    exact Ok.some.2 ⟨rfl, rfl, L, c, ⟨R, X, H⟩, r, hp, rfl, fun T' hT' => by rw [show T' = T by omega]; exact hz⟩
theorem s_some {n : Net} {moves : List Int} (hn : NetIn n) (hmv : ByteRow moves) : Ok (Z4p n moves) (fun t => Made t.1 12 30 ∧ t.2.2 = true ∧ ∃ m : Nat, t.1.N = m ∧ MvP t.1 m t.2.1) := by
 unfold Z4p
 refine Ok.bind.2 (Ok.mono (s_Some hn (by omega) (by omega) (by omega) (by omega)) fun q hr => ?_)
 obtain ⟨m, hm, hso⟩ := hr.nat
 have hlen := hr.arcs
 refine Ok.bind.2 (Ok.mono (s_moved hm hr.check (by omega) hmv) ?_)
 rintro ⟨q', f, b⟩ ⟨h1, h2, h3⟩
 simp only at h1 h2 h3
 subst h1
 exact Ok.some.2 ⟨hr, h2, m, hm, h3⟩
end Go.Acq
namespace Go.Acq
open Go
section
variable {n : Net} {m : Nat} {f g : List Int}
theorem BackP.pre (h : BackP n f g) (hf : Ka n f (fun x => 0 ≤ x) [n.S]) : Ka n g (fun x => 0 ≤ x) [n.S] := by
 refine ⟨h.all.1, fun v hv => ?_⟩
 have hz := Un hf.1.1
 simp only [Uh, decide_eq_true_eq] at hz
 rcases h.all.2 v hv with h1 | h1
 · exact .inl (by omega)
 ·
  simp only [List.mem_cons, List.not_mem_nil, or_false] at h1
  rcases h1 with h1 | h1
  · exact .inr (by rw [h1]; exact .head _)
  ·
   left
   have h2 := h.atT
   rcases hf.2 v hv with h3 | h3
   · rw [h1] at h3 ⊢; omega
   · rw [List.mem_singleton] at h3; omega
end
end Go.Acq
namespace Go.Acq
open Go
theorem Zbx {l : List Bool} {i : Nat} (hi : i < l.length) (hf : l.getD i false = true) : ∀ k : Nat, tc (l.set i false) k + (if i < k then 1 else 0) = tc l k
 | 0 => by simp [tc]
 | k + 1 => by
  have ih := Zbx hi hf k
  simp only [tc, Wo]
  by_cases c : i = k
  ·
   subst c
   rw [if_neg (show ¬ i < i by omega)] at ih
   rw [if_pos (show i = i ∧ i < l.length from ⟨rfl, hi⟩), hf, if_pos (show i < i + 1 by omega)]; simp; omega
  ·
   rw [if_neg (show ¬(i = k ∧ i < l.length) from fun h => c h.1)]
   by_cases c2 : i < k
   · rw [if_pos c2] at ih; rw [if_pos (show i < k + 1 by omega)]; omega
   · rw [if_neg c2] at ih; rw [if_neg (show ¬ i < k + 1 by omega)]; omega
theorem Zfy {l : List Int} {u : Nat} {x : Int} (hu : u < l.length) : ∀ m : Nat, Wc (fun v => (l.set u x).getD v 0) m = Wc (fun v => l.getD v 0) m + (if u < m then x - l.getD u 0 else 0)
 | 0 => by simp [Wc]
 | m + 1 => by
  have ih := Zfy (x := x) hu m
  simp only [Wc]
  rw [ih, Wo]
  by_cases c : u = m
  ·
   subst c
   rw [if_neg (show ¬ u < u by omega), if_pos ⟨rfl, hu⟩, if_pos (show u < u + 1 by omega)]; omega
  ·
   rw [if_neg (show ¬(u = m ∧ u < l.length) from fun h => c h.1)]
   by_cases c2 : u < m
   · rw [if_pos c2, if_pos (show u < m + 1 by omega)]; omega
   · rw [if_neg c2, if_neg (show ¬ u < m + 1 by omega)]; omega
theorem Zd8 {f : Nat → Int} {i0 : Nat} : ∀ {k : Nat}, i0 < k → Wc (fun i => if i = i0 then f i + 1 else f i) k = Wc f k + 1
 | 0, h => by omega
 | k + 1, h => by
  simp only [Wc]
  by_cases c : k = i0
  ·
   subst c
   rw [if_pos rfl, Zg5 (g := fun i => if i = k then f i + 1 else f i) (h := f) fun i hi => if_neg (by omega)]; omega
  · rw [if_neg c, Zd8 (by omega)]; omega
theorem Z6m (a : Int) : ∀ k : Nat, Wc (fun _ => a) k = k * a
 | 0 => by simp [Wc]
 | k + 1 => by simp only [Wc, Z6m a k]; rw [Int.natCast_succ, Int.add_mul, Int.one_mul]
theorem Zes (f : Nat → Int) (a : Int) : ∀ k : Nat, Wc (fun i => a * f i) k = a * Wc f k
 | 0 => by simp [Wc]
 | k + 1 => by simp only [Wc, Zes f a k]; rw [Int.mul_add]
theorem Zbk {a b A B : Int} (h0 : 0 ≤ a) (h1 : a ≤ A) (h2 : 0 ≤ b) (h3 : b ≤ B) : 0 ≤ a * b ∧ a * b ≤ A * B := ⟨Int.mul_nonneg h0 h2, Int.mul_le_mul h1 h3 h2 (by omega)⟩
theorem upset {mt : List Bool} {v w : Nat} (h : mt.getD w false = true) : (mt.set v true).getD w false = true := by
 rw [Wo]; split
 · rfl
 · exact h
structure QOK (n : Net) (m : Nat) (buf : List Int) (ins : List Bool) : Prop where
  len : ins.length = m
  nat : ∀ q, q < buf.length → ∃ u : Nat, buf.getD q 0 = u ∧ u < m ∧ ins.getD u false = true ∧ (u : Int) ≠ n.S ∧ (u : Int) ≠ n.T
  inj : ∀ q q', q < buf.length → q' < buf.length → buf.getD q 0 = buf.getD q' 0 → q = q'
  cnt : buf.length = tc ins m
theorem QOK.none (n : Net) (m : Nat) : QOK n m [] (List.replicate m false) := ⟨List.length_replicate, fun q hq => by simp at hq, fun q q' hq => by simp at hq, by rw [Zb2]; rfl⟩
theorem QOK.le {n : Net} {m : Nat} {buf : List Int} {ins : List Bool} (h : QOK n m buf ins) : buf.length ≤ m := by rw [h.cnt]; exact tc_le _ _
theorem QOK.room {n : Net} {m : Nat} {buf : List Int} {ins : List Bool} {v : Nat} (h : QOK n m buf ins) (hv : v < m) (hf : ins.getD v false = false) : buf.length < m := by
 have h1 := Z4s (l := ins) (by rw [h.len]; exact hv) hf m
 have h2 := tc_le (ins.set v true) m
 rw [if_pos hv] at h1
 have := h.cnt
 omega
theorem QOK.put {n : Net} {m : Nat} {buf : List Int} {ins : List Bool} {v : Nat} (h : QOK n m buf ins) (hv : v < m) (hf : ins.getD v false = false) (hS : (v : Int) ≠ n.S) (hT : (v : Int) ≠ n.T) : QOK n m (buf ++ [(v : Int)]) (ins.set v true) := by
 have hl := h.len
 refine ⟨by simp [hl], fun q hq => ?_, fun q q' hq hq' he => ?_, ?_⟩
 ·
  rw [List.length_append, List.length_singleton] at hq
  rcases Nat.lt_or_ge q buf.length with h1 | h1
  ·
   obtain ⟨u, h2, h3, h4, h5⟩ := h.nat q h1
   refine ⟨u, by rw [Le h1]; exact h2, h3, ?_, h5⟩
   rw [Wo]; split
   · rfl
   · exact h4
  ·
   refine ⟨v, ?_, hv, by rw [Wo, if_pos ⟨rfl, by omega⟩], hS, hT⟩
   rw [Z37 h1, show q - buf.length = 0 by omega]; rfl
 ·
  rw [List.length_append, List.length_singleton] at hq hq'
  have key : ∀ q, q < buf.length → buf.getD q 0 ≠ (v : Int) := fun q h1 e => by
   obtain ⟨u, h2, h3, h4, -⟩ := h.nat q h1
   have : u = v := by omega
   subst this; rw [hf] at h4; cases h4
  have last : ∀ q, ¬ q < buf.length → q < buf.length + 1 → (buf ++ [(v : Int)]).getD q 0 = v := fun q h1 h2 => by
   rw [Z37 (by omega), show q - buf.length = 0 by omega]; rfl
  by_cases h1 : q < buf.length <;> by_cases h2 : q' < buf.length
  · rw [Le h1, Le h2] at he; exact h.inj q q' h1 h2 he
  · rw [Le h1, last q' h2 hq'] at he; exact absurd he (key q h1)
  · rw [Le h2, last q h1 hq] at he; exact absurd he.symm (key q' h2)
  · omega
 · rw [List.length_append, List.length_singleton, Z4s (by omega) hf, if_pos hv, h.cnt]
theorem QOK.cut {n : Net} {m : Nat} {v : Int} {buf : List Int} {ins : List Bool} (h : QOK n m (v :: buf) ins) : ∃ u : Nat, v = u ∧ u < m ∧ (u : Int) ≠ n.S ∧ (u : Int) ≠ n.T ∧ ins.getD u false = true ∧ QOK n m buf (ins.set u false) := by
 obtain ⟨u, h1, h2, h3, h4, h5⟩ := h.nat 0 (by simp)
 have h1 : v = (u : Int) := h1
 have hl := h.len
 refine ⟨u, h1, h2, h4, h5, h3, by simp [hl], fun q hq => ?_, fun q q' hq hq' he => ?_, ?_⟩
 ·
  obtain ⟨w, g1, g2, g3, g4⟩ := h.nat (q + 1) (by simpa using hq)
  refine ⟨w, g1, g2, ?_, g4⟩
  rw [Vo fun e => ?_]
  · exact g3
  ·
   subst e
   have := h.inj 0 (q + 1) (by simp) (by simpa using hq) (by rw [g1]; exact h1)
   omega
 ·
  have := h.inj (q + 1) (q' + 1) (by simpa using hq) (by simpa using hq') he
  omega
 ·
  have e1 := Zbx (l := ins) (by rw [hl]; exact h2) h3 m
  rw [if_pos h2] at e1
  have := h.cnt
  simp only [List.length_cons] at this
  omega
section row
variable {n : Net} {m L : Nat} {c : Csr}
def Vn (n : Net) (r : FifoRun) (v : Nat) : FifoRun := if Wz n r.p.Ex v ∧ r.ins.getD v false = false then ⟨r.c, r.p, r.row.put v, r.ins.set v true, r.work⟩ else r
theorem s_wait {x : FifoRun} {v : Nat} (r : Row n m L c) (hc : x.c = c) (lx : x.p.Ex.length = m) (hq : QOK n m x.row.buf x.ins) (hcap : x.row.cap = m) (hv : v < m) : Z1p x (v : Nat) = some (Vn n x v) := by
 obtain ⟨⟨S, hS, hcS, hSm⟩, ⟨T, hT, hcT, hTm⟩, -, -⟩ := r.ends
 have hl := hq.len
 refine Jl ?_
 have j3 : ∀ b : Bool, (b = true ↔ Wz n x.p.Ex v ∧ x.ins.getD v false = false) → Ok (Z2q x v b) (fun t => t = Vn n x v) := fun b hb => by
  unfold Z2q Vn
  simp only [Int.toNat_natCast]
  refine Ok.ite.2 ⟨fun h => ?_, fun h => ?_⟩
  ·
   have h2 := hb.1 h
   rw [if_pos h2]
   have := hq.room hv h2.2
   exact Ok.gd.2 ⟨by constructor <;> omega, Ok.gd.2 ⟨by omega, Ok.some.2 rfl⟩⟩
  · rw [if_neg fun h2 => h (hb.2 h2)]; exact Ok.some.2 rfl
 have j2 : ∀ b : Bool, (b = true ↔ Wz n x.p.Ex v) → Ok (Z26 x v b) (fun t => t = Vn n x v) := fun b hb => by
  unfold Z26
  simp only [Int.toNat_natCast]
  refine Ok.ite.2 ⟨fun h => Ok.gd.2 ⟨by constructor <;> omega, j3 _ ?_⟩, fun h => j3 _ ?_⟩
  ·
   have := hb.1 h
   cases x.ins.getD v false <;> simp [this]
  · exact ⟨fun h2 => (by cases h2), fun h2 => absurd (hb.2 h2.1) h⟩
 unfold Z1p Z4j
 rw [hc, hcS, hcT]
 refine Ok.ite.2 ⟨fun h1 => Ok.ite.2 ⟨fun h2 => Ok.gd.2 ⟨by constructor <;> omega, ?_⟩, fun h2 => ?_⟩, fun h1 => Ok.ite.2 ⟨fun h2 => (by cases h2), fun _ => ?_⟩⟩
 ·
  rw [Int.toNat_natCast]
  refine j2 _ ?_
  have := of_decide_eq_true h2
  unfold Wz
  rw [decide_eq_true_iff]
  exact ⟨fun h => ⟨by omega, by omega, h⟩, fun h => h.2.2⟩
 · refine j2 _ ⟨fun h => (by cases h), fun h => absurd (decide_eq_true (show (v : Int) ≠ T by have := h.2.1; omega)) h2⟩
 · exact j2 _ ⟨fun h => (by cases h), fun h => absurd (show (v : Int) ≠ S by have := h.1; omega) h1⟩
theorem Nt (n : Net) (x : FifoRun) (v : Nat) : (Vn n x v).p = x.p := by unfold Vn; split <;> rfl
theorem Zel (n : Net) (x : FifoRun) (v : Nat) : (Vn n x v).c = x.c := by unfold Vn; split <;> rfl
theorem Z8o (n : Net) (x : FifoRun) (v : Nat) : (Vn n x v).work = x.work := by unfold Vn; split <;> rfl
theorem Zft (n : Net) (x : FifoRun) (v : Nat) : (Vn n x v).row.cap = x.row.cap := by unfold Vn; split <;> rfl
theorem Ze8 {x : FifoRun} {v : Nat} (hq : QOK n m x.row.buf x.ins) (hv : v < m) : QOK n m (Vn n x v).row.buf (Vn n x v).ins := by
 unfold Vn
 split
 · rename_i h; exact hq.put hv h.2 h.1.1 h.1.2.1
 · exact hq
theorem Zfn {x : FifoRun} {v w : Nat} (hw : x.ins.getD w false = true) : (Vn n x v).ins.getD w false = true := by
 unfold Vn
 split
 · exact upset hw
 · exact hw
theorem Zdi {x : FifoRun} {v : Nat} (hl : x.ins.length = m) (hv : v < m) (h : Wz n x.p.Ex v) : (Vn n x v).ins.getD v false = true := by
 unfold Vn
 split
 · exact Kf (by omega)
 ·
  rename_i h2
  cases e : x.ins.getD v false with
  | true => rfl
  | false => exact absurd ⟨h, e⟩ h2
theorem Zjo {x : FifoRun} {v w : Nat} (hw : w ≠ v) : (Vn n x v).ins.getD w false = x.ins.getD w false := by
 unfold Vn
 split
 · exact Vo (Ne.symm hw)
 · rfl
theorem s_fpush {x : FifoRun} {j : Nat} (r : Row n m L c) (hc : x.c = c) (h : PreOK n m L c x.p) (hq : QOK n m x.row.buf x.ins) (hcap : x.row.cap = m) (hj : j < L) (h1 : 0 < x.p.Ex.getD (tl c j) 0) (h2 : 0 < x.p.Res.getD j 0) (hw : 0 ≤ x.work.Pushes ∧ x.work.Pushes ≤ 1000000000000000) :
    Z4v x (tl c j : Nat) (j : Nat) = some (Vn n ⟨c, Uj c x.p j, x.row, x.ins, ⟨x.work.Pushes + 1, x.work.Lifts⟩⟩ (hd c j)) := by
  refine Jl ?_
  obtain ⟨xc, p, row, ins, work⟩ := x
  simp only at hc h hq hcap h1 h2 hw
  subst hc
  obtain ⟨-, lh, lr, -, -, -⟩ := r.lens
  have g1 := r.head hj
  have g2 := r.rev hj
  have g3 := r.tlh hj
  have hlr := h.ok.lr
  have hlx := h.ok.lx
  have hD : Uu xc p j = min (p.Ex.getD (tl xc j) 0) (p.Res.getD j 0) := rfl
  have d0 : 0 ≤ Uu xc p j := by omega
  have d1 : Uu xc p j ≤ p.Res.getD j 0 := by omega
  have hm := h.ok.move r hj d0 d1
  have b1 := h.ok.bnd r g3.1
  have b2 := hm.bnd r g1.2
  have b3 := h.ok.rle r hj
  have b4 := hm.rle r g2.2.1
  have b5 := h.ok.rle r g2.2.1
  rw [Z1i r hlx hj, if_neg g3.2.2.2, if_pos rfl] at b2
  rw [Rs r hlr hj, if_pos rfl] at b4
  have e1 : (p.Res.set j (p.Res.getD j 0 - Uu xc p j)).getD (rv xc j) 0 = p.Res.getD (rv xc j) 0 := Vo fun e => g2.2.2.2 e.symm
  have e2 : (p.Ex.set (tl xc j) (p.Ex.getD (tl xc j) 0 - Uu xc p j)).getD (hd xc j) 0 = p.Ex.getD (hd xc j) 0 := Vo g3.2.2.2
  unfold Z4v
  simp only [Int.toNat_natCast, g1.1, g2.1, ← hD, e1, e2, List.length_set, hlr, hlx, lh, lr]
  have i1 : inb (j : Int) L := by constructor <;> omega
  have i2 : inb ((rv xc j : Nat) : Int) L := by constructor <;> omega
  have i3 : inb ((tl xc j : Nat) : Int) m := by constructor <;> omega
  have i4 : inb ((hd xc j : Nat) : Int) m := by constructor <;> omega
  have o1 : i64ok (p.Res.getD j 0 - Uu xc p j) := by constructor <;> omega
  have o2 : i64ok (p.Res.getD (rv xc j) 0 + Uu xc p j) := by constructor <;> omega
  have o3 : i64ok (p.Ex.getD (tl xc j) 0 - Uu xc p j) := by constructor <;> omega
  have o4 : i64ok (p.Ex.getD (hd xc j) 0 + Uu xc p j) := by constructor <;> omega
  have o5 : i64ok (work.Pushes + 1) := by constructor <;> omega
  refine Ok.gd.2 ⟨i1, Ok.gd.2 ⟨i1, Ok.gd.2 ⟨i3, Ok.gd.2 ⟨i1, Ok.gd.2 ⟨i1, Ok.gd.2 ⟨o1, Ok.gd.2 ⟨i1, Ok.gd.2 ⟨i2, Ok.gd.2 ⟨o2, Ok.gd.2 ⟨i2, Ok.gd.2 ⟨i3, Ok.gd.2 ⟨o3, Ok.gd.2 ⟨i3, Ok.gd.2 ⟨i4, Ok.gd.2 ⟨o4, Ok.gd.2 ⟨i4, Ok.gd.2 ⟨o5, Ok.bind.2 ?_⟩⟩⟩⟩⟩⟩⟩⟩⟩⟩⟩⟩⟩⟩⟩⟩⟩
  refine Vl (s_wait (x := ⟨xc, Uj xc p j, row, ins, ⟨work.Pushes + 1, work.Lifts⟩⟩) r rfl hm.lx hq hcap g1.2) (Ok.some.2 ?_)
  unfold Vn
  split <;> rfl
theorem s_once {x : FifoRun} {u : Nat} (r : Row n m L c) (hc : x.c = c) (h : PreOK n m L c x.p) (hq : QOK n m x.row.buf x.ins) (hcap : x.row.cap = m) (hu : u < m) (hA : Wz n x.p.Ex u) (hw : 0 ≤ x.work.Pushes ∧ x.work.Pushes ≤ 1000000000000000) (hw2 : 0 ≤ x.work.Lifts ∧ x.work.Lifts ≤ 1000000000000000) :
    Ok (Z4o x (u : Nat)) (fun y => (∃ j, j < L ∧ tl c j = u ∧ Ud c x.p u j ∧ y = Vn n ⟨c, Uj c x.p j, x.row, x.ins, ⟨x.work.Pushes + 1, x.work.Lifts⟩⟩ (hd c j)) ∨ (Gk n c x.p u ∧ y = ⟨c, Kt c x.p m u, x.row, x.ins, ⟨x.work.Pushes, x.work.Lifts + 1⟩⟩)) := by
  have lf := r.lens.1
  have llh := r.lens.2.1
  have b := r.bd
  have hN := r.is.hN
  have f1 := (r.first.1 u (by omega)).1
  have f2 := (r.first.1 (u + 1) (by omega)).1
  have f3 := r.first.2.2.2 u hu
  have e1 : ((u : Int) + 1).toNat = u + 1 := by omega
  have hlr := h.ok.lr
  have hb := h.hb r
  have hlh := hb.1
  have hbu := hb.2 u hu
  unfold Z4o
  rw [hc, hN]
  simp only [Int.toNat_natCast, f1]
  refine Ok.gd.2 ⟨by constructor <;> omega, Ok.gd.2 ⟨by constructor <;> omega, Ok.bind.2 (Wy (fun s => ∃ k : Nat, s = (Kx c x.p m (fs c u) (k - fs c u), (k : Int)) ∧ fs c u ≤ k ∧ k ≤ fs c (u + 1) ∧ ∀ j, fs c u ≤ j → j < k → ¬Ud c x.p u j) (fun s => (fs c (u + 1) - s.2).toNat) ⟨fs c u, by rw [Nat.sub_self]; rfl, Nat.le_refl _, f3.1, fun j h1 h2 => by omega⟩ (by unfold Yc; simp only; omega) ?_)⟩⟩
  rintro s ⟨k, rfl, hk0, hk, hno⟩ P next exit
  have hlow := (Zc5 (c := c) (m := m) x.p (fs c u) (k - fs c u))
  unfold Z4m
  rw [hc]
  simp only [Int.toNat_natCast, e1, f2]
  refine Ok.gd.2 ⟨by constructor <;> omega, Ok.gd.2 ⟨by constructor <;> omega, Ok.ite.2 ⟨fun hx => ?_, fun hx => Ok.some.2 (exit _ ?_)⟩⟩⟩
  · have hkL : k < L := by omega
    have htl := (r.range hkL hu).1 ⟨hk0, by omega⟩
    have g1 := r.head hkL
    have g4 := h.ok.rle r hkL
    have hbh := hb.2 _ g1.2
    have ek : k + 1 - fs c u = (k - fs c u) + 1 := by omega
    have ek2 : fs c u + (k - fs c u) = k := by omega
    refine Ok.gd.2 ⟨by constructor <;> omega, Ok.ite.2 ⟨fun h0 => Ok.gd.2 ⟨by constructor <;> omega, Ok.some.2 (next _ ⟨k + 1, ?_, by omega, by omega, fun j h1 h2 => ?_⟩ (by simp only; omega))⟩, fun h0 => ?_⟩⟩
    · rw [ek]; simp only [Kx, ek2]; rw [if_neg (by omega)]; simp
    · by_cases e : j = k
      · subst e; exact fun hA2 => by have := hA2.1; omega
      · exact hno j h1 (by omega)
    · simp only [g1.1, Int.toNat_natCast]
      refine Ok.gd.2 ⟨by constructor <;> omega, Ok.gd.2 ⟨by constructor <;> omega, Ok.gd.2 ⟨by constructor <;> omega, Ok.gd.2 ⟨by constructor <;> omega, Ok.ite.2 ⟨fun h5 => Ok.bind.2 ?_, fun h5 => Ok.gd.2 ⟨by constructor <;> omega, Ok.some.2 (next _ ⟨k + 1, ?_, by omega, by omega, fun j h1 h2 => ?_⟩ (by simp only; omega))⟩⟩⟩⟩⟩⟩
      · have hp := s_fpush r hc h hq hcap hkL (by rw [htl]; exact hA.2.2) (by omega) hw
        rw [htl] at hp
        refine Vl hp (Ok.some.2 (exit _ (Ok.some.2 (.inl ⟨k, hkL, htl, ⟨by omega, h5⟩, ?_⟩))))
        unfold Vn
        split <;> rfl
      · rw [ek]; simp only [Kx, ek2]; rw [if_pos (by omega)]; simp
      · by_cases e : j = k
        · subst e; exact fun hA2 => h5 hA2.2
        · exact hno j h1 (by omega)
  · obtain rfl : k = fs c (u + 1) := by omega
    have hge : -1000000 ≤ Uv c x.p m u := by
      rcases (Z43 x.p r hu).2 with h | ⟨j, h1, -, -, h4⟩
      · omega
      · have := hb.2 _ (r.head h1).2; omega
    have hlv : Kx c x.p m (fs c u) (fs c (u + 1) - fs c u) = Uv c x.p m u := rfl
    have hle := (Z43 x.p r hu).1
    simp only
    unfold Z89
    rw [hlv]
    simp only [Int.toNat_natCast]
    exact Ok.gd.2 ⟨by constructor <;> omega, Ok.gd.2 ⟨by constructor <;> omega, Ok.gd.2 ⟨by constructor <;> omega, Ok.some.2 (.inr ⟨⟨hA, fun j h1 h2 => hno j h1 h2⟩, by rw [hc]; rfl⟩)⟩⟩⟩
end row
end Go.Acq
namespace Go.Acq
open Go
def Jk (n : Net) (i : Nat) : Int := if (n.Arcs.getD i default).fr = (n.Arcs.getD i default).to then 0 else 1
def ai (c : Csr) (j : Nat) : Nat := (c.Arc.getD j 0).toNat
def hsum (p : Pre) (m : Nat) : Int := Wc (fun v => p.H.getD v 0) m
section row
variable {n : Net} {m L : Nat} {c : Csr}
theorem Row.ai (r : Row n m L c) {j : Nat} (hj : j < L) : ai c j < n.Arcs.length ∧ Jk n (ai c j) = 1 ∧ Acq.ai c (rv c j) = Acq.ai c j ∧ ∀ k, k < L → Acq.ai c k = Acq.ai c j → k = j ∨ k = rv c j := by
 obtain ⟨i, s, hi, hne, hp, q1, q2, q3, q4, q5, q6, q7, q8⟩ := r.at hj
 have e : Acq.ai c j = i := by unfold Acq.ai; omega
 have hr := r.rev hj
 rw [e]
 refine ⟨hi, if_neg hne, ?_, fun k hk he => ?_⟩
 ·
  obtain ⟨i', s', hi', hne', hp', -, -, -, -, -, -, q7', -⟩ := r.at hr.2.1
  have e' : Acq.ai c (rv c j) = i' := by unfold Acq.ai; omega
  rw [e']
  rw [q5] at hp'
  exact (Lx r.he hi' hi hne' hne hp').1
 ·
  obtain ⟨i', s', hi', hne', hp', -, -, -, -, -, -, q7', -⟩ := r.at hk
  have e' : Acq.ai c k = i' := by unfold Acq.ai; omega
  have : i' = i := by omega
  subst this
  cases s <;> cases s'
  · exact .inl (by rw [← hp', hp])
  · exact .inr (by rw [← hp', q5]; rfl)
  · exact .inr (by rw [← hp', q5]; rfl)
  · exact .inl (by rw [← hp', hp])
theorem PreOK.hsum {p : Pre} (h : PreOK n m L c p) (r : Row n m L c) : (m : Int) ≤ hsum p m ∧ Acq.hsum p m ≤ m + ((m : Int) - 2) * (2 * m - 1) := by
 obtain ⟨⟨S, hS, -, hSm⟩, ⟨T, hT, -, hTm⟩, hne, -⟩ := r.ends
 have h1 := h.hs.2.1 S hS
 have h2 := h.hs.2.2.1 T hT
 have h3 := h.hs.2.2.2
 have hST : S ≠ T := by omega
 constructor
 ·
  have a : Wc (fun v => if v = S then (m : Int) else 0) m = m := by
   rw [Z9n (i := S) hSm fun j _ hj => if_neg hj, if_pos rfl]
  rw [← a]
  refine Z4x fun v hv => ?_
  split
  · rename_i e; subst e; omega
  · rename_i e; exact (h3 v hv).1
 ·
  have a : Wc (fun v => (2 * (m : Int) - 1) + ((if v = S then (1 - (m : Int)) else 0) + (if v = T then (1 - 2 * (m : Int)) else 0))) m = m + ((m : Int) - 2) * (2 * m - 1) := by
   rw [Zb9, Zb9, Z6m, Z9n (i := S) hSm fun j _ hj => if_neg hj, if_pos rfl, Z9n (i := T) hTm fun j _ hj => if_neg hj, if_pos rfl, Int.sub_mul]
   omega
  rw [← a]
  refine Z4x fun v hv => ?_
  have := h3 v hv
  by_cases e1 : v = S
  · subst e1; rw [if_pos rfl, if_neg hST, h1]; omega
  ·
   by_cases e2 : v = T
   · subst e2; rw [if_neg e1, if_pos rfl, h2]; omega
   · rw [if_neg e1, if_neg e2]; omega
structure SatI (n : Net) (m L : Nat) (c : Csr) (p : Pre) (f : Nat → Int) : Prop where
  nn : ∀ i, i < n.Arcs.length → 0 ≤ f i ∧ f i ≤ (2 * m - 1) * Jk n i
  op : ∀ j, j < L → 0 < p.Res.getD j 0 → f (ai c j) + 1 ≤ max (p.H.getD (tl c j) 0) (p.H.getD (hd c j) 0 + 1)
theorem SatI.zero {p : Pre} (h : PreOK n m L c p) (r : Row n m L c) : SatI n m L c p (fun _ => 0) := by
 have b := r.bd
 refine ⟨fun i hi => ⟨Int.le_refl _, ?_⟩, fun j hj _ => ?_⟩
 · unfold Jk; split <;> omega
 · have := h.hs.2.2.2 _ (r.head hj).2; omega
theorem SatI.lift {p : Pre} {f : Nat → Int} {u : Nat} (h : SatI n m L c p f) (hp : PreOK n m L c p) (r : Row n m L c) (hu : u < m) (hl : p.H.getD u 0 ≤ Uv c p m u) : SatI n m L c (Kt c p m u) f := by
 refine ⟨h.nn, fun j hj h0 => ?_⟩
 have h1 := h.op j hj h0
 have hlh := hp.hs.1
 have key : ∀ v, p.H.getD v 0 ≤ (Kt c p m u).H.getD v 0 := fun v => by
  simp only [Kt]
  rw [Wo]; split
  · rename_i e; rw [← e.1]; omega
  · exact Int.le_refl _
 have := key (tl c j)
 have := key (hd c j)
 omega
theorem SatI.push {p : Pre} {f : Nat → Int} {j : Nat} (h : SatI n m L c p f) (hp : PreOK n m L c p) (r : Row n m L c) (hj : j < L) (hA : 0 < p.Ex.getD (tl c j) 0) (hB : Ud c p (tl c j) j) :
    (p.Res.getD j 0 ≤ p.Ex.getD (tl c j) 0 → SatI n m L c (Uj c p j) (fun i => if i = ai c j then f i + 1 else f i)) ∧ (¬p.Res.getD j 0 ≤ p.Ex.getD (tl c j) 0 → SatI n m L c (Uj c p j) f) := by
  have hD : Uu c p j = min (p.Ex.getD (tl c j) 0) (p.Res.getD j 0) := rfl
  have hlr := hp.ok.lr
  have ht := r.tlh hj
  have hr := r.rev hj
  have hai := r.ai hj
  have h1 := h.op j hj hB.1
  have h2 := hB.2
  have h3 := hp.hs.2.2.2 _ ht.1
  have e0 : ∀ k, (Uj c p j).Res.getD k 0 = if k = rv c j then p.Res.getD (rv c j) 0 + Uu c p j else if k = j then p.Res.getD j 0 - Uu c p j else p.Res.getD k 0 := fun k => Rs r hlr hj
  have eh : (Uj c p j).H = p.H := rfl
  have hnn := h.nn _ hai.1
  rw [hai.2.1] at hnn
  refine ⟨fun hs => ⟨fun i hi => ?_, fun k hk h0 => ?_⟩, fun hs => ⟨h.nn, fun k hk h0 => ?_⟩⟩
  · by_cases e : i = Acq.ai c j
    · subst e; rw [if_pos rfl, hai.2.1]; omega
    · rw [if_neg e]; exact h.nn i hi
  · rw [e0] at h0
    rw [eh]
    by_cases c1 : k = rv c j
    · subst c1; rw [if_pos hai.2.2.1, hai.2.2.1, ht.2.1, ht.2.2.1]; omega
    · rw [if_neg c1] at h0
      by_cases c2 : k = j
      · subst c2; rw [if_pos rfl] at h0; omega
      · rw [if_neg c2] at h0
        have : Acq.ai c k ≠ Acq.ai c j := fun e => (hai.2.2.2 k hk e).elim c2 c1
        rw [if_neg this]; exact h.op k hk h0
  · rw [e0] at h0
    rw [eh]
    by_cases c1 : k = rv c j
    · subst c1; rw [hai.2.2.1, ht.2.1, ht.2.2.1]; omega
    · rw [if_neg c1] at h0
      by_cases c2 : k = j
      · subst c2; exact h1
      · rw [if_neg c2] at h0; exact h.op k hk h0
structure FI (n : Net) (m L : Nat) (c : Csr) (h0 Hm R0 : Int) (x : FifoRun) (k : Nat) (X : Int) (f : Nat → Int) (q : Int) : Prop where
  cc : x.c = c
  ok : PreOK n m L c x.p
  qq : QOK n m x.row.buf x.ins
  cap : x.row.cap = m
  ps : ∀ v, v < m → x.ins.getD v false = true → 0 < x.p.Ex.getD v 0
  kl : k ≤ x.row.buf.length
  X0 : 0 ≤ X
  h1 : ∀ i, i < k → ∀ u : Nat, x.row.buf.getD i 0 = u → x.p.H.getD u 0 ≤ X
  h2 : ∀ i, k ≤ i → i < x.row.buf.length → ∀ u : Nat, x.row.buf.getD i 0 = u → x.p.H.getD u 0 + 1 ≤ X
  sat : SatI n m L c x.p f
  lf : 0 ≤ x.work.Lifts ∧ x.work.Lifts + h0 ≤ hsum x.p m
  pu : 0 ≤ x.work.Pushes
  hm : hsum x.p m ≤ Hm
  bud : q + m * (X + (Hm - hsum x.p m)) + k ≤ R0
  q0 : 0 ≤ q ∧ (q = 0 ∨ 3 ≤ m)
def InI (n : Net) (m L : Nat) (c : Csr) (h0 Hm R0 : Int) (u : Nat) (x : FifoRun) (k : Nat) (X : Int) (f : Nat → Int) (q : Int) : Prop :=
  FI n m L c h0 Hm R0 x k X f q ∧ x.ins.getD u false = false ∧ x.p.H.getD u 0 ≤ X ∧ (∀ v, v < m → v ≠ u → Wz n x.p.Ex v → x.ins.getD v false = true) ∧ x.work.Pushes + (if 0 < x.p.Ex.getD u 0 then 1 else 0) ≤ Wc f n.Arcs.length + q
theorem FI.bnd {h0 Hm R0 X q : Int} {x : FifoRun} {k : Nat} {f : Nat → Int} (h : FI n m L c h0 Hm R0 x k X f q) (hP : x.work.Pushes ≤ Wc f n.Arcs.length + q) :
    q ≤ R0 ∧ Wc f n.Arcs.length ≤ (2 * m - 1) * Wc (Jk n) n.Arcs.length ∧ x.work.Pushes ≤ (2 * m - 1) * Wc (Jk n) n.Arcs.length + R0 ∧ x.work.Lifts ≤ Hm - h0 := by
  have h1 := h.hm
  have h2 := h.X0
  have h3 := h.bud
  have h4 : 0 ≤ (m : Int) * (X + (Hm - hsum x.p m)) := Int.mul_nonneg (by omega) (by omega)
  have h5 : Wc f n.Arcs.length ≤ Wc (fun i => (2 * (m : Int) - 1) * Jk n i) n.Arcs.length := Z4x fun i hi => (h.sat.nn i hi).2
  rw [Zes] at h5
  have h6 := h.lf
  refine ⟨by omega, h5, by omega, by omega⟩
theorem Zez {x : FifoRun} {v w : Nat} (hw : (Vn n x v).ins.getD w false = true) : x.ins.getD w false = true ∨ (w = v ∧ Wz n x.p.Ex v) := by
 unfold Vn at hw
 split at hw
 ·
  rename_i h
  simp only at hw
  by_cases e : w = v
  · exact .inr ⟨e, h.1⟩
  · rw [Vo (Ne.symm e)] at hw; exact .inl hw
 · exact .inl hw
theorem Zah (x : FifoRun) (v : Nat) : (Vn n x v).row.buf = x.row.buf ∨ (Vn n x v).row.buf = x.row.buf ++ [(v : Int)] := by
 unfold Vn; split
 · exact .inr rfl
 · exact .inl rfl
theorem InI.push {h0 Hm R0 X q : Int} {x : FifoRun} {k u j : Nat} {f : Nat → Int} (h : InI n m L c h0 Hm R0 u x k X f q) (r : Row n m L c) (hj : j < L) (ht : tl c j = u) (hA : Wz n x.p.Ex u) (hB : Ud c x.p u j) :
    ∃ f', InI n m L c h0 Hm R0 u (Vn n ⟨c, Uj c x.p j, x.row, x.ins, ⟨x.work.Pushes + 1, x.work.Lifts⟩⟩ (hd c j)) k X f' q := by
  subst ht
  obtain ⟨hF, hu, hX, hact, hP⟩ := h
  have htl := r.tlh hj
  have hhd := r.head hj
  have hD : Uu c x.p j = min (x.p.Ex.getD (tl c j) 0) (x.p.Res.getD j 0) := rfl
  have hE : ∀ v, (Uj c x.p j).Ex.getD v 0 = x.p.Ex.getD v 0 - (if tl c j = v then Uu c x.p j else 0) + (if hd c j = v then Uu c x.p j else 0) := fun v => Z1i r hF.ok.ok.lx hj
  have hA2 := hA.2.2
  have hB1 := hB.1
  have hB2 := hB.2
  have hok := hF.ok.push r hj hA hB
  have hsat := hF.sat.push hF.ok r hj hA2 hB
  rw [if_pos hA2] at hP
  generalize hy : (⟨c, Uj c x.p j, x.row, x.ins, ⟨x.work.Pushes + 1, x.work.Lifts⟩⟩ : FifoRun) = y
  have y1 : y.c = c := by rw [← hy]
  have y2 : y.p = Uj c x.p j := by rw [← hy]
  have y3 : y.row = x.row := by rw [← hy]
  have y4 : y.ins = x.ins := by rw [← hy]
  have y5 : y.work = ⟨x.work.Pushes + 1, x.work.Lifts⟩ := by rw [← hy]
  have hq : QOK n m y.row.buf y.ins := by rw [y3, y4]; exact hF.qq
  have hlen := hF.qq.len
  have main : ∀ f', SatI n m L c (Uj c x.p j) f' → x.work.Pushes + 1 + (if 0 < (Uj c x.p j).Ex.getD (tl c j) 0 then 1 else 0) ≤ Wc f' n.Arcs.length + q → InI n m L c h0 Hm R0 (tl c j) (Vn n y (hd c j)) k X f' q := fun f' hs hp => by
    refine ⟨⟨by rw [Zel, y1], by rw [Nt, y2]; exact hok, Ze8 hq hhd.2, by rw [Zft, y3]; exact hF.cap, fun v hv hi => ?_, ?_, hF.X0, fun i hi w hw => ?_, fun i hi1 hi2 w hw => ?_, by rw [Nt, y2]; exact hs, ?_, ?_, ?_, ?_, hF.q0⟩, ?_, ?_, fun v hv hvu ha => ?_, ?_⟩
    · rw [Nt, y2]
      rcases Zez hi with h1 | ⟨h1, h2⟩
      · rw [y4] at h1
        have := hF.ps v hv h1
        have hne : tl c j ≠ v := fun e => by rw [e, h1] at hu; cases hu
        rw [hE, if_neg hne]; split <;> omega
      · subst h1; rw [y2] at h2; exact h2.2.2
    · have := hF.kl
      rcases Zah (n := n) y (hd c j) with e | e <;> rw [e, y3]
      · exact this
      · rw [List.length_append]; omega
    · rw [Nt, y2]
      have hk := hF.kl
      have : (Vn n y (hd c j)).row.buf.getD i 0 = x.row.buf.getD i 0 := by
        rcases Zah (n := n) y (hd c j) with e | e <;> rw [e, y3]
        rw [Le (by omega)]
      rw [this] at hw
      exact hF.h1 i hi w hw
    · rw [Nt, y2]
      show x.p.H.getD w 0 + 1 ≤ X
      rcases Zah (n := n) y (hd c j) with e | e <;> rw [e, y3] at hi2 hw
      · exact hF.h2 i hi1 hi2 w hw
      · by_cases hl : i < x.row.buf.length
        · rw [Le hl] at hw; exact hF.h2 i hi1 hl w hw
        · rw [List.length_append, List.length_singleton] at hi2
          rw [Z37 (by omega), show i - x.row.buf.length = 0 by omega] at hw
          have hw2 : ((hd c j : Nat) : Int) = w := by simpa using hw
          have : hd c j = w := by omega
          rw [← this]; omega
    · rw [Z8o, Nt, y2, y5]; exact hF.lf
    · rw [Z8o, y5]; have := hF.pu; simp only; omega
    · rw [Nt, y2]; exact hF.hm
    · rw [Nt, y2]; exact hF.bud
    · rw [Zjo (Ne.symm (fun e => htl.2.2.2 e.symm)), y4]; exact hu
    · rw [Nt, y2]; exact hX
    · rw [Nt, y2] at ha
      by_cases e : v = hd c j
      · subst e; exact Zdi (m := m) (by rw [y4]; exact hlen) hv (by rw [y2]; exact ha)
      · refine Zfn ?_
        rw [y4]
        refine hact v hv hvu ⟨ha.1, ha.2.1, ?_⟩
        have := ha.2.2
        rw [hE, if_neg (Ne.symm hvu), if_neg (Ne.symm e)] at this; omega
    · rw [Z8o, Nt, y2, y5]; exact hp
  by_cases hs : x.p.Res.getD j 0 ≤ x.p.Ex.getD (tl c j) 0
  · refine ⟨_, main _ (hsat.1 hs) ?_⟩
    rw [Zd8 (r.ai hj).1]
    split <;> omega
  · refine ⟨f, main f (hsat.2 hs) ?_⟩
    have e0 : (Uj c x.p j).Ex.getD (tl c j) 0 = 0 := by rw [hE, if_pos rfl, if_neg (fun e => htl.2.2.2 e.symm)]; omega
    rw [e0, if_neg (by omega)]
    omega
theorem InI.lift {h0 Hm R0 X q : Int} {x : FifoRun} {k u : Nat} {f : Nat → Int} (h : InI n m L c h0 Hm R0 u x k X f q) (r : Row n m L c) (hu : u < m) (hS : Gk n c x.p u) (hHm : ∀ p : Pre, PreOK n m L c p → hsum p m ≤ Hm) :
    ∃ X', InI n m L c h0 Hm R0 u ⟨c, Kt c x.p m u, x.row, x.ins, ⟨x.work.Pushes, x.work.Lifts + 1⟩⟩ k X' f q := by
  obtain ⟨hF, hui, hX, hact, hP⟩ := h
  obtain ⟨hok, hle⟩ := hF.ok.lift r hu hS
  have hlh := hF.ok.hs.1
  have hsu : hsum (Kt c x.p m u) m = hsum x.p m + (Uv c x.p m u + 1 - x.p.H.getD u 0) := by
    unfold hsum
    simp only [Kt]
    rw [Zfy (by omega), if_pos hu]
  have hoff : ∀ w, w ≠ u → (Kt c x.p m u).H.getD w 0 = x.p.H.getD w 0 := fun w hw => Vo (Ne.symm hw)
  have hat : (Kt c x.p m u).H.getD u 0 = Uv c x.p m u + 1 := Kf (by omega)
  have hnb : ∀ i, i < x.row.buf.length → ∀ w : Nat, x.row.buf.getD i 0 = w → w ≠ u := fun i hi w hw e => by
    obtain ⟨w', g1, g2, g3, -⟩ := hF.qq.nat i hi
    have : w' = u := by omega
    rw [this, hui] at g3; cases g3
  have hkl := hF.kl
  have hlf := hF.lf
  have hX0 := hF.X0
  refine ⟨X + (Uv c x.p m u + 1 - x.p.H.getD u 0), ⟨rfl, hok, hF.qq, hF.cap, hF.ps, hF.kl, by omega, fun i hi w hw => ?_, fun i hi1 hi2 w hw => ?_, hF.sat.lift hF.ok r hu hle, ?_, hF.pu, hHm _ hok, ?_, hF.q0⟩, hui, ?_, hact, hP⟩
  · have := hF.h1 i hi w hw
    simp only
    rw [hoff w (hnb i (by omega) w hw)]; omega
  · have := hF.h2 i hi1 hi2 w hw
    simp only
    rw [hoff w (hnb i hi2 w hw)]; omega
  · simp only; rw [hsu]; omega
  · simp only
    rw [hsu, show X + (Uv c x.p m u + 1 - x.p.H.getD u 0) + (Hm - (hsum x.p m + (Uv c x.p m u + 1 - x.p.H.getD u 0))) = X + (Hm - hsum x.p m) by omega]
    exact hF.bud
  · simp only; rw [hat]; omega
theorem FI.take {h0 Hm R0 X q : Int} {x : FifoRun} {k : Nat} {f : Nat → Int} {v : Int} {rest : List Int} (h : FI n m L c h0 Hm R0 x k X f q) (hact : ∀ v, v < m → Wz n x.p.Ex v → x.ins.getD v false = true) (hP : x.work.Pushes ≤ Wc f n.Arcs.length + q) (r : Row n m L c) (hb : x.row.buf = v :: rest) :
    ∃ u : Nat, v = u ∧ u < m ∧ Wz n x.p.Ex u ∧ ∃ k' X', InI n m L c h0 Hm R0 u ⟨c, x.p, x.row.cut, x.ins.set u false, x.work⟩ k' X' f (q + 1) := by
  have hq := h.qq
  rw [hb] at hq
  obtain ⟨u, rfl, hu, huS, huT, hiu, hq2⟩ := hq.cut
  have hpos := h.ps u hu hiu
  have hlen := h.qq.len
  have hcb : x.row.cut.buf = rest := by unfold Chan.cut; rw [hb]; rfl
  have h3m : 3 ≤ m := by
    obtain ⟨⟨S, hS, -, hSm⟩, ⟨T, hT, -, hTm⟩, hne, -⟩ := r.ends
    omega
  refine ⟨u, rfl, hu, ⟨huS, huT, hpos⟩, ?_⟩
  have hbl := h.qq.le
  rw [hb] at hbl
  simp only [List.length_cons] at hbl
  have hX0 := h.X0
  have hkl := h.kl
  rw [hb] at hkl
  simp only [List.length_cons] at hkl
  have hbud := h.bud
  have hq0 := h.q0
  obtain ⟨k1, X1, g1, g2, g3, g4, g5, g6⟩ : ∃ (k1 : Nat) (X1 : Int), 1 ≤ k1 ∧ k1 ≤ rest.length + 1 ∧ 0 ≤ X1 ∧ (∀ i, i < k1 → ∀ w : Nat, x.row.buf.getD i 0 = w → x.p.H.getD w 0 ≤ X1) ∧ (∀ i, k1 ≤ i → i < x.row.buf.length → ∀ w : Nat, x.row.buf.getD i 0 = w → x.p.H.getD w 0 + 1 ≤ X1) ∧ q + m * (X1 + (Hm - hsum x.p m)) + k1 ≤ R0 := by
    by_cases hk : k = 0
    · subst hk
      have h0 := h.h2 0 (Nat.le_refl _) (by rw [hb]; simp) u (by rw [hb]; rfl)
      have hh := h.ok.hs.2.2.2 u hu
      refine ⟨rest.length + 1, X - 1, by omega, Nat.le_refl _, by omega, fun i hi w hw => ?_, fun i hi1 hi2 => by rw [hb, List.length_cons] at hi2; omega, ?_⟩
      · have := h.h2 i (Nat.zero_le _) (by rw [hb, List.length_cons]; exact hi) w hw
        omega
      · rw [show X - 1 + (Hm - hsum x.p m) = X + (Hm - hsum x.p m) - 1 by omega, Int.mul_sub, Int.mul_one]
        omega
    · exact ⟨k, X, by omega, hkl, hX0, h.h1, h.h2, hbud⟩
  have hget : ∀ i, rest.getD i 0 = x.row.buf.getD (i + 1) 0 := fun i => by rw [hb]; rfl
  refine ⟨k1 - 1, X1, ⟨rfl, h.ok, by rw [hcb]; exact hq2, by rw [← h.cap]; rfl, fun w hw hi => ?_, by rw [hcb]; omega, g3, fun i hi w hw => ?_, fun i hi1 hi2 w hw => ?_, h.sat, h.lf, h.pu, h.hm, ?_, ⟨by omega, .inr h3m⟩⟩, ?_, ?_, fun w hw hwu ha => ?_, ?_⟩
  · simp only at hi ⊢
    by_cases e : u = w
    · subst e; rw [Kf (by omega)] at hi; cases hi
    · rw [Vo e] at hi; exact h.ps w hw hi
  · simp only [hcb] at hw; rw [hget] at hw; exact g4 (i + 1) (by omega) w hw
  · simp only [hcb] at hw hi2; rw [hget] at hw; exact g5 (i + 1) (by omega) (by rw [hb, List.length_cons]; omega) w hw
  · simp only; omega
  · exact Kf (by omega)
  · exact g4 0 (by omega) u (by rw [hb]; rfl)
  · simp only
    rw [Vo (Ne.symm hwu)]; exact hact w hw ha
  · simp only
    rw [if_pos hpos]; omega
end row
end Go.Acq
namespace Go.Acq
open Go
section row
variable {n : Net} {m L : Nat} {c : Csr}
abbrev FS := List Int × List Int × List Int × Chan × List Bool × Int × Int
def Vg (c : Csr) (s : FS) : FifoRun := ⟨c, ⟨s.1, s.2.1, s.2.2.1⟩, s.2.2.2.1, s.2.2.2.2.1, ⟨s.2.2.2.2.2.1, s.2.2.2.2.2.2⟩⟩
theorem s_inner {h0 Hm R0 MS X q base : Int} {u k : Nat} {f : Nat → Int} {s0 : FS} (r : Row n m L c) (hu : u < m) (huS : (u : Int) ≠ n.S) (huT : (u : Int) ≠ n.T) (hHm : ∀ p : Pre, PreOK n m L c p → hsum p m ≤ Hm)
    (hMS : (2 * m - 1) * Wc (Jk n) n.Arcs.length = MS) (hB : MS + R0 + (Hm - h0) ≤ 999999999999999) (hI : InI n m L c h0 Hm R0 u (Vg c s0) k X f q) (hb : base = s0.2.2.2.2.2.1 + s0.2.2.2.2.2.2) (hpos : 0 < s0.2.1.getD u 0)
    {Q : ((FS) ⊕ (Pre × Work)) → Prop}
    (done : ∀ s : FS, (∃ X f, InI n m L c h0 Hm R0 u (Vg c s) k X f q) → base + 1 ≤ s.2.2.2.2.2.1 + s.2.2.2.2.2.2 → ¬0 < s.2.1.getD u 0 → Q (.inl s)) :
    Ok (Option.bind (Ym (fun s => Z19 c (u : Nat) s.1 s.2.1 s.2.2.1 s.2.2.2.1 s.2.2.2.2.1 s.2.2.2.2.2.1 s.2.2.2.2.2.2) Yc s0) fun (p4_0_0, p4_0_1, p4_0_2, p4_0_3, p4_0_4, p4_0_5, p4_0_6) => some (Sum.inl (p4_0_0, p4_0_1, p4_0_2, p4_0_3, p4_0_4, p4_0_5, p4_0_6))) Q := by
  refine Ok.bind.2 (Wy (fun s => (∃ X f, InI n m L c h0 Hm R0 u (Vg c s) k X f q) ∧ base ≤ s.2.2.2.2.2.1 + s.2.2.2.2.2.2 ∧ (0 < s.2.1.getD u 0 ∨ base + 1 ≤ s.2.2.2.2.2.1 + s.2.2.2.2.2.2)) (fun s => (1000000000000000 - (s.2.2.2.2.2.1 + s.2.2.2.2.2.2)).toNat) ⟨⟨X, f, hI⟩, by omega, .inl hpos⟩ ?_ ?_)
  · have h1 := hI.1.pu
    have h2 := hI.1.lf.1
    simp only [Vg] at h1 h2
    unfold Yc; omega
  rintro ⟨R, E, H, ch, ins, P, Lf⟩ ⟨⟨X, f, hI⟩, hb1, hb2⟩ W next exit
  have hF := hI.1
  have h1 := hF.pu
  have h2 := hF.lf
  have hP := hI.2.2.2.2
  have h3 := hF.bnd (by split at hP <;> omega)
  rw [hMS] at h3
  have hlx := hF.ok.ok.lx
  simp only [Vg] at h1 h2 h3 hlx hb1 hb2 next ⊢
  unfold Z19
  simp only [Int.toNat_natCast]
  refine Ok.gd.2 ⟨by constructor <;> omega, Ok.ite.2 ⟨fun hE => ?_, fun hE => Ok.some.2 (exit _ (Ok.some.2 (done _ ⟨X, f, hI⟩ (hb2.resolve_left hE) hE)))⟩⟩
  have hA : Wz n E u := ⟨huS, huT, hE⟩
  rw [if_pos (show 0 < (Vg c (R, E, H, ch, ins, P, Lf)).p.Ex.getD u 0 from hE)] at hP
  refine Ok.bind.2 (Ok.mono (s_once (x := Vg c (R, E, H, ch, ins, P, Lf)) r rfl hF.ok hF.qq hF.cap hu hA ⟨by simp only [Vg]; omega, by simp only [Vg]; omega⟩ ⟨by simp only [Vg]; omega, by simp only [Vg]; omega⟩) ?_)
  rintro y (⟨j, hj, ht, hAd, rfl⟩ | ⟨hS, rfl⟩)
  · obtain ⟨f', hI'⟩ := InI.push hI r hj ht hA hAd
    have hy := Z8o n ⟨c, Uj c (Vg c (R, E, H, ch, ins, P, Lf)).p j, (Vg c (R, E, H, ch, ins, P, Lf)).row, (Vg c (R, E, H, ch, ins, P, Lf)).ins, ⟨(Vg c (R, E, H, ch, ins, P, Lf)).work.Pushes + 1, (Vg c (R, E, H, ch, ins, P, Lf)).work.Lifts⟩⟩ (hd c j)
    have hyc := Zel n ⟨c, Uj c (Vg c (R, E, H, ch, ins, P, Lf)).p j, (Vg c (R, E, H, ch, ins, P, Lf)).row, (Vg c (R, E, H, ch, ins, P, Lf)).ins, ⟨(Vg c (R, E, H, ch, ins, P, Lf)).work.Pushes + 1, (Vg c (R, E, H, ch, ins, P, Lf)).work.Lifts⟩⟩ (hd c j)
    generalize Vn n ⟨c, Uj c (Vg c (R, E, H, ch, ins, P, Lf)).p j, (Vg c (R, E, H, ch, ins, P, Lf)).row, (Vg c (R, E, H, ch, ins, P, Lf)).ins, ⟨(Vg c (R, E, H, ch, ins, P, Lf)).work.Pushes + 1, (Vg c (R, E, H, ch, ins, P, Lf)).work.Lifts⟩⟩ (hd c j) = y at hI' hy hyc
    obtain ⟨yc, ⟨yR, yE, yH⟩, yr, yi, ⟨yP, yL⟩⟩ := y
    simp only [Vg] at hyc hy
    subst hyc
    injection hy with hy1 hy2
    subst hy1; subst hy2
    exact Ok.some.2 (next _ ⟨⟨X, f', hI'⟩, by simp only; omega, .inr (by simp only; omega)⟩ (by simp only; omega))
  · obtain ⟨X', hI'⟩ := InI.lift hI r hu hS hHm
    refine Ok.some.2 (next _ ⟨⟨X', f, hI'⟩, ?_, .inr ?_⟩ ?_)
    · simp only [Vg]; omega
    · simp only [Vg]; omega
    · simp only [Vg]; omega
theorem s_fRun {p : Pre} (r : Row n m L c) (h : PreOK n m L c p) : Ok (Z29 c p) (fun t => PreOK n m L c t.1 ∧ (∀ v, v < m → ¬Wz n t.1.Ex v) ∧ 0 ≤ t.2.Lifts ∧ t.2.Lifts ≤ ((m : Int) - 2) * (2 * m - 1) ∧ 0 ≤ t.2.Pushes ∧
    t.2.Pushes ≤ (2 * m - 1) * Wc (Jk n) n.Arcs.length + m * (2 * (((m : Int) - 2) * (2 * m - 1)) + 1) ∧ ((∀ v, v < m → ¬Wz n p.Ex v) → t = (p, ⟨0, 0⟩))) := by
  have bd := r.bd
  have hN := r.is.hN
  have lr := h.ok.lr
  have lx := h.ok.lx
  have lh := h.hs.1
  obtain ⟨hs1, hs2⟩ := h.hsum r
  have hHm : ∀ q : Pre, PreOK n m L c q → hsum q m ≤ m + ((m : Int) - 2) * (2 * m - 1) := fun q hq => (hq.hsum r).2
  have e1 := Zbk (a := (m : Int) - 2) (A := 4094) (b := 2 * m - 1) (B := 8191) (by omega) (by omega) (by omega) (by omega)
  obtain ⟨Λ, hΛ⟩ : ∃ z : Int, ((m : Int) - 2) * (2 * m - 1) = z := ⟨_, rfl⟩
  rw [hΛ] at hs2 e1 hHm ⊢
  obtain ⟨h0, hh0⟩ : ∃ z, hsum p m = z := ⟨_, rfl⟩
  rw [hh0] at hs1 hs2
  have e2 := Zbk (a := (m : Int)) (A := 4096) (b := 2 * m - 1 + (m + Λ - h0)) (B := 33550000) (by omega) (by omega) (by omega) (by omega)
  obtain ⟨R0, hR0⟩ : ∃ z, (m : Int) * (2 * m - 1 + (m + Λ - h0)) + m = z := ⟨_, rfl⟩
  have eK : 0 ≤ Wc (Jk n) n.Arcs.length ∧ Wc (Jk n) n.Arcs.length ≤ 16384 := by
    constructor
    · exact sumN_nn fun i hi => by unfold Jk; split <;> omega
    · have : Wc (Jk n) n.Arcs.length ≤ Wc (fun _ => 1) n.Arcs.length := Z4x fun i hi => by unfold Jk; split <;> omega
      rw [Z6m] at this; omega
  have e3 := Zbk (a := 2 * (m : Int) - 1) (A := 8191) (b := Wc (Jk n) n.Arcs.length) (B := 16384) (by omega) (by omega) eK.1 eK.2
  obtain ⟨MS, hMS⟩ : ∃ z, (2 * (m : Int) - 1) * Wc (Jk n) n.Arcs.length = z := ⟨_, rfl⟩
  rw [hMS] at e3 ⊢
  have hB : MS + R0 + (m + Λ - h0) ≤ 999999999999999 := by omega
  have hR : ∀ q : Int, q ≤ R0 → (q = 0 ∨ 3 ≤ m) → 0 ≤ q → q ≤ m * (2 * Λ + 1) := fun q h1 h2 h3 => by
    rcases h2 with h2 | h2
    · have := Int.mul_nonneg (show (0 : Int) ≤ m by omega) (show (0 : Int) ≤ 2 * Λ + 1 by omega)
      omega
    · have a1 : 1 * (2 * (m : Int) - 1) ≤ ((m : Int) - 2) * (2 * m - 1) := Int.mul_le_mul_of_nonneg_right (by omega) (by omega)
      rw [hΛ] at a1
      have a2 : (m : Int) * (2 * m - 1 + (m + Λ - h0) + 1) ≤ m * (2 * Λ + 1) := Int.mul_le_mul_of_nonneg_left (by omega) (by omega)
      rw [Int.mul_add, Int.mul_one] at a2
      omega
  unfold Z29
  refine Ok.bind.2 (Vl (Za2 (by omega) (by omega) (by omega)) ?_)
  rw [hN]
  simp only [Int.toNat_natCast]
  refine Ok.gd.2 ⟨by refine ⟨?_, ?_, ?_⟩ <;> omega, Ok.gd.2 ⟨by constructor <;> omega, Ok.bind.2 (Wy (fun s => ∃ k : Nat, s.2.2 = k ∧ k ≤ m ∧ QOK n m s.1.buf s.2.1 ∧ s.1.cap = m ∧ (∀ v, v < m → s.2.1.getD v false = true → 0 < p.Ex.getD v 0) ∧ ∀ v, v < k → Wz n p.Ex v → s.2.1.getD v false = true) (fun s => (m - s.2.2).toNat)
    ⟨0, rfl, by omega, QOK.none n m, rfl, fun v hv hi => ?_, fun v hv => by omega⟩ (by unfold Yc; simp only; omega) ?_)⟩⟩
  · simp only at hi; rw [Ke] at hi; simp at hi
  rintro ⟨ch, ins, x⟩ ⟨k, g1, g2, g3, g4, g5, g6⟩ P next exit
  simp only at g1 g3 g4 g5 g6 next ⊢
  subst g1
  unfold Z3j
  rw [hN]
  refine Ok.ite.2 ⟨fun hx => ?_, fun hx => Ok.some.2 (exit _ ?_)⟩
  · have hkm : k < m := by omega
    refine Ok.bind.2 (Vl (s_wait (x := ⟨c, p, ch, ins, ⟨0, 0⟩⟩) r rfl lx g3 g4 hkm) (Ok.gd.2 ⟨by constructor <;> omega, Ok.some.2 (next _ ⟨k + 1, by simp, by omega, Ze8 (x := ⟨c, p, ch, ins, ⟨0, 0⟩⟩) g3 hkm, by rw [Zft]; exact g4, fun v hv hi => ?_, fun v hv ha => ?_⟩ (by simp only; omega))⟩))
    · rcases Zez (x := ⟨c, p, ch, ins, ⟨0, 0⟩⟩) hi with h1 | ⟨h1, h2⟩
      · exact g5 v hv h1
      · subst h1; exact h2.2.2
    · by_cases e : v = k
      · subst e; exact Zdi (x := ⟨c, p, ch, ins, ⟨0, 0⟩⟩) (m := m) g3.len hkm ha
      · exact Zfn (x := ⟨c, p, ch, ins, ⟨0, 0⟩⟩) (g6 v (by omega) ha)
  simp only
  obtain rfl : k = m := by omega
  have hbl := g3.le
  have hb0 : (∀ v, v < k → ¬Wz n p.Ex v) → ch.buf = [] := fun hno => by
    cases hb : ch.buf with
    | nil => rfl
    | cons v rest =>
      rw [hb] at g3
      obtain ⟨u, -, hu, huS, huT, hiu, -⟩ := g3.cut
      exact absurd ⟨huS, huT, g5 u hu hiu⟩ (hno u hu)
  unfold Z8t
  refine Ok.bind.2 (Wy (fun s : FS => (∃ q0 X f q, FI n k L c h0 (k + Λ) R0 (Vg c s) q0 X f q ∧ (∀ v, v < k → Wz n s.2.1 v → s.2.2.2.2.1.getD v false = true) ∧ s.2.2.2.2.2.1 ≤ Wc f n.Arcs.length + q) ∧ ((∀ v, v < k → ¬Wz n p.Ex v) → s.2.2.2.1.buf = [] ∧ Pre.mk s.1 s.2.1 s.2.2.1 = p ∧ s.2.2.2.2.2 = (0, 0)))
    (fun s => (1000000000000000 - (s.2.2.2.2.2.1 + s.2.2.2.2.2.2)).toNat) ⟨⟨ch.buf.length, 2 * k - 1, fun _ => 0, 0, ⟨rfl, h, g3, g4, g5, Nat.le_refl _, by omega, fun i hi u hu => ?_, fun i h1 h2 => absurd h2 (Nat.not_lt.2 h1), SatI.zero h r, ⟨Int.le_refl _, ?_⟩, Int.le_refl _, ?_, ?_, ⟨Int.le_refl _, .inl rfl⟩⟩, g6, ?_⟩, fun hno => ⟨hb0 hno, rfl, rfl⟩⟩ (by unfold Yc; simp only; omega) ?_)
  · obtain ⟨w, q1, q2, -⟩ := g3.nat i hi
    have q1' : (w : Int) = u := by rw [← q1]; exact hu
    obtain rfl : w = u := by omega
    have := h.hs.2.2.2 w q2
    simp only [Vg]; omega
  · simp only [Vg]; rw [hh0]; omega
  · simp only [Vg]; rw [hh0]; omega
  · simp only [Vg]; rw [hh0]; omega
  · simp only; rw [Z6m]; omega
  rintro ⟨R, E, H, ch, ins, P', Lf⟩ ⟨⟨k0, X, f, q, hF, hact, hP⟩, hno⟩ W next exit
  have b1 := hF.bnd hP
  rw [hMS] at b1
  have b2 := hF.pu
  have b3 := hF.lf
  have b4 := hF.q0
  have hqq := hF.qq
  simp only [Vg] at b1 b2 b3 hqq hact hno hP next ⊢
  unfold Z41 Z90
  simp only
  cases hb : ch.buf with
  | nil =>
    rw [if_pos rfl]
    refine Ok.bind.2 (Ok.some.2 ?_)
    simp only
    rw [if_pos (by simp)]
    refine Ok.some.2 (exit _ (Ok.some.2 ⟨hF.ok, fun v hv ha => ?_, by simp only; omega, by simp only; omega, by simp only; omega, ?_, fun hn => ?_⟩))
    · have h1 := hact v hv ha
      have h2 := hqq.cnt
      rw [hb] at h2
      have h3 := Zbx (l := ins) (by rw [hqq.len]; exact hv) h1 k
      rw [if_pos hv] at h3
      simp only [List.length_nil] at h2
      omega
    · have := hR q b1.1 b4.2 b4.1
      simp only; omega
    · obtain ⟨-, h2, h3⟩ := hno hn
      injection h3 with h3 h4
      subst h3; subst h4
      rw [h2]
  | cons v rest =>
    rw [if_neg (by simp)]
    obtain ⟨u, rfl, hu, hA, k', X', hI⟩ := FI.take hF hact hP r hb
    have hlen := hqq.len
    have e0 : ((u : Int) :: rest).getD 0 0 = u := rfl
    simp only [e0, Int.toNat_natCast]
    refine Ok.bind.2 (Ok.gd.2 ⟨by constructor <;> omega, Ok.some.2 ?_⟩)
    simp only
    rw [if_neg (by simp)]
    refine s_inner (s0 := (R, E, H, Chan.cut ch, ins.set u false, P', Lf)) (base := P' + Lf) r hu hA.1 hA.2.1 hHm hMS hB hI rfl hA.2.2 fun s hs hb2 hE => ?_
    obtain ⟨X2, f2, hF2, h2, h3, h4, h5⟩ := hs
    have c1 := hF2.pu
    have c2 := hF2.lf
    refine next s ⟨⟨k', X2, f2, q + 1, hF2, fun w hw ha => ?_, ?_⟩, fun hn => ?_⟩ ?_
    · refine h4 w hw (fun e => ?_) ha
      subst e; exact hE ha.2.2
    · split at h5 <;> (simp only [Vg] at h5; omega)
    · have := (hno hn).1; rw [hb] at this; cases this
    · have d1 := hF2.bnd (by split at h5 <;> omega)
      rw [hMS] at d1
      simp only [Vg] at d1 c1 c2
      omega
structure SolP (n : Net) (m : Nat) (a : Answer) (w : Work) : Prop where
  all : Ka n a.Flow (fun x => x = 0) [n.S, n.T]
  cut : Ly n a.Side
  tight : ∀ i, i < n.Arcs.length → Kz n.Arcs a.Flow a.Side i
  val : a.Value = ex n.Arcs a.Flow n.T n.Arcs.length
  lifts : 0 ≤ w.Lifts ∧ w.Lifts ≤ ((m : Int) - 2) * (2 * m - 1)
  pushes : 0 ≤ w.Pushes ∧ w.Pushes ≤ (2 * m - 1) * Wc (Jk n) n.Arcs.length + m * (2 * (((m : Int) - 2) * (2 * m - 1)) + 1)
theorem PreOK.sol {p : Pre} (h : PreOK n m L c p) (r : Row n m L c) (ha : ∀ v, v < m → ¬Wz n p.Ex v) {b : List Bool} (lb : b.length = m) (hb : ∀ v, v < m → (b.getD v false = true ↔ ¬Reach (Gl n (Ul n.Arcs p.Res)) v n.T.toNat)) :
    Ka n (Ul n.Arcs p.Res) (fun x => x = 0) [n.S, n.T] ∧ Ly n b ∧ (∀ i, i < n.Arcs.length → Kz n.Arcs (Ul n.Arcs p.Res) b i) ∧ p.Ex.getD n.T.toNat 0 = ex n.Arcs (Ul n.Arcs p.Res) n.T n.Arcs.length := by
  obtain ⟨⟨S, hS, -, hSm⟩, ⟨T, hT, -, hTm⟩, -, -⟩ := r.ends
  have hm := r.hm
  rw [hT, Int.toNat_natCast] at hb
  have bS : b.getD S false = true := (hb S hSm).2 (h.far r hS hT)
  have bT : b.getD T false = false := by rw [Bool.eq_false_iff]; intro h; exact (hb T hTm).1 h .refl
  exact ⟨h.flow r ha, ⟨r.chk, by omega, by unfold Xz; rw [hS, Int.toNat_natCast]; exact bS, by unfold Xz; rw [hT, Int.toNat_natCast]; exact bT⟩, Zch r.he hb, by rw [hT, Int.toNat_natCast]; exact h.ok.ex T hTm⟩
theorem s_Solve {n : Net} (hm : n.N = m) (hk : Us n.N n.S n.T n.Arcs = 0) (hl : lenok n.Arcs.length) : Ok (Z4k n) (fun t => t.2.2 = 0 ∧ SolP n m t.1 t.2.1) := by
 unfold Z4k
 refine Ok.bind.2 (Ok.mono (Z7q hm hk hl) ?_)
 rintro ⟨c, e⟩ ⟨hc, h0⟩
 simp only at hc h0 ⊢
 subst h0
 have r := Za9 hc hm hk
 obtain ⟨L, hL⟩ : ∃ L, Yo n.Arcs m = L := ⟨_, rfl⟩
 rw [hL] at r
 rw [if_neg (by simp)]
 refine Ok.bind.2 (Ok.mono (Zay r) fun p0 hp0 => Ok.bind.2 (Ok.mono (s_fRun r hp0) ?_))
 rintro ⟨p, w⟩ ⟨hp, ha, h1, h2, h3, h4, -⟩
 simp only at hp ha h1 h2 h3 h4 ⊢
 refine Ok.bind.2 (Ok.mono (Za1 r hp.ok.lr hp.ok.res) ?_)
 rintro _ rfl
 simp only
 rw [if_neg (by simp)]
 refine Ok.bind.2 (Ok.mono (s_To hl) ?_)
 rintro ⟨b, e2⟩ (⟨-, h5, lb, hb⟩ | ⟨h, -⟩)
 rotate_left
 · exact absurd (hp.flow r ha).1 h
 simp only at h5 lb hb ⊢
 subst h5
 rw [hm, Int.toNat_natCast] at lb hb
 obtain ⟨z1, z2, z3, z4⟩ := hp.sol r ha lb hb
 obtain ⟨⟨S, hS, -, hSm⟩, ⟨T, hT, -, hTm⟩, -, -⟩ := r.ends
 have hlx := hp.ok.lx
 rw [if_neg (by simp)]
 exact Ok.gd.2 ⟨by constructor <;> omega, Ok.some.2 ⟨rfl, z1, z2, z3, z4, ⟨h1, h2⟩, h3, h4⟩⟩
end row
end Go.Acq
namespace Go.Acq
open Go
theorem dual {n : Net} {m : Nat} {f : List Int} {c : List Bool} (hm : n.N = m) (he : Vh m n.Arcs) (hA : Ka n f (fun x => x = 0) [n.S, n.T]) (hc : Ly n c) :
    ex n.Arcs f n.T n.Arcs.length ≤ Lz n.Arcs c n.Arcs.length ∧ ((∀ i, i < n.Arcs.length → Kz n.Arcs f c i) → ex n.Arcs f n.T n.Arcs.length = Lz n.Arcs c n.Arcs.length) := by
  have h7 := Z7z (c := c) hA.1.2.2 n.Arcs.length (Nat.le_refl _)
  rw [Zfg hm he hA hc] at h7
  exact ⟨h7.1, h7.2.2⟩
theorem Z7p {n : Net} {m : Nat} (hm : n.N = m) (hk : Us n.N n.S n.T n.Arcs = 0) : Vh m n.Arcs := Z17 (by rw [← hm]; exact (Un hk).2.2.2.1)
theorem SolP.cap {n : Net} {m : Nat} {a : Answer} {w : Work} (h : SolP n m a w) (hm : n.N = m) (hk : Us n.N n.S n.T n.Arcs = 0) : Lz n.Arcs a.Side n.Arcs.length = a.Value := by
 rw [h.val, (dual hm (Z7p hm hk) h.all h.cut).2 h.tight]
theorem SolP.most {n : Net} {m : Nat} {a : Answer} {w : Work} (h : SolP n m a w) (hm : n.N = m) (hk : Us n.N n.S n.T n.Arcs = 0) {f : List Int} (hf : Ka n f (fun x => x = 0) [n.S, n.T]) : ex n.Arcs f n.T n.Arcs.length ≤ a.Value := by
 rw [← h.cap hm hk]; exact (dual hm (Z7p hm hk) hf h.cut).1
theorem SolP.least {n : Net} {m : Nat} {a : Answer} {w : Work} (h : SolP n m a w) (hm : n.N = m) (hk : Us n.N n.S n.T n.Arcs = 0) {c : List Bool} (hc : Ly n c) : a.Value ≤ Lz n.Arcs c n.Arcs.length := by
 rw [h.val]; exact (dual hm (Z7p hm hk) h.all hc).1
end Go.Acq
namespace Go.Acq
open Go
theorem back_cut {q : Net} {m : Nat} {f b : List Int} {A : List Bool} (hm : q.N = m) (he : Vh m q.Arcs) (hP : Ka q f (fun x => 0 ≤ x) [q.S]) (hB : BackP q f b) (hA : Ly q A) (ht : ∀ i, i < q.Arcs.length → Kz q.Arcs f A i)
    (hz : ∀ v : Nat, v < m → A.getD v false = false → (v : Int) ≠ q.S ∧ ((v : Int) ≠ q.T → ex q.Arcs f v q.Arcs.length ≤ 0)) :
    ex q.Arcs b q.T q.Arcs.length = Lz q.Arcs A q.Arcs.length ∧ ∀ i, i < q.Arcs.length → Kz q.Arcs b A i := by
  have h1 := Zl1 (f := f) hm he hA fun v hv hv2 hvT => by
    have h2 := hz v hv (by simpa [Xz] using hv2)
    have h3 := h2.2 hvT
    rcases hP.2 v (by omega) with h4 | h4
    · omega
    · rw [List.mem_singleton] at h4; exact absurd h4 h2.1
  have h2 := Z7z (c := A) hP.1.2.2 q.Arcs.length (Nat.le_refl _)
  have h3 := h2.2.2 ht
  have h4 := Zfg hm he hB.all hA
  have h5 := Z7z (c := A) hB.all.1.2.2 q.Arcs.length (Nat.le_refl _)
  have h6 := hB.atT
  have h7 : Ng q.Arcs b A q.Arcs.length = Lz q.Arcs A q.Arcs.length := by omega
  exact ⟨by omega, h5.2.1 h7⟩
theorem s_cut {q : Net} {m : Nat} {f : List Int} {whole : Bool} (hm : q.N = m) (hk : Us q.N q.S q.T q.Arcs = 0) (hll : lenok q.Arcs.length) (hP : Ka q f (fun x => 0 ≤ x) [q.S])
    (hC : whole = true → (∀ v : Nat, v < m → (v : Int) ≠ q.S → (v : Int) ≠ q.T → ex q.Arcs f v q.Arcs.length = 0) ∧ ∀ S T : Nat, q.S = S → q.T = T → ¬ Reach (Gl q f) S T) :
    Ok (Z2l whole q f) (fun b => b = true) := by
  have hz := Un hk
  simp only [Uh, decide_eq_true_eq] at hz
  have he := Z7p hm hk
  obtain ⟨S, hS⟩ : ∃ S : Nat, q.S = S := ⟨q.S.toNat, by omega⟩
  obtain ⟨T, hT⟩ : ∃ T : Nat, q.T = T := ⟨q.T.toNat, by omega⟩
  unfold Z2l
  refine Ok.bind.2 (Ok.mono (s_To hll) ?_)
  rintro ⟨A, e⟩ (⟨-, h1, hAl, hA⟩ | ⟨h, -⟩)
  rotate_left
  · exact absurd hP.1 h
  simp only at h1 hAl hA ⊢
  subst h1
  rw [hm, Int.toNat_natCast] at hAl hA
  rw [hT, Int.toNat_natCast] at hA
  refine Ok.bind.2 (Ok.mono (Z4c hll) ?_)
  rintro ⟨x, e⟩ (⟨-, h1, hxl, hx⟩ | ⟨h, -⟩)
  rotate_left
  · exact absurd hP.1 h
  simp only at h1 hxl hx ⊢
  subst h1
  rw [hm, Int.toNat_natCast] at hxl hx
  refine Ok.bind.2 (Ok.mono (s_Solve hm hk hll) ?_)
  rintro ⟨a, w, e⟩ ⟨h0, ha⟩
  simp only at h0 ha ⊢
  subst h0
  rw [if_neg (by simp)]
  unfold Z5r Z5g Z55 Z67
  rw [if_neg (by simp), if_neg (by simp), if_neg (by simp; omega), if_neg (by simp; omega)]
  refine Ok.bind.2 (Wy (fun y => ∃ k : Nat, y = k ∧ k ≤ m ∧ ∀ v : Nat, v < k → A.getD v false = false → (v : Int) ≠ q.S ∧ ((v : Int) ≠ q.T → ex q.Arcs f v q.Arcs.length ≤ 0)) (fun y => (m - y).toNat) ⟨0, rfl, by omega, fun v hv => by omega⟩ (by unfold Yc; omega) ?_)
  rintro y ⟨k, rfl, hk1, hI⟩ P next exit
  unfold Z38
  simp only [Int.toNat_natCast]
  refine Ok.ite.2 ⟨fun hy => ?_, fun hy => Ok.some.2 (exit _ ?_)⟩
  · have hkm : k < m := by omega
    have hxk := hx k hkm
    have jj : ∀ b : Bool, (b = true → whole = false) → (b = false → A.getD k false = false → (k : Int) ≠ q.S ∧ ((k : Int) ≠ q.T → ex q.Arcs f k q.Arcs.length ≤ 0)) → Ok (Z04 whole k b) P := by
      intro b h1 h2
      unfold Z04
      refine Ok.ite.2 ⟨fun h => ?_, fun h => ?_⟩
      · rw [h1 h, if_pos (by simp)]
        exact Ok.bind.2 (Vl aw23 (Ok.some.2 (exit _ (Ok.some.2 rfl))))
      · refine Ok.gd.2 ⟨(by constructor <;> omega), Ok.some.2 (next _ ⟨k + 1, by simp, by omega, fun v hv hv2 => ?_⟩ (by omega))⟩
        rcases Nat.lt_or_ge v k with h3 | h3
        · exact hI v h3 hv2
        · have e : v = k := by omega
          subst e
          exact h2 (by simpa using h) hv2
    have hnS : A.getD k false = false → (k : Int) = q.S → whole = false := fun h1 h2 => by
      cases hw : whole
      · rfl
      · have := (hA k hkm).2 (by have := (hC hw).2 S T hS hT; rw [show S = k by omega] at this; exact this)
        rw [h1] at this; cases this
    have hxw : 0 < x.getD k 0 → (k : Int) ≠ q.T → A.getD k false = false → whole = false := fun h1 h2 h3 => by
      cases hw : whole
      · rfl
      · by_cases e : (k : Int) = q.S
        · rw [hnS h3 e] at hw; cases hw
        · have := (hC hw).1 k hkm e h2
          omega
    refine Ok.gd.2 ⟨(by constructor <;> omega), Ok.ite.2 ⟨fun h => ?_, fun h => jj false (fun h => (by cases h)) fun _ h2 => (by rw [h2] at h; exact absurd rfl h)⟩⟩
    have hAk : A.getD k false = false := by simpa using h
    refine Ok.gd.2 ⟨(by constructor <;> omega), Ok.ite.2 ⟨fun h1 => Ok.ite.2 ⟨fun h2 => jj true (fun _ => hxw h1 h2 hAk) (fun h => (by cases h)), fun h2 => jj _ (fun h3 => hnS hAk (of_decide_eq_true h3)) fun h3 _ => ⟨of_decide_eq_false h3, fun h4 => absurd h4 h2⟩⟩, fun h1 => jj _ (fun h3 => hnS hAk (of_decide_eq_true h3)) fun h3 _ => ⟨of_decide_eq_false h3, fun _ => by omega⟩⟩⟩
  · simp only
    have hkm : k = m := by omega
    subst hkm
    have hR : Ly q A := by
      refine ⟨hk, by omega, ?_, ?_⟩
      · unfold Xz
        rw [hS, Int.toNat_natCast]
        cases hb : A.getD S false
        · exact absurd hS.symm (hI S (by omega) hb).1
        · rfl
      · unfold Xz
        rw [hT, Int.toNat_natCast, Bool.eq_false_iff]
        intro h
        exact (hA T (by omega)).1 h .refl
    have ht := Zch he hA
    unfold Z9b
    refine Ok.bind.2 (Ok.mono (s_Back hll) ?_)
    rintro ⟨g, e⟩ (⟨h, -⟩ | ⟨-, h1, hB⟩)
    · exact absurd hP h
    simp only at h1 hB ⊢
    subst h1
    obtain ⟨g1, g2⟩ := back_cut hm he hP hB hR ht hI
    have g3 := ha.most hm hk hB.all
    have g4 := ha.least hm hk hR
    refine Ok.bind.2 (Ok.mono (s_Value hll) ?_)
    rintro ⟨v, e⟩ (⟨-, h6⟩ | ⟨h6, -⟩)
    rotate_left
    · exact absurd hB.all h6
    injection h6 with h6 h7
    subst h7
    simp only
    unfold Z5c Z3k Z3y Z6e
    rw [if_pos trivial, if_pos (by simp), if_pos (decide_eq_true (by omega))]
    refine Ok.bind.2 (Ok.mono (s_Tight hll) fun b hb => ?_)
    rw [hb.2 ⟨hR, hB.all.1, g2⟩, if_pos rfl]
    exact Ok.bind.2 (Vl aw23 (Ok.some.2 rfl))
theorem p_BackCut {n : Net} {moves : List Int} {whole : Bool} (hn : NetIn n) (hmv : ByteRow moves) : Z92 n moves whole = some true := by
 refine Jl ?_
 unfold Z92
 refine Ok.bind.2 (Ok.mono (s_some hn hmv) ?_)
 rintro ⟨q, f, b⟩ ⟨hr, hb, m, hm, L, c, p, r, hp, hf, hz⟩
 simp only at hr hb hm r hp hf hz ⊢
 have hlen := hr.arcs
 have hk := hr.check
 have hll : lenok q.Arcs.length := by omega
 have hP := hp.pre r
 rw [← hf] at hP
 subst hb
 rw [if_neg (by simp)]
 refine Ok.ite.2 ⟨fun hw => ?_, fun hw => s_cut hm hk hll hP fun h => absurd h hw⟩
 refine Ok.bind.2 (Ok.mono (Z7q hm hk hll) ?_)
 rintro ⟨c2, e⟩ ⟨hc, -⟩
 simp only at hc ⊢
 have r2 := Za9 hc hm hk
 refine Ok.bind.2 (Ok.mono (Zay r2) fun p0 hp0 => Ok.bind.2 (Ok.mono (s_fRun r2 hp0) ?_))
 rintro ⟨y, w⟩ ⟨hy, hact, -⟩
 simp only at hy hact ⊢
 refine Ok.bind.2 (Ok.mono (Za1 r2 hy.ok.lr hy.ok.res) ?_)
 rintro _ rfl
 simp only
 have hAll := hy.flow r2 hact
 refine s_cut hm hk hll (hy.pre r2) fun _ => ⟨fun v hv hS hT => ?_, fun S T hS hT => hy.far r2 hS hT⟩
 rcases hAll.2 v (by omega) with h | h
 · exact h
 ·
  simp only [List.mem_cons, List.not_mem_nil, or_false] at h
  rcases h with h | h
  · exact absurd h hS
  · exact absurd h hT
end Go.Acq
