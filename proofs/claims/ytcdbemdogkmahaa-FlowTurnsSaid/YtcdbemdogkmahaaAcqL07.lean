/- Plain law: ways that are hopped by numbers; what is sent moves the ends alone; ways back. -/
import Derived.Test.YtcdbemdogkmahaaAcqL06
namespace Go.Acq
open Go
set_option linter.unusedSimpArgs false
/-- a row of bytes that comes in -/
structure ByteRow (l : List Int) : Prop where
  row : ∀ x, x ∈ l → u8ok x
  len : l.length ≤ 9223372036854775807
theorem getD_app {α : Type} {xs : List α} {y d : α} {i : Nat} (h : i < xs.length) : (xs ++ [y]).getD i d = xs.getD i d := by
  rw [List.getD_eq_getElem?_getD, List.getElem?_append_left h, List.getD_eq_getElem?_getD]
theorem getD_last {α : Type} {xs : List α} {y d : α} {i : Nat} (h : i = xs.length) : (xs ++ [y]).getD i d = y := by
  subst h
  rw [List.getD_eq_getElem?_getD, List.getElem?_append_right (Nat.le_refl _)]; simp
/-- a way from v to w -/
structure PathP (n : Net) (v : Int) (l : List Hop) (w : Int) : Prop where
  way : WayK n l l.length
  start : 0 < l.length → hfr n (l.getD 0 default) = v
  fin : w = if l.length = 0 then v else hto n (l.getD (l.length - 1) default)
theorem PathP.nil (n : Net) (v : Int) : PathP n v [] v := ⟨⟨fun i h => by simp at h, fun i h => by simp at h⟩, fun h => by simp at h, rfl⟩
theorem PathP.app {n : Net} {v w : Int} {l : List Hop} (h : PathP n v l w) {p : Hop} (hp : hok n p) (hw : hfr n p = w) : PathP n v (l ++ [p]) (hto n p) := by
  refine ⟨⟨fun i hi => ?_, fun i hi => ?_⟩, fun _ => ?_, ?_⟩
  · rw [List.length_append, List.length_singleton] at hi
    rcases Nat.lt_or_ge i l.length with h1 | h1
    · rw [getD_app h1]; exact h.way.1 i h1
    · rw [getD_last (by omega)]; exact hp
  · rw [List.length_append, List.length_singleton] at hi
    rcases Nat.lt_or_ge (i + 1) l.length with h1 | h1
    · rw [getD_app h1, getD_app (by omega)]; exact h.way.2 i h1
    · rw [getD_last (by omega), getD_app (by omega), hw, h.fin, if_neg (by omega), show l.length - 1 = i by omega]
  · rcases Nat.lt_or_ge 0 l.length with h1 | h1
    · rw [getD_app h1]; exact h.start h1
    · rw [getD_last (by omega), hw, h.fin, if_pos (by omega)]
  · rw [List.length_append, List.length_singleton, if_neg (by omega), Nat.add_sub_cancel, getD_last rfl]
theorem s_hops {n : Net} {m : Nat} {v : Int} {l : List Int} (he : endsOK m n.Arcs) (hn : n.Arcs.length ≤ 4096) (hv : 0 ≤ v ∧ v < m) (hl : l.length ≤ 30) (hb : ∀ x, x ∈ l → u8ok x) :
    Ok (m_acequialaw03_hops n v l) (fun r => PathP n v r.1 r.2 ∧ r.1.length ≤ 30 ∧ 0 ≤ r.2 ∧ r.2 < m) := by
  unfold m_acequialaw03_hops
  refine Ok.bind.2 (Ok.lp (fun s => ∃ k : Nat, s.2.2 = k ∧ k ≤ l.length ∧ PathP n v s.2.1 s.1 ∧ s.2.1.length ≤ k ∧ 0 ≤ s.1 ∧ s.1 < m) (fun s => (l.length - s.2.2).toNat) ⟨0, rfl, by omega, PathP.nil n v, by simp, hv.1, hv.2⟩ (by unfold FUEL; simp only; omega) ?_)
  rintro ⟨u, out, x⟩ ⟨k, h1, hk, hp, hol, hu0, hu1⟩ P next exit
  simp only at h1 hp hol hu0 hu1 next ⊢
  subst h1
  unfold m_acequialaw03_hops_s1
  have done : P (.inr (u, out)) := exit _ (by unfold m_acequialaw03_hops_j6; exact Ok.some.2 ⟨hp, by simp only; omega, hu0, hu1⟩)
  refine Ok.ite.2 ⟨fun hx => Ok.gd.2 ⟨(by (first | omega | (constructor <;> omega) | (simp only [List.length_set, List.length_replicate]; omega) | (simp only [List.length_set, List.length_replicate]; constructor <;> omega))), Ok.bind.2 ?_⟩, fun hx => Ok.some.2 done⟩
  refine Ok.lp (fun s => ∃ q : Nat, s.2 = q ∧ q ≤ n.Arcs.length ∧ s.1.length ≤ 2 * q ∧ ∀ h, h ∈ s.1 → hok n h ∧ hfr n h = u) (fun s => (n.Arcs.length - s.2).toNat) ⟨0, rfl, by omega, by simp, fun h hh => by cases hh⟩ (by unfold FUEL; simp only; omega) ?_
  rintro ⟨may, y⟩ ⟨q, h1, hq, hml, hmay⟩ P2 next2 exit2
  simp only at h1 hml hmay next2 ⊢
  subst h1
  unfold m_acequialaw03_hops_s2
  refine Ok.ite.2 ⟨fun hy => ?_, fun hy => ?_⟩
  · have j3 : ∀ may' : List Hop, may'.length ≤ 2 * q + 1 → (∀ h, h ∈ may' → hok n h ∧ hfr n h = u) → Ok (m_acequialaw03_hops_j3 n u q may') P2 := by
      intro may' hl' hm'
      unfold m_acequialaw03_hops_j3
      simp only [Int.toNat_natCast]
      refine Ok.ite.2 ⟨fun ht => Ok.gd.2 ⟨?_, Ok.gd.2 ⟨(by (first | omega | (constructor <;> omega) | (simp only [List.length_set, List.length_replicate]; omega) | (simp only [List.length_set, List.length_replicate]; constructor <;> omega))), Ok.some.2 (next2 _ ⟨q + 1, by simp, by omega, by simp only [List.length_append, List.length_singleton]; omega, fun h hh => ?_⟩ (by simp only; omega))⟩⟩, fun _ => Ok.gd.2 ⟨(by (first | omega | (constructor <;> omega) | (simp only [List.length_set, List.length_replicate]; omega) | (simp only [List.length_set, List.length_replicate]; constructor <;> omega))), Ok.some.2 (next2 _ ⟨q + 1, by simp, by omega, by simp only; omega, hm'⟩ (by simp only; omega))⟩⟩
      · rw [List.length_append, List.length_singleton]; constructor <;> omega
      · rcases List.mem_append.1 hh with hh | hh
        · exact hm' h hh
        · rw [List.mem_singleton.1 hh]
          refine ⟨⟨by simp only; omega, by simp only; omega⟩, ?_⟩
          unfold hfr; simp only [if_true, Int.toNat_natCast]; exact ht
    simp only [Int.toNat_natCast]
    refine Ok.gd.2 ⟨(by (first | omega | (constructor <;> omega) | (simp only [List.length_set, List.length_replicate]; omega) | (simp only [List.length_set, List.length_replicate]; constructor <;> omega))), Ok.ite.2 ⟨fun hf => Ok.gd.2 ⟨?_, j3 _ (by rw [List.length_append, List.length_singleton]; omega) fun h hh => ?_⟩, fun _ => j3 _ (by omega) hmay⟩⟩
    · rw [List.length_append, List.length_singleton]; constructor <;> omega
    · rcases List.mem_append.1 hh with hh | hh
      · exact hmay h hh
      · rw [List.mem_singleton.1 hh]
        refine ⟨⟨by simp only; omega, by simp only; omega⟩, ?_⟩
        unfold hfr; simp only [Bool.false_eq_true, if_false, Int.toNat_natCast]; exact hf
  · refine Ok.some.2 (exit2 _ ?_)
    unfold m_acequialaw03_hops_j4
    simp only [Int.toNat_natCast]
    refine Ok.ite.2 ⟨fun _ => Ok.some.2 done, fun hne => ?_⟩
    have hb' := hb _ (getD_mem (show k < l.length by omega) 0)
    have ht := tmod_range (x := l.getD k 0) (n := (may.length : Int)) (by omega) (by omega)
    obtain ⟨p, hpp⟩ : ∃ p : Nat, (l.getD k 0).tmod (may.length : Int) = p := ⟨((l.getD k 0).tmod (may.length : Int)).toNat, by omega⟩
    simp only [hpp, Int.toNat_natCast]
    obtain ⟨hk0, hk1⟩ := hmay _ (getD_mem (show p < may.length by omega) default)
    have hin : (may.getD p default).Arc.toNat < n.Arcs.length := by have := hk0.1; have := hk0.2; omega
    have e0 := he _ hin false
    have e1 := he _ hin true
    simp only [vtx, Bool.false_eq_true, if_false, if_true] at e0 e1
    have j5 : ∀ u' : Int, u' = hto n (may.getD p default) → 0 ≤ u' → u' < m → Ok (m_acequialaw03_hops_j5 k u' (out ++ [may.getD p default])) P := by
      intro u' hu' a b
      unfold m_acequialaw03_hops_j5
      refine Ok.gd.2 ⟨(by (first | omega | (constructor <;> omega) | (simp only [List.length_set, List.length_replicate]; omega) | (simp only [List.length_set, List.length_replicate]; constructor <;> omega))), Ok.some.2 (next _ ⟨k + 1, by simp, by omega, ?_, by simp only [List.length_append, List.length_singleton]; omega, a, b⟩ (by simp only; omega))⟩
      simp only
      rw [hu']; exact hp.app hk0 hk1
    refine Ok.gd.2 ⟨by constructor <;> omega, Ok.gd.2 ⟨(by (first | omega | (constructor <;> omega) | (simp only [List.length_set, List.length_replicate]; omega) | (simp only [List.length_set, List.length_replicate]; constructor <;> omega))), Ok.gd.2 ⟨(by (first | omega | (constructor <;> omega) | (simp only [List.length_set, List.length_replicate]; omega) | (simp only [List.length_set, List.length_replicate]; constructor <;> omega))), Ok.gd.2 ⟨?_, Ok.gd.2 ⟨⟨hk0.1, hk0.2⟩, Ok.ite.2 ⟨fun hB => Ok.gd.2 ⟨⟨hk0.1, hk0.2⟩, j5 _ (by unfold hto; rw [if_pos hB]) e0.1 e0.2⟩, fun hB => j5 _ (by unfold hto; rw [if_neg hB]) e1.1 e1.2⟩⟩⟩⟩⟩⟩
    rw [List.length_append, List.length_singleton]; constructor <;> omega
/-! ### what is sent moves the ends alone -/
def exC (al : List Arc) (c : Nat → Int) (u : Int) : Nat → Int
  | 0 => 0
  | k + 1 => exC al c u k - (if (al.getD k default).fr = u then c k else 0) + (if (al.getD k default).to = u then c k else 0)
theorem ex_sent {al : List Arc} {f g : List Int} {d : Int} {c : Nat → Int} (u : Int) {n : Nat} (h : ∀ i, i < n → g.getD i 0 = f.getD i 0 + d * c i) : ∀ k, k ≤ n → ex al g u k = ex al f u k + d * exC al c u k
  | 0, _ => by simp [ex, exC]
  | k + 1, hk => by
    simp only [ex, exC, ex_sent u h k (by omega), h k (by omega), Int.mul_add, Int.mul_sub]
    split <;> split <;> (try simp only [Int.mul_zero]) <;> omega
def sgn (h : Hop) : Int := if h.Back = true then -1 else 1
theorem exC_succ {al : List Arc} {l : List Hop} {j : Nat} (u : Int) (h0 : 0 ≤ (l.getD j default).Arc) : ∀ K : Nat, exC al (fun i => cntH l i (j + 1)) u K = exC al (fun i => cntH l i j) u K +
    (if (l.getD j default).Arc < K then (if (al.getD (l.getD j default).Arc.toNat default).to = u then sgn (l.getD j default) else 0) - (if (al.getD (l.getD j default).Arc.toNat default).fr = u then sgn (l.getD j default) else 0) else 0)
  | 0 => by
    rw [if_neg (show ¬ (l.getD j default).Arc < ((0 : Nat) : Int) by omega)]; rfl
  | K + 1 => by
    have ih := exC_succ (al := al) u h0 K
    have hc : ∀ i, cntH l i (j + 1) = cntH l i j + (if (l.getD j default).Arc = i then sgn (l.getD j default) else 0) := fun i => rfl
    simp only [exC]
    rw [ih, hc]
    by_cases c : (l.getD j default).Arc = K
    · have e : (l.getD j default).Arc.toNat = K := by omega
      rw [if_neg (show ¬ (l.getD j default).Arc < (K : Int) by omega), if_pos c, if_pos (show (l.getD j default).Arc < ((K + 1 : Nat) : Int) by omega), e]
      by_cases a1 : (al.getD K default).fr = u
      · by_cases a2 : (al.getD K default).to = u
        · simp only [if_pos a1, if_pos a2]; omega
        · simp only [if_pos a1, if_neg a2]; omega
      · by_cases a2 : (al.getD K default).to = u
        · simp only [if_neg a1, if_pos a2]; omega
        · simp only [if_neg a1, if_neg a2]; omega
    · rw [if_neg c]
      by_cases c2 : (l.getD j default).Arc < K
      · rw [if_pos c2, if_pos (show (l.getD j default).Arc < ((K + 1 : Nat) : Int) by omega)]; simp only [Int.add_zero]; omega
      · rw [if_neg c2, if_neg (show ¬ (l.getD j default).Arc < ((K + 1 : Nat) : Int) by omega)]; simp only [Int.add_zero]
def one (a b : Int) : Int := if a = b then 1 else 0
theorem exC_path {n : Net} {v w : Int} {l : List Hop} (h : PathP n v l w) (u : Int) : exC n.Arcs (fun i => cntH l i l.length) u n.Arcs.length = one w u - one v u := by
  have key : ∀ j, j ≤ l.length → exC n.Arcs (fun i => cntH l i j) u n.Arcs.length = one (if j = 0 then v else hto n (l.getD (j - 1) default)) u - one v u := by
    intro j
    induction j with
    | zero =>
      intro _
      have : ∀ K, exC n.Arcs (fun i => cntH l i 0) u K = 0 := by
        intro K
        induction K with
        | zero => rfl
        | succ K ih =>
          simp only [exC]
          rw [ih]
          simp only [cntH, ite_self]; rfl
      rw [this, if_pos rfl]; omega
    | succ j ih =>
      intro hj
      have hk := h.way.1 j (by omega)
      rw [exC_succ u hk.1, ih (by omega), if_pos hk.2, if_neg (show ¬ j + 1 = 0 by omega), Nat.add_sub_cancel]
      have hf : hfr n (l.getD j default) = if j = 0 then v else hto n (l.getD (j - 1) default) := by
        by_cases c : j = 0
        · rw [if_pos c, c]; exact h.start (by omega)
        · rw [if_neg c]
          have := h.way.2 (j - 1) (by omega)
          rw [show j - 1 + 1 = j by omega] at this
          exact this
      rw [← hf]
      unfold one sgn hfr hto
      by_cases hB : (l.getD j default).Back = true
      · simp only [hB, if_true]
        split <;> split <;> split <;> omega
      · simp only [hB, if_false, Bool.false_eq_true]
        split <;> split <;> split <;> omega
  rw [key _ (Nat.le_refl _), h.fin]
/-! ### back -/
def flipH (h : Hop) : Hop := ⟨h.Arc, !h.Back⟩
theorem hfr_flip (n : Net) (h : Hop) : hfr n (flipH h) = hto n h := by
  unfold hfr hto flipH
  cases hB : h.Back <;> simp
theorem hto_flip (n : Net) (h : Hop) : hto n (flipH h) = hfr n h := by
  unfold hfr hto flipH
  cases hB : h.Back <;> simp
def BackIs (l b : List Hop) : Prop := b.length = l.length ∧ ∀ q, q < l.length → b.getD q default = flipH (l.getD (l.length - 1 - q) default)
theorem BackIs.way {n : Net} {l b : List Hop} (h : BackIs l b) (hw : WayK n l l.length) : WayK n b b.length := by
  rw [h.1]
  refine ⟨fun i hi => ?_, fun i hi => ?_⟩
  · rw [h.2 i hi]; exact hw.1 _ (by omega)
  · rw [h.2 i (by omega), h.2 (i + 1) hi, hfr_flip, hto_flip]
    have := hw.2 (l.length - 1 - (i + 1)) (by omega)
    rw [show l.length - 1 - (i + 1) + 1 = l.length - 1 - i by omega] at this
    exact this.symm
theorem BackIs.cnt {l b : List Hop} (h : BackIs l b) (i : Int) : cntH b i b.length = -cntH l i l.length := by
  have key : ∀ q, q ≤ l.length → cntH b i q = cntH l i (l.length - q) - cntH l i l.length := by
    intro q
    induction q with
    | zero => intro _; simp only [cntH, Nat.sub_zero]; omega
    | succ q ih =>
      intro hq
      have e : l.length - q = (l.length - 1 - q) + 1 := by omega
      have ih := ih (by omega)
      rw [e] at ih
      simp only [cntH] at ih ⊢
      rw [ih, h.2 q (by omega), show l.length - (q + 1) = l.length - 1 - q by omega]
      simp only [flipH]
      by_cases c : (l.getD (l.length - 1 - q) default).Arc = i
      · by_cases hB : (l.getD (l.length - 1 - q) default).Back = true
        · simp only [c, hB, if_true, Bool.not_true, Bool.false_eq_true, if_false]; omega
        · simp only [c, if_true, Bool.eq_false_iff.2 hB, Bool.not_false, Bool.false_eq_true, if_false]; omega
      · simp only [c, if_false]; omega
  rw [h.1, key _ (Nat.le_refl _), Nat.sub_self]
  simp only [cntH]; omega
end Go.Acq
