/- Plain law: FlowSends. -/
import Derived.Test.YtcdbemdogkmahaaAcqL06
import Derived.Test.YtcdbemdogkmahaaAcqMLFlowSends
namespace Go.Acq
open Go
set_option linter.unusedSimpArgs false
/-- a row of bytes that comes in -/
structure ByteRow (l : List Int) : Prop where
  row : ∀ x, x ∈ l → u8ok x
  len : l.length ≤ 9223372036854775807
theorem getD_app {α : Type} {xs : List α} {y d : α} {i : Nat} (h : i < xs.length) : (xs ++ [y]).getD i d = xs.getD i d := by
  rw [List.getD_eq_getElem?_getD, List.getElem?_append_left h, List.getD_eq_getElem?_getD]
theorem getD_last {α : Type} {xs : List α} {y d : α} {i : Nat} (h : i = xs.length) : (xs ++ [y]).getD i d = y := by
  subst h
  rw [List.getD_eq_getElem?_getD, List.getElem?_append_right (Nat.le_refl _)]; simp
/-- a way from v to w -/
structure PathP (n : Net) (v : Int) (l : List Hop) (w : Int) : Prop where
  way : WayK n l l.length
  start : 0 < l.length → hfr n (l.getD 0 default) = v
  fin : w = if l.length = 0 then v else hto n (l.getD (l.length - 1) default)
theorem PathP.nil (n : Net) (v : Int) : PathP n v [] v := ⟨⟨fun i h => by simp at h, fun i h => by simp at h⟩, fun h => by simp at h, rfl⟩
theorem PathP.app {n : Net} {v w : Int} {l : List Hop} (h : PathP n v l w) {p : Hop} (hp : hok n p) (hw : hfr n p = w) : PathP n v (l ++ [p]) (hto n p) := by
  refine ⟨⟨fun i hi => ?_, fun i hi => ?_⟩, fun _ => ?_, ?_⟩
  · rw [List.length_append, List.length_singleton] at hi
    rcases Nat.lt_or_ge i l.length with h1 | h1
    · rw [getD_app h1]; exact h.way.1 i h1
    · rw [getD_last (by omega)]; exact hp
  · rw [List.length_append, List.length_singleton] at hi
    rcases Nat.lt_or_ge (i + 1) l.length with h1 | h1
    · rw [getD_app h1, getD_app (by omega)]; exact h.way.2 i h1
    · rw [getD_last (by omega), getD_app (by omega), hw, h.fin, if_neg (by omega), show l.length - 1 = i by omega]
  · rcases Nat.lt_or_ge 0 l.length with h1 | h1
    · rw [getD_app h1]; exact h.start h1
    · rw [getD_last (by omega), hw, h.fin, if_pos (by omega)]
  · rw [List.length_append, List.length_singleton, if_neg (by omega), Nat.add_sub_cancel, getD_last rfl]
theorem s_hops {n : Net} {m : Nat} {v : Int} {l : List Int} (he : endsOK m n.Arcs) (hn : n.Arcs.length ≤ 4096) (hv : 0 ≤ v ∧ v < m) (hl : l.length ≤ 30) (hb : ∀ x, x ∈ l → u8ok x) :
    Ok (m_acequialaw03_hops n v l) (fun r => PathP n v r.1 r.2 ∧ r.1.length ≤ 30 ∧ 0 ≤ r.2 ∧ r.2 < m) := by
  unfold m_acequialaw03_hops
  refine Ok.bind.2 (Ok.lp (fun s => ∃ k : Nat, s.2.2 = k ∧ k ≤ l.length ∧ PathP n v s.2.1 s.1 ∧ s.2.1.length ≤ k ∧ 0 ≤ s.1 ∧ s.1 < m) (fun s => (l.length - s.2.2).toNat) ⟨0, rfl, by omega, PathP.nil n v, by simp, hv.1, hv.2⟩ (by unfold FUEL; simp only; omega) ?_)
  rintro ⟨u, out, x⟩ ⟨k, h1, hk, hp, hol, hu0, hu1⟩ P next exit
  simp only at h1 hp hol hu0 hu1 next ⊢
  subst h1
  unfold m_acequialaw03_hops_s1
  have done : P (.inr (u, out)) := exit _ (by unfold m_acequialaw03_hops_j6; exact Ok.some.2 ⟨hp, by simp only; omega, hu0, hu1⟩)
  refine Ok.ite.2 ⟨fun hx => Ok.gd.2 ⟨(by (first | omega | (constructor <;> omega) | (simp only [List.length_set, List.length_replicate]; omega) | (simp only [List.length_set, List.length_replicate]; constructor <;> omega))), Ok.bind.2 ?_⟩, fun hx => Ok.some.2 done⟩
  refine Ok.lp (fun s => ∃ q : Nat, s.2 = q ∧ q ≤ n.Arcs.length ∧ s.1.length ≤ 2 * q ∧ ∀ h, h ∈ s.1 → hok n h ∧ hfr n h = u) (fun s => (n.Arcs.length - s.2).toNat) ⟨0, rfl, by omega, by simp, fun h hh => by cases hh⟩ (by unfold FUEL; simp only; omega) ?_
  rintro ⟨may, y⟩ ⟨q, h1, hq, hml, hmay⟩ P2 next2 exit2
  simp only at h1 hml hmay next2 ⊢
  subst h1
  unfold m_acequialaw03_hops_s2
  refine Ok.ite.2 ⟨fun hy => ?_, fun hy => ?_⟩
  · have j3 : ∀ may' : List Hop, may'.length ≤ 2 * q + 1 → (∀ h, h ∈ may' → hok n h ∧ hfr n h = u) → Ok (m_acequialaw03_hops_j3 n u q may') P2 := by
      intro may' hl' hm'
      unfold m_acequialaw03_hops_j3
      simp only [Int.toNat_natCast]
      refine Ok.ite.2 ⟨fun ht => Ok.gd.2 ⟨?_, Ok.gd.2 ⟨(by (first | omega | (constructor <;> omega) | (simp only [List.length_set, List.length_replicate]; omega) | (simp only [List.length_set, List.length_replicate]; constructor <;> omega))), Ok.some.2 (next2 _ ⟨q + 1, by simp, by omega, by simp only [List.length_append, List.length_singleton]; omega, fun h hh => ?_⟩ (by simp only; omega))⟩⟩, fun _ => Ok.gd.2 ⟨(by (first | omega | (constructor <;> omega) | (simp only [List.length_set, List.length_replicate]; omega) | (simp only [List.length_set, List.length_replicate]; constructor <;> omega))), Ok.some.2 (next2 _ ⟨q + 1, by simp, by omega, by simp only; omega, hm'⟩ (by simp only; omega))⟩⟩
      · rw [List.length_append, List.length_singleton]; constructor <;> omega
      · rcases List.mem_append.1 hh with hh | hh
        · exact hm' h hh
        · rw [List.mem_singleton.1 hh]
          refine ⟨⟨by simp only; omega, by simp only; omega⟩, ?_⟩
          unfold hfr; simp only [if_true, Int.toNat_natCast]; exact ht
    simp only [Int.toNat_natCast]
    refine Ok.gd.2 ⟨(by (first | omega | (constructor <;> omega) | (simp only [List.length_set, List.length_replicate]; omega) | (simp only [List.length_set, List.length_replicate]; constructor <;> omega))), Ok.ite.2 ⟨fun hf => Ok.gd.2 ⟨?_, j3 _ (by rw [List.length_append, List.length_singleton]; omega) fun h hh => ?_⟩, fun _ => j3 _ (by omega) hmay⟩⟩
    · rw [List.length_append, List.length_singleton]; constructor <;> omega
    · rcases List.mem_append.1 hh with hh | hh
      · exact hmay h hh
      · rw [List.mem_singleton.1 hh]
        refine ⟨⟨by simp only; omega, by simp only; omega⟩, ?_⟩
        unfold hfr; simp only [Bool.false_eq_true, if_false, Int.toNat_natCast]; exact hf
  · refine Ok.some.2 (exit2 _ ?_)
    unfold m_acequialaw03_hops_j4
    simp only [Int.toNat_natCast]
    refine Ok.ite.2 ⟨fun _ => Ok.some.2 done, fun hne => ?_⟩
    have hb' := hb _ (getD_mem (show k < l.length by omega) 0)
    have ht := tmod_range (x := l.getD k 0) (n := (may.length : Int)) (by omega) (by omega)
    obtain ⟨p, hpp⟩ : ∃ p : Nat, (l.getD k 0).tmod (may.length : Int) = p := ⟨((l.getD k 0).tmod (may.length : Int)).toNat, by omega⟩
    simp only [hpp, Int.toNat_natCast]
    obtain ⟨hk0, hk1⟩ := hmay _ (getD_mem (show p < may.length by omega) default)
    have hin : (may.getD p default).Arc.toNat < n.Arcs.length := by have := hk0.1; have := hk0.2; omega
    have e0 := he _ hin false
    have e1 := he _ hin true
    simp only [vtx, Bool.false_eq_true, if_false, if_true] at e0 e1
    have j5 : ∀ u' : Int, u' = hto n (may.getD p default) → 0 ≤ u' → u' < m → Ok (m_acequialaw03_hops_j5 k u' (out ++ [may.getD p default])) P := by
      intro u' hu' a b
      unfold m_acequialaw03_hops_j5
      refine Ok.gd.2 ⟨(by (first | omega | (constructor <;> omega) | (simp only [List.length_set, List.length_replicate]; omega) | (simp only [List.length_set, List.length_replicate]; constructor <;> omega))), Ok.some.2 (next _ ⟨k + 1, by simp, by omega, ?_, by simp only [List.length_append, List.length_singleton]; omega, a, b⟩ (by simp only; omega))⟩
      simp only
      rw [hu']; exact hp.app hk0 hk1
    refine Ok.gd.2 ⟨by constructor <;> omega, Ok.gd.2 ⟨(by (first | omega | (constructor <;> omega) | (simp only [List.length_set, List.length_replicate]; omega) | (simp only [List.length_set, List.length_replicate]; constructor <;> omega))), Ok.gd.2 ⟨(by (first | omega | (constructor <;> omega) | (simp only [List.length_set, List.length_replicate]; omega) | (simp only [List.length_set, List.length_replicate]; constructor <;> omega))), Ok.gd.2 ⟨?_, Ok.gd.2 ⟨⟨hk0.1, hk0.2⟩, Ok.ite.2 ⟨fun hB => Ok.gd.2 ⟨⟨hk0.1, hk0.2⟩, j5 _ (by unfold hto; rw [if_pos hB]) e0.1 e0.2⟩, fun hB => j5 _ (by unfold hto; rw [if_neg hB]) e1.1 e1.2⟩⟩⟩⟩⟩⟩
    rw [List.length_append, List.length_singleton]; constructor <;> omega
/-! ### what is sent moves the ends alone -/
def exC (al : List Arc) (c : Nat → Int) (u : Int) : Nat → Int
  | 0 => 0
  | k + 1 => exC al c u k - (if (al.getD k default).fr = u then c k else 0) + (if (al.getD k default).to = u then c k else 0)
theorem ex_sent {al : List Arc} {f g : List Int} {d : Int} {c : Nat → Int} (u : Int) {n : Nat} (h : ∀ i, i < n → g.getD i 0 = f.getD i 0 + d * c i) : ∀ k, k ≤ n → ex al g u k = ex al f u k + d * exC al c u k
  | 0, _ => by simp [ex, exC]
  | k + 1, hk => by
    simp only [ex, exC, ex_sent u h k (by omega), h k (by omega), Int.mul_add, Int.mul_sub]
    split <;> split <;> (try simp only [Int.mul_zero]) <;> omega
def sgn (h : Hop) : Int := if h.Back = true then -1 else 1
theorem exC_succ {al : List Arc} {l : List Hop} {j : Nat} (u : Int) (h0 : 0 ≤ (l.getD j default).Arc) : ∀ K : Nat, exC al (fun i => cntH l i (j + 1)) u K = exC al (fun i => cntH l i j) u K +
    (if (l.getD j default).Arc < K then (if (al.getD (l.getD j default).Arc.toNat default).to = u then sgn (l.getD j default) else 0) - (if (al.getD (l.getD j default).Arc.toNat default).fr = u then sgn (l.getD j default) else 0) else 0)
  | 0 => by
    rw [if_neg (show ¬ (l.getD j default).Arc < ((0 : Nat) : Int) by omega)]; rfl
  | K + 1 => by
    have ih := exC_succ (al := al) u h0 K
    have hc : ∀ i, cntH l i (j + 1) = cntH l i j + (if (l.getD j default).Arc = i then sgn (l.getD j default) else 0) := fun i => rfl
    simp only [exC]
    rw [ih, hc]
    by_cases c : (l.getD j default).Arc = K
    · have e : (l.getD j default).Arc.toNat = K := by omega
      rw [if_neg (show ¬ (l.getD j default).Arc < (K : Int) by omega), if_pos c, if_pos (show (l.getD j default).Arc < ((K + 1 : Nat) : Int) by omega), e]
      by_cases a1 : (al.getD K default).fr = u
      · by_cases a2 : (al.getD K default).to = u
        · simp only [if_pos a1, if_pos a2]; omega
        · simp only [if_pos a1, if_neg a2]; omega
      · by_cases a2 : (al.getD K default).to = u
        · simp only [if_neg a1, if_pos a2]; omega
        · simp only [if_neg a1, if_neg a2]; omega
    · rw [if_neg c]
      by_cases c2 : (l.getD j default).Arc < K
      · rw [if_pos c2, if_pos (show (l.getD j default).Arc < ((K + 1 : Nat) : Int) by omega)]; simp only [Int.add_zero]; omega
      · rw [if_neg c2, if_neg (show ¬ (l.getD j default).Arc < ((K + 1 : Nat) : Int) by omega)]; simp only [Int.add_zero]
def one (a b : Int) : Int := if a = b then 1 else 0
theorem exC_path {n : Net} {v w : Int} {l : List Hop} (h : PathP n v l w) (u : Int) : exC n.Arcs (fun i => cntH l i l.length) u n.Arcs.length = one w u - one v u := by
  have key : ∀ j, j ≤ l.length → exC n.Arcs (fun i => cntH l i j) u n.Arcs.length = one (if j = 0 then v else hto n (l.getD (j - 1) default)) u - one v u := by
    intro j
    induction j with
    | zero =>
      intro _
      have : ∀ K, exC n.Arcs (fun i => cntH l i 0) u K = 0 := by
        intro K
        induction K with
        | zero => rfl
        | succ K ih =>
          simp only [exC]
          rw [ih]
          simp only [cntH, ite_self]; rfl
      rw [this, if_pos rfl]; omega
    | succ j ih =>
      intro hj
      have hk := h.way.1 j (by omega)
      rw [exC_succ u hk.1, ih (by omega), if_pos hk.2, if_neg (show ¬ j + 1 = 0 by omega), Nat.add_sub_cancel]
      have hf : hfr n (l.getD j default) = if j = 0 then v else hto n (l.getD (j - 1) default) := by
        by_cases c : j = 0
        · rw [if_pos c, c]; exact h.start (by omega)
        · rw [if_neg c]
          have := h.way.2 (j - 1) (by omega)
          rw [show j - 1 + 1 = j by omega] at this
          exact this
      rw [← hf]
      unfold one sgn hfr hto
      by_cases hB : (l.getD j default).Back = true
      · simp only [hB, if_true]
        split <;> split <;> split <;> omega
      · simp only [hB, if_false, Bool.false_eq_true]
        split <;> split <;> split <;> omega
  rw [key _ (Nat.le_refl _), h.fin]
/-! ### back -/
def flipH (h : Hop) : Hop := ⟨h.Arc, !h.Back⟩
theorem hfr_flip (n : Net) (h : Hop) : hfr n (flipH h) = hto n h := by
  unfold hfr hto flipH
  cases hB : h.Back <;> simp
theorem hto_flip (n : Net) (h : Hop) : hto n (flipH h) = hfr n h := by
  unfold hfr hto flipH
  cases hB : h.Back <;> simp
def BackIs (l b : List Hop) : Prop := b.length = l.length ∧ ∀ q, q < l.length → b.getD q default = flipH (l.getD (l.length - 1 - q) default)
theorem BackIs.way {n : Net} {l b : List Hop} (h : BackIs l b) (hw : WayK n l l.length) : WayK n b b.length := by
  rw [h.1]
  refine ⟨fun i hi => ?_, fun i hi => ?_⟩
  · rw [h.2 i hi]; exact hw.1 _ (by omega)
  · rw [h.2 i (by omega), h.2 (i + 1) hi, hfr_flip, hto_flip]
    have := hw.2 (l.length - 1 - (i + 1)) (by omega)
    rw [show l.length - 1 - (i + 1) + 1 = l.length - 1 - i by omega] at this
    exact this.symm
theorem BackIs.cnt {l b : List Hop} (h : BackIs l b) (i : Int) : cntH b i b.length = -cntH l i l.length := by
  have key : ∀ q, q ≤ l.length → cntH b i q = cntH l i (l.length - q) - cntH l i l.length := by
    intro q
    induction q with
    | zero => intro _; simp only [cntH, Nat.sub_zero]; omega
    | succ q ih =>
      intro hq
      have e : l.length - q = (l.length - 1 - q) + 1 := by omega
      have ih := ih (by omega)
      rw [e] at ih
      simp only [cntH] at ih ⊢
      rw [ih, h.2 q (by omega), show l.length - (q + 1) = l.length - 1 - q by omega]
      simp only [flipH]
      by_cases c : (l.getD (l.length - 1 - q) default).Arc = i
      · by_cases hB : (l.getD (l.length - 1 - q) default).Back = true
        · simp only [c, hB, if_true, Bool.not_true, Bool.false_eq_true, if_false]; omega
        · simp only [c, if_true, Bool.eq_false_iff.2 hB, Bool.not_false, Bool.false_eq_true, if_false]; omega
      · simp only [c, if_false]; omega
  rw [h.1, key _ (Nat.le_refl _), Nat.sub_self]
  simp only [cntH]; omega
theorem p_FlowSends {n : Net} {l : List Int} {a : Int} {mv : List Int} {d : Int} (hn : NetIn n) (hl : RowIn l) (ha : u8ok a) (hmv : ByteRow mv) (hd : u64ok d) : m_acequialaw03_FlowSends n l a mv d = some true := by
  refine ok_eq ?_
  unfold m_acequialaw03_FlowSends
  refine Ok.bind.2 (Ok.mono (s_Some hn (by omega) (by omega) (by omega) (by omega)) fun r hr => ?_)
  obtain ⟨m, hm, hso⟩ := hr.nat
  have hlen := hr.arcs
  have hv := hr.verts
  have hends := hr.ends
  have hcaps := Made.caps hso
  have he : endsOK m r.Arcs := endsOK_of (by rw [← hm]; exact (checkE_zero hr.check).2.2.2.1)
  have hcap : ∀ i, i < r.Arcs.length → (r.Arcs.getD i default).cap ≤ 4611686018427387904 := fun i hi => by have := hcaps i hi; omega
  have hll : lenok r.Arcs.length := by omega
  refine Ok.bind.2 (Ok.mono (s_Within (by omega) (fun i hi => (hcaps i hi).1) hl) fun f hf => ?_)
  have hw : FwithinP r f := ⟨hr.check, hf.1, fun i hi => ⟨(hf.2.1 i hi).1, (hf.2.1 i hi).2.1⟩⟩
  have hfl := hw.2.1
  have hml := hmv.len
  have hvr := tmod_range (x := a) (n := r.N) (by omega) (by omega)
  obtain ⟨v, hvv⟩ : ∃ v : Nat, a.tmod r.N = v := ⟨(a.tmod r.N).toNat, by omega⟩
  simp only [hvv, Int.toNat_natCast]
  rw [hvv] at hvr
  refine Ok.gd.2 ⟨(by (first | omega | (constructor <;> omega) | (simp only [List.length_set, List.length_replicate]; omega) | (simp only [List.length_set, List.length_replicate]; constructor <;> omega))), Ok.gd.2 ⟨(by (first | omega | (constructor <;> omega) | (simp only [List.length_set, List.length_replicate]; omega) | (simp only [List.length_set, List.length_replicate]; constructor <;> omega))), Ok.gd.2 ⟨(by (first | omega | (constructor <;> omega) | (simp only [List.length_set, List.length_replicate]; omega) | (simp only [List.length_set, List.length_replicate]; constructor <;> omega))), Ok.bind.2 (Ok.mono (s_hops (m := m) he (by omega) (by omega) (by rw [List.length_take]; omega) (fun x hx => hmv.row x (List.mem_of_mem_take hx))) ?_)⟩⟩⟩
  rintro ⟨way, w⟩ ⟨hp, hwl, hw0, hw1⟩
  simp only at hp hwl hw0 hw1 ⊢
  obtain ⟨w, rfl⟩ : ∃ w' : Nat, w = w' := ⟨w.toNat, by omega⟩
  simp only [Int.toNat_natCast]
  refine Ok.bind.2 (Ok.mono (s_Room hll (by omega) hcap) ?_)
  rintro ⟨R, e⟩ (⟨-, -, h0, hR⟩ | ⟨-, h, -⟩ | ⟨h, -⟩)
  rotate_left
  · exact absurd hp.way h
  · exact absurd hw h
  simp only at h0 hR
  subst h0
  obtain ⟨R0, R1, hRfit⟩ := hR
  have hkr := tmod_range (x := d) (n := R + 1) (by omega) (by omega)
  obtain ⟨k, hk⟩ : ∃ k, d.tmod (R + 1) = k := ⟨_, rfl⟩
  rw [hk] at hkr
  simp only [hk]
  rw [if_neg (by simp), if_neg (by omega), if_neg (by omega)]
  refine Ok.gd.2 ⟨(by (first | omega | (constructor <;> omega) | (simp only [List.length_set, List.length_replicate]; omega) | (simp only [List.length_set, List.length_replicate]; constructor <;> omega))), Ok.gd.2 ⟨(by (first | omega | (constructor <;> omega) | (simp only [List.length_set, List.length_replicate]; omega) | (simp only [List.length_set, List.length_replicate]; constructor <;> omega))), Ok.gd.2 ⟨(by (first | omega | (constructor <;> omega) | (simp only [List.length_set, List.length_replicate]; omega) | (simp only [List.length_set, List.length_replicate]; constructor <;> omega))), Ok.gd.2 ⟨(by (first | omega | (constructor <;> omega) | (simp only [List.length_set, List.length_replicate]; omega) | (simp only [List.length_set, List.length_replicate]; constructor <;> omega))), Ok.bind.2 (Ok.mono (s_Send hll (by omega) hcap) ?_)⟩⟩⟩⟩
  have same : ∀ R', RoomP r f way R' → R' = R := fun R' h => by
    have h1 := (h.2.2 R' h.1 h.2.1).1 (Int.le_refl _)
    have h2 := (hRfit R' h.1 h.2.1).2 h1
    have h3 := (hRfit R R0 R1).1 (Int.le_refl _)
    have h4 := (h.2.2 R R0 R1).2 h3
    omega
  rintro ⟨g, e⟩ (⟨R', -, -, hR', hcase⟩ | ⟨-, h, -⟩ | ⟨h, -⟩)
  rotate_left
  · exact absurd hp.way h
  · exact absurd hw h
  rw [same R' hR'] at hcase
  rcases hcase with ⟨-, -, h0, hg⟩ | ⟨h, -⟩
  rotate_left
  · exact absurd ⟨hkr.1, by omega⟩ h
  simp only at h0 hg
  subst h0
  refine Ok.gd.2 ⟨(by (first | omega | (constructor <;> omega) | (simp only [List.length_set, List.length_replicate]; omega) | (simp only [List.length_set, List.length_replicate]; constructor <;> omega))), Ok.bind.2 (Ok.mono (s_Send hll (by omega) hcap) ?_)⟩
  rintro ⟨g2, e2⟩ (⟨R2, -, -, hR2, hcase⟩ | ⟨-, h, -⟩ | ⟨h, -⟩)
  rotate_left
  · exact absurd hp.way h
  · exact absurd hw h
  rw [same R2 hR2] at hcase
  rcases hcase with ⟨-, h, -⟩ | ⟨-, h2⟩
  · omega
  injection h2 with h3 h4
  subst h4
  refine Ok.bind.2 (Ok.mono (s_Send hll (by omega) hcap) ?_)
  rintro ⟨g3, e3⟩ (⟨R3, -, -, hR3, hcase⟩ | ⟨-, h, -⟩ | ⟨h, -⟩)
  rotate_left
  · exact absurd hp.way h
  · exact absurd hw h
  rcases hcase with ⟨h, -⟩ | ⟨-, h2⟩
  · omega
  injection h2 with h5 h6
  subst h6
  simp only
  rw [if_neg (by simp), if_neg (by simp), if_neg (by simp)]
  have hfit := (hRfit k hkr.1 (by omega)).1 (by omega)
  have wg : FwithinP r g := ⟨hr.check, hg.1, fun i hi => by rw [hg.2 i hi]; exact hfit i hi⟩
  refine Ok.bind.2 (Ok.mono (s_FWithin hll) fun b hb => ?_)
  rw [hb.2 wg, if_neg (by simp)]
  refine Ok.bind.2 (Ok.mono (s_Excess hll) ?_)
  rintro ⟨xf, e⟩ (⟨-, a0, a1, a2⟩ | ⟨h, -⟩)
  rotate_left
  · exact absurd hw h
  refine Ok.bind.2 (Ok.mono (s_Excess hll) ?_)
  rintro ⟨xg, e⟩ (⟨-, b0, b1, b2⟩ | ⟨h, -⟩)
  rotate_left
  · exact absurd wg h
  simp only at a0 a1 a2 b0 b1 b2 ⊢
  rw [hm, Int.toNat_natCast] at a1 a2 b1 b2
  have hmove : ∀ u : Nat, u < m → xg.getD u 0 = xf.getD u 0 + k * (one w u - one v u) := fun u hu => by
    rw [a2 u hu, b2 u hu, ex_sent (c := fun i => cntH way i way.length) u hg.2 _ (Nat.le_refl _), exC_path hp]
  have hbf : ∀ u : Nat, -4611686018427387904 ≤ ex r.Arcs f u r.Arcs.length ∧ ex r.Arcs f u r.Arcs.length ≤ 4611686018427387904 := fun u => by
    have := ex_le (al := r.Arcs) (f := f) (u : Int) (fun i hi => (hw.2.2 i hi).1) r.Arcs.length (Nat.le_refl _)
    have := hw.tot r.Arcs.length (Nat.le_refl _)
    omega
  have hvm : v < m := by omega
  have hwm : w < m := by omega
  have bv := hbf v
  have bw := hbf w
  rw [← a2 v hvm] at bv
  rw [← a2 w hwm] at bw
  refine Ok.ite.2 ⟨fun h => by omega, fun _ => Ok.ite.2 ⟨fun h => by omega, fun _ => ?_⟩⟩
  simp only [List.length_set]
  have hrow : (xf.set v (xf.getD v 0 - k)).set w ((xf.set v (xf.getD v 0 - k)).getD w 0 + k) = xg := by
    refine eq_of_getD 0 (by simp [a1, b1]) fun u hu => ?_
    simp only [List.length_set] at hu
    rw [lset, lset, lset, hmove u (by omega), List.length_set]
    unfold one
    by_cases c1 : w = u
    · subst c1
      rw [if_pos ⟨rfl, by omega⟩, if_pos rfl]
      by_cases c2 : v = w
      · rw [if_pos ⟨c2, by omega⟩, if_pos (by omega), c2]; omega
      · rw [if_neg (fun h => c2 h.1), if_neg (by omega)]; omega
    · rw [if_neg (fun h => c1 h.1), if_neg (show ¬ (w : Int) = u by omega)]
      by_cases c2 : v = u
      · rw [if_pos ⟨c2, by omega⟩, if_pos (by omega), c2]; omega
      · rw [if_neg (fun h => c2 h.1), if_neg (by omega)]; omega
  refine Ok.gd.2 ⟨(by (first | omega | (constructor <;> omega) | (simp only [List.length_set, List.length_replicate]; omega) | (simp only [List.length_set, List.length_replicate]; constructor <;> omega))), Ok.gd.2 ⟨(by (first | omega | (constructor <;> omega) | (simp only [List.length_set, List.length_replicate]; omega) | (simp only [List.length_set, List.length_replicate]; constructor <;> omega))), Ok.gd.2 ⟨(by (first | omega | (constructor <;> omega) | (simp only [List.length_set, List.length_replicate]; omega) | (simp only [List.length_set, List.length_replicate]; constructor <;> omega))), Ok.gd.2 ⟨(by (first | omega | (constructor <;> omega) | (simp only [List.length_set, List.length_replicate]; omega) | (simp only [List.length_set, List.length_replicate]; constructor <;> omega))), Ok.gd.2 ⟨?_, Ok.gd.2 ⟨(by (first | omega | (constructor <;> omega) | (simp only [List.length_set, List.length_replicate]; omega) | (simp only [List.length_set, List.length_replicate]; constructor <;> omega))), Ok.gd.2 ⟨(by (first | omega | (constructor <;> omega) | (simp only [List.length_set, List.length_replicate]; omega) | (simp only [List.length_set, List.length_replicate]; constructor <;> omega))), Ok.bind.2 ?_⟩⟩⟩⟩⟩⟩⟩
  · have bg := ex_le (al := r.Arcs) (f := g) (w : Int) (fun i hi => (wg.2.2 i hi).1) r.Arcs.length (Nat.le_refl _)
    have tg := wg.tot r.Arcs.length (Nat.le_refl _)
    have mv := hmove w hwm
    rw [b2 w hwm] at mv
    unfold one at mv
    rw [if_pos rfl] at mv
    rw [lset]
    by_cases c : v = w
    · rw [if_pos ⟨c, by omega⟩, c]; constructor <;> omega
    · rw [if_neg (show ¬ (v : Int) = w by omega)] at mv
      rw [if_neg (fun h => c h.1)]; constructor <;> omega
  refine Ok.lp (fun s => ∃ q : Nat, s.2 = (way.length : Int) - 1 - q ∧ q ≤ way.length ∧ s.1.length = q ∧ ∀ j, j < q → s.1.getD j default = flipH (way.getD (way.length - 1 - j) default)) (fun s => (s.2 + 1).toNat) ⟨0, by simp, by omega, rfl, fun j hj => by omega⟩ (by unfold FUEL; simp only; omega) ?_
  rintro ⟨back, x⟩ ⟨q, h1, hq, hbl, hbk⟩ P next exit
  simp only at h1 hbl hbk next ⊢
  unfold m_acequialaw03_FlowSends_s1
  refine Ok.ite.2 ⟨fun hx => ?_, fun hx => Ok.some.2 (exit _ ?_)⟩
  · have e : x.toNat = way.length - 1 - q := by omega
    refine Ok.gd.2 ⟨(by (first | omega | (constructor <;> omega) | (simp only [List.length_set, List.length_replicate]; omega) | (simp only [List.length_set, List.length_replicate]; constructor <;> omega))), Ok.gd.2 ⟨(by (first | omega | (constructor <;> omega) | (simp only [List.length_set, List.length_replicate]; omega) | (simp only [List.length_set, List.length_replicate]; constructor <;> omega))), Ok.gd.2 ⟨?_, Ok.gd.2 ⟨(by (first | omega | (constructor <;> omega) | (simp only [List.length_set, List.length_replicate]; omega) | (simp only [List.length_set, List.length_replicate]; constructor <;> omega))), Ok.some.2 (next _ ⟨q + 1, by simp only; omega, by omega, by simp [hbl], fun j hj => ?_⟩ (by simp only; omega))⟩⟩⟩⟩
    · rw [List.length_append, List.length_singleton]; constructor <;> omega
    · simp only
      rcases Nat.lt_or_ge j q with h | h
      · rw [getD_app (by omega)]; exact hbk j h
      · obtain rfl : j = q := by omega
        rw [getD_last (by omega), e]; rfl
  · obtain rfl : q = way.length := by omega
    have hB : BackIs way back := ⟨hbl, hbk⟩
    unfold m_acequialaw03_FlowSends_j2
    simp only [hvv, hk, Int.toNat_natCast, hrow]
    refine Ok.bind.2 (Ok.mono (s_Send hll (by omega) hcap) ?_)
    have hbfit : ∀ i : Nat, i < r.Arcs.length → fits r g i (cntH back i back.length) k := fun i hi => by
      unfold fits
      rw [hB.cnt, hg.2 i hi, Int.mul_neg]
      have := hw.2.2 i hi
      omega
    rintro ⟨z, e⟩ (⟨R4, -, -, hR4, hcase⟩ | ⟨-, h, -⟩ | ⟨h, -⟩)
    rotate_left
    · exact absurd (hB.way hp.way) h
    · exact absurd wg h
    have hk4 : k ≤ R4 := (hR4.2.2 k hkr.1 (by omega)).2 hbfit
    rcases hcase with ⟨-, -, h0, hz⟩ | ⟨h, -⟩
    rotate_left
    · exact absurd ⟨hkr.1, hk4⟩ h
    simp only at h0 hz ⊢
    subst h0
    have hzf : z = f := eq_of_getD 0 (by rw [hz.1, hfl]) fun i hi => by
      rw [hz.1] at hi
      rw [hz.2 i hi, hB.cnt, hg.2 i hi, Int.mul_neg]; omega
    refine Ok.bind.2 (ok_of (s_Longs (by omega)) ?_)
    rw [if_pos (by simp), if_pos rfl]
    refine Ok.bind.2 (ok_of (s_Longs (by rw [hz.1]; omega)) ?_)
    rw [if_pos (by simp [hzf])]
    exact Ok.bind.2 (ok_of p_awake03 (Ok.some.2 rfl))
end Go.Acq
