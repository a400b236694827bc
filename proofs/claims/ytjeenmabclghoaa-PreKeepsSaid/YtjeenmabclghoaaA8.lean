/- Texts of this claim, one behind the other. -/
import Derived.Test.YtjeenmabclghoaaA7
import Derived.Test.YtjeenmabclghoaaA2
namespace Go.Acq
open Go
set_option linter.unusedSimpArgs false
/-! ### loops that choose -/
/-! ### maps -/
theorem getM_putM {α : Type} {z v : α} {k i : Int} : ∀ mp : List (Int × α), getM z i (putM k v mp) = if i = k then v else getM z i mp
  | [] => by simp only [putM, getM]
  | x :: mp => by
    simp only [putM]
    by_cases h : k = x.1
    · rw [if_pos h]; simp only [getM]
      by_cases e : i = k
      · rw [if_pos e, if_pos e]
      · rw [if_neg e, if_neg e, if_neg (by omega)]
    · rw [if_neg h]; simp only [getM]
      by_cases e : i = x.1
      · rw [if_pos e, if_pos e, if_neg (by omega)]
      · rw [if_neg e, if_neg e, getM_putM mp]
theorem putM_mem {α : Type} {v : α} {k : Int} : ∀ {mp : List (Int × α)} {x : Int × α}, x ∈ putM k v mp → x.1 = k ∨ ∃ y, y ∈ mp ∧ y.1 = x.1
  | [], x, h => by simp only [putM, List.mem_singleton] at h; left; rw [h]
  | y :: mp, x, h => by
    simp only [putM] at h
    by_cases e : k = y.1
    · rw [if_pos e] at h
      rcases List.mem_cons.1 h with h | h
      · left; rw [h]
      · exact .inr ⟨x, List.mem_cons_of_mem _ h, rfl⟩
    · rw [if_neg e] at h
      rcases List.mem_cons.1 h with h | h
      · exact .inr ⟨y, List.mem_cons_self, by rw [h]⟩
      · rcases putM_mem h with h | ⟨z, h1, h2⟩
        · exact .inl h
        · exact .inr ⟨z, List.mem_cons_of_mem _ h1, h2⟩
/-- no key is there twice -/
def Apart {α : Type} : List (Int × α) → Prop
  | [] => True
  | x :: mp => (∀ y, y ∈ mp → y.1 ≠ x.1) ∧ Apart mp
theorem Apart.put {α : Type} {v : α} {k : Int} : ∀ {mp : List (Int × α)}, Apart mp → Apart (putM k v mp)
  | [], _ => ⟨fun y h => (by cases h), trivial⟩
  | x :: mp, h => by
    simp only [putM]
    by_cases e : k = x.1
    · rw [if_pos e]; exact ⟨fun y hy => by rw [e]; exact h.1 y hy, h.2⟩
    · rw [if_neg e]
      refine ⟨fun y hy => ?_, Apart.put h.2⟩
      rcases putM_mem hy with h1 | ⟨z, h1, h2⟩
      · rw [h1]; exact e
      · rw [← h2]; exact h.1 z h1
theorem Apart.at {α : Type} {z : α} (d : Int × α) : ∀ {mp : List (Int × α)} {j : Nat}, Apart mp → j < mp.length → getM z (mp.getD j d).1 mp = (mp.getD j d).2
  | [], j, _, h => by simp at h
  | x :: mp, 0, _, _ => by simp [getM]
  | x :: mp, j + 1, h, hj => by
    have hj' : j < mp.length := by simpa using hj
    have hm := h.1 _ (getD_mem hj' d)
    show getM z (mp.getD j d).1 (x :: mp) = (mp.getD j d).2
    simp only [getM]
    rw [if_neg hm]; exact Apart.at d h.2 hj'
/-! ### ways -/
def hfr (n : Net) (h : Hop) : Int := if h.Back = true then (n.Arcs.getD h.Arc.toNat default).to else (n.Arcs.getD h.Arc.toNat default).fr
def hto (n : Net) (h : Hop) : Int := if h.Back = true then (n.Arcs.getD h.Arc.toNat default).fr else (n.Arcs.getD h.Arc.toNat default).to
def hok (n : Net) (h : Hop) : Prop := 0 ≤ h.Arc ∧ h.Arc < n.Arcs.length
/-- the first k hops are a way -/
def WayK (n : Net) (l : List Hop) (k : Nat) : Prop := (∀ i, i < k → hok n (l.getD i default)) ∧ ∀ i, i + 1 < k → hfr n (l.getD (i + 1) default) = hto n (l.getD i default)
/-- how many times more the first k hops hop along an arc than back -/
def cntH (l : List Hop) (i : Int) : Nat → Int
  | 0 => 0
  | k + 1 => cntH l i k + (if (l.getD k default).Arc = i then (if (l.getD k default).Back = true then -1 else 1) else 0)
structure MapIs (n : Net) (mp : List (Int × Int)) (l : List Hop) (k : Nat) : Prop where
  val : ∀ i, getM 0 i mp = cntH l i k
  key : ∀ x, x ∈ mp → 0 ≤ x.1 ∧ x.1 < n.Arcs.length
  apart : Apart mp
theorem MapIs.put {n : Net} {mp : List (Int × Int)} {l : List Hop} {k : Nat} (h : MapIs n mp l k) (hk : hok n (l.getD k default)) {v : Int} (hv : v = cntH l (l.getD k default).Arc k + (if (l.getD k default).Back = true then -1 else 1)) : MapIs n (putM (l.getD k default).Arc v mp) l (k + 1) := by
  refine ⟨fun i => ?_, fun x hx => ?_, h.apart.put⟩
  · rw [getM_putM]
    simp only [cntH]
    by_cases e : i = (l.getD k default).Arc
    · rw [if_pos e, if_pos e.symm, hv, e]
    · rw [if_neg e, if_neg (fun h => e h.symm), h.val, Int.add_zero]
  · rcases putM_mem hx with h1 | ⟨y, h1, h2⟩
    · rw [h1]; exact hk
    · rw [← h2]; exact h.key y h1
end Go.Acq
namespace Go.Acq
open Go
set_option linter.unusedSimpArgs false
/-- so much more, so often, at one arc -/
def fits (n : Net) (f : List Int) (i : Nat) (c d : Int) : Prop := 0 ≤ f.getD i 0 + d * c ∧ f.getD i 0 + d * c ≤ (n.Arcs.getD i default).cap
theorem tdiv_le {a b : Int} (ha : 0 ≤ a) (hb : 0 < b) : 0 ≤ a.tdiv b ∧ a.tdiv b ≤ a := by
  rw [Int.tdiv_eq_ediv_of_nonneg ha]
  exact ⟨Int.ediv_nonneg ha (by omega), Int.ediv_le_self b ha⟩
end Go.Acq
namespace Go.Acq
open Go
set_option linter.unusedSimpArgs false
/-! ### moves, whatever looks at each state -/
def g_Play_j3 (each : Csr → Pre → Pre → Option Bool) (r3 : Csr) (Res97 : List Int) (Ex107 : List Int) (H117 : List Int) (x127 : Int) (Res226 : List Int) (Ex236 : List Int) (H246 : List Int) (f256 : Int) : Option ((List Int × List Int × List Int × Int) ⊕ (Bool ⊕ Unit)) :=
  if f256 ≠ 0 then
  (some (.inr (.inl false)))
  else
  Option.bind (each r3 (Pre.mk Res97 Ex107 H117) (Pre.mk Res226 Ex236 H246)) fun r258 =>
  if (!r258) = true then
  (some (.inr (.inl false)))
  else
  gd (i64ok (x127 + 1)) <|
  some (.inl (Res226, Ex236, H246, (x127 + 1)))
def g_Play_j2 (each : Csr → Pre → Pre → Option Bool) (moves1 : List Int) (r3 : Csr) (Res97 : List Int) (Ex107 : List Int) (H117 : List Int) (x127 : Int) (r130 : List Int) (r131 : List Int) (x156 : Bool) : Option ((List Int × List Int × List Int × Int) ⊕ (Bool ⊕ Unit)) :=
  if x156 = true then
  (gd ((2 : Int) ≠ 0 ∧ i64ok ((moves1.getD x127.toNat 0).tdiv 2)) <|
  gd ((r130.length : Int) ≠ 0) <|
  gd (inb (((moves1.getD x127.toNat 0).tdiv 2).tmod (r130.length : Int)) r130.length) <|
  Option.bind (m_pre_Push r3 (Pre.mk Res97 Ex107 H117) (r130.getD (((moves1.getD x127.toNat 0).tdiv 2).tmod (r130.length : Int)).toNat 0)) fun (r161, r162, r163) =>
  g_Play_j3 each r3 Res97 Ex107 H117 x127 r161.Res r161.Ex r161.H r163)
  else
  if 0 < (r131.length : Int) then
  (gd ((2 : Int) ≠ 0 ∧ i64ok ((moves1.getD x127.toNat 0).tdiv 2)) <|
  gd ((r131.length : Int) ≠ 0) <|
  gd (inb (((moves1.getD x127.toNat 0).tdiv 2).tmod (r131.length : Int)) r131.length) <|
  Option.bind (m_pre_Lift r3 (Pre.mk Res97 Ex107 H117) (r131.getD (((moves1.getD x127.toNat 0).tdiv 2).tmod (r131.length : Int)).toNat 0)) fun (r196, r197) =>
  g_Play_j3 each r3 Res97 Ex107 H117 x127 r196.Res r196.Ex r196.H r197)
  else
  some (.inr (.inl true))
def g_Play_s1 (each : Csr → Pre → Pre → Option Bool) (moves1 : List Int) (r3 : Csr) (Res97 : List Int) (Ex107 : List Int) (H117 : List Int) (x127 : Int) : Option ((List Int × List Int × List Int × Int) ⊕ (Bool ⊕ Unit)) :=
  if x127 < (moves1.length : Int) then
  (gd (inb x127 moves1.length) <|
  Option.bind (m_pre_May r3 (Pre.mk Res97 Ex107 H117)) fun (r130, r131) =>
  gd (i64ok (moves1.getD x127.toNat 0)) <|
  if 0 < (r130.length : Int) then
  (if ((moves1.getD x127.toNat 0).tmod 2) = 0 then
  (g_Play_j2 each moves1 r3 Res97 Ex107 H117 x127 r130 r131 true)
  else
  g_Play_j2 each moves1 r3 Res97 Ex107 H117 x127 r130 r131 (decide ((r131.length : Int) = 0)))
  else
  g_Play_j2 each moves1 r3 Res97 Ex107 H117 x127 r130 r131 false)
  else
  some (.inr (.inr ()))
def g_Play_j4  : Option (Bool) :=
  some true
def g_Play (each : Csr → Pre → Pre → Option Bool) (n0 : Net) (moves1 : List Int) : Option (Bool) :=
  Option.bind (m_csr_Make n0) fun (r3, r4) =>
  if r4 ≠ 0 then
  (some false)
  else
  Option.bind (m_pre_Begin r3) fun r63 =>
  Option.bind (each r3 r63 r63) fun r94 =>
  if (!r94) = true then
  (some false)
  else
  Option.bind (loopM (fun s => g_Play_s1 each moves1 r3 s.1 s.2.1 s.2.2.1 s.2.2.2) FUEL (r63.Res, r63.Ex, r63.H, 0)) fun o => match o with | .inl p1_0_0 => (some p1_0_0) | .inr () => g_Play_j4
section row
variable {n : Net} {m L : Nat} {c : Csr}
theorem ex_zero {al : List Arc} {f : List Int} {v : Int} : ∀ {k : Nat}, (∀ i, i < k → f.getD i 0 = 0) → ex al f v k = 0
  | 0, _ => rfl
  | k + 1, h => by simp only [ex]; rw [ex_zero fun i hi => h i (by omega), h k (by omega)]; simp
/-- the first state -/
theorem s_Begin (r : Row n m L c) : Ok (m_pre_Begin c) (fun p => PreOK n m L c p) := by
  have b := r.bd
  obtain ⟨⟨S, hS, hcS, hSm⟩, ⟨T, hT, hcT, hTm⟩, hne, hN⟩ := r.ends
  obtain ⟨-, -, -, lc, -, -⟩ := r.lens
  have hfl := r.first.2.2.2 S hSm
  unfold m_pre_Begin
  refine Ok.bind.2 (ok_of (s_Clone64 (by omega)) ?_)
  rw [hN, hcS]
  simp only [Int.toNat_natCast]
  obtain ⟨H0, hH0⟩ : ∃ H0, (List.replicate m (0 : Int)).set S m = H0 := ⟨_, rfl⟩
  have hHl : H0.length = m := by rw [← hH0]; simp
  have hHv : ∀ v, H0.getD v 0 = if v = S then (m : Int) else 0 := fun v => by
    rw [← hH0, lset, List.length_replicate, getD_replicate]
    by_cases e : v = S
    · rw [if_pos ⟨e.symm, hSm⟩, if_pos e]
    · rw [if_neg fun h => e h.1.symm, if_neg e]
  rw [hH0]
  unfold m_pre_arcs
  refine Ok.gd.2 ⟨(by (first | omega | (constructor <;> omega) | (simp only [List.length_set, List.length_replicate]; omega) | (simp only [List.length_set, List.length_replicate]; constructor <;> omega))), Ok.gd.2 ⟨(by (first | omega | (constructor <;> omega) | (simp only [List.length_set, List.length_replicate]; omega) | (simp only [List.length_set, List.length_replicate]; constructor <;> omega))), Ok.gd.2 ⟨by rw [List.length_replicate]; constructor <;> omega, Ok.bind.2 (Ok.some.2 (Ok.bind.2 (Ok.mono (s_arcs r hSm
    (fun k s => ResOK n m L c s.1 s.2 ∧ (∀ v, v < m → v ≠ S → 0 ≤ s.2.getD v 0) ∧ ∀ i, fs c S ≤ i → i < k → s.1.getD i 0 = 0) (fun _ => False) ⟨⟨lc, by simp, fun j hj => ?_, fun v hv => ?_⟩, fun v hv _ => by rw [getD_replicate]; exact Int.le_refl _, fun i h1 h2 => by omega⟩ fun j s h1 h2 h3 => ?_) ?_)))⟩⟩⟩
  · have := r.cap hj; exact ⟨this.1, this.2.1⟩
  · rw [getD_replicate, ex_zero fun i hi => ?_]
    rw [flN_getD hi]
    by_cases e : (n.Arcs.getD i default).fr = (n.Arcs.getD i default).to
    · rw [if_pos e]
    · rw [if_neg e, (r.is.ok.hat i hi e true).2.2.1]; rfl
  · obtain ⟨xs, ys⟩ := s
    obtain ⟨g1, g2, g3⟩ := h3
    simp only at g1 g2 g3
    have hjL : j < L := by omega
    have ht := (r.range hjL hSm).1 ⟨h1, h2⟩
    have htl := r.tlh hjL
    have hrv := r.rev hjL
    have hle := g1.rle r hjL
    have hxl := g1.lr
    unfold m_pre_Begin_y1
    rw [hN, hcS]
    simp only [Int.toNat_natCast, hH0]
    refine Ok.gd.2 ⟨(by (first | omega | (constructor <;> omega) | (simp only [List.length_set, List.length_replicate]; omega) | (simp only [List.length_set, List.length_replicate]; constructor <;> omega))), Ok.bind.2 (ok_of (s_move (p := ⟨xs, ys, H0⟩) r g1 hjL hle.1 (Int.le_refl _)) (Ok.some.2 ⟨g1.move r hjL hle.1 (Int.le_refl _), fun v hv hvS => ?_, fun i h4 h5 => ?_⟩))⟩
    · simp only
      rw [mvX_getD r g1.lx hjL, ht, if_neg fun e => hvS e.symm]
      have := g2 v hv hvS
      split <;> omega
    · simp only
      have hiL : i < L := by omega
      have hti := (r.range hiL hSm).1 ⟨h4, by omega⟩
      rw [mvR_getD r hxl hjL, if_neg fun e => by rw [e, htl.2.1] at hti; exact htl.2.2.2 (ht.trans hti.symm)]
      by_cases e : i = j
      · rw [if_pos e]; omega
      · rw [if_neg e]; exact g3 i h4 (by omega)
  · rintro (⟨xs, ys⟩ | x) h
    · obtain ⟨g1, g2, g3⟩ := h
      simp only at g1 g2 g3
      refine Ok.some.2 ⟨g1, fun v hv hvS => g2 v hv (by omega), ⟨hHl, fun s hs => ?_, fun t ht => ?_, fun v hv => ?_⟩, fun j hj h0 => ?_⟩
      · simp only; rw [hHv, if_pos (by omega)]
      · simp only; rw [hHv, if_neg (by omega)]
      · simp only; rw [hHv]; split <;> omega
      · simp only at h0 ⊢
        rw [hHv, hHv]
        by_cases e : tl c j = S
        · have := (r.range hj hSm).2 e
          rw [g3 j this.1 this.2] at h0; omega
        · rw [if_neg e]; split <;> omega
    · exact h.elim
/-- S owes -/
theorem PreOK.exS {p : Pre} {S : Nat} (h : PreOK n m L c p) (r : Row n m L c) (hS : n.S = S) : p.Ex.getD S 0 ≤ 0 := by
  have key : ∀ j, j ≤ m → (if S < j then p.Ex.getD S 0 else 0) ≤ part n.Arcs (flN n.Arcs p.Res) j n.Arcs.length := by
    intro j
    induction j with
    | zero => intro _; rw [if_neg (by omega), show ((0 : Nat) : Int) = 0 from rfl, part_none r.he _ (Nat.le_refl _)]; exact Int.le_refl _
    | succ j ih =>
      intro hj
      have ih := ih (by omega)
      rw [Int.natCast_succ, part_succ, ← h.ok.ex j (by omega)]
      by_cases e : S = j
      · subst e
        rw [if_neg (by omega)] at ih
        rw [if_pos (by omega)]; omega
      · have := h.nn j (by omega) (by omega)
        by_cases e2 : S < j
        · rw [if_pos e2] at ih; rw [if_pos (by omega)]; omega
        · rw [if_neg e2] at ih; rw [if_neg (by omega)]; omega
  have hSm : S < m := by obtain ⟨⟨S', h1, -, h3⟩, -⟩ := r.ends; omega
  have := key m (Nat.le_refl _)
  rw [if_pos hSm, part_all r.he _ (Nat.le_refl _)] at this
  exact this
/-- a push, or a lift -/
def StepP (n : Net) (m L : Nat) (c : Csr) (was p : Pre) : Prop :=
  (∃ j, j < L ∧ ActP n was.Ex (tl c j) ∧ AdmP c was (tl c j) j ∧ p = pushP c was j) ∨ (∃ u, u < m ∧ StuckP n c was u ∧ p = liftP c was m u)
theorem PreOK.hb {p : Pre} (h : PreOK n m L c p) (r : Row n m L c) : HtB m p.H := h.hs.hb r
theorem PreOK.step {was p : Pre} (h : PreOK n m L c was) (r : Row n m L c) (hs : StepP n m L c was p) : PreOK n m L c p := by
  rcases hs with ⟨j, h1, h2, h3, rfl⟩ | ⟨u, h1, h2, rfl⟩
  · exact h.push r h1 h2 h3
  · exact (h.lift r h1 h2).1
def arcsOf (n : Net) (L : Nat) (c : Csr) (p : Pre) : List Int := selN (fun j => decide (ActP n p.Ex (tl c j) ∧ AdmP c p (tl c j) j)) L
def vertsOf (n : Net) (m : Nat) (c : Csr) (p : Pre) : List Int := selN (fun u => decide (StuckP n c p u)) m
theorem PreOK.may {p : Pre} (h : PreOK n m L c p) (r : Row n m L c) : m_pre_May c p = some (arcsOf n L c p, vertsOf n m c p) := s_May r h.ok.lr h.ok.lx (h.hb r)
theorem idx_lt {k : Int} {l : List Int} (hk : 0 ≤ k) (hl : 0 < l.length) : inb ((k.tdiv 2).tmod (l.length : Int)) l.length := by
  have h1 : 0 ≤ k.tdiv 2 := (tdiv_le hk (by omega)).1
  have := tmod_range h1 (show (0 : Int) < l.length by omega)
  exact ⟨this.1, this.2⟩
theorem push_at {p : Pre} {i : Nat} (h : PreOK n m L c p) (r : Row n m L c) (hi : i < (arcsOf n L c p).length) : ∃ j, j < L ∧ ActP n p.Ex (tl c j) ∧ AdmP c p (tl c j) j ∧ (arcsOf n L c p).getD i 0 = (j : Nat) ∧ m_pre_Push c p ((arcsOf n L c p).getD i 0) = some (pushP c p j, pushD c p j, 0) := by
  obtain ⟨j, h1, h2, h3⟩ := mem_selN.1 (getD_mem hi 0)
  have h2 := of_decide_eq_true h2
  refine ⟨j, h1, h2.1, h2.2, h3, ?_⟩
  have h3' : (arcsOf n L c p).getD i 0 = (j : Nat) := h3
  rw [h3', s_Push r h.ok (h.hb r) h1, if_pos h2]
theorem lift_at {p : Pre} {i : Nat} (h : PreOK n m L c p) (r : Row n m L c) (hi : i < (vertsOf n m c p).length) : ∃ u, u < m ∧ StuckP n c p u ∧ (vertsOf n m c p).getD i 0 = (u : Nat) ∧ m_pre_Lift c p ((vertsOf n m c p).getD i 0) = some (liftP c p m u, 0) := by
  obtain ⟨u, h1, h2, h3⟩ := mem_selN.1 (getD_mem hi 0)
  have h2 := of_decide_eq_true h2
  have h3' : (vertsOf n m c p).getD i 0 = (u : Nat) := h3
  refine ⟨u, h1, h2, h3', ?_⟩
  rw [h3', s_Lift r h.ok.lr h.ok.lx (h.hb r) h1, if_pos h2]
theorem row_of {m : Nat} (hc : CsrIs n m c) (hm : n.N = m) (hk : checkE n.N n.S n.T n.Arcs = 0) : Row n m (begins n.Arcs m) c := ⟨hc, hk, hm, rfl⟩
/-- all moves: each state is right, each move a push, or a lift -/
theorem s_gPlay {each : Csr → Pre → Pre → Option Bool} {mv : List Int} (hm : n.N = m) (hk : checkE n.N n.S n.T n.Arcs = 0) (hl : lenok n.Arcs.length) (hmv : mv.length ≤ 1000000) (hb : ∀ x, x ∈ mv → u8ok x)
    (he : ∀ c L, Row n m L c → ∀ was p, PreOK n m L c was → PreOK n m L c p → (was = p ∨ StepP n m L c was p) → Ok (each c was p) (fun b => b = true)) : Ok (g_Play each n mv) (fun b => b = true) := by
  unfold g_Play
  refine Ok.bind.2 (Ok.mono (s_Make hm hk hl) ?_)
  rintro ⟨c, e⟩ ⟨hc, h0⟩
  simp only at hc h0 ⊢
  subst h0
  have r := row_of hc hm hk
  obtain ⟨L, hL⟩ : ∃ L, begins n.Arcs m = L := ⟨_, rfl⟩
  rw [hL] at r
  rw [if_neg (by simp)]
  refine Ok.bind.2 (Ok.mono (s_Begin r) fun p0 hp0 => Ok.bind.2 (Ok.mono (he c L r p0 p0 hp0 hp0 (.inl rfl)) ?_))
  rintro b rfl
  rw [if_neg (by simp)]
  refine Ok.bind.2 (Ok.lp (fun s => ∃ k : Nat, s.2.2.2 = k ∧ k ≤ mv.length ∧ PreOK n m L c ⟨s.1, s.2.1, s.2.2.1⟩) (fun s => (mv.length - s.2.2.2).toNat) ⟨0, rfl, by omega, hp0⟩ (by unfold FUEL; simp only; omega) ?_)
  rintro ⟨R, X, H, x⟩ ⟨k, h1, hk1, hp⟩ P next exit
  simp only at h1 hp next ⊢
  subst h1
  have done : P (.inr (.inr ())) := exit _ (by unfold g_Play_j4; exact Ok.some.2 rfl)
  have done2 : P (.inr (.inl true)) := exit _ (Ok.some.2 rfl)
  unfold g_Play_s1
  refine Ok.ite.2 ⟨fun hx => ?_, fun hx => Ok.some.2 done⟩
  have hbk := hb _ (getD_mem (show k < mv.length by omega) 0)
  simp only [Int.toNat_natCast]
  refine Ok.gd.2 ⟨(by (first | omega | (constructor <;> omega) | (simp only [List.length_set, List.length_replicate]; omega) | (simp only [List.length_set, List.length_replicate]; constructor <;> omega))), Ok.bind.2 (ok_of (hp.may r) (Ok.gd.2 ⟨(by (first | omega | (constructor <;> omega) | (simp only [List.length_set, List.length_replicate]; omega) | (simp only [List.length_set, List.length_replicate]; constructor <;> omega))), ?_⟩))⟩
  have hdv := tdiv_le (show 0 ≤ mv.getD k 0 by omega) (show (0 : Int) < 2 by omega)
  have j3 : ∀ q : Pre, StepP n m L c ⟨R, X, H⟩ q → Ok (g_Play_j3 each c R X H k q.Res q.Ex q.H 0) P := fun q hq => by
    have hq2 := hp.step r hq
    unfold g_Play_j3
    rw [if_neg (by simp)]
    refine Ok.bind.2 (Ok.mono (he c L r _ _ hp hq2 (.inr hq)) ?_)
    rintro b rfl
    rw [if_neg (by simp)]
    exact Ok.gd.2 ⟨(by (first | omega | (constructor <;> omega) | (simp only [List.length_set, List.length_replicate]; omega) | (simp only [List.length_set, List.length_replicate]; constructor <;> omega))), Ok.some.2 (next _ ⟨k + 1, by simp, by omega, hq2⟩ (by simp only; omega))⟩
  have j2 : ∀ b : Bool, (b = true → 0 < (arcsOf n L c ⟨R, X, H⟩).length) → Ok (g_Play_j2 each mv c R X H k (arcsOf n L c ⟨R, X, H⟩) (vertsOf n m c ⟨R, X, H⟩) b) P := by
    intro b hb
    unfold g_Play_j2
    simp only [Int.toNat_natCast]
    refine Ok.ite.2 ⟨fun h => ?_, fun h => Ok.ite.2 ⟨fun h2 => ?_, fun h2 => Ok.some.2 done2⟩⟩
    · have hlen := hb h
      have hi := idx_lt (k := mv.getD k 0) (by omega) hlen
      obtain ⟨i, hie⟩ : ∃ i : Nat, ((mv.getD k 0).tdiv 2).tmod ((arcsOf n L c ⟨R, X, H⟩).length : Int) = i := ⟨_, (Int.toNat_of_nonneg hi.1).symm⟩
      rw [hie] at hi
      simp only [hie]
      obtain ⟨j, g1, g2, g3, -, g4⟩ := push_at hp r (show i < (arcsOf n L c ⟨R, X, H⟩).length by have := hi.2; omega)
      refine Ok.gd.2 ⟨⟨by omega, by constructor <;> omega⟩, Ok.gd.2 ⟨(by (first | omega | (constructor <;> omega) | (simp only [List.length_set, List.length_replicate]; omega) | (simp only [List.length_set, List.length_replicate]; constructor <;> omega))), Ok.gd.2 ⟨hi, ?_⟩⟩⟩
      rw [Int.toNat_natCast, g4]
      exact j3 _ (.inl ⟨j, g1, g2, g3, rfl⟩)
    · have hi := idx_lt (k := mv.getD k 0) (by omega) (show 0 < (vertsOf n m c ⟨R, X, H⟩).length by omega)
      obtain ⟨i, hie⟩ : ∃ i : Nat, ((mv.getD k 0).tdiv 2).tmod ((vertsOf n m c ⟨R, X, H⟩).length : Int) = i := ⟨_, (Int.toNat_of_nonneg hi.1).symm⟩
      rw [hie] at hi
      simp only [hie]
      obtain ⟨u, g1, g2, -, g4⟩ := lift_at hp r (show i < (vertsOf n m c ⟨R, X, H⟩).length by have := hi.2; omega)
      refine Ok.gd.2 ⟨⟨by omega, by constructor <;> omega⟩, Ok.gd.2 ⟨(by (first | omega | (constructor <;> omega) | (simp only [List.length_set, List.length_replicate]; omega) | (simp only [List.length_set, List.length_replicate]; constructor <;> omega))), Ok.gd.2 ⟨hi, ?_⟩⟩⟩
      rw [Int.toNat_natCast, g4]
      exact j3 _ (.inr ⟨u, g1, g2, rfl⟩)
  refine Ok.ite.2 ⟨fun h => (have h' : 0 < ((arcsOf n L c ⟨R, X, H⟩).length : Int) := h; Ok.ite.2 ⟨fun _ => j2 true fun _ => by omega, fun _ => j2 _ fun _ => by omega⟩), fun h => j2 false fun h2 => by cases h2⟩
end row
end Go.Acq
namespace Go.Acq
open Go
set_option linter.unusedSimpArgs false
end Go.Acq
namespace Go.Acq
open Go
set_option linter.unusedSimpArgs false
/-- a row of bytes that comes in -/
structure ByteRow (l : List Int) : Prop where
  row : ∀ x, x ∈ l → u8ok x
  len : l.length ≤ 9223372036854775807
theorem getD_app {α : Type} {xs : List α} {y d : α} {i : Nat} (h : i < xs.length) : (xs ++ [y]).getD i d = xs.getD i d := by
  rw [List.getD_eq_getElem?_getD, List.getElem?_append_left h, List.getD_eq_getElem?_getD]
theorem getD_last {α : Type} {xs : List α} {y d : α} {i : Nat} (h : i = xs.length) : (xs ++ [y]).getD i d = y := by
  subst h
  rw [List.getD_eq_getElem?_getD, List.getElem?_append_right (Nat.le_refl _)]; simp
/-- a way from v to w -/
structure PathP (n : Net) (v : Int) (l : List Hop) (w : Int) : Prop where
  way : WayK n l l.length
  start : 0 < l.length → hfr n (l.getD 0 default) = v
  fin : w = if l.length = 0 then v else hto n (l.getD (l.length - 1) default)
theorem PathP.nil (n : Net) (v : Int) : PathP n v [] v := ⟨⟨fun i h => by simp at h, fun i h => by simp at h⟩, fun h => by simp at h, rfl⟩
theorem PathP.app {n : Net} {v w : Int} {l : List Hop} (h : PathP n v l w) {p : Hop} (hp : hok n p) (hw : hfr n p = w) : PathP n v (l ++ [p]) (hto n p) := by
  refine ⟨⟨fun i hi => ?_, fun i hi => ?_⟩, fun _ => ?_, ?_⟩
  · rw [List.length_append, List.length_singleton] at hi
    rcases Nat.lt_or_ge i l.length with h1 | h1
    · rw [getD_app h1]; exact h.way.1 i h1
    · rw [getD_last (by omega)]; exact hp
  · rw [List.length_append, List.length_singleton] at hi
    rcases Nat.lt_or_ge (i + 1) l.length with h1 | h1
    · rw [getD_app h1, getD_app (by omega)]; exact h.way.2 i h1
    · rw [getD_last (by omega), getD_app (by omega), hw, h.fin, if_neg (by omega), show l.length - 1 = i by omega]
  · rcases Nat.lt_or_ge 0 l.length with h1 | h1
    · rw [getD_app h1]; exact h.start h1
    · rw [getD_last (by omega), hw, h.fin, if_pos (by omega)]
  · rw [List.length_append, List.length_singleton, if_neg (by omega), Nat.add_sub_cancel, getD_last rfl]
/-! ### what is sent moves the ends alone -/
def one (a b : Int) : Int := if a = b then 1 else 0
/-! ### back -/
def flipH (h : Hop) : Hop := ⟨h.Arc, !h.Back⟩
theorem hfr_flip (n : Net) (h : Hop) : hfr n (flipH h) = hto n h := by
  unfold hfr hto flipH
  cases hB : h.Back <;> simp
theorem hto_flip (n : Net) (h : Hop) : hto n (flipH h) = hfr n h := by
  unfold hfr hto flipH
  cases hB : h.Back <;> simp
def BackIs (l b : List Hop) : Prop := b.length = l.length ∧ ∀ q, q < l.length → b.getD q default = flipH (l.getD (l.length - 1 - q) default)
theorem BackIs.way {n : Net} {l b : List Hop} (h : BackIs l b) (hw : WayK n l l.length) : WayK n b b.length := by
  rw [h.1]
  refine ⟨fun i hi => ?_, fun i hi => ?_⟩
  · rw [h.2 i hi]; exact hw.1 _ (by omega)
  · rw [h.2 i (by omega), h.2 (i + 1) hi, hfr_flip, hto_flip]
    have := hw.2 (l.length - 1 - (i + 1)) (by omega)
    rw [show l.length - 1 - (i + 1) + 1 = l.length - 1 - i by omega] at this
    exact this.symm
theorem BackIs.cnt {l b : List Hop} (h : BackIs l b) (i : Int) : cntH b i b.length = -cntH l i l.length := by
  have key : ∀ q, q ≤ l.length → cntH b i q = cntH l i (l.length - q) - cntH l i l.length := by
    intro q
    induction q with
    | zero => intro _; simp only [cntH, Nat.sub_zero]; omega
    | succ q ih =>
      intro hq
      have e : l.length - q = (l.length - 1 - q) + 1 := by omega
      have ih := ih (by omega)
      rw [e] at ih
      simp only [cntH] at ih ⊢
      rw [ih, h.2 q (by omega), show l.length - (q + 1) = l.length - 1 - q by omega]
      simp only [flipH]
      by_cases c : (l.getD (l.length - 1 - q) default).Arc = i
      · by_cases hB : (l.getD (l.length - 1 - q) default).Back = true
        · simp only [c, hB, if_true, Bool.not_true, Bool.false_eq_true, if_false]; omega
        · simp only [c, if_true, Bool.eq_false_iff.2 hB, Bool.not_false, Bool.false_eq_true, if_false]; omega
      · simp only [c, if_false]; omega
  rw [h.1, key _ (Nat.le_refl _), Nat.sub_self]
  simp only [cntH]; omega
end Go.Acq
namespace Go.Acq
open Go
set_option linter.unusedSimpArgs false
theorem p_awake07 : m_acequialaw07_awake = some true := by decide +kernel
theorem p_PreKeeps {n : Net} {mv : List Int} (hn : NetIn n) (hmv : ByteRow mv) : m_acequialaw07_PreKeeps n mv = some true := by
  refine ok_eq ?_
  unfold m_acequialaw07_PreKeeps
  refine Ok.bind.2 (Ok.mono (s_Some hn (by omega) (by omega) (by omega) (by omega)) fun q hr => ?_)
  obtain ⟨m, hm, hso⟩ := hr.nat
  have hlen := hr.arcs
  have hll := hmv.len
  refine Ok.gd.2 ⟨(by (first | omega | (constructor <;> omega) | (simp only [List.length_set, List.length_replicate]; omega) | (simp only [List.length_set, List.length_replicate]; constructor <;> omega))), Ok.bind.2 ?_⟩
  rw [show ∀ a b, m_acequialaw07_Play_PreKeeps_1 a b = g_Play m_acequialaw07_PreKeeps_1 a b from fun _ _ => rfl]
  refine Ok.mono (s_gPlay hm hr.check (by omega) (by rw [List.length_take]; omega) (fun x hx => hmv.row x (List.mem_of_mem_take hx)) fun c L r was p _ hp _ => ?_) ?_
  · obtain ⟨⟨S, hS, hcS, hSm⟩, -, -, -⟩ := r.ends
    have := hp.ok.lx
    unfold m_acequialaw07_PreKeeps_1
    refine Ok.bind.2 (Ok.mono (s_Right2 r (hp.len r)) fun b hb => ?_)
    rw [hb.2 hp, if_pos rfl, hcS]
    refine Ok.gd.2 ⟨(by (first | omega | (constructor <;> omega) | (simp only [List.length_set, List.length_replicate]; omega) | (simp only [List.length_set, List.length_replicate]; constructor <;> omega))), Ok.some.2 (decide_eq_true ?_)⟩
    rw [Int.toNat_natCast]; exact hp.exS r hS
  · rintro b rfl
    rw [if_pos rfl]
    exact Ok.bind.2 (ok_of p_awake07 (Ok.some.2 rfl))
end Go.Acq
