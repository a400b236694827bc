/- Texts of this claim, one behind the other. -/
import Derived.Test.YtjeenmabclghoaaA7
import Derived.Test.YtjeenmabclghoaaA2
namespace Go.Acq
open Go
set_option linter.unusedSimpArgs false
/-! ### loops that choose -/
/-! ### maps -/
theorem getM_putM {α : Type} {z v : α} {k i : Int} : ∀ mp : List (Int × α), getM z i (putM k v mp) = if i = k then v else getM z i mp
  | [] => by simp only [putM, getM]
  | x :: mp => by
    simp only [putM]
    by_cases h : k = x.1
    · rw [if_pos h]; simp only [getM]
      by_cases e : i = k
      · rw [if_pos e, if_pos e]
      · rw [if_neg e, if_neg e, if_neg (by omega)]
    · rw [if_neg h]; simp only [getM]
      by_cases e : i = x.1
      · rw [if_pos e, if_pos e, if_neg (by omega)]
      · rw [if_neg e, if_neg e, getM_putM mp]
theorem putM_mem {α : Type} {v : α} {k : Int} : ∀ {mp : List (Int × α)} {x : Int × α}, x ∈ putM k v mp → x.1 = k ∨ ∃ y, y ∈ mp ∧ y.1 = x.1
  | [], x, h => by simp only [putM, List.mem_singleton] at h; left; rw [h]
  | y :: mp, x, h => by
    simp only [putM] at h
    by_cases e : k = y.1
    · rw [if_pos e] at h
      rcases List.mem_cons.1 h with h | h
      · left; rw [h]
      · exact .inr ⟨x, List.mem_cons_of_mem _ h, rfl⟩
    · rw [if_neg e] at h
      rcases List.mem_cons.1 h with h | h
      · exact .inr ⟨y, List.mem_cons_self, by rw [h]⟩
      · rcases putM_mem h with h | ⟨z, h1, h2⟩
        · exact .inl h
        · exact .inr ⟨z, List.mem_cons_of_mem _ h1, h2⟩
/-- no key is there twice -/
def Apart {α : Type} : List (Int × α) → Prop
  | [] => True
  | x :: mp => (∀ y, y ∈ mp → y.1 ≠ x.1) ∧ Apart mp
theorem Apart.put {α : Type} {v : α} {k : Int} : ∀ {mp : List (Int × α)}, Apart mp → Apart (putM k v mp)
  | [], _ => ⟨fun y h => (by cases h), trivial⟩
  | x :: mp, h => by
    simp only [putM]
    by_cases e : k = x.1
    · rw [if_pos e]; exact ⟨fun y hy => by rw [e]; exact h.1 y hy, h.2⟩
    · rw [if_neg e]
      refine ⟨fun y hy => ?_, Apart.put h.2⟩
      rcases putM_mem hy with h1 | ⟨z, h1, h2⟩
      · rw [h1]; exact e
      · rw [← h2]; exact h.1 z h1
theorem Apart.at {α : Type} {z : α} (d : Int × α) : ∀ {mp : List (Int × α)} {j : Nat}, Apart mp → j < mp.length → getM z (mp.getD j d).1 mp = (mp.getD j d).2
  | [], j, _, h => by simp at h
  | x :: mp, 0, _, _ => by simp [getM]
  | x :: mp, j + 1, h, hj => by
    have hj' : j < mp.length := by simpa using hj
    have hm := h.1 _ (getD_mem hj' d)
    show getM z (mp.getD j d).1 (x :: mp) = (mp.getD j d).2
    simp only [getM]
    rw [if_neg hm]; exact Apart.at d h.2 hj'
/-! ### ways -/
def hfr (n : Net) (h : Hop) : Int := if h.Back = true then (n.Arcs.getD h.Arc.toNat default).to else (n.Arcs.getD h.Arc.toNat default).fr
def hto (n : Net) (h : Hop) : Int := if h.Back = true then (n.Arcs.getD h.Arc.toNat default).fr else (n.Arcs.getD h.Arc.toNat default).to
def hok (n : Net) (h : Hop) : Prop := 0 ≤ h.Arc ∧ h.Arc < n.Arcs.length
/-- the first k hops are a way -/
def WayK (n : Net) (l : List Hop) (k : Nat) : Prop := (∀ i, i < k → hok n (l.getD i default)) ∧ ∀ i, i + 1 < k → hfr n (l.getD (i + 1) default) = hto n (l.getD i default)
/-- how many times more the first k hops hop along an arc than back -/
def cntH (l : List Hop) (i : Int) : Nat → Int
  | 0 => 0
  | k + 1 => cntH l i k + (if (l.getD k default).Arc = i then (if (l.getD k default).Back = true then -1 else 1) else 0)
structure MapIs (n : Net) (mp : List (Int × Int)) (l : List Hop) (k : Nat) : Prop where
  val : ∀ i, getM 0 i mp = cntH l i k
  key : ∀ x, x ∈ mp → 0 ≤ x.1 ∧ x.1 < n.Arcs.length
  apart : Apart mp
theorem MapIs.put {n : Net} {mp : List (Int × Int)} {l : List Hop} {k : Nat} (h : MapIs n mp l k) (hk : hok n (l.getD k default)) {v : Int} (hv : v = cntH l (l.getD k default).Arc k + (if (l.getD k default).Back = true then -1 else 1)) : MapIs n (putM (l.getD k default).Arc v mp) l (k + 1) := by
  refine ⟨fun i => ?_, fun x hx => ?_, h.apart.put⟩
  · rw [getM_putM]
    simp only [cntH]
    by_cases e : i = (l.getD k default).Arc
    · rw [if_pos e, if_pos e.symm, hv, e]
    · rw [if_neg e, if_neg (fun h => e h.symm), h.val, Int.add_zero]
  · rcases putM_mem hx with h1 | ⟨y, h1, h2⟩
    · rw [h1]; exact hk
    · rw [← h2]; exact h.key y h1
end Go.Acq
namespace Go.Acq
open Go
set_option linter.unusedSimpArgs false
/-- so much more, so often, at one arc -/
def fits (n : Net) (f : List Int) (i : Nat) (c d : Int) : Prop := 0 ≤ f.getD i 0 + d * c ∧ f.getD i 0 + d * c ≤ (n.Arcs.getD i default).cap
theorem tdiv_le {a b : Int} (ha : 0 ≤ a) (hb : 0 < b) : 0 ≤ a.tdiv b ∧ a.tdiv b ≤ a := by
  rw [Int.tdiv_eq_ediv_of_nonneg ha]
  exact ⟨Int.ediv_nonneg ha (by omega), Int.ediv_le_self b ha⟩
end Go.Acq
namespace Go.Acq
open Go
set_option linter.unusedSimpArgs false
/-! ### moves, whatever looks at each state -/
def g_PlayB_j3 (each : Csr → Pre → Pre → Bool → Option (Bool × Bool)) (r4 : Csr) (each2_99 : Bool) (Res100 : List Int) (Ex110 : List Int) (H120 : List Int) (x130 : Int) (Res229 : List Int) (Ex239 : List Int) (H249 : List Int) (f259 : Int) : Option ((Bool × List Int × List Int × List Int × Int) ⊕ ((Bool × Bool) ⊕ Bool)) :=
  if f259 ≠ 0 then
  (some (.inr (.inl (false, each2_99))))
  else
  Option.bind (each r4 (Pre.mk Res100 Ex110 H120) (Pre.mk Res229 Ex239 H249) each2_99) fun (r261, r262) =>
  if (!r261) = true then
  (some (.inr (.inl (false, r262))))
  else
  gd (i64ok (x130 + 1)) <|
  some (.inl (r262, Res229, Ex239, H249, (x130 + 1)))
def g_PlayB_j2 (each : Csr → Pre → Pre → Bool → Option (Bool × Bool)) (moves1 : List Int) (r4 : Csr) (each2_99 : Bool) (Res100 : List Int) (Ex110 : List Int) (H120 : List Int) (x130 : Int) (r133 : List Int) (r134 : List Int) (x159 : Bool) : Option ((Bool × List Int × List Int × List Int × Int) ⊕ ((Bool × Bool) ⊕ Bool)) :=
  if x159 = true then
  (gd ((2 : Int) ≠ 0 ∧ i64ok ((moves1.getD x130.toNat 0).tdiv 2)) <|
  gd ((r133.length : Int) ≠ 0) <|
  gd (inb (((moves1.getD x130.toNat 0).tdiv 2).tmod (r133.length : Int)) r133.length) <|
  Option.bind (m_pre_Push r4 (Pre.mk Res100 Ex110 H120) (r133.getD (((moves1.getD x130.toNat 0).tdiv 2).tmod (r133.length : Int)).toNat 0)) fun (r164, r165, r166) =>
  g_PlayB_j3 each r4 each2_99 Res100 Ex110 H120 x130 r164.Res r164.Ex r164.H r166)
  else
  if 0 < (r134.length : Int) then
  (gd ((2 : Int) ≠ 0 ∧ i64ok ((moves1.getD x130.toNat 0).tdiv 2)) <|
  gd ((r134.length : Int) ≠ 0) <|
  gd (inb (((moves1.getD x130.toNat 0).tdiv 2).tmod (r134.length : Int)) r134.length) <|
  Option.bind (m_pre_Lift r4 (Pre.mk Res100 Ex110 H120) (r134.getD (((moves1.getD x130.toNat 0).tdiv 2).tmod (r134.length : Int)).toNat 0)) fun (r199, r200) =>
  g_PlayB_j3 each r4 each2_99 Res100 Ex110 H120 x130 r199.Res r199.Ex r199.H r200)
  else
  some (.inr (.inl (true, each2_99)))
def g_PlayB_s1 (each : Csr → Pre → Pre → Bool → Option (Bool × Bool)) (moves1 : List Int) (r4 : Csr) (each2_99 : Bool) (Res100 : List Int) (Ex110 : List Int) (H120 : List Int) (x130 : Int) : Option ((Bool × List Int × List Int × List Int × Int) ⊕ ((Bool × Bool) ⊕ Bool)) :=
  if x130 < (moves1.length : Int) then
  (gd (inb x130 moves1.length) <|
  Option.bind (m_pre_May r4 (Pre.mk Res100 Ex110 H120)) fun (r133, r134) =>
  gd (i64ok (moves1.getD x130.toNat 0)) <|
  if 0 < (r133.length : Int) then
  (if ((moves1.getD x130.toNat 0).tmod 2) = 0 then
  (g_PlayB_j2 each moves1 r4 each2_99 Res100 Ex110 H120 x130 r133 r134 true)
  else
  g_PlayB_j2 each moves1 r4 each2_99 Res100 Ex110 H120 x130 r133 r134 (decide ((r134.length : Int) = 0)))
  else
  g_PlayB_j2 each moves1 r4 each2_99 Res100 Ex110 H120 x130 r133 r134 false)
  else
  some (.inr (.inr each2_99))
def g_PlayB_j4 (each2_266 : Bool) : Option (Bool × Bool) :=
  some (true, each2_266)
def g_PlayB (each : Csr → Pre → Pre → Bool → Option (Bool × Bool)) (n0 : Net) (moves1 : List Int) (each2_0 : Bool) : Option (Bool × Bool) :=
  Option.bind (m_csr_Make n0) fun (r4, r5) =>
  if r5 ≠ 0 then
  (some (false, each2_0))
  else
  Option.bind (m_pre_Begin r4) fun r64 =>
  Option.bind (each r4 r64 r64 each2_0) fun (r95, r96) =>
  if (!r95) = true then
  (some (false, r96))
  else
  Option.bind (loopM (fun s => g_PlayB_s1 each moves1 r4 s.1 s.2.1 s.2.2.1 s.2.2.2.1 s.2.2.2.2) FUEL (r96, r64.Res, r64.Ex, r64.H, 0)) fun o => match o with | .inl (p1_0_0, p1_0_1) => (some (p1_0_0, p1_0_1)) | .inr p1_1_0 => (g_PlayB_j4 p1_1_0)
section row
variable {n : Net} {m L : Nat} {c : Csr}
theorem ex_zero {al : List Arc} {f : List Int} {v : Int} : ∀ {k : Nat}, (∀ i, i < k → f.getD i 0 = 0) → ex al f v k = 0
  | 0, _ => rfl
  | k + 1, h => by simp only [ex]; rw [ex_zero fun i hi => h i (by omega), h k (by omega)]; simp
/-- the first state -/
theorem s_Begin (r : Row n m L c) : Ok (m_pre_Begin c) (fun p => PreOK n m L c p) := by
  have b := r.bd
  obtain ⟨⟨S, hS, hcS, hSm⟩, ⟨T, hT, hcT, hTm⟩, hne, hN⟩ := r.ends
  obtain ⟨-, -, -, lc, -, -⟩ := r.lens
  have hfl := r.first.2.2.2 S hSm
  unfold m_pre_Begin
  refine Ok.bind.2 (ok_of (s_Clone64 (by omega)) ?_)
  rw [hN, hcS]
  simp only [Int.toNat_natCast]
  obtain ⟨H0, hH0⟩ : ∃ H0, (List.replicate m (0 : Int)).set S m = H0 := ⟨_, rfl⟩
  have hHl : H0.length = m := by rw [← hH0]; simp
  have hHv : ∀ v, H0.getD v 0 = if v = S then (m : Int) else 0 := fun v => by
    rw [← hH0, lset, List.length_replicate, getD_replicate]
    by_cases e : v = S
    · rw [if_pos ⟨e.symm, hSm⟩, if_pos e]
    · rw [if_neg fun h => e h.1.symm, if_neg e]
  rw [hH0]
  unfold m_pre_arcs
  refine Ok.gd.2 ⟨(by (first | omega | (constructor <;> omega) | (simp only [List.length_set, List.length_replicate]; omega) | (simp only [List.length_set, List.length_replicate]; constructor <;> omega))), Ok.gd.2 ⟨(by (first | omega | (constructor <;> omega) | (simp only [List.length_set, List.length_replicate]; omega) | (simp only [List.length_set, List.length_replicate]; constructor <;> omega))), Ok.gd.2 ⟨by rw [List.length_replicate]; constructor <;> omega, Ok.bind.2 (Ok.some.2 (Ok.bind.2 (Ok.mono (s_arcs r hSm
    (fun k s => ResOK n m L c s.1 s.2 ∧ (∀ v, v < m → v ≠ S → 0 ≤ s.2.getD v 0) ∧ ∀ i, fs c S ≤ i → i < k → s.1.getD i 0 = 0) (fun _ => False) ⟨⟨lc, by simp, fun j hj => ?_, fun v hv => ?_⟩, fun v hv _ => by rw [getD_replicate]; exact Int.le_refl _, fun i h1 h2 => by omega⟩ fun j s h1 h2 h3 => ?_) ?_)))⟩⟩⟩
  · have := r.cap hj; exact ⟨this.1, this.2.1⟩
  · rw [getD_replicate, ex_zero fun i hi => ?_]
    rw [flN_getD hi]
    by_cases e : (n.Arcs.getD i default).fr = (n.Arcs.getD i default).to
    · rw [if_pos e]
    · rw [if_neg e, (r.is.ok.hat i hi e true).2.2.1]; rfl
  · obtain ⟨xs, ys⟩ := s
    obtain ⟨g1, g2, g3⟩ := h3
    simp only at g1 g2 g3
    have hjL : j < L := by omega
    have ht := (r.range hjL hSm).1 ⟨h1, h2⟩
    have htl := r.tlh hjL
    have hrv := r.rev hjL
    have hle := g1.rle r hjL
    have hxl := g1.lr
    unfold m_pre_Begin_y1
    rw [hN, hcS]
    simp only [Int.toNat_natCast, hH0]
    refine Ok.gd.2 ⟨(by (first | omega | (constructor <;> omega) | (simp only [List.length_set, List.length_replicate]; omega) | (simp only [List.length_set, List.length_replicate]; constructor <;> omega))), Ok.bind.2 (ok_of (s_move (p := ⟨xs, ys, H0⟩) r g1 hjL hle.1 (Int.le_refl _)) (Ok.some.2 ⟨g1.move r hjL hle.1 (Int.le_refl _), fun v hv hvS => ?_, fun i h4 h5 => ?_⟩))⟩
    · simp only
      rw [mvX_getD r g1.lx hjL, ht, if_neg fun e => hvS e.symm]
      have := g2 v hv hvS
      split <;> omega
    · simp only
      have hiL : i < L := by omega
      have hti := (r.range hiL hSm).1 ⟨h4, by omega⟩
      rw [mvR_getD r hxl hjL, if_neg fun e => by rw [e, htl.2.1] at hti; exact htl.2.2.2 (ht.trans hti.symm)]
      by_cases e : i = j
      · rw [if_pos e]; omega
      · rw [if_neg e]; exact g3 i h4 (by omega)
  · rintro (⟨xs, ys⟩ | x) h
    · obtain ⟨g1, g2, g3⟩ := h
      simp only at g1 g2 g3
      refine Ok.some.2 ⟨g1, fun v hv hvS => g2 v hv (by omega), ⟨hHl, fun s hs => ?_, fun t ht => ?_, fun v hv => ?_⟩, fun j hj h0 => ?_⟩
      · simp only; rw [hHv, if_pos (by omega)]
      · simp only; rw [hHv, if_neg (by omega)]
      · simp only; rw [hHv]; split <;> omega
      · simp only at h0 ⊢
        rw [hHv, hHv]
        by_cases e : tl c j = S
        · have := (r.range hj hSm).2 e
          rw [g3 j this.1 this.2] at h0; omega
        · rw [if_neg e]; split <;> omega
    · exact h.elim
/-- a push, or a lift -/
def StepP (n : Net) (m L : Nat) (c : Csr) (was p : Pre) : Prop :=
  (∃ j, j < L ∧ ActP n was.Ex (tl c j) ∧ AdmP c was (tl c j) j ∧ p = pushP c was j) ∨ (∃ u, u < m ∧ StuckP n c was u ∧ p = liftP c was m u)
theorem PreOK.hb {p : Pre} (h : PreOK n m L c p) (r : Row n m L c) : HtB m p.H := h.hs.hb r
theorem PreOK.step {was p : Pre} (h : PreOK n m L c was) (r : Row n m L c) (hs : StepP n m L c was p) : PreOK n m L c p := by
  rcases hs with ⟨j, h1, h2, h3, rfl⟩ | ⟨u, h1, h2, rfl⟩
  · exact h.push r h1 h2 h3
  · exact (h.lift r h1 h2).1
def arcsOf (n : Net) (L : Nat) (c : Csr) (p : Pre) : List Int := selN (fun j => decide (ActP n p.Ex (tl c j) ∧ AdmP c p (tl c j) j)) L
def vertsOf (n : Net) (m : Nat) (c : Csr) (p : Pre) : List Int := selN (fun u => decide (StuckP n c p u)) m
theorem PreOK.may {p : Pre} (h : PreOK n m L c p) (r : Row n m L c) : m_pre_May c p = some (arcsOf n L c p, vertsOf n m c p) := s_May r h.ok.lr h.ok.lx (h.hb r)
theorem idx_lt {k : Int} {l : List Int} (hk : 0 ≤ k) (hl : 0 < l.length) : inb ((k.tdiv 2).tmod (l.length : Int)) l.length := by
  have h1 : 0 ≤ k.tdiv 2 := (tdiv_le hk (by omega)).1
  have := tmod_range h1 (show (0 : Int) < l.length by omega)
  exact ⟨this.1, this.2⟩
theorem push_at {p : Pre} {i : Nat} (h : PreOK n m L c p) (r : Row n m L c) (hi : i < (arcsOf n L c p).length) : ∃ j, j < L ∧ ActP n p.Ex (tl c j) ∧ AdmP c p (tl c j) j ∧ (arcsOf n L c p).getD i 0 = (j : Nat) ∧ m_pre_Push c p ((arcsOf n L c p).getD i 0) = some (pushP c p j, pushD c p j, 0) := by
  obtain ⟨j, h1, h2, h3⟩ := mem_selN.1 (getD_mem hi 0)
  have h2 := of_decide_eq_true h2
  refine ⟨j, h1, h2.1, h2.2, h3, ?_⟩
  have h3' : (arcsOf n L c p).getD i 0 = (j : Nat) := h3
  rw [h3', s_Push r h.ok (h.hb r) h1, if_pos h2]
theorem lift_at {p : Pre} {i : Nat} (h : PreOK n m L c p) (r : Row n m L c) (hi : i < (vertsOf n m c p).length) : ∃ u, u < m ∧ StuckP n c p u ∧ (vertsOf n m c p).getD i 0 = (u : Nat) ∧ m_pre_Lift c p ((vertsOf n m c p).getD i 0) = some (liftP c p m u, 0) := by
  obtain ⟨u, h1, h2, h3⟩ := mem_selN.1 (getD_mem hi 0)
  have h2 := of_decide_eq_true h2
  have h3' : (vertsOf n m c p).getD i 0 = (u : Nat) := h3
  refine ⟨u, h1, h2, h3', ?_⟩
  rw [h3', s_Lift r h.ok.lr h.ok.lx (h.hb r) h1, if_pos h2]
theorem row_of {m : Nat} (hc : CsrIs n m c) (hm : n.N = m) (hk : checkE n.N n.S n.T n.Arcs = 0) : Row n m (begins n.Arcs m) c := ⟨hc, hk, hm, rfl⟩
theorem s_gPlayB {each : Csr → Pre → Pre → Bool → Option (Bool × Bool)} {mv : List Int} (hm : n.N = m) (hk : checkE n.N n.S n.T n.Arcs = 0) (hl : lenok n.Arcs.length) (hmv : mv.length ≤ 1000000) (hb : ∀ x, x ∈ mv → u8ok x)
    (he0 : ∀ c L, Row n m L c → ∀ p, PreOK n m L c p → Ok (each c p p true) (fun b => b = (true, false)))
    (he : ∀ c L, Row n m L c → ∀ was p, PreOK n m L c was → PreOK n m L c p → StepP n m L c was p → Ok (each c was p false) (fun b => b = (true, false))) : Ok (g_PlayB each n mv true) (fun b => b.1 = true) := by
  unfold g_PlayB
  refine Ok.bind.2 (Ok.mono (s_Make hm hk hl) ?_)
  rintro ⟨c, e⟩ ⟨hc, h0⟩
  simp only at hc h0 ⊢
  subst h0
  have r := row_of hc hm hk
  obtain ⟨L, hL⟩ : ∃ L, begins n.Arcs m = L := ⟨_, rfl⟩
  rw [hL] at r
  rw [if_neg (by simp)]
  refine Ok.bind.2 (Ok.mono (s_Begin r) fun p0 hp0 => Ok.bind.2 (Ok.mono (he0 c L r p0 hp0) ?_))
  rintro ⟨b, s⟩ h
  injection h with h1 h2
  subst h1; subst h2
  simp only
  rw [if_neg (by simp)]
  refine Ok.bind.2 (Ok.lp (fun s => ∃ k : Nat, s.2.2.2.2 = k ∧ k ≤ mv.length ∧ s.1 = false ∧ PreOK n m L c ⟨s.2.1, s.2.2.1, s.2.2.2.1⟩) (fun s => (mv.length - s.2.2.2.2).toNat) ⟨0, rfl, by omega, rfl, hp0⟩ (by unfold FUEL; simp only; omega) ?_)
  rintro ⟨fl, R, X, H, x⟩ ⟨k, h1, hk1, hfl, hp⟩ P next exit
  simp only at h1 hfl hp next ⊢
  subst h1; subst hfl
  have done : P (.inr (.inr false)) := exit _ (by unfold g_PlayB_j4; exact Ok.some.2 rfl)
  have done2 : P (.inr (.inl (true, false))) := exit _ (Ok.some.2 rfl)
  unfold g_PlayB_s1
  refine Ok.ite.2 ⟨fun hx => ?_, fun hx => Ok.some.2 done⟩
  have hbk := hb _ (getD_mem (show k < mv.length by omega) 0)
  simp only [Int.toNat_natCast]
  refine Ok.gd.2 ⟨(by (first | omega | (constructor <;> omega) | (simp only [List.length_set, List.length_replicate]; omega) | (simp only [List.length_set, List.length_replicate]; constructor <;> omega))), Ok.bind.2 (ok_of (hp.may r) (Ok.gd.2 ⟨(by (first | omega | (constructor <;> omega) | (simp only [List.length_set, List.length_replicate]; omega) | (simp only [List.length_set, List.length_replicate]; constructor <;> omega))), ?_⟩))⟩
  have hdv := tdiv_le (show 0 ≤ mv.getD k 0 by omega) (show (0 : Int) < 2 by omega)
  have j3 : ∀ q : Pre, StepP n m L c ⟨R, X, H⟩ q → Ok (g_PlayB_j3 each c false R X H k q.Res q.Ex q.H 0) P := fun q hq => by
    have hq2 := hp.step r hq
    unfold g_PlayB_j3
    rw [if_neg (by simp)]
    refine Ok.bind.2 (Ok.mono (he c L r _ _ hp hq2 hq) ?_)
    rintro ⟨b, s⟩ h
    injection h with h1 h2
    subst h1; subst h2
    simp only
    rw [if_neg (by simp)]
    exact Ok.gd.2 ⟨(by (first | omega | (constructor <;> omega) | (simp only [List.length_set, List.length_replicate]; omega) | (simp only [List.length_set, List.length_replicate]; constructor <;> omega))), Ok.some.2 (next _ ⟨k + 1, by simp, by omega, rfl, hq2⟩ (by simp only; omega))⟩
  have j2 : ∀ b : Bool, (b = true → 0 < (arcsOf n L c ⟨R, X, H⟩).length) → Ok (g_PlayB_j2 each mv c false R X H k (arcsOf n L c ⟨R, X, H⟩) (vertsOf n m c ⟨R, X, H⟩) b) P := by
    intro b hb
    unfold g_PlayB_j2
    simp only [Int.toNat_natCast]
    refine Ok.ite.2 ⟨fun h => ?_, fun h => Ok.ite.2 ⟨fun h2 => ?_, fun h2 => Ok.some.2 done2⟩⟩
    · have hlen := hb h
      have hi := idx_lt (k := mv.getD k 0) (by omega) hlen
      obtain ⟨i, hie⟩ : ∃ i : Nat, ((mv.getD k 0).tdiv 2).tmod ((arcsOf n L c ⟨R, X, H⟩).length : Int) = i := ⟨_, (Int.toNat_of_nonneg hi.1).symm⟩
      rw [hie] at hi
      simp only [hie]
      obtain ⟨j, g1, g2, g3, -, g4⟩ := push_at hp r (show i < (arcsOf n L c ⟨R, X, H⟩).length by have := hi.2; omega)
      refine Ok.gd.2 ⟨⟨by omega, by constructor <;> omega⟩, Ok.gd.2 ⟨(by (first | omega | (constructor <;> omega) | (simp only [List.length_set, List.length_replicate]; omega) | (simp only [List.length_set, List.length_replicate]; constructor <;> omega))), Ok.gd.2 ⟨hi, ?_⟩⟩⟩
      rw [Int.toNat_natCast, g4]
      exact j3 _ (.inl ⟨j, g1, g2, g3, rfl⟩)
    · have hi := idx_lt (k := mv.getD k 0) (by omega) (show 0 < (vertsOf n m c ⟨R, X, H⟩).length by omega)
      obtain ⟨i, hie⟩ : ∃ i : Nat, ((mv.getD k 0).tdiv 2).tmod ((vertsOf n m c ⟨R, X, H⟩).length : Int) = i := ⟨_, (Int.toNat_of_nonneg hi.1).symm⟩
      rw [hie] at hi
      simp only [hie]
      obtain ⟨u, g1, g2, -, g4⟩ := lift_at hp r (show i < (vertsOf n m c ⟨R, X, H⟩).length by have := hi.2; omega)
      refine Ok.gd.2 ⟨⟨by omega, by constructor <;> omega⟩, Ok.gd.2 ⟨(by (first | omega | (constructor <;> omega) | (simp only [List.length_set, List.length_replicate]; omega) | (simp only [List.length_set, List.length_replicate]; constructor <;> omega))), Ok.gd.2 ⟨hi, ?_⟩⟩⟩
      rw [Int.toNat_natCast, g4]
      exact j3 _ (.inr ⟨u, g1, g2, rfl⟩)
  refine Ok.ite.2 ⟨fun h => (have h' : 0 < ((arcsOf n L c ⟨R, X, H⟩).length : Int) := h; Ok.ite.2 ⟨fun _ => j2 true fun _ => by omega, fun _ => j2 _ fun _ => by omega⟩), fun h => j2 false fun h2 => by cases h2⟩
end row
end Go.Acq
namespace Go.Acq
open Go
set_option linter.unusedSimpArgs false
end Go.Acq
namespace Go.Acq
open Go
set_option linter.unusedSimpArgs false
/-- a row of bytes that comes in -/
structure ByteRow (l : List Int) : Prop where
  row : ∀ x, x ∈ l → u8ok x
  len : l.length ≤ 9223372036854775807
theorem getD_app {α : Type} {xs : List α} {y d : α} {i : Nat} (h : i < xs.length) : (xs ++ [y]).getD i d = xs.getD i d := by
  rw [List.getD_eq_getElem?_getD, List.getElem?_append_left h, List.getD_eq_getElem?_getD]
theorem getD_last {α : Type} {xs : List α} {y d : α} {i : Nat} (h : i = xs.length) : (xs ++ [y]).getD i d = y := by
  subst h
  rw [List.getD_eq_getElem?_getD, List.getElem?_append_right (Nat.le_refl _)]; simp
/-- a way from v to w -/
structure PathP (n : Net) (v : Int) (l : List Hop) (w : Int) : Prop where
  way : WayK n l l.length
  start : 0 < l.length → hfr n (l.getD 0 default) = v
  fin : w = if l.length = 0 then v else hto n (l.getD (l.length - 1) default)
theorem PathP.nil (n : Net) (v : Int) : PathP n v [] v := ⟨⟨fun i h => by simp at h, fun i h => by simp at h⟩, fun h => by simp at h, rfl⟩
theorem PathP.app {n : Net} {v w : Int} {l : List Hop} (h : PathP n v l w) {p : Hop} (hp : hok n p) (hw : hfr n p = w) : PathP n v (l ++ [p]) (hto n p) := by
  refine ⟨⟨fun i hi => ?_, fun i hi => ?_⟩, fun _ => ?_, ?_⟩
  · rw [List.length_append, List.length_singleton] at hi
    rcases Nat.lt_or_ge i l.length with h1 | h1
    · rw [getD_app h1]; exact h.way.1 i h1
    · rw [getD_last (by omega)]; exact hp
  · rw [List.length_append, List.length_singleton] at hi
    rcases Nat.lt_or_ge (i + 1) l.length with h1 | h1
    · rw [getD_app h1, getD_app (by omega)]; exact h.way.2 i h1
    · rw [getD_last (by omega), getD_app (by omega), hw, h.fin, if_neg (by omega), show l.length - 1 = i by omega]
  · rcases Nat.lt_or_ge 0 l.length with h1 | h1
    · rw [getD_app h1]; exact h.start h1
    · rw [getD_last (by omega), hw, h.fin, if_pos (by omega)]
  · rw [List.length_append, List.length_singleton, if_neg (by omega), Nat.add_sub_cancel, getD_last rfl]
/-! ### what is sent moves the ends alone -/
def one (a b : Int) : Int := if a = b then 1 else 0
/-! ### back -/
def flipH (h : Hop) : Hop := ⟨h.Arc, !h.Back⟩
theorem hfr_flip (n : Net) (h : Hop) : hfr n (flipH h) = hto n h := by
  unfold hfr hto flipH
  cases hB : h.Back <;> simp
theorem hto_flip (n : Net) (h : Hop) : hto n (flipH h) = hfr n h := by
  unfold hfr hto flipH
  cases hB : h.Back <;> simp
def BackIs (l b : List Hop) : Prop := b.length = l.length ∧ ∀ q, q < l.length → b.getD q default = flipH (l.getD (l.length - 1 - q) default)
theorem BackIs.way {n : Net} {l b : List Hop} (h : BackIs l b) (hw : WayK n l l.length) : WayK n b b.length := by
  rw [h.1]
  refine ⟨fun i hi => ?_, fun i hi => ?_⟩
  · rw [h.2 i hi]; exact hw.1 _ (by omega)
  · rw [h.2 i (by omega), h.2 (i + 1) hi, hfr_flip, hto_flip]
    have := hw.2 (l.length - 1 - (i + 1)) (by omega)
    rw [show l.length - 1 - (i + 1) + 1 = l.length - 1 - i by omega] at this
    exact this.symm
theorem BackIs.cnt {l b : List Hop} (h : BackIs l b) (i : Int) : cntH b i b.length = -cntH l i l.length := by
  have key : ∀ q, q ≤ l.length → cntH b i q = cntH l i (l.length - q) - cntH l i l.length := by
    intro q
    induction q with
    | zero => intro _; simp only [cntH, Nat.sub_zero]; omega
    | succ q ih =>
      intro hq
      have e : l.length - q = (l.length - 1 - q) + 1 := by omega
      have ih := ih (by omega)
      rw [e] at ih
      simp only [cntH] at ih ⊢
      rw [ih, h.2 q (by omega), show l.length - (q + 1) = l.length - 1 - q by omega]
      simp only [flipH]
      by_cases c : (l.getD (l.length - 1 - q) default).Arc = i
      · by_cases hB : (l.getD (l.length - 1 - q) default).Back = true
        · simp only [c, hB, if_true, Bool.not_true, Bool.false_eq_true, if_false]; omega
        · simp only [c, if_true, Bool.eq_false_iff.2 hB, Bool.not_false, Bool.false_eq_true, if_false]; omega
      · simp only [c, if_false]; omega
  rw [h.1, key _ (Nat.le_refl _), Nat.sub_self]
  simp only [cntH]; omega
end Go.Acq
namespace Go.Acq
open Go
set_option linter.unusedSimpArgs false
theorem p_awake07 : m_acequialaw07_awake = some true := by decide +kernel
/-- how many are so -/
def cntB (b : Nat → Bool) : Nat → Int
  | 0 => 0
  | k + 1 => cntB b k + if b k = true then 1 else 0
theorem cntB_le (b : Nat → Bool) : ∀ k : Nat, 0 ≤ cntB b k ∧ cntB b k ≤ k
  | 0 => by simp [cntB]
  | k + 1 => by have := cntB_le b k; simp only [cntB]; split <;> omega
theorem cntB_none {b : Nat → Bool} : ∀ {k : Nat}, (∀ v, v < k → ¬b v = true) → cntB b k = 0
  | 0, _ => rfl
  | k + 1, h => by simp only [cntB]; rw [cntB_none fun v hv => h v (by omega), if_neg (h k (by omega))]; rfl
theorem cntB_one {b : Nat → Bool} {i : Nat} : ∀ {k : Nat}, (∀ v, v < k → (b v = true ↔ v = i)) → cntB b k = if i < k then 1 else 0
  | 0, _ => by rw [if_neg (by omega)]; rfl
  | k + 1, h => by
    simp only [cntB]
    rw [cntB_one fun v hv => h v (by omega)]
    by_cases e : k = i
    · rw [if_pos ((h k (by omega)).2 e), if_neg (show ¬ i < k by omega), if_pos (show i < k + 1 by omega)]; rfl
    · rw [if_neg fun h2 => e ((h k (by omega)).1 h2)]
      by_cases e2 : i < k
      · rw [if_pos e2, if_pos (show i < k + 1 by omega)]; rfl
      · rw [if_neg e2, if_neg (show ¬ i < k + 1 by omega)]; rfl
theorem cntB_two {b : Nat → Bool} {i j : Nat} (hij : i ≠ j) : ∀ {k : Nat}, (∀ v, v < k → (b v = true ↔ v = i ∨ v = j)) → cntB b k = (if i < k then 1 else 0) + (if j < k then 1 else 0)
  | 0, _ => by rw [if_neg (by omega), if_neg (by omega)]; rfl
  | k + 1, h => by
    have hk := h k (by omega)
    simp only [cntB]
    rw [cntB_two hij fun v hv => h v (by omega)]
    by_cases e : k = i
    · rw [if_pos (hk.2 (.inl e)), if_neg (show ¬ i < k by omega), if_pos (show i < k + 1 by omega)]
      by_cases e2 : j < k
      · rw [if_pos e2, if_pos (show j < k + 1 by omega)]; rfl
      · rw [if_neg e2, if_neg (show ¬ j < k + 1 by omega)]; rfl
    · by_cases e3 : k = j
      · rw [if_pos (hk.2 (.inr e3)), if_neg (show ¬ j < k by omega), if_pos (show j < k + 1 by omega)]
        by_cases e2 : i < k
        · rw [if_pos e2, if_pos (show i < k + 1 by omega)]; rfl
        · rw [if_neg e2, if_neg (show ¬ i < k + 1 by omega)]; rfl
      · rw [if_neg fun h2 => (hk.1 h2).elim e e3]
        by_cases e2 : i < k <;> by_cases e4 : j < k
        · rw [if_pos e2, if_pos e4, if_pos (show i < k + 1 by omega), if_pos (show j < k + 1 by omega)]; rfl
        · rw [if_pos e2, if_neg e4, if_pos (show i < k + 1 by omega), if_neg (show ¬ j < k + 1 by omega)]; rfl
        · rw [if_neg e2, if_pos e4, if_neg (show ¬ i < k + 1 by omega), if_pos (show j < k + 1 by omega)]; rfl
        · rw [if_neg e2, if_neg e4, if_neg (show ¬ i < k + 1 by omega), if_neg (show ¬ j < k + 1 by omega)]; rfl
section row
variable {n : Net} {m L : Nat} {c : Csr}
def cLift (was p : Pre) (v : Nat) : Bool := decide (was.H.getD v 0 < p.H.getD v 0)
def cGone (was p : Pre) (v : Nat) : Bool := decide (p.Ex.getD v 0 - was.Ex.getD v 0 < 0)
def cGot (was p : Pre) (v : Nat) : Bool := decide (0 < p.Ex.getD v 0 - was.Ex.getD v 0)
theorem s_rises {was p : Pre} {fl : Bool} {Q : Bool × Bool → Prop} (r : Row n m L c) (hw : PreOK n m L c was) (hp : PreOK n m L c p) (hH : ∀ v, v < m → was.H.getD v 0 ≤ p.H.getD v 0) (hX : ∀ v, v < m → -4611686018427387904 ≤ p.Ex.getD v 0 - was.Ex.getD v 0 ∧ p.Ex.getD v 0 - was.Ex.getD v 0 ≤ 4611686018427387904)
    (hQ : Ok (m_acequialaw07_PreRises_1_j3 c was p fl (cntB (cLift was p) m) (cntB (cGone was p) m) (cntB (cGot was p) m)) Q) : Ok (m_acequialaw07_PreRises_1 c was p fl) Q := by
  have b := r.bd
  have hN := r.is.hN
  have w1 := hw.ok.lx
  have w2 := hw.hs.1
  have p1 := hp.ok.lx
  have p2 := hp.hs.1
  unfold m_acequialaw07_PreRises_1
  refine Ok.bind.2 (Ok.lp (fun s => ∃ k : Nat, s.2.2.2 = k ∧ k ≤ m ∧ s.1 = cntB (cLift was p) k ∧ s.2.1 = cntB (cGone was p) k ∧ s.2.2.1 = cntB (cGot was p) k) (fun s => (m - s.2.2.2).toNat) ⟨0, rfl, by omega, rfl, rfl, rfl⟩ (by unfold FUEL; simp only; omega) ?_)
  rintro ⟨a1, a2, a3, x⟩ ⟨k, h1, hk, e1, e2, e3⟩ P next exit
  simp only at h1 e1 e2 e3 next ⊢
  subst h1; subst e1; subst e2; subst e3
  unfold m_acequialaw07_PreRises_1_s1
  rw [hN]
  simp only [Int.toNat_natCast]
  have c1 := cntB_le (cLift was p) k
  have c2 := cntB_le (cGone was p) k
  have c3 := cntB_le (cGot was p) k
  refine Ok.ite.2 ⟨fun hx => ?_, fun hx => Ok.some.2 (exit _ (by obtain rfl : k = m := by omega
                                                                 exact hQ))⟩
  have hkm : k < m := by omega
  have h1 := hH k hkm
  have h2 := hX k hkm
  have h3 := hp.hs.2.2.2 k hkm
  refine Ok.gd.2 ⟨(by (first | omega | (constructor <;> omega) | (simp only [List.length_set, List.length_replicate]; omega) | (simp only [List.length_set, List.length_replicate]; constructor <;> omega))), Ok.gd.2 ⟨(by (first | omega | (constructor <;> omega) | (simp only [List.length_set, List.length_replicate]; omega) | (simp only [List.length_set, List.length_replicate]; constructor <;> omega))), Ok.ite.2 ⟨fun h => by omega, fun _ => Ok.gd.2 ⟨(by (first | omega | (constructor <;> omega) | (simp only [List.length_set, List.length_replicate]; omega) | (simp only [List.length_set, List.length_replicate]; constructor <;> omega))), Ok.gd.2 ⟨by constructor <;> omega, Ok.ite.2 ⟨fun h => by omega, fun _ => Ok.gd.2 ⟨(by (first | omega | (constructor <;> omega) | (simp only [List.length_set, List.length_replicate]; omega) | (simp only [List.length_set, List.length_replicate]; constructor <;> omega))), Ok.gd.2 ⟨(by (first | omega | (constructor <;> omega) | (simp only [List.length_set, List.length_replicate]; omega) | (simp only [List.length_set, List.length_replicate]; constructor <;> omega))), ?_⟩⟩⟩⟩⟩⟩⟩⟩
  have j2 : ∀ l : Int, l = cntB (cLift was p) (k + 1) → Ok (m_acequialaw07_PreRises_1_j2 was p (cntB (cGone was p) k) (cntB (cGot was p) k) k l) P := by
    rintro l rfl
    unfold m_acequialaw07_PreRises_1_j2
    simp only [Int.toNat_natCast]
    have gE : cntB (cGone was p) (k + 1) = cntB (cGone was p) k + if p.Ex.getD k 0 - was.Ex.getD k 0 < 0 then 1 else 0 := by
      simp only [cntB, cGone, decide_eq_true_eq]
    have gT : cntB (cGot was p) (k + 1) = cntB (cGot was p) k + if 0 < p.Ex.getD k 0 - was.Ex.getD k 0 then 1 else 0 := by
      simp only [cntB, cGot, decide_eq_true_eq]
    refine Ok.gd.2 ⟨(by (first | omega | (constructor <;> omega) | (simp only [List.length_set, List.length_replicate]; omega) | (simp only [List.length_set, List.length_replicate]; constructor <;> omega))), Ok.gd.2 ⟨(by (first | omega | (constructor <;> omega) | (simp only [List.length_set, List.length_replicate]; omega) | (simp only [List.length_set, List.length_replicate]; constructor <;> omega))), Ok.gd.2 ⟨by constructor <;> omega, Ok.ite.2 ⟨fun h => Ok.gd.2 ⟨by constructor <;> omega, Ok.gd.2 ⟨(by (first | omega | (constructor <;> omega) | (simp only [List.length_set, List.length_replicate]; omega) | (simp only [List.length_set, List.length_replicate]; constructor <;> omega))), Ok.some.2 (next _ ⟨k + 1, by simp, by omega, rfl, ?_, ?_⟩ (by simp only; omega))⟩⟩, fun h => Ok.ite.2 ⟨fun h2 => Ok.gd.2 ⟨by constructor <;> omega, Ok.gd.2 ⟨(by (first | omega | (constructor <;> omega) | (simp only [List.length_set, List.length_replicate]; omega) | (simp only [List.length_set, List.length_replicate]; constructor <;> omega))), Ok.some.2 (next _ ⟨k + 1, by simp, by omega, rfl, ?_, ?_⟩ (by simp only; omega))⟩⟩, fun h2 => Ok.gd.2 ⟨(by (first | omega | (constructor <;> omega) | (simp only [List.length_set, List.length_replicate]; omega) | (simp only [List.length_set, List.length_replicate]; constructor <;> omega))), Ok.some.2 (next _ ⟨k + 1, by simp, by omega, rfl, ?_, ?_⟩ (by simp only; omega))⟩⟩⟩⟩⟩⟩
    · simp only; rw [gE, if_pos h]
    · simp only; rw [gT, if_neg (by omega)]; omega
    · simp only; rw [gE, if_neg h]; omega
    · simp only; rw [gT, if_pos h2]
    · simp only; rw [gE, if_neg h]; omega
    · simp only; rw [gT, if_neg h2]; omega
  have lE : cntB (cLift was p) (k + 1) = cntB (cLift was p) k + if was.H.getD k 0 < p.H.getD k 0 then 1 else 0 := by
    simp only [cntB, cLift, decide_eq_true_eq]
  refine Ok.ite.2 ⟨fun h => Ok.gd.2 ⟨by constructor <;> omega, j2 _ (by rw [lE, if_pos h])⟩, fun h => j2 _ (by rw [lE, if_neg h]; omega)⟩
theorem p_PreRises {n : Net} {mv : List Int} (hn : NetIn n) (hmv : ByteRow mv) : m_acequialaw07_PreRises n mv = some true := by
  refine ok_eq ?_
  unfold m_acequialaw07_PreRises
  refine Ok.bind.2 (Ok.mono (s_Some hn (by omega) (by omega) (by omega) (by omega)) fun q hr => ?_)
  obtain ⟨m, hm, hso⟩ := hr.nat
  have hlen := hr.arcs
  have hll := hmv.len
  refine Ok.gd.2 ⟨(by (first | omega | (constructor <;> omega) | (simp only [List.length_set, List.length_replicate]; omega) | (simp only [List.length_set, List.length_replicate]; constructor <;> omega))), Ok.bind.2 ?_⟩
  rw [show ∀ a b, m_acequialaw07_Play_PreRises_1 a b true = g_PlayB m_acequialaw07_PreRises_1 a b true from fun _ _ => rfl]
  refine Ok.mono (s_gPlayB hm hr.check (by omega) (by rw [List.length_take]; omega) (fun x hx => hmv.row x (List.mem_of_mem_take hx)) (fun c L r p hp => ?_) fun c L r was p hw hp hs => ?_) ?_
  · refine s_rises r hp hp (fun v _ => Int.le_refl _) (fun v hv => by omega) ?_
    rw [cntB_none fun v _ => by simp [cLift], cntB_none fun v _ => by simp [cGone], cntB_none fun v _ => by simp [cGot]]
    unfold m_acequialaw07_PreRises_1_j3
    rw [if_pos rfl]
    exact Ok.gd.2 ⟨by constructor <;> omega, Ok.gd.2 ⟨by constructor <;> omega, Ok.some.2 rfl⟩⟩
  · have b := r.bd
    rcases hs with ⟨j, hj, hA, hB, rfl⟩ | ⟨u, hu, hS, rfl⟩
    · have ht := r.tlh hj
      have hd' := r.head hj
      have hrv := r.rev hj
      have hle := hw.ok.rle r hj
      have hx1 := hw.ok.bnd r ht.1
      have h1 := hA.2.2
      have h2 := hB.1
      have hD : pushD c was j = min (was.Ex.getD (tl c j) 0) (was.Res.getD j 0) := rfl
      have hXv : ∀ v, (pushP c was j).Ex.getD v 0 = was.Ex.getD v 0 - (if tl c j = v then pushD c was j else 0) + (if hd c j = v then pushD c was j else 0) := fun v => mvX_getD r hw.ok.lx hj
      have hRk : ∀ k, (pushP c was j).Res.getD k 0 = if k = rv c j then was.Res.getD (rv c j) 0 + pushD c was j else if k = j then was.Res.getD j 0 - pushD c was j else was.Res.getD k 0 := fun k => mvR_getD r hw.ok.lr hj
      refine s_rises r hw hp (fun v _ => Int.le_refl _) (fun v hv => by rw [hXv]; split <;> split <;> omega) ?_
      have e1 : cntB (cLift was (pushP c was j)) m = 0 := cntB_none fun v _ => by simp [cLift, pushP]
      have e2 : cntB (cGone was (pushP c was j)) m = 1 := by
        rw [cntB_one (i := tl c j) fun v _ => ?_, if_pos ht.1]
        unfold cGone
        rw [decide_eq_true_iff, hXv]
        by_cases c1 : tl c j = v
        · rw [if_pos c1, if_neg fun e => ht.2.2.2 (c1.trans e.symm)]; exact ⟨fun _ => c1.symm, fun _ => by omega⟩
        · rw [if_neg c1]; exact ⟨fun h => by split at h <;> omega, fun h => absurd h.symm c1⟩
      have e3 : cntB (cGot was (pushP c was j)) m = 1 := by
        rw [cntB_one (i := hd c j) fun v _ => ?_, if_pos hd'.2]
        unfold cGot
        rw [decide_eq_true_iff, hXv]
        by_cases c1 : hd c j = v
        · rw [if_pos c1, if_neg fun e => ht.2.2.2 (e.trans c1.symm)]; exact ⟨fun _ => c1.symm, fun _ => by omega⟩
        · rw [if_neg c1]; exact ⟨fun h => by split at h <;> omega, fun h => absurd h.symm c1⟩
      rw [e1, e2, e3]
      unfold m_acequialaw07_PreRises_1_j3
      rw [if_neg (by simp), if_neg (by omega)]
      have hpl := hp.ok.lr
      have hwl := hw.ok.lr
      have hpx := hp.ok.lx
      have hb2 : ∀ k, k ≤ L → cntB (fun a => decide ((pushP c was j).Res.getD a 0 ≠ was.Res.getD a 0)) k = (if j < k then 1 else 0) + (if rv c j < k then 1 else 0) := fun k _ => cntB_two (Ne.symm hrv.2.2.2) fun v _ => by
        rw [decide_eq_true_iff, hRk]
        by_cases c1 : v = rv c j
        · rw [if_pos c1]; exact ⟨fun _ => .inr c1, fun _ => by rw [c1]; omega⟩
        · rw [if_neg c1]
          by_cases c2 : v = j
          · rw [if_pos c2]; exact ⟨fun _ => .inl c2, fun _ => by rw [c2]; omega⟩
          · rw [if_neg c2]; exact ⟨fun h => absurd rfl h, fun h => absurd h (by omega)⟩
      refine Ok.bind.2 (Ok.lp (fun s => ∃ k : Nat, s.2.2 = k ∧ k ≤ L ∧ s.1 = cntB (fun a => decide ((pushP c was j).Res.getD a 0 ≠ was.Res.getD a 0)) k ∧ (j < k → s.2.1 = true)) (fun s => (L - s.2.2).toNat) ⟨0, rfl, by omega, rfl, fun h => by omega⟩ (by unfold FUEL; simp only; omega) ?_)
      rintro ⟨ch, us, x⟩ ⟨k, g1, hk, g2, g3⟩ P next exit
      simp only at g1 g2 g3 next ⊢
      subst g1; subst g2
      unfold m_acequialaw07_PreRises_1_s4
      simp only [Int.toNat_natCast]
      have cl := cntB_le (fun a => decide ((pushP c was j).Res.getD a 0 ≠ was.Res.getD a 0)) k
      have cs : cntB (fun a => decide ((pushP c was j).Res.getD a 0 ≠ was.Res.getD a 0)) (k + 1) = cntB (fun a => decide ((pushP c was j).Res.getD a 0 ≠ was.Res.getD a 0)) k + if (pushP c was j).Res.getD k 0 ≠ was.Res.getD k 0 then 1 else 0 := by simp only [cntB, decide_eq_true_eq]
      refine Ok.ite.2 ⟨fun hx => ?_, fun hx => Ok.some.2 (exit _ ?_)⟩
      · have hkL : k < L := by omega
        refine Ok.gd.2 ⟨(by (first | omega | (constructor <;> omega) | (simp only [List.length_set, List.length_replicate]; omega) | (simp only [List.length_set, List.length_replicate]; constructor <;> omega))), Ok.gd.2 ⟨(by (first | omega | (constructor <;> omega) | (simp only [List.length_set, List.length_replicate]; omega) | (simp only [List.length_set, List.length_replicate]; constructor <;> omega))), Ok.ite.2 ⟨fun heq => Ok.gd.2 ⟨(by (first | omega | (constructor <;> omega) | (simp only [List.length_set, List.length_replicate]; omega) | (simp only [List.length_set, List.length_replicate]; constructor <;> omega))), Ok.some.2 (next _ ⟨k + 1, by simp, by omega, ?_, fun h => ?_⟩ (by simp only; omega))⟩, fun hne => Ok.gd.2 ⟨by constructor <;> omega, Ok.gd.2 ⟨(by (first | omega | (constructor <;> omega) | (simp only [List.length_set, List.length_replicate]; omega) | (simp only [List.length_set, List.length_replicate]; constructor <;> omega))), Ok.gd.2 ⟨(by (first | omega | (constructor <;> omega) | (simp only [List.length_set, List.length_replicate]; omega) | (simp only [List.length_set, List.length_replicate]; constructor <;> omega))), Ok.ite.2 ⟨fun hlt => ?_, fun hge => Ok.gd.2 ⟨(by (first | omega | (constructor <;> omega) | (simp only [List.length_set, List.length_replicate]; omega) | (simp only [List.length_set, List.length_replicate]; constructor <;> omega))), Ok.some.2 (next _ ⟨k + 1, by simp, by omega, ?_, fun h => ?_⟩ (by simp only; omega))⟩⟩⟩⟩⟩⟩⟩⟩
        · simp only; rw [cs, if_neg (not_not_intro heq), Int.add_zero]
        · have : j ≠ k := fun e => by rw [← e, hRk, if_neg fun e => hrv.2.2.2 e.symm, if_pos rfl] at heq; omega
          exact g3 (by omega)
        · have hjk : k = j := by
            rw [hRk] at hlt
            by_cases c1 : k = rv c j
            · rw [if_pos c1, c1] at hlt; omega
            · rw [if_neg c1] at hlt
              by_cases c2 : k = j
              · exact c2
              · rw [if_neg c2] at hlt; omega
          subst hjk
          have hR0 := hRk k
          rw [if_neg fun e => hrv.2.2.2 e.symm, if_pos rfl] at hR0
          have hX0 := hXv (tl c k)
          rw [if_pos rfl, if_neg fun e => ht.2.2.2 e.symm] at hX0
          refine Ok.bind.2 (ok_of (r.tailM hkL) ?_)
          simp only [Int.toNat_natCast]
          refine Ok.gd.2 ⟨(by (first | omega | (constructor <;> omega) | (simp only [List.length_set, List.length_replicate]; omega) | (simp only [List.length_set, List.length_replicate]; constructor <;> omega))), Ok.ite.2 ⟨fun h0 => Ok.gd.2 ⟨(by (first | omega | (constructor <;> omega) | (simp only [List.length_set, List.length_replicate]; omega) | (simp only [List.length_set, List.length_replicate]; constructor <;> omega))), Ok.some.2 (next _ ⟨k + 1, by simp, by omega, ?_, fun _ => rfl⟩ (by simp only; omega))⟩, fun h0 => Ok.gd.2 ⟨by constructor <;> omega, Ok.gd.2 ⟨(by (first | omega | (constructor <;> omega) | (simp only [List.length_set, List.length_replicate]; omega) | (simp only [List.length_set, List.length_replicate]; constructor <;> omega))), Ok.some.2 (next _ ⟨k + 1, by simp, by omega, ?_, fun _ => decide_eq_true (by omega)⟩ (by simp only; omega))⟩⟩⟩⟩
          · simp only; rw [cs, if_pos hne]
          · simp only; rw [cs, if_pos hne]
        · simp only; rw [cs, if_pos hne]
        · have : j ≠ k := fun e => by
            rw [← e, hRk, if_neg fun e => hrv.2.2.2 e.symm, if_pos rfl] at hge; omega
          exact g3 (by omega)
      · obtain rfl : k = L := by omega
        unfold m_acequialaw07_PreRises_1_j5
        rw [hb2 k (Nat.le_refl _), if_pos hj, if_pos hrv.2.1, g3 hj]
        exact Ok.some.2 rfl
    · have hl := hw.lift r hu hS
      have lh := hw.hs.1
      have hHu : ∀ v, (liftP c was m u).H.getD v 0 = if v = u then lowV c was m u + 1 else was.H.getD v 0 := fun v => by
        unfold liftP
        simp only
        rw [lset]
        by_cases e : v = u
        · rw [if_pos ⟨e.symm, by omega⟩, if_pos e]
        · rw [if_neg fun h => e h.1.symm, if_neg e]
      have h2 := hl.2
      refine s_rises r hw hp (fun v _ => ?_) (fun v hv => by simp only [liftP]; omega) ?_
      · rw [hHu]
        by_cases e : v = u
        · rw [if_pos e, e]; omega
        · rw [if_neg e]; exact Int.le_refl _
      have e1 : cntB (cLift was (liftP c was m u)) m = 1 := by
        rw [cntB_one (i := u) fun v _ => ?_, if_pos hu]
        unfold cLift
        rw [decide_eq_true_iff, hHu]
        by_cases e : v = u
        · rw [if_pos e]; exact ⟨fun _ => e, fun _ => by rw [e]; omega⟩
        · rw [if_neg e]; exact ⟨fun h => by omega, fun h => absurd h e⟩
      rw [e1, cntB_none fun v _ => by simp [cGone, liftP], cntB_none fun v _ => by simp [cGot, liftP]]
      unfold m_acequialaw07_PreRises_1_j3
      have hrl := hw.ok.lr
      rw [if_neg (by simp), if_pos (by omega), if_pos rfl]
      refine Ok.gd.2 ⟨by constructor <;> omega, ?_⟩
      rw [if_pos (by omega)]
      refine Ok.bind.2 (ok_of (s_Longs (by simp only [liftP]; omega)) (Ok.some.2 ?_))
      rw [decide_eq_true (by simp [liftP])]
  · rintro ⟨b, s⟩ h
    simp only at h ⊢
    subst h
    rw [if_pos rfl]
    exact Ok.bind.2 (ok_of p_awake07 (Ok.some.2 rfl))
end row
end Go.Acq
