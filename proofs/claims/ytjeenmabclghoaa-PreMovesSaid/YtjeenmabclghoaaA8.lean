/- Texts of this claim, one behind the other. -/
import Derived.Test.YtjeenmabclghoaaA7
import Derived.Test.YtjeenmabclghoaaA2
namespace Go.Acq
open Go
set_option linter.unusedSimpArgs false
/-- a row of bytes that comes in -/
structure ByteRow (l : List Int) : Prop where
  row : ∀ x, x ∈ l → u8ok x
  len : l.length ≤ 9223372036854775807
theorem getD_app {α : Type} {xs : List α} {y d : α} {i : Nat} (h : i < xs.length) : (xs ++ [y]).getD i d = xs.getD i d := by
  rw [List.getD_eq_getElem?_getD, List.getElem?_append_left h, List.getD_eq_getElem?_getD]
theorem getD_last {α : Type} {xs : List α} {y d : α} {i : Nat} (h : i = xs.length) : (xs ++ [y]).getD i d = y := by
  subst h
  rw [List.getD_eq_getElem?_getD, List.getElem?_append_right (Nat.le_refl _)]; simp
/-- a way from v to w -/
structure PathP (n : Net) (v : Int) (l : List Hop) (w : Int) : Prop where
  way : WayK n l l.length
  start : 0 < l.length → hfr n (l.getD 0 default) = v
  fin : w = if l.length = 0 then v else hto n (l.getD (l.length - 1) default)
theorem PathP.nil (n : Net) (v : Int) : PathP n v [] v := ⟨⟨fun i h => by simp at h, fun i h => by simp at h⟩, fun h => by simp at h, rfl⟩
theorem PathP.app {n : Net} {v w : Int} {l : List Hop} (h : PathP n v l w) {p : Hop} (hp : hok n p) (hw : hfr n p = w) : PathP n v (l ++ [p]) (hto n p) := by
  refine ⟨⟨fun i hi => ?_, fun i hi => ?_⟩, fun _ => ?_, ?_⟩
  · rw [List.length_append, List.length_singleton] at hi
    rcases Nat.lt_or_ge i l.length with h1 | h1
    · rw [getD_app h1]; exact h.way.1 i h1
    · rw [getD_last (by omega)]; exact hp
  · rw [List.length_append, List.length_singleton] at hi
    rcases Nat.lt_or_ge (i + 1) l.length with h1 | h1
    · rw [getD_app h1, getD_app (by omega)]; exact h.way.2 i h1
    · rw [getD_last (by omega), getD_app (by omega), hw, h.fin, if_neg (by omega), show l.length - 1 = i by omega]
  · rcases Nat.lt_or_ge 0 l.length with h1 | h1
    · rw [getD_app h1]; exact h.start h1
    · rw [getD_last (by omega), hw, h.fin, if_pos (by omega)]
  · rw [List.length_append, List.length_singleton, if_neg (by omega), Nat.add_sub_cancel, getD_last rfl]
/-! ### what is sent moves the ends alone -/
def one (a b : Int) : Int := if a = b then 1 else 0
/-! ### back -/
def flipH (h : Hop) : Hop := ⟨h.Arc, !h.Back⟩
theorem hfr_flip (n : Net) (h : Hop) : hfr n (flipH h) = hto n h := by
  unfold hfr hto flipH
  cases hB : h.Back <;> simp
theorem hto_flip (n : Net) (h : Hop) : hto n (flipH h) = hfr n h := by
  unfold hfr hto flipH
  cases hB : h.Back <;> simp
def BackIs (l b : List Hop) : Prop := b.length = l.length ∧ ∀ q, q < l.length → b.getD q default = flipH (l.getD (l.length - 1 - q) default)
theorem BackIs.way {n : Net} {l b : List Hop} (h : BackIs l b) (hw : WayK n l l.length) : WayK n b b.length := by
  rw [h.1]
  refine ⟨fun i hi => ?_, fun i hi => ?_⟩
  · rw [h.2 i hi]; exact hw.1 _ (by omega)
  · rw [h.2 i (by omega), h.2 (i + 1) hi, hfr_flip, hto_flip]
    have := hw.2 (l.length - 1 - (i + 1)) (by omega)
    rw [show l.length - 1 - (i + 1) + 1 = l.length - 1 - i by omega] at this
    exact this.symm
theorem BackIs.cnt {l b : List Hop} (h : BackIs l b) (i : Int) : cntH b i b.length = -cntH l i l.length := by
  have key : ∀ q, q ≤ l.length → cntH b i q = cntH l i (l.length - q) - cntH l i l.length := by
    intro q
    induction q with
    | zero => intro _; simp only [cntH, Nat.sub_zero]; omega
    | succ q ih =>
      intro hq
      have e : l.length - q = (l.length - 1 - q) + 1 := by omega
      have ih := ih (by omega)
      rw [e] at ih
      simp only [cntH] at ih ⊢
      rw [ih, h.2 q (by omega), show l.length - (q + 1) = l.length - 1 - q by omega]
      simp only [flipH]
      by_cases c : (l.getD (l.length - 1 - q) default).Arc = i
      · by_cases hB : (l.getD (l.length - 1 - q) default).Back = true
        · simp only [c, hB, if_true, Bool.not_true, Bool.false_eq_true, if_false]; omega
        · simp only [c, if_true, Bool.eq_false_iff.2 hB, Bool.not_false, Bool.false_eq_true, if_false]; omega
      · simp only [c, if_false]; omega
  rw [h.1, key _ (Nat.le_refl _), Nat.sub_self]
  simp only [cntH]; omega
end Go.Acq
namespace Go.Acq
open Go
set_option linter.unusedSimpArgs false
theorem p_awake07 : m_acequialaw07_awake = some true := by decide +kernel
/-- whoever is active may be lifted, or an arc from it pushed -/
theorem act_iff {n : Net} {m L : Nat} {c : Csr} {p : Pre} (r : Row n m L c) {u : Nat} (hu : u < m) : ActP n p.Ex u ↔ (∃ j, j < L ∧ tl c j = u ∧ ActP n p.Ex (tl c j) ∧ AdmP c p (tl c j) j) ∨ StuckP n c p u := by
  have hfl := r.first.2.2.2 u hu
  constructor
  · intro h
    by_cases e : ∃ j, fs c u ≤ j ∧ j < fs c (u + 1) ∧ AdmP c p u j
    · obtain ⟨j, h1, h2, h3⟩ := e
      have ht := (r.range (show j < L by omega) hu).1 ⟨h1, h2⟩
      exact .inl ⟨j, by omega, ht, by rw [ht]; exact h, by rw [ht]; exact h3⟩
    · exact .inr ⟨h, fun j h1 h2 h3 => e ⟨j, h1, h2, h3⟩⟩
  · rintro (⟨j, h1, h2, h3, -⟩ | h)
    · rw [← h2]; exact h3
    · exact h.1
theorem p_PreMoves {n : Net} {mv : List Int} (hn : NetIn n) (hmv : ByteRow mv) : m_acequialaw07_PreMoves n mv = some true := by
  refine ok_eq ?_
  unfold m_acequialaw07_PreMoves
  refine Ok.bind.2 (Ok.mono (s_Some hn (by omega) (by omega) (by omega) (by omega)) fun q hr => ?_)
  obtain ⟨m, hm, hso⟩ := hr.nat
  have hlen := hr.arcs
  have hll := hmv.len
  refine Ok.gd.2 ⟨(by (first | omega | (constructor <;> omega) | (simp only [List.length_set, List.length_replicate]; omega) | (simp only [List.length_set, List.length_replicate]; constructor <;> omega))), Ok.bind.2 ?_⟩
  rw [show ∀ a b, m_acequialaw07_Play_PreMoves_1 a b = g_Play m_acequialaw07_PreMoves_1 a b from fun _ _ => rfl]
  refine Ok.mono (s_gPlay hm hr.check (by omega) (by rw [List.length_take]; omega) (fun x hx => hmv.row x (List.mem_of_mem_take hx)) fun c L r was p _ hp _ => ?_) ?_
  rotate_left
  · rintro b rfl
    rw [if_pos rfl]
    exact Ok.bind.2 (ok_of p_awake07 (Ok.some.2 rfl))
  have b := r.bd
  have hN := r.is.hN
  unfold m_acequialaw07_PreMoves_1
  refine Ok.bind.2 (ok_of (hp.may r) ?_)
  simp only
  obtain ⟨al, hal⟩ : ∃ al, arcsOf q L c p = al := ⟨_, rfl⟩
  obtain ⟨vl, hvl⟩ : ∃ vl, vertsOf q m c p = vl := ⟨_, rfl⟩
  have hall : al.length ≤ L := by rw [← hal]; exact selN_len _ _
  have hvll : vl.length ≤ m := by rw [← hvl]; exact selN_len _ _
  rw [hal, hvl, hN]
  simp only [Int.toNat_natCast]
  refine Ok.gd.2 ⟨(by (first | omega | (constructor <;> omega) | (simp only [List.length_set, List.length_replicate]; omega) | (simp only [List.length_set, List.length_replicate]; constructor <;> omega))), Ok.bind.2 ?_⟩
  refine Ok.lp (fun s => ∃ k : Nat, s.2 = k ∧ k ≤ al.length ∧ s.1.length = m ∧ ∀ v, v < m → ((∃ i, i < k ∧ ∃ j : Nat, al.getD i 0 = j ∧ tl c j = v) → s.1.getD v 0 = 1) ∧ ((¬∃ i, i < k ∧ ∃ j : Nat, al.getD i 0 = j ∧ tl c j = v) → s.1.getD v 0 = 0)) (fun s => (al.length - s.2).toNat) ⟨0, rfl, by omega, by simp, fun v hv => ⟨fun ⟨i, hi, _⟩ => by omega, fun _ => by rw [getD_replicate]⟩⟩ (by unfold FUEL; simp only; omega) ?_
  rintro ⟨xs, x⟩ ⟨k, h1, hk, hxl, hx⟩ P next exit
  simp only at h1 hxl hx next ⊢
  subst h1
  unfold m_acequialaw07_PreMoves_1_s1
  simp only [Int.toNat_natCast]
  refine Ok.ite.2 ⟨fun hxx => ?_, fun hxx => Ok.some.2 (exit _ ?_)⟩
  · obtain ⟨j, g1, g2, g3, g4, g5⟩ := push_at hp r (i := k) (by rw [hal]; omega)
    rw [hal] at g4 g5
    have ht := (r.tlh g1).1
    refine Ok.gd.2 ⟨(by (first | omega | (constructor <;> omega) | (simp only [List.length_set, List.length_replicate]; omega) | (simp only [List.length_set, List.length_replicate]; constructor <;> omega))), Ok.bind.2 (ok_of (by rw [g4]; exact r.tailM g1) (Ok.bind.2 (ok_of g5 ?_)))⟩
    simp only
    rw [if_neg (by simp), if_neg (by simp)]
    refine Ok.gd.2 ⟨(by (first | omega | (constructor <;> omega) | (simp only [List.length_set, List.length_replicate]; omega) | (simp only [List.length_set, List.length_replicate]; constructor <;> omega))), Ok.gd.2 ⟨(by (first | omega | (constructor <;> omega) | (simp only [List.length_set, List.length_replicate]; omega) | (simp only [List.length_set, List.length_replicate]; constructor <;> omega))), Ok.gd.2 ⟨(by (first | omega | (constructor <;> omega) | (simp only [List.length_set, List.length_replicate]; omega) | (simp only [List.length_set, List.length_replicate]; constructor <;> omega))), Ok.some.2 (next _ ⟨k + 1, by simp, by omega, by simp [hxl], fun v hv => ?_⟩ (by simp only; omega))⟩⟩⟩
    simp only [Int.toNat_natCast, lset, hxl]
    have key : (∃ i, i < k + 1 ∧ ∃ j : Nat, al.getD i 0 = j ∧ tl c j = v) ↔ (∃ i, i < k ∧ ∃ j : Nat, al.getD i 0 = j ∧ tl c j = v) ∨ tl c j = v := by
      constructor
      · rintro ⟨i, h2, j', h3, h4⟩
        rcases Nat.lt_or_ge i k with h5 | h5
        · exact .inl ⟨i, h5, j', h3, h4⟩
        · rw [show i = k by omega, g4] at h3
          have : j = j' := by omega
          subst this; exact .inr h4
      · rintro (⟨i, h2, h3⟩ | h2)
        · exact ⟨i, by omega, h3⟩
        · exact ⟨k, by omega, j, g4, h2⟩
    by_cases e : tl c j = v
    · subst e
      refine ⟨fun _ => ?_, fun h => absurd (key.2 (.inr rfl)) h⟩
      rw [if_pos ⟨rfl, hv⟩]
      by_cases e2 : ∃ i, i < k ∧ ∃ j' : Nat, al.getD i 0 = j' ∧ tl c j' = tl c j
      · rw [(hx _ hv).1 e2]; decide
      · rw [(hx _ hv).2 e2]; decide
    · rw [if_neg fun h => e h.1]
      exact ⟨fun h => (hx v hv).1 ((key.1 h).resolve_right e), fun h => (hx v hv).2 fun h2 => h (key.2 (.inl h2))⟩
  obtain rfl : k = al.length := by omega
  have hpush : ∀ v, v < m → ((∃ i, i < al.length ∧ ∃ j : Nat, al.getD i 0 = j ∧ tl c j = v) ↔ ∃ j, j < L ∧ tl c j = v ∧ ActP q p.Ex (tl c j) ∧ AdmP c p (tl c j) j) := fun v hv => by
    constructor
    · rintro ⟨i, h1, j, h2, h3⟩
      obtain ⟨j', g1, g2, g3, g4, -⟩ := push_at hp r (i := i) (by rw [hal]; exact h1)
      rw [hal, h2] at g4
      have : j = j' := by omega
      subst this
      exact ⟨j, g1, h3, g2, g3⟩
    · rintro ⟨j, h1, h2, h3⟩
      have hm2 : ((j : Nat) : Int) ∈ al := by rw [← hal]; exact mem_selN.2 ⟨j, h1, decide_eq_true h3, rfl⟩
      obtain ⟨i, hi, he⟩ := List.mem_iff_getElem.1 hm2
      exact ⟨i, hi, j, by rw [List.getD_eq_getElem?_getD, List.getElem?_eq_getElem hi]; exact he, h2⟩
  unfold m_acequialaw07_PreMoves_1_j2
  refine Ok.bind.2 (Ok.lp (fun s => ∃ k : Nat, s.2 = k ∧ k ≤ vl.length ∧ s.1.length = m ∧ ∀ v, v < m → ((∃ i, i < k ∧ vl.getD i 0 = (v : Int)) → s.1.getD v 0 = 2) ∧ ((¬∃ i, i < k ∧ vl.getD i 0 = (v : Int)) → s.1.getD v 0 = xs.getD v 0)) (fun s => (vl.length - s.2).toNat) ⟨0, rfl, by omega, hxl, fun v hv => ⟨fun ⟨i, hi, _⟩ => by omega, fun _ => rfl⟩⟩ (by unfold FUEL; simp only; omega) ?_)
  rintro ⟨ys, y⟩ ⟨k, h1, hk2, hyl, hy⟩ P2 next2 exit2
  simp only at h1 hyl hy next2 ⊢
  subst h1
  unfold m_acequialaw07_PreMoves_1_s3
  simp only [Int.toNat_natCast]
  have hverts : ∀ i, i < vl.length → ∃ u : Nat, u < m ∧ StuckP q c p u ∧ vl.getD i 0 = (u : Nat) ∧ m_pre_Lift c p (vl.getD i 0) = some (liftP c p m u, 0) := fun i hi => by
    have := lift_at hp r (i := i) (by rw [hvl]; exact hi)
    rw [hvl] at this; exact this
  refine Ok.ite.2 ⟨fun hyy => ?_, fun hyy => Ok.some.2 (exit2 _ ?_)⟩
  · obtain ⟨u, g1, g2, g4, g5⟩ := hverts k (by omega)
    refine Ok.gd.2 ⟨(by (first | omega | (constructor <;> omega) | (simp only [List.length_set, List.length_replicate]; omega) | (simp only [List.length_set, List.length_replicate]; constructor <;> omega))), Ok.bind.2 (ok_of g5 ?_)⟩
    simp only [g4, Int.toNat_natCast]
    rw [if_neg (by simp)]
    refine Ok.gd.2 ⟨(by (first | omega | (constructor <;> omega) | (simp only [List.length_set, List.length_replicate]; omega) | (simp only [List.length_set, List.length_replicate]; constructor <;> omega))), Ok.gd.2 ⟨(by (first | omega | (constructor <;> omega) | (simp only [List.length_set, List.length_replicate]; omega) | (simp only [List.length_set, List.length_replicate]; constructor <;> omega))), Ok.gd.2 ⟨(by (first | omega | (constructor <;> omega) | (simp only [List.length_set, List.length_replicate]; omega) | (simp only [List.length_set, List.length_replicate]; constructor <;> omega))), Ok.some.2 (next2 _ ⟨k + 1, by simp, by omega, by simp [hyl], fun v hv => ?_⟩ (by simp only; omega))⟩⟩⟩
    simp only [lset, hyl]
    by_cases e : u = v
    · subst e
      refine ⟨fun _ => ?_, fun h => absurd ⟨k, by omega, g4⟩ h⟩
      rw [if_pos ⟨rfl, hv⟩]
      by_cases e2 : ∃ i, i < k ∧ vl.getD i 0 = (u : Int)
      · rw [(hy u hv).1 e2]; decide
      · have : ¬∃ i, i < al.length ∧ ∃ j : Nat, al.getD i 0 = j ∧ tl c j = u := fun h => by
          obtain ⟨j, a1, a2, a3, a4⟩ := (hpush u hv).1 h
          have := (r.range a1 hv).2 a2
          rw [a2] at a4
          exact g2.2 j this.1 this.2 a4
        rw [(hy u hv).2 e2, (hx u hv).2 this]; decide
    · rw [if_neg fun h => e h.1]
      have key : (∃ i, i < k + 1 ∧ vl.getD i 0 = (v : Int)) ↔ ∃ i, i < k ∧ vl.getD i 0 = (v : Int) := by
        constructor
        · rintro ⟨i, h2, h3⟩
          rcases Nat.lt_or_ge i k with h5 | h5
          · exact ⟨i, h5, h3⟩
          · rw [show i = k by omega, g4] at h3
            exact absurd (by omega) e
        · rintro ⟨i, h2, h3⟩; exact ⟨i, by omega, h3⟩
      rw [key]; exact hy v hv
  obtain rfl : k = vl.length := by omega
  have hstuck : ∀ v, v < m → ((∃ i, i < vl.length ∧ vl.getD i 0 = (v : Int)) ↔ StuckP q c p v) := fun v hv => by
    constructor
    · rintro ⟨i, h1, h2⟩
      obtain ⟨u, g1, g2, g4, -⟩ := hverts i h1
      have : u = v := by omega
      subst this; exact g2
    · intro h
      have hm2 : ((v : Nat) : Int) ∈ vl := by rw [← hvl]; exact mem_selN.2 ⟨v, hv, decide_eq_true h, rfl⟩
      obtain ⟨i, hi, he⟩ := List.mem_iff_getElem.1 hm2
      exact ⟨i, hi, by rw [List.getD_eq_getElem?_getD, List.getElem?_eq_getElem hi]; exact he⟩
  have hys : ∀ v, v < m → (ActP q p.Ex v → ys.getD v 0 = 1 ∨ ys.getD v 0 = 2) ∧ (¬ActP q p.Ex v → ys.getD v 0 = 0) := fun v hv => by
    by_cases e : StuckP q c p v
    · refine ⟨fun _ => .inr ((hy v hv).1 ((hstuck v hv).2 e)), fun h => absurd e.1 h⟩
    · have e1 := (hy v hv).2 fun h => e ((hstuck v hv).1 h)
      rw [e1]
      exact ⟨fun h => .inl ((hx v hv).1 ((hpush v hv).2 (((act_iff r hv).1 h).elim id fun h => absurd h e))), fun h => (hx v hv).2 fun h2 => h ((act_iff r hv).2 (.inl ((hpush v hv).1 h2)))⟩
  unfold m_acequialaw07_PreMoves_1_j4
  refine Ok.bind.2 (ok_of (s_Active r hp.ok.lx) (Ok.bind.2 ?_))
  obtain ⟨cl, hcl⟩ : ∃ cl, selN (fun u => decide (ActP q p.Ex u)) m = cl := ⟨_, rfl⟩
  have hcll : cl.length ≤ m := by rw [← hcl]; exact selN_len _ _
  have hact : ∀ i, i < cl.length → ∃ u : Nat, u < m ∧ ActP q p.Ex u ∧ cl.getD i 0 = (u : Nat) := fun i hi => by
    have hm2 := getD_mem hi 0
    rw [← hcl] at hm2
    obtain ⟨u, h1, h2, h3⟩ := mem_selN.1 hm2
    exact ⟨u, h1, of_decide_eq_true h2, by rw [← hcl]; exact h3⟩
  have hact2 : ∀ v, v < m → ActP q p.Ex v → ∃ i, i < cl.length ∧ cl.getD i 0 = (v : Int) := fun v hv h => by
    have hm2 : ((v : Nat) : Int) ∈ cl := by rw [← hcl]; exact mem_selN.2 ⟨v, hv, decide_eq_true h, rfl⟩
    obtain ⟨i, hi, he⟩ := List.mem_iff_getElem.1 hm2
    exact ⟨i, hi, by rw [List.getD_eq_getElem?_getD, List.getElem?_eq_getElem hi]; exact he⟩
  have hinj : ∀ i i', i < cl.length → i' < cl.length → cl.getD i 0 = cl.getD i' 0 → i = i' := by
    rw [← hcl]
    have key : ∀ k : Nat, (∀ i, i < (selN (fun u => decide (ActP q p.Ex u)) k).length → (selN (fun u => decide (ActP q p.Ex u)) k).getD i 0 < k) ∧ ∀ i i', i < (selN (fun u => decide (ActP q p.Ex u)) k).length → i' < (selN (fun u => decide (ActP q p.Ex u)) k).length → (selN (fun u => decide (ActP q p.Ex u)) k).getD i 0 = (selN (fun u => decide (ActP q p.Ex u)) k).getD i' 0 → i = i' := by
      intro k
      induction k with
      | zero => exact ⟨fun i hi => by simp [selN] at hi, fun i i' hi => by simp [selN] at hi⟩
      | succ k ih =>
        obtain ⟨i1, i2⟩ := ih
        simp only [selN]
        by_cases e : decide (ActP q p.Ex k) = true
        · rw [if_pos e]
          have gl : ∀ i, i < (selN (fun u => decide (ActP q p.Ex u)) k ++ [(k : Int)]).length → (i < (selN (fun u => decide (ActP q p.Ex u)) k).length ∧ (selN (fun u => decide (ActP q p.Ex u)) k ++ [(k : Int)]).getD i 0 = (selN (fun u => decide (ActP q p.Ex u)) k).getD i 0) ∨ (i = (selN (fun u => decide (ActP q p.Ex u)) k).length ∧ (selN (fun u => decide (ActP q p.Ex u)) k ++ [(k : Int)]).getD i 0 = k) := fun i hi => by
            rw [List.length_append, List.length_singleton] at hi
            rcases Nat.lt_or_ge i (selN (fun u => decide (ActP q p.Ex u)) k).length with h | h
            · exact .inl ⟨h, getD_appL h⟩
            · exact .inr ⟨by omega, getD_last (by omega)⟩
          refine ⟨fun i hi => ?_, fun i i' hi hi' he => ?_⟩
          · rcases gl i hi with ⟨h1, h2⟩ | ⟨h1, h2⟩
            · have := i1 i h1; rw [h2]; omega
            · rw [h2]; omega
          · rcases gl i hi with ⟨h1, h2⟩ | ⟨h1, h2⟩ <;> rcases gl i' hi' with ⟨h3, h4⟩ | ⟨h3, h4⟩
            · exact i2 i i' h1 h3 (by rw [← h2, ← h4]; exact he)
            · have := i1 i h1; rw [h2, h4] at he; omega
            · have := i1 i' h3; rw [h2, h4] at he; omega
            · omega
        · rw [if_neg e, List.append_nil]
          exact ⟨fun i hi => by have := i1 i hi; omega, i2⟩
    exact (key m).2
  rw [hcl]
  refine Ok.lp (fun s => ∃ k : Nat, s.2 = k ∧ k ≤ cl.length ∧ s.1.length = m ∧ ∀ v, v < m → ((∃ i, i < k ∧ cl.getD i 0 = (v : Int)) → s.1.getD v 0 = 0) ∧ ((¬∃ i, i < k ∧ cl.getD i 0 = (v : Int)) → s.1.getD v 0 = ys.getD v 0)) (fun s => (cl.length - s.2).toNat) ⟨0, rfl, by omega, hyl, fun v hv => ⟨fun ⟨i, hi, _⟩ => by omega, fun _ => rfl⟩⟩ (by unfold FUEL; simp only; omega) ?_
  rintro ⟨zs, z⟩ ⟨k, h1, hk3, hzl, hz⟩ P3 next3 exit3
  simp only at h1 hzl hz next3 ⊢
  subst h1
  unfold m_acequialaw07_PreMoves_1_s5
  simp only [Int.toNat_natCast]
  refine Ok.ite.2 ⟨fun hzz => ?_, fun hzz => Ok.some.2 (exit3 _ ?_)⟩
  · obtain ⟨u, g1, g2, g4⟩ := hact k (by omega)
    have hno : ¬∃ i, i < k ∧ cl.getD i 0 = (u : Int) := fun ⟨i, h1, h2⟩ => by
      have := hinj i k (by omega) (by omega) (h2.trans g4.symm); omega
    have hzu := (hz u g1).2 hno
    have hyu := (hys u g1).1 g2
    simp only [g4, Int.toNat_natCast]
    have nx : Ok (gd (inb ((u : Nat) : Int) zs.length) <| gd (i64ok ((k : Int) + 1)) <| some (.inl ((zs.set u 0), ((k : Int) + 1)))) P3 := by
      refine Ok.gd.2 ⟨(by (first | omega | (constructor <;> omega) | (simp only [List.length_set, List.length_replicate]; omega) | (simp only [List.length_set, List.length_replicate]; constructor <;> omega))), Ok.gd.2 ⟨(by (first | omega | (constructor <;> omega) | (simp only [List.length_set, List.length_replicate]; omega) | (simp only [List.length_set, List.length_replicate]; constructor <;> omega))), Ok.some.2 (next3 _ ⟨k + 1, by simp, by omega, by simp [hzl], fun v hv => ?_⟩ (by simp only; omega))⟩⟩
      simp only [lset, hzl]
      by_cases e : u = v
      · subst e
        exact ⟨fun _ => by rw [if_pos ⟨rfl, hv⟩], fun h => absurd ⟨k, by omega, g4⟩ h⟩
      · rw [if_neg fun h => e h.1]
        have key : (∃ i, i < k + 1 ∧ cl.getD i 0 = (v : Int)) ↔ ∃ i, i < k ∧ cl.getD i 0 = (v : Int) := by
          constructor
          · rintro ⟨i, h2, h3⟩
            rcases Nat.lt_or_ge i k with h5 | h5
            · exact ⟨i, h5, h3⟩
            · rw [show i = k by omega, g4] at h3
              exact absurd (by omega) e
          · rintro ⟨i, h2, h3⟩; exact ⟨i, by omega, h3⟩
        rw [key]; exact hz v hv
    refine Ok.gd.2 ⟨(by (first | omega | (constructor <;> omega) | (simp only [List.length_set, List.length_replicate]; omega) | (simp only [List.length_set, List.length_replicate]; constructor <;> omega))), Ok.gd.2 ⟨(by (first | omega | (constructor <;> omega) | (simp only [List.length_set, List.length_replicate]; omega) | (simp only [List.length_set, List.length_replicate]; constructor <;> omega))), Ok.ite.2 ⟨fun h => Ok.gd.2 ⟨(by (first | omega | (constructor <;> omega) | (simp only [List.length_set, List.length_replicate]; omega) | (simp only [List.length_set, List.length_replicate]; constructor <;> omega))), Ok.ite.2 ⟨fun h2 => ?_, fun _ => nx⟩⟩, fun _ => nx⟩⟩⟩
    exfalso; rw [hzu] at h h2; omega
  obtain rfl : k = cl.length := by omega
  unfold m_acequialaw07_PreMoves_1_j6
  refine Ok.bind.2 (Ok.lp (fun x => ∃ k : Nat, x = k ∧ k ≤ m) (fun x => (m - x).toNat) ⟨0, rfl, by omega⟩ (by unfold FUEL; omega) ?_)
  rintro x ⟨k, rfl, hk4⟩ P4 next4 exit4
  unfold m_acequialaw07_PreMoves_1_s7
  simp only [Int.toNat_natCast]
  refine Ok.ite.2 ⟨fun hx => Ok.gd.2 ⟨(by (first | omega | (constructor <;> omega) | (simp only [List.length_set, List.length_replicate]; omega) | (simp only [List.length_set, List.length_replicate]; constructor <;> omega))), Ok.ite.2 ⟨fun h => absurd ?_ h, fun _ => Ok.gd.2 ⟨(by (first | omega | (constructor <;> omega) | (simp only [List.length_set, List.length_replicate]; omega) | (simp only [List.length_set, List.length_replicate]; constructor <;> omega))), Ok.some.2 (next4 _ ⟨k + 1, by simp, by omega⟩ (by omega))⟩⟩⟩, fun hx => Ok.some.2 (exit4 _ (by unfold m_acequialaw07_PreMoves_1_j8; exact Ok.some.2 rfl))⟩
  have hkm : k < m := by omega
  by_cases e : ActP q p.Ex k
  · exact (hz k hkm).1 (hact2 k hkm e)
  · rw [(hz k hkm).2 fun ⟨i, h1, h2⟩ => by
      obtain ⟨u, a1, a2, a3⟩ := hact i h1
      have : u = k := by omega
      subst this; exact e a2]
    exact (hys k hkm).2 e
end Go.Acq
