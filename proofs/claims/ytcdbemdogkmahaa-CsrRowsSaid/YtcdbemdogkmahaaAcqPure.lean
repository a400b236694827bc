/- Plain data: arcs, nets; what the program's small functions compute. -/
import Derived.Test.YtcdbemdogkmahaaAcqApp
namespace Go.Acq
open Go Go.RowKit

structure Arc where
  fr : Int
  to : Int
  cap : Int
  deriving DecidableEq
instance : Inhabited Arc := ⟨⟨0, 0, 0⟩⟩
/-- an arc's cells -/
def arcC (a : Arc) : List Value := [.int .i64 a.fr, .int .i64 a.to, .int .i64 a.cap]
theorem arcC_len (a : Arc) : (arcC a).length = 3 := rfl
theorem arcC_one (a : Arc) : (arcC a).all (·.oneCell') = true := rfl
theorem intC_one (k : IntKind) (a : Int) : (intC k a).all (·.oneCell') = true := rfl
theorem boolC_one (a : Bool) : (boolC a).all (·.oneCell') = true := rfl

/-- the cells of a block that was there -/
def Has (w : World) (b : Nat) (cs : List Value) : Prop := ∀ (j : Nat) v, cs[j]? = some v → w.cell? ⟨b, j, none⟩ = some v
section
variable {w w0 : World} {M : List Nat} {H : Heap} {b : Nat} {cs : List Value}
theorem Has.mono (h : Has w0 b cs) (hi : Inv w0 [] w H) : Has w b cs := fun j v hj => hi.cell_old (h j v hj) (by simp)
theorem Inv.has (hi : Inv w0 M w H) {T' : TypeId} {fr : Nat × Nat} (hm : (some b, Obj.cells cs.toArray T' fr) ∈ H) : Has w b cs := fun j v hj => by rw [hi.cell_own hm]; simpa using hj
theorem Inv.bare (h : Inv w0 M w H) : Inv w0 M w [] := h.pick Pick.nil
theorem Inv.step {w' : World} {N : Heap} (h : Inv w0 [] w H) (g : Inv w [] w' N) : Inv w0 [] w' [] := (h.join0 g).pick Pick.nil
end
section rules
variable {C : Cx} {ops : Array Oper} {Q : Exit → Act → World → Prop} {l : List Nat} {E : Env} {H R : Heap} {i d : Nat} {ty : TypeId} {pos : String} {af : Array Edge} {g : Option (Nat × Bool)}
theorem TO.loadH {t : TypeId} {x : Operand} {b o : Nat} {cs : List Value} {v : Value} (ho : ops[i]? = some ⟨some d, .load t x, ty, pos, af, g⟩) (hg : gdB ops E g = true) (hd : Nat.ble (d + 1) C.n = true)
    (hx : ev E x = some (.pointer (some ⟨b, o, none⟩))) (hT : scalT C.P t = true) (hc : Has C.w0 b cs) (hM : C.M = []) (hv : cs[o]? = some v)
    (kk : TO C ops Q l ((d, v) :: E) H) : TO C ops Q (i :: l) E H := TO.load1r ho hg hd hx hT (hc o v hv) hM kk
theorem TO.loadHA {t : TypeId} {x : Operand} {b k : Nat} {cs : List Value} (ho : ops[i]? = some ⟨some d, .load t x, ty, pos, af, g⟩) (hg : gdB ops E g = true) (hd : Nat.ble (d + 1) C.n = true)
    (hx : ev E x = some (.pointer (some ⟨b, 0, none⟩))) (hT : aggT C.P t k = true) (hc : Has C.w0 b cs) (hM : C.M = []) (hk : cs.length = k)
    (kk : TO C ops Q l ((d, .agg cs.toArray) :: E) H) : TO C ops Q (i :: l) E H :=
  TO.loadS ho hg hd hx hT hk (fun w hi j v hv => by rw [Addr.add_mid, Nat.zero_add]; exact hi.cell_old (hc j v hv) (by rw [hM]; simp)) kk
end rules

/-! ### plain lemmas -/
theorem neg_lt_tmod (x : Int) {n : Int} (h : 0 < n) : -n < x.tmod n := by
  have h1 := Int.tmod_lt_of_pos (-x) h
  rw [Int.neg_tmod] at h1; omega
theorem getD_mem {α : Type} {xs : List α} {k : Nat} (h : k < xs.length) (d : α) : xs.getD k d ∈ xs := by
  rw [List.getD_eq_getElem?_getD, List.getElem?_eq_getElem h]; exact List.getElem_mem h

theorem eq_of_getD {α : Type} {xs ys : List α} (d : α) (hl : xs.length = ys.length) (h : ∀ i, i < xs.length → xs.getD i d = ys.getD i d) : xs = ys := by
  apply List.ext_getElem hl
  intro i h1 h2
  have := h i h1
  rw [List.getD_eq_getElem?_getD, List.getD_eq_getElem?_getD, List.getElem?_eq_getElem h1, List.getElem?_eq_getElem h2] at this
  exact this
/-- Among -/
def among (x n : Int) : Int := if n < 1 then 0 else (x.tmod n + n).tmod n
theorem among_range {x n : Int} (h : 1 ≤ n) : 0 ≤ among x n ∧ among x n < n := by
  unfold among
  rw [if_neg (by omega)]
  have h1 := Int.tmod_lt_of_pos x (show 0 < n by omega)
  have h2 := neg_lt_tmod x (show 0 < n by omega)
  have h3 := Int.tmod_lt_of_pos (x.tmod n + n) (show 0 < n by omega)
  have h4 := Int.tmod_nonneg n (show 0 ≤ x.tmod n + n by omega)
  omega

/-- the first place where p holds, or -1 -/
def idxI {α : Type} (p : α → Bool) (xs : List α) : Int := match xs.findIdx? p with | some k => k | none => -1
theorem idxI_some {α : Type} {p : α → Bool} {xs : List α} {k : Nat} (d : α) (hk : k < xs.length) (h : p (xs.getD k d) = true) (hb : ∀ i, i < k → p (xs.getD i d) = false) : idxI p xs = k := by
  have hg : ∀ i (hi : i < xs.length), xs.getD i d = xs[i] := fun i hi => by rw [List.getD_eq_getElem?_getD, List.getElem?_eq_getElem hi]; rfl
  have : xs.findIdx? p = some k := by
    rw [List.findIdx?_eq_some_iff_getElem]
    refine ⟨hk, by rw [← hg k hk]; exact h, fun j hj => ?_⟩
    rw [← hg j (by omega), hb j hj]; simp
  simp [idxI, this]
theorem idxI_none {α : Type} {p : α → Bool} {xs : List α} (d : α) (hb : ∀ i, i < xs.length → p (xs.getD i d) = false) : idxI p xs = -1 := by
  have : xs.findIdx? p = none := by
    rw [List.findIdx?_eq_none_iff]
    intro x hx
    obtain ⟨i, hi, rfl⟩ := List.getElem_of_mem hx
    have := hb i hi
    rw [List.getD_eq_getElem?_getD, List.getElem?_eq_getElem hi] at this
    exact this
  simp [idxI, this]
theorem idxI_any {α : Type} (p : α → Bool) (xs : List α) : decide (0 ≤ idxI p xs) = xs.any p := by
  unfold idxI
  cases h : xs.findIdx? p with
  | none =>
    rw [List.findIdx?_eq_none_iff] at h
    have : xs.any p = false := by rw [List.any_eq_false]; intro x hx; simp [h x hx]
    simp [this]
  | some k =>
    have : xs.any p = true := by
      rw [List.findIdx?_eq_some_iff_getElem] at h
      obtain ⟨hk, hp, _⟩ := h
      exact List.any_eq_true.2 ⟨_, List.getElem_mem hk, hp⟩
    rw [this]
    simp only [decide_eq_true_eq]
    omega

/-- what is left of a number when all capacities are taken off, if none is below 0 or above what is left -/
def sumL : Int → List Arc → Option Int
  | left, [] => some left
  | left, a :: as => if a.cap < 0 ∨ left < a.cap then none else sumL (left - a.cap) as
theorem sumL_drop {left : Int} {as : List Arc} {k : Nat} (hk : k < as.length) : sumL left (as.drop k) = if (as.getD k default).cap < 0 ∨ left < (as.getD k default).cap then none else sumL (left - (as.getD k default).cap) (as.drop (k + 1)) := by
  rw [List.drop_eq_getElem_cons hk, sumL, List.getD_eq_getElem?_getD, List.getElem?_eq_getElem hk]; rfl

def sumV (al : List Arc) : Int := match sumL 4611686018427387904 al with | some l => 4611686018427387904 - l | none => 0
/-- net.Check -/
def vertexB (N v : Int) : Bool := decide (0 ≤ v ∧ v < N)
def endsB (N : Int) (a : Arc) : Bool := vertexB N a.fr && vertexB N a.to
def capB (a : Arc) : Bool := decide (0 ≤ a.cap)
def checkE (N S T : Int) (as : List Arc) : Int :=
  if ¬(2 ≤ N ∧ N ≤ 4096) then 10 else if ¬((as.length : Int) ≤ 16384) then 11 else if ¬(vertexB N S = true ∧ vertexB N T = true ∧ S ≠ T) then 12
  else if as.all (endsB N) = false then 13 else if as.all capB = false then 14 else if (sumL 4611686018427387904 as).isNone then 15 else 0
/-- the conditions before the k-th hold -/
def chk (N S T : Int) (n : Nat) (al : List Arc) (k : Nat) : Prop :=
  (0 < k → 2 ≤ N ∧ N ≤ 4096) ∧ (1 < k → (n : Int) ≤ 16384) ∧ (2 < k → vertexB N S = true ∧ vertexB N T = true ∧ S ≠ T) ∧ (3 < k → al.all (endsB N) = true) ∧ (4 < k → al.all capB = true) ∧ (5 < k → (sumL 4611686018427387904 al).isSome = true)
section
variable {N S T : Int} {n : Nat} {al : List Arc}
theorem checkE_0 (h : ¬(2 ≤ N ∧ N ≤ 4096)) : checkE N S T al = 10 := by unfold checkE; rw [if_pos h]
theorem checkE_1 (hl : al.length = n) (c : chk N S T n al 1) (h : ¬((n : Int) ≤ 16384)) : checkE N S T al = 11 := by
  unfold checkE; rw [if_neg (not_not_intro (c.1 (by omega))), if_pos (by rw [hl]; exact h)]
theorem checkE_2 (hl : al.length = n) (c : chk N S T n al 2) (h : ¬(vertexB N S = true ∧ vertexB N T = true ∧ S ≠ T)) : checkE N S T al = 12 := by
  unfold checkE; rw [if_neg (not_not_intro (c.1 (by omega))), if_neg (not_not_intro (by rw [hl]; exact c.2.1 (by omega))), if_pos h]
theorem checkE_3 (hl : al.length = n) (c : chk N S T n al 3) (h : al.all (endsB N) = false) : checkE N S T al = 13 := by
  unfold checkE; rw [if_neg (not_not_intro (c.1 (by omega))), if_neg (not_not_intro (by rw [hl]; exact c.2.1 (by omega))), if_neg (not_not_intro (c.2.2.1 (by omega))), if_pos h]
theorem checkE_4 (hl : al.length = n) (c : chk N S T n al 4) (h : al.all capB = false) : checkE N S T al = 14 := by
  unfold checkE; rw [if_neg (not_not_intro (c.1 (by omega))), if_neg (not_not_intro (by rw [hl]; exact c.2.1 (by omega))), if_neg (not_not_intro (c.2.2.1 (by omega))), if_neg (by rw [c.2.2.2.1 (by omega)]; simp), if_pos h]
theorem checkE_5 (hl : al.length = n) (c : chk N S T n al 5) (h : (sumL 4611686018427387904 al).isSome = false) : checkE N S T al = 15 := by
  unfold checkE; rw [if_neg (not_not_intro (c.1 (by omega))), if_neg (not_not_intro (by rw [hl]; exact c.2.1 (by omega))), if_neg (not_not_intro (c.2.2.1 (by omega))), if_neg (by rw [c.2.2.2.1 (by omega)]; simp), if_neg (by rw [c.2.2.2.2.1 (by omega)]; simp), if_pos (by cases hs : sumL 4611686018427387904 al <;> simp_all)]
theorem checkE_6 (hl : al.length = n) (c : chk N S T n al 6) : checkE N S T al = 0 := by
  have h5 := c.2.2.2.2.2 (by omega)
  unfold checkE; rw [if_neg (not_not_intro (c.1 (by omega))), if_neg (not_not_intro (by rw [hl]; exact c.2.1 (by omega))), if_neg (not_not_intro (c.2.2.1 (by omega))), if_neg (by rw [c.2.2.2.1 (by omega)]; simp), if_neg (by rw [c.2.2.2.2.1 (by omega)]; simp), if_neg (by cases hs : sumL 4611686018427387904 al <;> simp_all)]
end
end Go.Acq
