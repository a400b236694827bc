/- The layer of triples: maps of our own whose keys are integers; a range over one, in whatever order. -/
import Derived.Test.YtcdbemdogkmahaaAcqRs4
import Derived.Maps.RangeRun
namespace Go.Acq
open Go Go.RowKit
set_option linter.unusedSimpArgs false
/-- a map's entries, in the order in which they came -/
def mapC {α : Type} (q : IntKind) (f : α → Value) : Nat → List (Int × α) → List MapEntry
  | _, [] => []
  | i, x :: xs => { key := .int q x.1, val := f x.2, born := i } :: mapC q f (i + 1) xs
abbrev mapO {α : Type} (q : IntKind) (f : α → Value) (xs : List (Int × α)) : Obj := .map (mapC q f 0 xs).toArray xs.length
def getM {α : Type} (z : α) (k : Int) : List (Int × α) → α
  | [] => z
  | x :: xs => if k = x.1 then x.2 else getM z k xs
def putM {α : Type} (k : Int) (v : α) : List (Int × α) → List (Int × α)
  | [] => [(k, v)]
  | x :: xs => if k = x.1 then (k, v) :: xs else x :: putM k v xs
def findM {α : Type} (f : α → Value) (k : Int) : Nat → List (Int × α) → Option (Nat × Value)
  | _, [] => none
  | i, x :: xs => if k = x.1 then some (i, f x.2) else findM f k (i + 1) xs
section
variable {α : Type} {q : IntKind} {f : α → Value} {k : Int} {z v : α}
theorem findNow_mapC : ∀ (xs : List (Int × α)) (i j : Nat), Instr.findNow (.int q) (.int q k) (mapC q f i xs) j = some (findM f k j xs)
  | [], _, _ => rfl
  | x :: xs, i, j => by
    simp only [mapC, Instr.findNow, Instr.sameNow, if_true, findM]
    by_cases h : k = x.1
    · rw [if_pos h, show (k == x.1) = true by simpa using h]
    · rw [if_neg h, show (k == x.1) = false by simpa using h]
      exact findNow_mapC xs (i + 1) (j + 1)
theorem findM_get : ∀ (xs : List (Int × α)) (j : Nat), (match findM f k j xs with | some (_, u) => u | none => f z) = f (getM z k xs)
  | [], _ => rfl
  | x :: xs, j => by
    unfold findM getM
    by_cases h : k = x.1
    · rw [if_pos h, if_pos h]
    · rw [if_neg h, if_neg h]; exact findM_get xs (j + 1)
theorem findM_put : ∀ (xs : List (Int × α)) (i j : Nat), (match findM f k j xs with
    | some (p, _) => (∃ o, (j ≤ p ∧ (mapC q f i xs)[p - j]? = some o ∧ o.key = .int q k)) ∧ (putM k v xs).length = xs.length ∧ mapC q f i (putM k v xs) = (mapC q f i xs).modify (p - j) (fun e => { e with key := .int q k, val := f v })
    | none => (putM k v xs).length = xs.length + 1 ∧ mapC q f i (putM k v xs) = mapC q f i xs ++ [{ key := .int q k, val := f v, born := i + xs.length }])
  | [], i, j => by simp [findM, putM, mapC]
  | x :: xs, i, j => by
    unfold findM putM
    by_cases h : k = x.1
    · subst h
      simp [mapC]
    · simp only [if_neg h]
      have ih := findM_put xs (i + 1) (j + 1)
      cases hf : findM f k (j + 1) xs with
      | none =>
        rw [hf] at ih
        simp only [mapC, List.length_cons, List.cons_append] at ih ⊢
        refine ⟨by omega, ?_⟩
        rw [ih.2]
        simp; omega
      | some y =>
        rw [hf] at ih
        obtain ⟨p, u⟩ := y
        simp only at ih ⊢
        obtain ⟨⟨o, h1, h2, h3⟩, h4, h5⟩ := ih
        have e : p - j = (p - (j + 1)) + 1 := by omega
        refine ⟨⟨o, by omega, ?_, h3⟩, by simp [h4], ?_⟩
        · rw [e]; simpa [mapC] using h2
        · rw [e]; simp only [mapC, List.modify_succ_cons, h5]
theorem mapC_get : ∀ (xs : List (Int × α)) (i j : Nat), (mapC q f i xs)[j]? = (xs[j]?).map (fun x => { key := .int q x.1, val := f x.2, born := i + j })
  | [], _, _ => by simp [mapC]
  | x :: xs, i, 0 => by simp [mapC]
  | x :: xs, i, j + 1 => by
    simp only [mapC, List.getElem?_cons_succ, mapC_get xs (i + 1) j]
    rw [show i + 1 + j = i + (j + 1) by omega]
end
theorem someM {β : Prop} {b : Nat} : some b = none → β := fun h => by cases h
/-- a map's type: the key's kind, the element -/
def mapT (P : Program) (t : TypeId) : Option (IntKind × TypeId) :=
  match P.underlying t with
  | some (.map k e) => match P.underlying k with
    | some (.int q) => some (q, e)
    | _ => none
  | _ => none
theorem mapT_some {P : Program} {t e : TypeId} {q : IntKind} (h : mapT P t = some (q, e)) : ∃ k, P.underlying t = some (.map k e) ∧ P.underlying k = some (.int q) := by
  unfold mapT at h
  split at h
  · rename_i k e' h1
    split at h
    · rename_i q' h2
      injection h with h; injection h with h3 h4
      subst h3; subst h4
      exact ⟨k, h1, h2⟩
    · cases h
  · cases h
/-- what an iterator may hand out next: the entries that it has not handed out, or, if there is none, the end -/
def altsM (n : Nat) (seen : List Nat) : List (Option Nat) :=
  if (List.range n).all (fun i => seen.contains i) then [none] else ((List.range n).filter (fun i => !seen.contains i)).map some
/-- all say the same -/
def agree {O : Type} [DecidableEq O] : List (Option O) → Option O
  | [] => none
  | a :: l => if l.all (fun b => decide (b = a)) then a else none
theorem agree_some {O : Type} [DecidableEq O] {l : List (Option O)} {o : O} (h : agree l = some o) : ∀ a, a ∈ l → a = some o := by
  cases l with
  | nil => intro a ha; cases ha
  | cons a l =>
    by_cases hall : (l.all fun b => decide (b = a)) = true
    · simp only [agree, hall, if_true] at h
      intro b hb
      rcases List.mem_cons.1 hb with rfl | hb
      · exact h
      · have := List.all_eq_true.1 hall b hb
        rw [of_decide_eq_true this]; exact h
    · simp [agree, hall] at h
/-- a loop whose rounds choose -/
def loopA {S K O : Type} [DecidableEq O] (alts : S → List K) (step : S → K → Option (S ⊕ O)) : Nat → S → Option O
  | 0, _ => none
  | n + 1, s => agree ((alts s).map fun c => match step s c with
    | none => none
    | some (.inl s') => loopA alts step n s'
    | some (.inr o) => some o)
/-- behind a round -/
def afterA {S K O : Type} [DecidableEq O] (alts : S → List K) (step : S → K → Option (S ⊕ O)) (n : Nat) (o : O) : S ⊕ O → Prop
  | .inl s => loopA alts step n s = some o
  | .inr p => p = o
theorem loopA_some {S K O : Type} [DecidableEq O] {alts : S → List K} {step : S → K → Option (S ⊕ O)} {n : Nat} {s : S} {o : O} (h : loopA alts step n s = some o) :
    ∃ n', n = n' + 1 ∧ ∀ c, c ∈ alts s → ∃ r, step s c = some r ∧ afterA alts step n' o r := by
  cases n with
  | zero => cases h
  | succ n =>
    refine ⟨n, rfl, fun c hc => ?_⟩
    have h1 := agree_some h _ (List.mem_map.2 ⟨c, hc, rfl⟩)
    cases hs : step s c with
    | none => rw [hs] at h1; cases h1
    | some r =>
      rw [hs] at h1
      cases r with
      | inl s' => exact ⟨_, rfl, h1⟩
      | inr p => exact ⟨_, rfl, by simpa [afterA] using h1⟩
theorem loopA_next {S K O : Type} [DecidableEq O] {alts : S → List K} {step : S → K → Option (S ⊕ O)} {n : Nat} {o : O} {s : S} {r : S ⊕ O} (h : some (.inl s) = some r) (c : afterA alts step n o r) : loopA alts step n s = some o := by
  injection h with h; subst h; exact c
theorem loopA_exitE {S K O : Type} [DecidableEq O] {alts : S → List K} {step : S → K → Option (S ⊕ O)} {n : Nat} {o p : O} {r : S ⊕ O} (h : some (.inr p) = some r) (c : afterA alts step n o r) : o = p := by
  injection h with h; subst h
  exact Eq.symm c
/-! ### the operations -/
section rules
variable {C : Cx} {ops : Array Oper} {Q : Exit → Act → World → Prop} {l : List Nat} {E : Env} {H R : Heap} {i d : Nat} {ty : TypeId} {pos : String} {af : Array Edge} {g : Option (Nat × Bool)}
variable {α : Type} {q : IntKind} {f : α → Value}
theorem TO.mkMap {t : TypeId} (f : α → Value) (q : IntKind) (ho : ops[i]? = some ⟨some d, .makeMap t none, ty, pos, af, g⟩) (hg : gdB ops E g = true) (hd : Nat.ble (d + 1) C.n = true)
    (k : ∀ b, TO C ops Q l ((d, .map (some b)) :: E) ((some b, mapO q f []) :: H)) : TO C ops Q (i :: l) E H :=
  TO.new (fun b => .map (some b)) ho hg hd (by simp) (fun a w hf _ => by simp [execOp, Instr.makeMap]; rfl) k
theorem run_checkKey_i {P : Program} {w : World} {em : Bool} {kt : TypeId} {q : IntKind} {k : Int} (h : P.underlying kt = some (.int q)) : (Instr.checkKey em 10000 kt (.int q k)).run P w = .ok () w := by
  show (Instr.checkKey em (9999 + 1) kt (.int q k)).run P w = .ok () w
  rw [Instr.checkKey]
  simp [underlying, h]
theorem run_findKey_i {P : Program} {w : World} {kt : TypeId} {q : IntKind} {f : α → Value} {k : Int} {xs : List (Int × α)} (h : P.underlying kt = some (.int q)) : (Instr.findKey kt (.int q k) (mapC q f 0 xs)).run P w = .ok (findM f k 0 xs) w := by
  unfold Instr.findKey
  simp [underlying, h, findNow_mapC]
theorem run_getObj_of {P : Program} {w : World} {b : Nat} {m : Array MapEntry} {c : Nat} (h : w.heap[b]? = some (.map m c)) : (getObj b).run P w = .ok (.map m c) w := by
  simp [getObj, Sem.run, h]
theorem run_setObj_of {P : Program} {w : World} {b : Nat} {m : Array MapEntry} {c : Nat} (h : w.heap[b]? = some (.map m c)) (o' : Obj) : (setObj b o').run P w = .ok () (Go.ChangeMaps.setBlock w b o') := by
  simp [setObj, Sem.run, h, Go.ChangeMaps.setBlock]
theorem TO.mget {t e : TypeId} {x y : Operand} {ob : Option Nat} {xs : List (Int × α)} {k : Int} {z : α} {u : Value} (hm : mapT C.P t = some (q, e)) (hz : zeroT C.P e = some (f z)) (h0 : ob = none → xs = [])
    (ho : ops[i]? = some ⟨some d, .lookup t x y false, ty, pos, af, g⟩) (hg : gdB ops E g = true) (hd : Nat.ble (d + 1) C.n = true)
    (hx : ev E x = some (.map ob)) (hy : ev E y = some (.int q k)) (hh : (ob, mapO q f xs) ∈ H) (hu : f (getM z k xs) = u)
    (kk : TO C ops Q l ((d, u) :: E) H) : TO C ops Q (i :: l) E H :=
  TO.val ho hg hd (by simp) (fun a w hf hi => by
    obtain ⟨kt, h1, h2⟩ := mapT_some hm
    subst hu
    have hget := findM_get (f := f) (k := k) (z := z) xs 0
    cases ob with
    | none =>
      obtain rfl := h0 rfl
      have hfind := run_findKey_i (P := C.P) (w := w) (f := f) (k := k) (xs := []) h2
      simp only [mapC, findM] at hfind
      simp [execOp, hf.ev hx, hf.ev hy, Instr.lookup, run_checkKey_i h2, hfind, underlying, h1, run_zeroT hz, getM]
    | some b =>
      have hb := hi.own _ _ hh
      have hfind := run_findKey_i (P := C.P) (w := w) (f := f) (k := k) (xs := xs) h2
      simp only [execOp, hf.ev hx, hf.ev hy]
      cases hc : findM f k 0 xs with
      | none => rw [hc] at hfind hget; simp [Instr.lookup, run_checkKey_i h2, hfind, underlying, h1, run_zeroT hz, run_getObj_of hb, ← hget]
      | some y => obtain ⟨p, v⟩ := y; rw [hc] at hfind hget; simp [Instr.lookup, run_checkKey_i h2, hfind, underlying, h1, run_zeroT hz, run_getObj_of hb, ← hget]) kk
theorem sameBits_int (q : IntKind) (k : Int) : Instr.sameBits 10000 (.int q k) (.int q k) = true := by
  show Instr.sameBits (9999 + 1) (.int q k) (.int q k) = true
  simp [Instr.sameBits]
theorem TO.mput {t e : TypeId} {x y v : Operand} {b : Nat} {xs : List (Int × α)} {k : Int} {u : α} {fu : Value} (hm : mapT C.P t = some (q, e)) (hu : f u = fu)
    (ho : ops[i]? = some ⟨none, .mapUpdate t x y v, ty, pos, af, g⟩) (hg : gdB ops E g = true)
    (hx : ev E x = some (.map (some b))) (hy : ev E y = some (.int q k)) (hv : ev E v = some fu) (ht : Take (some b, mapO q f xs) H R)
    (kk : TO C ops Q l E ((some b, mapO q f (putM k u xs)) :: R)) : TO C ops Q (i :: l) E H :=
  TO.gen ho hg (by simp) fun a w hf hi => by
    obtain ⟨kt, h1, h2⟩ := mapT_some hm
    subst hu
    have hb := hi.own _ _ ht.mem
    have hfind := run_findKey_i (P := C.P) (w := w) (f := f) (k := k) (xs := xs) h2
    have hput := findM_put (q := q) (f := f) (k := k) (v := u) xs 0 0
    have hrun : (execOp a.eval ⟨none, .mapUpdate t x y v, ty, pos, af, g⟩).run C.P w = .ok .skip (Go.ChangeMaps.setBlock w b (mapO q f (putM k u xs))) := by
      simp only [execOp, hf.ev hx, hf.ev hy, hf.ev hv]
      cases hc : findM f k 0 xs with
      | none =>
        rw [hc] at hfind hput
        simp only at hput
        simp [Instr.mapUpdate, run_checkKey_i h2, hfind, underlying, h1, run_getObj_of hb, run_setObj_of hb]
        rw [show mapO q f (putM k u xs) = .map (mapC q f 0 xs ++ [({ key := .int q k, val := f u, born := xs.length } : MapEntry)]).toArray (xs.length + 1) by unfold mapO; rw [hput.1, hput.2, Nat.zero_add]]
      | some y =>
        obtain ⟨p, v'⟩ := y
        rw [hc] at hfind hput
        simp only [Nat.sub_zero] at hput
        obtain ⟨⟨o, h3, h4, h5⟩, h6, h7⟩ := hput
        simp [Instr.mapUpdate, run_checkKey_i h2, hfind, underlying, h1, run_getObj_of hb, run_setObj_of hb, h4, h5, Instr.keyThatStays, sameBits_int]
        rw [show mapO q f (putM k u xs) = .map ((mapC q f 0 xs).modify p fun e => { e with key := .int q k, val := f u }).toArray xs.length by unfold mapO; rw [h6, h7]]
    rw [hrun]
    have hsz : b < w.heap.size := (Array.getElem?_eq_some_iff.1 hb).1
    refine kk _ _ (hf.putNone _) (hi.upd ht rfl rfl rfl (by simp [Go.ChangeMaps.setBlock]) (by simp [Go.ChangeMaps.setBlock, hsz]) fun k' hk => ?_)
    simp only [Go.ChangeMaps.setBlock]
    rw [Array.getElem?_setIfInBounds_ne (fun e => hk e.symm)]
abbrev iterO (ob : Option Nat) (n : Nat) (seen : List Nat) : Obj := .mapIter ob n seen.toArray n
theorem TO.mrange {t e : TypeId} {x : Operand} {ob : Option Nat} {xs : List (Int × α)} (hm : mapT C.P t = some (q, e)) (h0 : ob = none → xs = [])
    (ho : ops[i]? = some ⟨some d, .range t x, ty, pos, af, g⟩) (hg : gdB ops E g = true) (hd : Nat.ble (d + 1) C.n = true)
    (hx : ev E x = some (.map ob)) (hh : (ob, mapO q f xs) ∈ H)
    (k : ∀ r, TO C ops Q l ((d, .pointer (some ⟨r, 0, none⟩)) :: E) ((some r, iterO ob xs.length []) :: H)) : TO C ops Q (i :: l) E H :=
  TO.new (fun b => .pointer (some ⟨b, 0, none⟩)) ho hg hd (by simp) (fun a w hf hi => by
    obtain ⟨kt, h1, h2⟩ := mapT_some hm
    cases ob with
    | none =>
      obtain rfl := h0 rfl
      simp [execOp, hf.ev hx, Instr.range, underlying, h1]
    | some b =>
      have hb := hi.own _ _ hh
      simp [execOp, hf.ev hx, Instr.range, underlying, h1, run_getObj_of hb]) k
theorem mem_left {xs : List (Int × α)} {seen : List Nat} {e : MapEntry} (h : e ∈ (leftOf (mapC q f 0 xs).toArray seen.toArray).toList) : ∃ j : Nat, j < xs.length ∧ seen.contains j = false ∧ ∃ x, xs[j]? = some x ∧ e = { key := .int q x.1, val := f x.2, born := j } := by
  unfold leftOf at h
  simp only [Array.toList_filter, List.mem_filter] at h
  obtain ⟨h1, h2⟩ := h
  obtain ⟨j, hj⟩ := List.getElem?_of_mem h1
  rw [mapC_get] at hj
  cases hx : xs[j]? with
  | none => rw [hx] at hj; cases hj
  | some x =>
    rw [hx] at hj
    injection hj with hj
    subst hj
    refine ⟨j, (List.getElem?_eq_some_iff.1 hx).1, ?_, x, hx, by simp⟩
    simpa using h2
theorem left_empty {xs : List (Int × α)} {seen : List Nat} (h : (leftOf (mapC q f 0 xs).toArray seen.toArray).size = 0) : ∀ j, j < xs.length → seen.contains j = true := by
  intro j hj
  cases hc : seen.contains j with
  | true => rfl
  | false =>
    exfalso
    have hm : ({ key := .int q xs[j].1, val := f xs[j].2, born := 0 + j } : MapEntry) ∈ mapC q f 0 xs := by
      refine List.mem_of_getElem? (i := j) ?_
      rw [mapC_get, List.getElem?_eq_getElem hj]; rfl
    have : ({ key := .int q xs[j].1, val := f xs[j].2, born := 0 + j } : MapEntry) ∈ (leftOf (mapC q f 0 xs).toArray seen.toArray).toList := by
      unfold leftOf
      simp only [Array.toList_filter, List.mem_filter]
      exact ⟨hm, by simpa using hc⟩
    rw [Array.size_eq_length_toList, List.length_eq_zero_iff] at h
    rw [h] at this
    cases this
/-- the next one, whichever -/
theorem TO.mnext {x : Operand} {ob : Option Nat} {r : Nat} {xs : List (Int × α)} {seen : List Nat} (dflt : Int × α) (h0 : ob = none → xs = [])
    (ho : ops[i]? = some ⟨some d, .next x false, ty, pos, af, g⟩) (hg : gdB ops E g = true) (hd : Nat.ble (d + 1) C.n = true)
    (hx : ev E x = some (.pointer (some ⟨r, 0, none⟩))) (hh : (ob, mapO q f xs) ∈ H) (ht : Take (some r, iterO ob xs.length seen) H R)
    (k0 : none ∈ altsM xs.length seen → TO C ops Q l ((d, .tuple #[.bool false]) :: E) H)
    (k1 : ∀ (j : Nat), some j ∈ altsM xs.length seen → j < xs.length → TO C ops Q l ((d, .tuple #[.bool true, .int q (xs.getD j dflt).1, f (xs.getD j dflt).2]) :: E) ((some r, iterO ob xs.length (seen ++ [j])) :: R)) : TO C ops Q (i :: l) E H :=
  TO.gen ho hg (by simp) fun a w hf hi => by
    have hr := hi.own _ _ ht.mem
    have done : (∀ j, j < xs.length → seen.contains j = true) → none ∈ altsM xs.length seen := fun h => by
      unfold altsM
      rw [if_pos (List.all_eq_true.2 fun j hj => h j (List.mem_range.1 hj))]
      exact List.mem_cons_self
    cases ob with
    | none =>
      obtain rfl := h0 rfl
      have hrun : (execOp a.eval ⟨some d, .next x false, ty, pos, af, g⟩).run C.P w = .ok (.value (.tuple #[.bool false])) w := by
        have hg : (getObj r).run C.P w = .ok (iterO none 0 seen) w := by simp [getObj, Sem.run, hr]
        simp [execOp, hf.ev hx, Instr.next, hg]
      rw [hrun]
      exact k0 (done fun j hj => by simp at hj) _ _ (hf.put hd _) hi
    | some b =>
      have hb := hi.own _ _ hh
      have hold : ∀ x ∈ (mapC q f 0 xs).toArray.toList, x.born < xs.length := fun x hx => by
        obtain ⟨j, hj⟩ := List.getElem?_of_mem (show x ∈ mapC q f 0 xs from hx)
        rw [mapC_get] at hj
        cases hy : xs[j]? with
        | none => rw [hy] at hj; cases hj
        | some y =>
          rw [hy] at hj
          injection hj with hj
          subst hj
          have := (List.getElem?_eq_some_iff.1 hy).1
          simpa using this
      rcases run_next_at (P := C.P) w ty r b xs.length xs.length seen.toArray _ _ hr hb hold (Nat.le_refl _) with ⟨h1, h2⟩ | ⟨e, he, w1, hw, h2⟩
      · simp only [execOp, hf.ev hx, Sem.run_bind, h2, Result.andThen]
        exact k0 (done (left_empty h1)) _ _ (hf.put hd _) hi
      · obtain ⟨j, hj, hs, u, hu, rfl⟩ := mem_left he
        simp only [execOp, hf.ev hx, Sem.run_bind, h2, Result.andThen]
        have hi1 : Inv C.w0 C.M w1 H := by rcases hw with rfl | rfl; exact hi; exact hi.drew
        have hr1 := hi1.own _ _ ht.mem
        have hsz : r < w1.heap.size := (Array.getElem?_eq_some_iff.1 hr1).1
        have hm : some j ∈ altsM xs.length seen := by
          unfold altsM
          rw [if_neg]
          · exact List.mem_map.2 ⟨j, List.mem_filter.2 ⟨List.mem_range.2 hj, by simpa using hs⟩, rfl⟩
          · intro hall
            have := List.all_eq_true.1 hall j (List.mem_range.2 hj)
            rw [hs] at this; cases this
        have hu' : xs.getD j dflt = u := by rw [List.getD_eq_getElem?_getD, hu]; rfl
        have k1 := k1 j hm hj
        rw [hu'] at k1
        refine k1 _ _ (hf.put hd _) (hi1.upd ht rfl rfl rfl (by simp [Go.ChangeMaps.setBlock]) ?_ fun k' hk => ?_)
        · simp [Go.ChangeMaps.setBlock, hsz]
        · simp only [Go.ChangeMaps.setBlock]
          rw [Array.getElem?_setIfInBounds_ne (fun e => hk e.symm)]
/-- the round's key and element -/
theorem TO.mentry {x : Operand} {ob : Option Nat} {r : Nat} {xs : List (Int × α)} {seen : List Nat} {j : Nat} (dflt : Int × α) (h0 : ob = none → xs = []) (hj : j < xs.length)
    (ho : ops[i]? = some ⟨some d, .entry x, ty, pos, af, g⟩) (hg : gdB ops E g = true) (hd : Nat.ble (d + 1) C.n = true)
    (hx : ev E x = some (.pointer (some ⟨r, 0, none⟩))) (hh : (ob, mapO q f xs) ∈ H) (ht : (some r, iterO ob xs.length (seen ++ [j])) ∈ H)
    (kk : TO C ops Q l ((d, .tuple #[.int q (xs.getD j dflt).1, f (xs.getD j dflt).2]) :: E) H) : TO C ops Q (i :: l) E H :=
  TO.val ho hg hd (by simp) (fun a w hf hi => by
    obtain ⟨b, rfl⟩ : ∃ b, ob = some b := by
      cases ob with
      | none => rw [h0 rfl] at hj; simp at hj
      | some b => exact ⟨b, rfl⟩
    have hr := hi.own _ _ ht
    have hb := hi.own _ _ hh
    have hm : ({ key := .int q (xs.getD j dflt).1, val := f (xs.getD j dflt).2, born := j } : MapEntry) ∈ (mapC q f 0 xs) := by
      refine List.mem_of_getElem? (i := j) ?_
      rw [mapC_get, List.getD_eq_getElem?_getD, List.getElem?_eq_getElem hj]; simp
    have hn : ((mapC q f 0 xs).toArray.toList.map (·.born)).Nodup := by
      have e : ∀ (xs : List (Int × α)) (i : Nat), (mapC q f i xs).map (·.born) = List.range' i xs.length := by
        intro xs
        induction xs with
        | nil => intro i; rfl
        | cons x xs ih => intro i; simp only [mapC, List.map_cons, ih, List.length_cons, List.range'_succ]
      show ((mapC q f 0 xs).map (·.born)).Nodup
      rw [e]
      exact List.nodup_range'
    have hr' : w.heap[r]? = some (.mapIter (some b) xs.length (seen.toArray.push ({ key := .int q (xs.getD j dflt).1, val := f (xs.getD j dflt).2, born := j } : MapEntry).born) xs.length) := by
      rw [hr]; simp
    have := run_entry_at (P := C.P) w r b xs.length seen.toArray (mapC q f 0 xs).toArray xs.length _ hr' hb hm hn
    simp only [execOp, hf.ev hx, Sem.run_bind, this, Result.andThen]
    rfl) kk
/-- a choice -/
def chooseM {O : Type} (c : Option Nat) (a : Option O) (b : Nat → Option O) : Option O := match c with
  | none => a
  | some j => b j
theorem chooseN {O : Type} {a : Option O} {b : Nat → Option O} {r : Option O} (h : chooseM none a b = r) : a = r := h
theorem chooseS {O : Type} {j : Nat} {a : Option O} {b : Nat → Option O} {r : Option O} (h : chooseM (some j) a b = r) : b j = r := h
end rules
end Go.Acq
