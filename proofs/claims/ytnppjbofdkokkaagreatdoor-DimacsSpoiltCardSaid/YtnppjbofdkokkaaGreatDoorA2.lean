/- Texts of this claim, one behind the other. -/
import Derived.Test.YtnppjbofdkokkaaGreatDoorA1
import Derived.Shelf.Spec.SlicesInsertGrow
import Derived.Laws.LoneSync
import Derived.Laws.BytesString
import Derived.Laws.IdiomStrings
import Derived.Laws.Strings
import Derived.Lib.FieldsP
import Derived.Lib.ItoaNum
import Derived.Lib.ParseIntB
import Derived.Shelf.GgClosure.StringsIndexFunc
import Derived.Shelf.Strings.FieldsFuncGrows
import Derived.Shelf.Strings.FuncGrows
import Derived.Shelf.Strconv.ErrVarParseInt
import Derived.Shelf.Strconv.Itoa4
import Derived.Lib.Bytes2
import Derived.Handed
import Derived.SizedLaws
import Derived.Shelf.Vars
import Derived.Stop.LaidErr
import Derived.Lib.LaidTab
import Derived.LaidLaws
import Derived.Shelf.Bytes.SlIndexAt
import Derived.Shelf.Bytes.BufferK
import Derived.Shelf.Bytes.Bytes
import Derived.Shelf.Strings.Count
import Derived.Shelf.Strings.Split
import Derived.Shelf.Strings.Replace
import Derived.Shelf.Strings.Prefix
import Derived.Shelf.Strings.OnBuilder
import Derived.Laws.Panics
import Derived.RecoverIn
import Derived.RangeFuncLeaves
import Derived.Shelf.Strings.SlTrimAscii
import Derived.Shelf.Strings.LastIndex
import Derived.Shelf.Strings.Repeat
import Derived.Test.YtnppjbofdkokkaaGreatDoorChecked
set_option linter.unusedVariables false
set_option linter.unusedSimpArgs false
namespace Go.Acq
open Go Go.RowKit
section
variable {C : Cx} {ops : Array Oper} {Q : Exit → Act → World → Prop} {E : Env} {H : Heap}
def ObsG2 (C : Cx) (ops : Array Oper) (Q : Exit → Act → World → Prop) (S : List Sp) (HR : Nat → List Value → Heap → Prop) (hd : List (List Nat)) (W : Env) (Hc : Heap) : List Nat → Prop
  | [] => True
  | i :: l => (cond (Yr S i) (ObE2 C ops Q S HR hd W Hc i) (ObQ C ops Q S W Hc i)) ∧ ObsG2 C ops Q S HR hd W Hc l
theorem ObsG2.get {S : List Sp} {HR : Nat → List Value → Heap → Prop} {hd : List (List Nat)} {W : Env} {Hc : Heap} : ∀ {l : List Nat}, ObsG2 C ops Q S HR hd W Hc l → ∀ i, i ∈ l → (cond (Yr S i) (ObE2 C ops Q S HR hd W Hc i) (ObQ C ops Q S W Hc i))
 | [], _, i, h => by cases h
 | j :: l, ⟨h1, h2⟩, i, h => by
  rcases List.mem_cons.1 h with rfl | h
  · exact h1
  · exact ObsG2.get h2 i h
theorem Z9x {S : List Sp} {HR : Nat → List Value → Heap → Prop} {hd : List (List Nat)} {W : Env} {Hc : Heap} : ∀ {l : List Nat}, ObsG2 C ops Q S HR hd W Hc l → ObsG3 C ops Q S HR hd [] W Hc l
 | [], _ => trivial
 | _ :: _, ⟨h1, h2⟩ => ⟨h1, Z9x h2⟩
theorem T.drawG2 {id : Nat} (S : List Sp) (HR : Nat → List Value → Heap → Prop) (hd : List (List Nat)) (hb0 Hc : Heap)
    (hm : C.P.follows .mixedOrders = true) (hb : Gd ops = true) (ht : Lr ops S.length = true) (hgood : Rl ops S hd = true) (hms : Nat.ble S.length ops.size = true)
    (hn : Na (Vz ops (List.range S.length)) = true) (h0 : HR 0 [] hb0) (hH : Pick (hb0 ++ Hc) H)
    (obs : ObsG2 C ops Q S HR hd (wo (Vz ops (List.range S.length)) E) Hc (List.range S.length))
    (k : ∀ (vs : Nat → Value) (es : Nat → Heap) (hb : Heap), Jn S vs es (List.range S.length) → HR ((List.range S.length).filter (Yr S)).length ((hd.getD ((List.range S.length).filter (Yr S)).length []).map vs) hb →
      TO C ops Q (List.range' S.length (ops.size - S.length)) (Wl ops vs (List.range S.length) ++ wo (Vz ops (List.range S.length)) E) (hb ++ (Hc ++ Xo es ((List.range S.length).filter fun j => !Gi S j)))) :
    T C (.region id ops true) Q E H := Z8a S HR hd [] hb0 Hc hm hb ht hgood hms hn rfl trivial h0 hH (Z9x obs) k
theorem T.drawL2 {id : Nat} (S : List Sp) (sl : List Nat) (m : Nat) (HR : Nat → List Value → Heap → Prop) (hd : List (List Nat)) (hb0 Hc : Heap)
    (hm : C.P.follows .mixedOrders = true) (hsm : S.length = m) (hsl : Vz ops (List.range m) = sl) (hb : Gd ops = true) (ht : Lr ops m = true) (hgood : Rl ops S hd = true) (hms : Nat.ble m ops.size = true)
    (hn : Na sl = true) (h0 : HR 0 [] hb0) (hH : Pick (hb0 ++ Hc) H)
    (obs : ObsG2 C ops Q S HR hd (wo sl E) Hc (List.range m))
    (k : ∀ (vs : Nat → Value) (es : Nat → Heap) (hb : Heap), Jn S vs es (List.range m) → HR ((List.range m).filter (Yr S)).length ((hd.getD ((List.range m).filter (Yr S)).length []).map vs) hb →
      TO C ops Q (List.range' m (ops.size - m)) (Wl ops vs (List.range m) ++ wo sl E) (hb ++ (Hc ++ Xo es ((List.range m).filter fun j => !Gi S j)))) :
    T C (.region id ops true) Q E H := by
  subst hsm; subst hsl
  exact T.drawG2 S HR hd hb0 Hc hm hb ht hgood hms hn h0 hH obs k
theorem X.obEd2 {S : List Sp} {HR : Nat → List Value → Heap → Prop} {W Es B B' : Env} {Hc Hx : Heap} {i k d : Nat} {v : Value} {vl : List Value} {F : Value → List Value} {De hb' H' : Heap} (hs : Yj ops i = some d) (hr : Kf S i vl v []) (hh : HR k (F v) hb')
    (hH : Pick (hb' ++ (Hc ++ (De ++ Hx))) H') (hB : B = B') :
    X C (fun e a w => match e with
      | .normal => ∃ v hb' e', Kf S i vl v e' ∧ HR k (F v) hb' ∧ Fits C.n C.D (Jw (Yj ops i) v (B ++ (W ++ Es))) a ∧ Inv C.w0 C.M w (hb' ++ (Hc ++ (e' ++ (De ++ Hx))))
      | e => Q e a w) .normal ((d, v) :: (B' ++ (W ++ Es))) H' := by
  subst hB
  exact fun _ _ hf hi => ⟨v, hb', [], hr, hh, by rw [hs]; exact hf, hi.pick hH⟩
theorem X.obEt {S : List Sp} {HR : Nat → List Value → Heap → Prop} {W Es B B' : Env} {Hc Hx : Heap} {i k d : Nat} {v : Value} {vl : List Value} {F : Value → List Value} {De hb' e' H' : Heap} (hs : Yj ops i = some d) (hr : Kf S i vl v e') (hh : HR k (F v) hb')
    (hH : Pick (hb' ++ (Hc ++ (e' ++ (De ++ Hx)))) H') (hB : B = B') :
    X C (fun e a w => match e with
      | .normal => ∃ v hb' e', Kf S i vl v e' ∧ HR k (F v) hb' ∧ Fits C.n C.D (Jw (Yj ops i) v (B ++ (W ++ Es))) a ∧ Inv C.w0 C.M w (hb' ++ (Hc ++ (e' ++ (De ++ Hx))))
      | e => Q e a w) .normal ((d, v) :: (B' ++ (W ++ Es))) H' := by
  subst hB
  exact fun _ _ hf hi => ⟨v, hb', e', hr, hh, by rw [hs]; exact hf, hi.pick hH⟩
end
end Go.Acq
namespace Go.Acq
open Go Go.RowKit
structure Qu {α : Type} (ob : Option Nat) (base : Option Addr) (n c : Nat) (xs ys : List α) (N C : Nat) : Prop where
  ex : ∃ o, o + n = N ∧ o + c = C ∧ xs = ys.drop o ∧ (0 < c → base = (sb ob).map (·.add o))
section
variable {α : Type} {ob : Option Nat} {base : Option Addr} {n c N C : Nat} {xs ys : List α} {w w0 : World} {M M' : List Nat} {H Hm R : Heap} {f : α → List Value} {j : List Value} {T' : TypeId} {fr : Nat × Nat}
theorem Qu.len (h : Qu ob base n c xs ys N C) (hn : ys.length = N) : xs.length = n := by
 obtain ⟨o, h1, _, rfl, _⟩ := h.ex
 rw [List.length_drop]; omega
theorem Qu.le (h : Qu ob base n c xs ys N C) (hc : N ≤ C) : n ≤ c := by
 obtain ⟨o, h1, h2, _, _⟩ := h.ex
 omega
theorem Zdg (ob : Option Nat) : (sb ob).map (·.add 0) = sb ob := by cases ob <;> rfl
theorem Qu.self (ob : Option Nat) (ys : List α) (N C : Nat) : Qu ob (sb ob) N C ys ys N C := ⟨0, by omega, by omega, rfl, fun _ => (Zdg ob).symm⟩
theorem Qu.drop (h : Qu ob base n c xs ys N C) {p : Int} (hp : 0 ≤ p ∧ p ≤ (xs.length : Int)) (hn : ys.length = N) (hc : N ≤ C) : Qu ob (Kl base p.toNat c 1) (n - p.toNat) (c - p.toNat) (xs.drop p.toNat) ys N C := by
 have hl := h.len hn
 have hle := h.le hc
 obtain ⟨o, h1, h2, rfl, h4⟩ := h.ex
 refine ⟨o + p.toNat, by omega, by omega, by rw [List.drop_drop], fun h5 => ?_⟩
 unfold Kl
 rw [if_neg (by omega), h4 (by omega)]
 cases ob with
 | none => rfl
 | some b => simp [Addr.add_lit]
theorem Qu.nil (h : Qu ob base n c xs ys N C) (hc : N ≤ C) (hz : ob = none → C = 0) : base = none → n = 0 := by
 intro hb
 have hle := h.le hc
 obtain ⟨o, h1, h2, rfl, h4⟩ := h.ex
 rcases Nat.eq_zero_or_pos c with h0 | h0
 · omega
 ·
  have := h4 h0
  rw [hb] at this
  cases ob with
  | none => have := hz rfl; omega
  | some b => cases this
theorem Qu.rsM (h : Qu ob base n c xs ys N C) (hi : Inv w0 M w H) (hf : ∀ x, (f x).length = 1) (hp : List.Perm H (Hm ++ R)) (hM : Hm.filterMap (·.1) = M') (hm : (ob, Obj.cells (arr f ys j).toArray T' fr) ∈ R) (hn : ys.length = N) (hc : N ≤ C) (hz : ob = none → C = 0) : RS w M' f 1 base n c xs := by
 have hl := h.len hn
 have hle := h.le hc
 have h9 := h.nil hc hz
 have hr := hi.rsM hf hp hM hm hn hc hz
 obtain ⟨o, h1, h2, rfl, h4⟩ := h.ex
 rcases Nat.eq_zero_or_pos c with h0 | h0
 ·
  have hn0 : n = 0 := by omega
  subst hn0
  have hx : ys.drop o = [] := List.eq_nil_of_length_eq_zero hl
  rw [hx]
  exact ⟨⟨rfl, fun _ => rfl, hf, fun o c h => by simp at h⟩, fun _ _ h => by omega, by omega⟩
 ·
  have h5 := hr.drop (p := (o : Int)) ⟨Int.natCast_nonneg o, by omega⟩
  rw [Int.toNat_natCast] at h5
  unfold Kl at h5
  rw [if_neg (by omega), Nat.mul_one, ← h4 h0, show N - o = n by omega, show C - o = c by omega] at h5
  exact h5
theorem Qu.rs (h : Qu ob base n c xs ys N C) (hi : Inv w0 M w H) (hf : ∀ x, (f x).length = 1) (hm : (ob, Obj.cells (arr f ys j).toArray T' fr) ∈ H) (hn : ys.length = N) (hc : N ≤ C) (hz : ob = none → C = 0) : RS w [] f 1 base n c xs :=
 h.rsM hi hf (Hm := []) (R := H) (List.Perm.refl _) rfl hm hn hc hz
end
section quiet
variable {C : Cx} {ops : Array Oper} {Q : Act → Prop} {l : List Nat} {E : Env} {H R : Heap} {i d : Nat} {ty : TypeId} {Zc : String} {af : Array Edge} {g : Option (Nat × Bool)}
end quiet
section rules
variable {C : Cx} {ops : Array Oper} {Q : Exit → Act → World → Prop} {l : List Nat} {E : Env} {H R : Heap} {i d : Nat} {ty : TypeId} {Zc : String} {af : Array Edge} {g : Option (Nat × Bool)}
theorem Z7z {w : World} {n c : Nat} {e : TypeId} (h : n ≤ 4611686018427387904) : grownCap w n c e ≤ 9223372036854775807 := by
 unfold grownCap Question.cut
 have := Nat.mod_lt (w.tape w.drawn (.appendCap n c e)) (show 0 < 2 ^ 63 - n by omega)
 simp only
 omega
end rules
end Go.Acq
namespace Go.Acq
open Go Go.RowKit Go.Proofs Go.Shelf
theorem Z9g (xs : List Int) (i : Nat) : (xs.flatMap (intC .i64)).drop i = (xs.drop i).flatMap (intC .i64) := by
 induction xs generalizing i with
 | nil => simp
 | cons x xs ih => cases i with
  | zero => rfl
  | succ i => simpa [intC] using ih i
theorem Zd5 (xs : List Int) (i : Nat) : (xs.flatMap (intC .i64)).take i = (xs.take i).flatMap (intC .i64) := by
 induction xs generalizing i with
 | nil => simp
 | cons x xs ih => cases i with
  | zero => rfl
  | succ i => simpa [intC] using ih i
theorem Jc (xs : List Int) : (xs.flatMap (intC .i64)).length = xs.length := by rw [Ge (s := 1) (fun _ => rfl)]; omega
theorem Z8x (xs : List Int) : ∀ v, v ∈ xs.flatMap (intC .i64) → v.oneCell' = true := by
 intro v hv
 obtain ⟨x, _, hx⟩ := List.mem_flatMap.1 hv
 have : v = .int .i64 x := by simpa [intC] using hx
 rw [this]; rfl
section
variable {P : Program} {ρ : Ren} {w w0 : World} {M : List Nat} {H R : Heap} {b : Nat} {T : TypeId} {cs : Array Value}
theorem Inv.setCells (P : Program) (h : Inv w0 M w H) (ht : Take (some b, .cells cs T (0, 0)) H R) {o : Nat} {vs : List Value} (hfit : o + vs.length ≤ cs.size) (h1 : ∀ u, u ∈ vs → u.oneCell' = true) :
    Inv w0 M (w.setCells b o vs) ((some b, .cells (cs.toList.take o ++ vs ++ cs.toList.drop (o + vs.length)).toArray T (0, 0)) :: R) := by
  rw [Z7s (P := P) (h.own _ _ ht.mem) hfit h1]
  exact h.setRow ht
theorem Z8n (h : Inv w0 M w H) (hm : (some b, .cells cs T (0, 0)) ∈ H) : w.shape? b = some (T, cs.size) := by
 have := h.own _ _ hm
 simp [World.shape?, this]
theorem Z7p (ys : List Int) (j : List Value) : (arr (intC .i64) ys j).toArray.size = ys.length + j.length := by
 rw [List.size_toArray, arr, List.length_append, Jc]
theorem ins_list {α : Type} (A B D j U : List α) {o i m k : Nat} (hA : A.length = o) (hB : B.length = i) (hU : U.length = m) (hk : k = o + i) (hm : m ≤ j.length) :
    ((((A ++ B) ++ (D ++ j)).take (k + m) ++ D ++ ((A ++ B) ++ (D ++ j)).drop (k + m + D.length)).take k ++ U ++ (((A ++ B) ++ (D ++ j)).take (k + m) ++ D ++ ((A ++ B) ++ (D ++ j)).drop (k + m + D.length)).drop (k + U.length))
    = (A ++ B) ++ U ++ (D ++ j.drop m) := by
  have hAB : (A ++ B).length = k := by rw [List.length_append]; omega
  have h1 : ((A ++ B) ++ (D ++ j)).take (k + m) = (A ++ B) ++ (D ++ j).take m := by
    rw [List.take_append, List.take_of_length_le (by omega), hAB, Nat.add_sub_cancel_left]
  have h2 : ((A ++ B) ++ (D ++ j)).drop (k + m + D.length) = j.drop m := by
    rw [List.drop_append, List.drop_eq_nil_of_le (by omega), List.nil_append, hAB, show k + m + D.length - k = D.length + m by omega, List.drop_append, List.drop_eq_nil_of_le (by omega), List.nil_append, Nat.add_sub_cancel_left]
  have h3 : ((D ++ j).take m).length = m := by rw [List.length_take, List.length_append]; omega
  rw [h1, h2]
  generalize (D ++ j).take m = t at h3
  generalize j.drop m = j'
  generalize A ++ B = X at hAB ⊢
  have hY : X ++ t ++ D ++ j' = X ++ (t ++ (D ++ j')) := by simp only [List.append_assoc]
  rw [hY, List.take_left' hAB, List.drop_append, List.drop_eq_nil_of_le (by omega), List.nil_append, hAB, hU, Nat.add_sub_cancel_left, List.drop_left' h3]
theorem ins_grow {α : Type} (A D Z Z' U : List α) {p m : Nat} (hA : A.length = p) (hU : U.length = m) (hZ : Z.length = m + D.length) :
    ((A ++ Z ++ Z').take p ++ U ++ (A ++ Z ++ Z').drop (p + U.length)).take (p + m) ++ D ++ ((A ++ Z ++ Z').take p ++ U ++ (A ++ Z ++ Z').drop (p + U.length)).drop (p + m + D.length) = A ++ U ++ D ++ Z' := by
  have h1 : (A ++ Z ++ Z').take p = A := by rw [List.append_assoc, List.take_left' hA]
  have h2 : (A ++ Z ++ Z').drop (p + U.length) = (Z ++ Z').drop m := by
    rw [List.append_assoc, List.drop_append, List.drop_eq_nil_of_le (by omega), List.nil_append, hA, hU, Nat.add_sub_cancel_left]
  have hAU : (A ++ U).length = p + m := by rw [List.length_append]; omega
  rw [h1, h2, List.take_left' hAU, List.drop_append, List.drop_eq_nil_of_le (by omega), List.nil_append, hAU, Nat.add_sub_cancel_left, List.drop_drop, List.drop_left' hZ]
theorem Zdt {ys : List Int} {j : List Value} {o i m : Nat} {us : List Int} (ho : o + i ≤ ys.length) (hm : us.length = m) (hj : m ≤ j.length) :
    (((arr (intC .i64) ys j).take (o + (i + m)) ++ ((ys.drop o).flatMap (intC .i64)).drop i ++ (arr (intC .i64) ys j).drop (o + (i + m) + (((ys.drop o).flatMap (intC .i64)).drop i).length)).take (o + i) ++ us.flatMap (intC .i64) ++
      ((arr (intC .i64) ys j).take (o + (i + m)) ++ ((ys.drop o).flatMap (intC .i64)).drop i ++ (arr (intC .i64) ys j).drop (o + (i + m) + (((ys.drop o).flatMap (intC .i64)).drop i).length)).drop (o + i + (us.flatMap (intC .i64)).length))
    = arr (intC .i64) (ys.take o ++ ((ys.drop o).take i ++ us ++ (ys.drop o).drop i)) (j.drop m) := by
  have hY : arr (intC .i64) ys j = ((ys.take o).flatMap (intC .i64) ++ ((ys.drop o).take i).flatMap (intC .i64)) ++ (((ys.drop o).drop i).flatMap (intC .i64) ++ j) := by
    show ys.flatMap (intC .i64) ++ j = _
    rw [← List.append_assoc, ← List.flatMap_append, ← List.flatMap_append, List.append_assoc, List.take_append_drop, List.take_append_drop]
  rw [Z9g, hY, ← Nat.add_assoc]
  have := ins_list ((ys.take o).flatMap (intC .i64)) (((ys.drop o).take i).flatMap (intC .i64)) (((ys.drop o).drop i).flatMap (intC .i64)) j (us.flatMap (intC .i64)) (o := o) (i := i) (m := m) (k := o + i)
    (by rw [Jc, List.length_take]; omega) (by rw [Jc, List.length_take, List.length_drop]; omega) (by rw [Jc, hm]) rfl hj
  rw [this]
  simp only [arr, List.flatMap_append, List.append_assoc]
def InsP (T : TypeId) (r us : List Int) (b2 : Nat) (j2 : List Value) (v : Value) (N : Heap) : Prop :=
  ∃ (base' : Option Addr) (n' c' : Nat) (ob' : Option Nat) (N' C' : Nat) (ys' : List Int) (j' : List Value), v = .slice base' n' c' ∧
    N = [(ob', .cells (arr (intC .i64) ys' j').toArray T (0, 0)), (some b2, .cells (arr (intC .i64) us j2).toArray T (0, 0))] ∧ Qu ob' base' n' c' r ys' N' C' ∧ ys'.length = N' ∧ N' ≤ C' ∧ j'.length = (C' - N') * 1 ∧ (ob' = none → C' = 0) ∧ C' ≤ 9223372036854775807
theorem Z9v {xs : List Int} {n : Nat} {base : Option Addr} (h : RO w (intC .i64) 1 base n xs) {a : Addr} (ha : base = some a) : ∀ j v, (xs.flatMap (intC .i64))[j]? = some v → w.cell? (a.add j) = some v := by
 intro j v hj
 have := h.cells j v hj
 rw [ha] at this
 exact this
theorem Fnc.insert (L : Lays2.n21 P ρ) (w : World) {M : List Nat} {ob : Option Nat} {base : Option Addr} {n c N C : Nat} {xs ys : List Int} {j : List Value} {i : Int} {us : List Int} {b2 c2 : Nat} {j2 : List Value} {r : List Int}
    (hin : Inv w M w [(ob, .cells (arr (intC .i64) ys j).toArray (ρ.t 3) (0, 0)), (some b2, .cells (arr (intC .i64) us j2).toArray (ρ.t 3) (0, 0))])
    (hQ : Qu ob base n c xs ys N C) (hn : ys.length = N) (hc : N ≤ C) (hj : j.length = (C - N) * 1) (hz : ob = none → C = 0) (hC : C ≤ 9223372036854775807)
    (hi0 : 0 ≤ i) (hi1 : i ≤ (xs.length : Int)) (hm : 0 < us.length) (hap : apok (xs ++ us).length 8) (hr9 : r = xs.take i.toNat ++ us ++ xs.drop i.toNat) :
    Fnc P (ρ.f 21) #[.slice base n c, .int .i64 i, .slice (some ⟨b2, 0, none⟩) us.length c2] w M (InsP (ρ.t 3) r us b2 j2) := by
  subst hr9
  have hl := hQ.len hn
  have hle := hQ.le hc
  have hnil := hQ.nil hc hz
  have hR := hQ.rs hin (fun _ => rfl) (.head _) hn hc hz
  obtain ⟨p, rfl⟩ : ∃ p : Nat, i = (p : Int) := ⟨i.toNat, (Int.toNat_of_nonneg hi0).symm⟩
  rw [Int.toNat_natCast]
  rw [List.length_append] at hap
  obtain ⟨hap1, hap2⟩ := hap
  have hm2 : (some b2, Obj.cells (arr (intC .i64) us j2).toArray (ρ.t 3) (0, 0)) ∈ [(ob, Obj.cells (arr (intC .i64) ys j).toArray (ρ.t 3) (0, 0)), (some b2, Obj.cells (arr (intC .i64) us j2).toArray (ρ.t 3) (0, 0))] := .tail _ (.head _)
  have hvs : ∀ q v, (us.flatMap (intC .i64))[q]? = some v → w.cell? ⟨b2, 0 + q, none⟩ = some v := fun q v hq => by
    rw [Nat.zero_add, hin.cell_own hm2]
    rw [List.getElem?_toArray, arr, List.getElem?_append_left (List.getElem?_eq_some_iff.1 hq).1]; exact hq
  have hcl := Jc xs
  have hvl := Jc us
  have h1c := Z8x xs
  have h1v := Z8x us
  by_cases hend : p = n
  · subst hend
    by_cases hr : p + us.length ≤ c
    · -- there is room at the end
      obtain ⟨o, ho1, ho2, rfl, ho4⟩ := hQ.ex
      have hb := ho4 (by omega)
      cases ob with
      | none => have := hz rfl; omega
      | some b =>
        simp only [sb, Option.map_some, Addr.add_lit, Nat.zero_add] at hb
        subst hb
        have hhd : (some b, Obj.cells (arr (intC .i64) ys j).toArray (ρ.t 3) (0, 0)) ∈ [(some b, Obj.cells (arr (intC .i64) ys j).toArray (ρ.t 3) (0, 0)), (some b2, Obj.cells (arr (intC .i64) us j2).toArray (ρ.t 3) (0, 0))] := .head _
        have hsz := Z7p ys j
        refine Calls.mono (Any2.slices_Insert_int_end_room L b o p c b2 0 us.length c2 (us.flatMap (intC .i64)) w hm hr (by omega) hvl (fun q hq => ?_) (fun q _ => hin.frozen_own hhd _) hvs h1v) ?_
        · rw [hin.cell_own hhd, Array.getElem?_eq_getElem (by rw [hsz]; omega)]; rfl
        · rintro e w' ⟨rfl, rfl⟩
          have h5 := hin.setCells P (Take.head _ _) (o := o + p) (vs := us.flatMap (intC .i64)) (by rw [hsz, hvl]; omega) h1v
          refine ⟨_, _, ⟨some ⟨b, o, none⟩, p + us.length, c, some b, N + us.length, C, ys ++ us, j.drop us.length, rfl, rfl, ⟨o, by omega, by omega, ?_, fun _ => by simp [sb, Addr.add_lit]⟩, by rw [List.length_append]; omega, by omega, by rw [List.length_drop]; omega, (fun e => by cases e), hC⟩, rfl, ?_⟩
          · rw [List.take_of_length_le (by omega), List.drop_eq_nil_of_le (show (ys.drop o).length ≤ p by omega), List.append_nil, List.drop_append_of_le_length (by omega)]
          · have e1 : ((arr (intC .i64) ys j).toArray.toList.take (o + p) ++ us.flatMap (intC .i64) ++ (arr (intC .i64) ys j).toArray.toList.drop (o + p + (us.flatMap (intC .i64)).length)).toArray = (arr (intC .i64) (ys ++ us) (j.drop us.length)).toArray := by
              have e2 := Jc ys
              simp only [arr, List.flatMap_append]
              rw [hvl, List.take_left' (by omega), List.drop_append, List.drop_eq_nil_of_le (by omega), List.nil_append, e2, show o + p + us.length - ys.length = us.length by omega]
            rw [← e1]; exact h5
    · -- a new row
      refine Calls.mono (Any2.slices_Insert_int_end_grow L base p c b2 0 us.length c2 (xs.flatMap (intC .i64)) (us.flatMap (intC .i64)) w hm hle (by omega) (by omega) (by omega) hvl hnil (fun a ha => Z9v hR.ro ha) hvs h1v) ?_
      rintro e w' ⟨rfl, rfl⟩
      have hcap : p + us.length ≤ grownCap w (p + us.length) c (ρ.t 3) := by unfold grownCap Question.cut; simp only; omega
      refine ⟨_, _, ⟨_, p + us.length, grownCap w (p + us.length) c (ρ.t 3), some w.heap.size, p + us.length, grownCap w (p + us.length) c (ρ.t 3), xs ++ us, (Builtin.zeroCells (Value.int .i64 0).cells (grownCap w (p + us.length) c (ρ.t 3) - (p + us.length))).toList, rfl, rfl, ?_, by rw [List.length_append]; omega, hcap, by rw [Array.length_toList, size_zeroCells]; rfl, (fun e => by cases e), Z7z (by omega)⟩, rfl, ?_⟩
      · rw [List.take_of_length_le (by omega), List.drop_eq_nil_of_le (by omega), List.append_nil]
        exact Qu.self (some w.heap.size) (xs ++ us) _ _
      · have e2 : ((xs.flatMap (intC .i64) ++ us.flatMap (intC .i64)).toArray ++ Builtin.zeroCells (Value.int .i64 0).cells (grownCap w (p + us.length) c (ρ.t 3) - (p + us.length))) = (arr (intC .i64) (xs ++ us) (Builtin.zeroCells (Value.int .i64 0).cells (grownCap w (p + us.length) c (ρ.t 3) - (p + us.length))).toList).toArray := by
          simp only [arr, List.flatMap_append]
          apply Array.ext'
          simp [List.append_assoc]
        rw [e2]
        exact (hin.drew.alloc _).pick (Zf (Take.head _ _) (Zf (Take.tail (Take.head _ _)) Zi))
  · have hpn : p < n := by omega
    obtain ⟨o, ho1, ho2, rfl, ho4⟩ := hQ.ex
    have hb := ho4 (by omega)
    cases ob with
    | none => have := hz rfl; omega
    | some b =>
      simp only [sb, Option.map_some, Addr.add_lit, Nat.zero_add] at hb
      subst hb
      have hhd : (some b, Obj.cells (arr (intC .i64) ys j).toArray (ρ.t 3) (0, 0)) ∈ [(some b, Obj.cells (arr (intC .i64) ys j).toArray (ρ.t 3) (0, 0)), (some b2, Obj.cells (arr (intC .i64) us j2).toArray (ρ.t 3) (0, 0))] := .head _
      have hsz := Z7p ys j
      have hcs : ∀ q v, ((ys.drop o).flatMap (intC .i64))[q]? = some v → w.cell? ⟨b, o + q, none⟩ = some v := fun q v hq => by
        have := Z9v hR.ro rfl q v hq
        rwa [Addr.add_lit] at this
      have hbb : b2 ≠ b := by
        have := hin.apart
        simp only [List.filterMap_cons, List.filterMap_nil, List.nodup_cons, List.mem_singleton] at this
        exact fun e => this.1 e.symm
      by_cases hr : n + us.length ≤ c
      · refine Calls.mono (Any2.slices_Insert_int_shift L b o n c p b2 0 us.length c2 ((ys.drop o).flatMap (intC .i64)) (us.flatMap (intC .i64)) w hpn hm hr (by omega) hbb (by rw [Jc]; exact hl) hvl hcs (fun q hq => ?_) (fun q _ => hin.frozen_own hhd _) hvs h1c h1v _ _ _ _ (Z8n hin hm2) (Z8n hin hhd) (by rw [hsz]; omega) (hin.frozen_own hm2 _) (hin.frozen_own hm2 _)) ?_
        · rw [hin.cell_own hhd, Array.getElem?_eq_getElem (by rw [hsz]; omega)]; rfl
        · rintro e w' ⟨rfl, rfl⟩
          have hdl : (((ys.drop o).flatMap (intC .i64)).drop p).length = n - p := by rw [List.length_drop, Jc]; omega
          have h5 := hin.drew.setCells P (Take.head _ _) (o := o + (p + us.length)) (vs := ((ys.drop o).flatMap (intC .i64)).drop p) (by rw [hsz, hdl]; omega) (fun v hv => h1c v (List.mem_of_mem_drop hv))
          have hsz2 : (arr (intC .i64) ys j).toArray.toList.length = ys.length + j.length := by rw [Array.length_toList]; exact hsz
          have h6 := h5.setCells P (Take.head _ _) (o := o + p) (vs := us.flatMap (intC .i64)) (by
            rw [List.size_toArray, List.length_append, List.length_append, List.length_take, hdl, hvl, List.length_drop, hsz2]; omega) h1v
          refine ⟨_, _, ⟨some ⟨b, o, none⟩, n + us.length, c, some b, N + us.length, C, ys.take o ++ ((ys.drop o).take p ++ us ++ (ys.drop o).drop p), j.drop us.length, rfl, rfl, ⟨o, by omega, by omega, ?_, fun _ => by simp [sb, Addr.add_lit]⟩, ?_, by omega, by rw [List.length_drop]; omega, (fun e => by cases e), hC⟩, rfl, ?_⟩
          · rw [List.drop_left' (by rw [List.length_take]; omega)]
          · simp only [List.length_append, List.length_take, List.length_drop]; omega
          · rw [← Zdt (by omega) rfl (by omega)]
            exact h6
      · refine Calls.mono (Any2.slices_Insert_int_grow L b o n c p b2 0 us.length c2 ((ys.drop o).flatMap (intC .i64)) (us.flatMap (intC .i64)) w hpn hm hle (by omega) (by omega) (by rw [Jc]; exact hl) hvl hcs hvs h1c h1v) ?_
        rintro e w' ⟨rfl, rfl⟩
        have hcap : n + us.length ≤ grownCap w (n + us.length) c (ρ.t 3) := by unfold grownCap Question.cut; simp only; omega
        obtain ⟨G, hG⟩ : ∃ G, G = grownCap w (n + us.length) c (ρ.t 3) := ⟨_, rfl⟩
        have hGm : G ≤ 9223372036854775807 := by rw [hG]; exact Z7z (by omega)
        rw [← hG] at hcap ⊢
        have hzl : ∀ k, (Builtin.zeroCells (Value.int .i64 0).cells k).toList.length = k := fun k => by rw [Array.length_toList, size_zeroCells]; exact Nat.mul_one k
        have hdl : (((ys.drop o).flatMap (intC .i64)).drop p).length = n - p := by rw [List.length_drop, Jc]; omega
        have htl : (((ys.drop o).flatMap (intC .i64)).take p).length = p := by rw [List.length_take, Jc]; omega
        have h0 := hin.alloc (.cells ((((ys.drop o).flatMap (intC .i64)).take p).toArray ++ Builtin.zeroCells (Value.int .i64 0).cells (n + us.length - p) ++ Builtin.zeroCells (Value.int .i64 0).cells (G - (n + us.length))) (ρ.t 3))
        have hsz0 : ((((ys.drop o).flatMap (intC .i64)).take p).toArray ++ Builtin.zeroCells (Value.int .i64 0).cells (n + us.length - p) ++ Builtin.zeroCells (Value.int .i64 0).cells (G - (n + us.length))).size = p + (n + us.length - p) + (G - (n + us.length)) := by
          rw [Array.size_append, Array.size_append, List.size_toArray, htl, size_zeroCells, size_zeroCells]
          show p + _ * 1 + _ * 1 = _
          rw [Nat.mul_one, Nat.mul_one]
        have h1 := h0.drew.setCells P (Take.head _ _) (o := p) (vs := us.flatMap (intC .i64)) (by rw [hsz0, hvl]; omega) h1v
        have h2 := h1.drew.setCells P (Take.head _ _) (o := p + us.length) (vs := ((ys.drop o).flatMap (intC .i64)).drop p) (by
          have hs0 : ((((ys.drop o).flatMap (intC .i64)).take p).toArray ++ Builtin.zeroCells (Value.int .i64 0).cells (n + us.length - p) ++ Builtin.zeroCells (Value.int .i64 0).cells (G - (n + us.length))).toList.length = p + (n + us.length - p) + (G - (n + us.length)) := by rw [Array.length_toList]; exact hsz0
          rw [List.size_toArray, List.length_append, List.length_append, List.length_take, hdl, hvl, List.length_drop, hs0]; omega) (fun v hv => h1c v (List.mem_of_mem_drop hv))
        refine ⟨_, _, ⟨_, n + us.length, G, some w.heap.size, n + us.length, G, (ys.drop o).take p ++ us ++ (ys.drop o).drop p, (Builtin.zeroCells (Value.int .i64 0).cells (G - (n + us.length))).toList, rfl, rfl, Qu.self (some w.heap.size) _ _ _, ?_, hcap, by rw [hzl]; omega, (fun e => by cases e), hGm⟩, rfl, ?_⟩
        · simp only [List.length_append, List.length_take, List.length_drop]; omega
        · have key := ins_grow (((ys.drop o).flatMap (intC .i64)).take p) (((ys.drop o).flatMap (intC .i64)).drop p) (Builtin.zeroCells (Value.int .i64 0).cells (n + us.length - p)).toList (Builtin.zeroCells (Value.int .i64 0).cells (G - (n + us.length))).toList (us.flatMap (intC .i64)) (p := p) (m := us.length) htl hvl (by rw [hzl, hdl]; omega)
          have e1 : (arr (intC .i64) ((ys.drop o).take p ++ us ++ (ys.drop o).drop p) (Builtin.zeroCells (Value.int .i64 0).cells (G - (n + us.length))).toList) = ((ys.drop o).flatMap (intC .i64)).take p ++ us.flatMap (intC .i64) ++ ((ys.drop o).flatMap (intC .i64)).drop p ++ (Builtin.zeroCells (Value.int .i64 0).cells (G - (n + us.length))).toList := by
            rw [Zd5, Z9g]; simp only [arr, List.flatMap_append]
          rw [e1, ← key]
          have e3 : ((((ys.drop o).flatMap (intC .i64)).take p).toArray ++ Builtin.zeroCells (Value.int .i64 0).cells (n + us.length - p) ++ Builtin.zeroCells (Value.int .i64 0).cells (G - (n + us.length))).toList = ((ys.drop o).flatMap (intC .i64)).take p ++ (Builtin.zeroCells (Value.int .i64 0).cells (n + us.length - p)).toList ++ (Builtin.zeroCells (Value.int .i64 0).cells (G - (n + us.length))).toList := by simp
          rw [e3] at h2
          exact h2.pick (Zf (Take.head _ _) (Zf (Take.tail (Take.head _ _)) Zi))
end
end Go.Acq
namespace Go.Acq
open Go Go.RowKit
section
variable {C : Cx} {ops : Array Oper} {Q : Exit → Act → World → Prop} {E : Env} {H : Heap}
end
end Go.Acq
namespace Go.Acq
open Go Go.RowKit
structure RowB where
  ob : Option Nat
  xs : List Int
  n : Nat
  c : Nat
  j : List Value
instance : Inhabited RowB := ⟨⟨none, [], 0, 0, []⟩⟩
def RowB.ok (r : RowB) : Prop := r.xs.length = r.n ∧ r.n ≤ r.c ∧ r.j.length = (r.c - r.n) * 1 ∧ (r.ob = none → r.c = 0)
def RowB.sm (r : RowB) : SM := (sb r.ob, r.n, r.c)
structure Fam (L : List RowB) (xss : List (List Int)) (n : Nat) : Prop where
  xs : L.map RowB.xs = xss
  ok : ∀ r, r ∈ L → r.ok
  len : xss.length = n
theorem RowB.ok0 : (default : RowB).ok := ⟨rfl, Nat.le_refl _, rfl, fun _ => rfl⟩
theorem Fam.replicate (n : Nat) : Fam (List.replicate n default) (List.replicate n []) n :=
 ⟨by rw [List.map_replicate]; rfl, fun r hr => by rw [(List.mem_replicate.1 hr).2]; exact RowB.ok0, List.length_replicate⟩
theorem Fam.lenL {L : List RowB} {xss : List (List Int)} {n : Nat} (h : Fam L xss n) : L.length = n := by rw [← h.len, ← h.xs, List.length_map]
theorem Fam.set {L : List RowB} {xss : List (List Int)} {n p : Nat} {r : RowB} (h : Fam L xss n) (hr : r.ok) : Fam (L.set p r) (xss.set p r.xs) n :=
 ⟨by rw [List.map_set, h.xs], fun q hq => by
  rcases List.mem_or_eq_of_mem_set hq with h1 | rfl
  · exact h.ok q h1
  · exact hr, by rw [List.length_set]; exact h.len⟩
section
variable {C : Cx} {Q : Exit → Act → World → Prop} {E : Env} {H : Heap} {e : Exit} {code : Code}
end
section ends
variable {C : Cx} {E : Env} {H N : Heap}
end ends
section rules
variable {C : Cx} {ops : Array Oper} {Q : Exit → Act → World → Prop} {l : List Nat} {E : Env} {H R : Heap} {i d : Nat} {ty : TypeId} {Zc : String} {af : Array Edge} {g : Option (Nat × Bool)}
theorem Fam.inb {L : List RowB} {xss : List (List Int)} {n : Nat} {p : Int} (h : Fam L xss n) (hp : inb p xss.length) : inb p (L.map RowB.sm).length := by
 rw [List.length_map, h.lenL, ← h.len]; exact hp
end rules
section draw
variable {C : Cx} {ops : Array Oper} {Q : Exit → Act → World → Prop} {E : Env} {H : Heap}
theorem ObE2.tail {S : List Sp} {HR : Nat → List Value → Heap → Prop} {hd : List (List Nat)} {W : Env} {Hc : Heap} {i : Nat} (Tl : Heap) (h : ObE2 C ops Q S HR hd W Hc i) : ObE2 C ops Q S HR hd W (Hc ++ Tl) i := by
 intro vs es Es Hx hb hr hh a w hf hi
 refine Ry (l2 := []) (fun e a w hne hq => ?_) (fun a w hq => ?_) [i] a w (h vs es Es (Tl ++ Hx) hb hr hh a w hf (hi.perm (Z0e hb Hx)))
 · cases e <;> first | exact absurd rfl hne | exact hq
 ·
  obtain ⟨v, hb', e', h1, h2, h3, h4⟩ := hq
  refine ⟨v, hb', e', h1, h2, h3, h4.perm ?_⟩
  have e1 : hb' ++ (Hc ++ (e' ++ (Xo es (Yo S i) ++ (Tl ++ Hx)))) = hb' ++ (Hc ++ ((e' ++ Xo es (Yo S i)) ++ (Tl ++ Hx))) := by simp only [List.append_assoc]
  have e2 : hb' ++ ((Hc ++ Tl) ++ (e' ++ (Xo es (Yo S i) ++ Hx))) = hb' ++ ((Hc ++ Tl) ++ ((e' ++ Xo es (Yo S i)) ++ Hx)) := by simp only [List.append_assoc]
  rw [e1, e2]
  exact (Z0e hb' Hx).symm
theorem ObsG2.tail {S : List Sp} {HR : Nat → List Value → Heap → Prop} {hd : List (List Nat)} {W : Env} {Hc : Heap} (Tl : Heap) : ∀ {l : List Nat}, ObsG2 C ops Q S HR hd W Hc l → ObsG2 C ops Q S HR hd W (Hc ++ Tl) l
 | [], _ => trivial
 | i :: l, ⟨h1, h2⟩ => by
  refine ⟨?_, ObsG2.tail Tl h2⟩
  cases he : Yr S i with
  | true => rw [he] at h1; exact ObE2.tail Tl h1
  | false => rw [he] at h1; exact ObQ.tail Tl h1
end draw
section ends
variable {C : Cx} {E : Env} {H H' N : Heap}
end ends
end Go.Acq
namespace Go.Acq
open Go Go.RowKit
section rules
variable {C : Cx} {ops : Array Oper} {Q : Act → Prop} {l : List Nat} {E : Env} {H R : Heap} {i d : Nat} {ty : TypeId} {Zc : String} {af : Array Edge} {g : Option (Nat × Bool)}
end rules
section ends
variable {C : Cx} {E : Env} {H N : Heap}
end ends
end Go.Acq
namespace Go.Acq
open Go Go.RowKit
section rules
variable {C : Cx} {ops : Array Oper} {Q : Exit → Act → World → Prop} {l : List Nat} {E : Env} {H R : Heap} {i d : Nat} {ty : TypeId} {Zc : String} {af : Array Edge} {g : Option (Nat × Bool)}
def ExtF (P : Program) (f : FuncId) (e : Array Value → Sem Value) : Prop :=
  ∃ fn, P.funcs[f]? = some fn ∧ (fn.name == "runtime.NumGoroutine") = false ∧ fn.body.isNone = true ∧ Extern.findNext fn = none ∧ Extern.find fn = some e
variable {x y z : Operand} {f : FuncId} {at' : Array TypeId} {ob : Option Nat} {n c : Nat} {p v u : Int} {xs : List Int} {j : List Value} {T : TypeId}
end rules
section rules
variable {C : Cx} {ops : Array Oper} {Q : Exit → Act → World → Prop} {l : List Nat} {E : Env} {H R : Heap} {i d : Nat} {ty : TypeId} {Zc : String} {af : Array Edge} {g : Option (Nat × Bool)}
end rules
end Go.Acq
namespace Go.Acq
open Go Go.RowKit
section rules
variable {C : Cx} {ops : Array Oper} {Q : Exit → Act → World → Prop} {l : List Nat} {E : Env} {H R : Heap} {i d : Nat} {ty : TypeId} {Zc : String} {af : Array Edge} {g : Option (Nat × Bool)}
end rules
end Go.Acq
namespace Go.Acq
open Go Go.RowKit
def wpU (P : Program) (ops : Array Oper) (Qn : Act → Prop) : List Nat → Act → Prop
  | [], a => Qn a
  | i :: rest, a => match ops[i]? with
    | none => wpU P ops Qn rest a
    | some o => (∀ c, o.op ≠ .defer c) ∧ (∀ cs b, o.op ≠ .select cs b) ∧
        if Region.wanted o (yielded ops a.tmps) = true then ∃ v, (∀ w, (execOp a.eval o).run P w = .ok (.value v) w) ∧ wpU P ops Qn rest (a.put o.dst v)
        else wpU P ops Qn rest (a.put o.dst undef)
def TU (C : Cx) (ops : Array Oper) (Qn : Act → Prop) (l : List Nat) (E : Env) : Prop := ∀ a, Fits C.n C.D E a → wpU C.P ops Qn l a
def setB (ops : Array Oper) (m : Nat) : List Nat → List Nat → Bool
  | _, [] => true
  | pre, i :: l => Nat.blt i m && !(pre.any (Nat.beq i)) && (match ops[i]? with
    | none => false
    | some o => (match o.dst with | some d => (List.range m).all fun j => Nat.beq j i || !(Yj ops j == some d) | none => false) &&
        (o.looksAt ops).all fun t => (List.range m).all fun j => !(Yj ops j == some t) || (pre.any (Nat.beq j) && Vk ops ops.size i j)) && setB ops m (i :: pre) l
section
variable {C : Cx} {ops : Array Oper} {Q : Exit → Act → World → Prop} {E : Env} {H : Heap}
def Ux (ops : Array Oper) (vs : Nat → Value) : List Nat → Act → Act
  | [], a => a
  | i :: l, a => Ux ops vs l (a.put (Yj ops i) (vs i))
theorem Z8u {vs vs' : Nat → Value} : ∀ (l : List Nat) (a : Act), (∀ i, i ∈ l → vs i = vs' i) → Ux ops vs l a = Ux ops vs' l a
 | [], _, _ => rfl
 | i :: l, a, h => by simp only [Ux]; rw [h i (.head _)]; exact Z8u l _ fun j hj => h j (.tail _ hj)
def StepQ (P : Program) (ops : Array Oper) (K : World → Prop) (vs : Nat → Value) (i : Nat) (a : Act) : Prop :=
  ∃ o, ops[i]? = some o ∧ (∀ c, o.op ≠ .defer c) ∧ (∀ cs b, o.op ≠ .select cs b) ∧
    ((Region.wanted o (yielded ops a.tmps) = true ∧ ∀ w, K w → Gb P K w (vs i) ((execOp a.eval o).run P w)) ∨ (Region.wanted o (yielded ops a.tmps) = false ∧ vs i = undef))
def StepU (P : Program) (ops : Array Oper) (vs : Nat → Value) (i : Nat) (a : Act) : Prop :=
  ∃ o, ops[i]? = some o ∧ (∀ c, o.op ≠ .defer c) ∧ (∀ cs b, o.op ≠ .select cs b) ∧
    ((Region.wanted o (yielded ops a.tmps) = true ∧ ∀ w, (execOp a.eval o).run P w = .ok (.value (vs i)) w) ∨ (Region.wanted o (yielded ops a.tmps) = false ∧ vs i = undef))
theorem StepU.q {P : Program} {K : World → Prop} {vs : Nat → Value} {i : Nat} {a : Act} (h : StepU P ops vs i a) : StepQ P ops K vs i a := by
 obtain ⟨o, h1, h2, h3, h4⟩ := h
 refine ⟨o, h1, h2, h3, h4.imp (fun h => ⟨h.1, fun w _ => ?_⟩) id⟩
 rw [h.2 w]; exact ⟨rfl, rfl⟩
theorem Z89 {P : Program} {K : World → Prop} {Qn : Act → Prop} : ∀ (l : List Nat) (a : Act), l.Nodup → (∀ i, i ∈ l → ∃ o, ops[i]? = some o) → Kb P ops K Qn l a →
    ∃ vs : Nat → Value, (∀ pre i post, l = pre ++ i :: post → StepQ P ops K vs i (Ux ops vs pre a)) ∧ Qn (Ux ops vs l a)
  | [], a, _, _, h => ⟨fun _ => undef, fun pre i post e => by simp at e, h⟩
  | i :: l, a, hn, ho, h => by
    obtain ⟨o, hoi⟩ := ho i (.head _)
    simp only [Kb, hoi] at h
    obtain ⟨hd, hs, h⟩ := h
    have hslot : Yj ops i = o.dst := by simp [Yj, hoi]
    obtain ⟨v, hv, hr⟩ : ∃ v, ((Region.wanted o (yielded ops a.tmps) = true ∧ ∀ w, K w → Gb P K w v ((execOp a.eval o).run P w)) ∨ (Region.wanted o (yielded ops a.tmps) = false ∧ v = undef)) ∧ Kb P ops K Qn l (a.put o.dst v) := by
      by_cases hw : Region.wanted o (yielded ops a.tmps) = true
      · rw [if_pos hw] at h; obtain ⟨v, h1, h2⟩ := h; exact ⟨v, .inl ⟨hw, h1⟩, h2⟩
      · rw [if_neg hw] at h; exact ⟨undef, .inr ⟨by simpa using hw, rfl⟩, h⟩
    have hn' := List.nodup_cons.1 hn
    obtain ⟨vs, g1, g2⟩ := Z89 l _ hn'.2 (fun j hj => ho j (.tail _ hj)) hr
    let vs' : Nat → Value := fun j => if j = i then v else vs j
    have ei : vs' i = v := by simp [vs']
    have ee : ∀ (l' : List Nat) (b : Act), i ∉ l' → Ux ops vs' l' b = Ux ops vs l' b := fun l' b hni => Z8u l' b fun j hj => by
      have : j ≠ i := by rintro rfl; exact hni hj
      simp [vs', this]
    refine ⟨vs', fun pre j post e => ?_, ?_⟩
    · cases pre with
      | nil => simp only [List.nil_append, List.cons.injEq] at e; obtain ⟨rfl, rfl⟩ := e; exact ⟨o, hoi, hd, hs, by rw [ei]; exact hv⟩
      | cons q pre =>
        simp only [List.cons_append, List.cons.injEq] at e
        obtain ⟨rfl, rfl⟩ := e
        have h1 := g1 pre j post rfl
        have hni : i ∉ pre := fun hm => hn'.1 (List.mem_append_left _ hm)
        have hji : j ≠ i := by rintro rfl; exact hn'.1 (by simp)
        simp only [Ux]
        rw [ei, hslot, ee pre _ hni]
        obtain ⟨o', a1, a2, a3, a4⟩ := h1
        have evj : vs' j = vs j := by simp [vs', hji]
        exact ⟨o', a1, a2, a3, by rw [evj]; exact a4⟩
    · simp only [Ux]; rw [ei, hslot, ee l _ hn'.1]; exact g2
theorem Z9c {m : Nat} {vs : Nat → Value} {a0 : Act} : ∀ (l : List Nat) (done : Nat → Bool) (a : Act), (∀ i, i ∈ l → i < m ∧ ∃ d, Yj ops i = some d ∧ ∀ j, j < m → j ≠ i → Yj ops j ≠ some d) →
    DoneQ ops m vs a0 done a → DoneQ ops m vs a0 (fun q => done q || l.any (Nat.beq q)) (Ux ops vs l a)
  | [], done, a, _, h => by simpa [Ux] using h
  | i :: l, done, a, hu, h => by
    obtain ⟨hi, d, hd, hud⟩ := hu i (.head _)
    have h1 := h.put hi hd hud
    have h2 := Z9c l _ _ (fun j hj => hu j (.tail _ hj)) h1
    simp only [Ux]
    rw [hd]
    have e : (fun q : Nat => (if q = i then true else done q) || l.any (Nat.beq q)) = fun q => done q || (i :: l).any (Nat.beq q) := by
      funext q
      by_cases c : q = i
      · subst c; simp
      · have : Nat.beq q i = false := by
          cases hb : Nat.beq q i with
          | true => exact absurd (Nat.eq_of_beq_eq_true hb) c
          | false => rfl
        simp [c, this]
    rw [← e]; exact h2
theorem DoneQ.congr {m : Nat} {vs vs' : Nat → Value} {a0 a : Act} {da : Nat → Bool} (h : DoneQ ops m vs a0 da a) (he : ∀ j, j < m → da j = true → vs j = vs' j) : DoneQ ops m vs' a0 da a :=
 ⟨h.size, h.defers, fun j d hj hd hs hl => by rw [← he j hj hd]; exact h.has j d hj hd hs hl, h.old⟩
def callB (P : Program) (ops : Array Oper) (c : Nat) : Bool := match ops[c]? with
  | some ⟨some _, .call ⟨.value (.func f), _, _⟩, _, _, _, _⟩ => Zz P f
  | _ => false
theorem Zcd {P : Program} {c : Nat} {a : Act} {w : World} (h : callB P ops c = true) : ∃ o f vs, ops[c]? = some o ∧ (∀ c, o.op ≠ .defer c) ∧ (∀ cs b, o.op ≠ .select cs b) ∧ (execOp a.eval o).run P w = .ok (.enter f vs) w := by
 unfold callB at h
 split at h
 ·
  rename_i d f xs at' ty Zc af g ho
  refine ⟨_, f, xs.map a.eval, ho, by simp, by simp, ?_⟩
  simp [execOp, resolve, Deferred.ofValue, invoke, Act.eval, Kr h]
 · cases h
theorem Zb5 (q : Nat) : Nat.beq q q = true := by simp
theorem any_mem {l : List Nat} {q : Nat} : l.any (Nat.beq q) = true ↔ q ∈ l := by
 rw [List.any_eq_true]
 constructor
 · rintro ⟨x, hx, h⟩; rw [Nat.eq_of_beq_eq_true h]; exact hx
 · intro h; exact ⟨q, h, Zb5 q⟩
theorem Z5z {m : Nat} : ∀ {l pre : List Nat}, setB ops m pre l = true → ∀ p i post, l = p ++ i :: post → i < m ∧ i ∉ pre ∧ i ∉ p ∧ ∃ o d, ops[i]? = some o ∧ o.dst = some d ∧ Yj ops i = some d ∧ (∀ j, j < m → j ≠ i → Yj ops j ≠ some d) ∧
    ∀ t, t ∈ o.looksAt ops → ∀ j, j < m → Yj ops j = some t → (j ∈ pre ∨ j ∈ p) ∧ Vk ops ops.size i j = true
  | [], pre, _, p, i, post, e => by simp at e
  | q :: l, pre, h, p, i, post, e => by
    simp only [setB, Bool.and_eq_true] at h
    obtain ⟨⟨⟨h1, h2⟩, h3⟩, h4⟩ := h
    have hq : q ∉ pre := fun hm => by rw [any_mem.2 hm] at h2; simp at h2
    cases p with
    | nil =>
      simp only [List.nil_append, List.cons.injEq] at e
      obtain ⟨rfl, rfl⟩ := e
      refine ⟨by simpa using h1, hq, by simp, ?_⟩
      cases ho : ops[q]? with
      | none => rw [ho] at h3; simp at h3
      | some o =>
        rw [ho] at h3
        simp only [Bool.and_eq_true] at h3
        cases hd : o.dst with
        | none => rw [hd] at h3; simp at h3
        | some d =>
          rw [hd] at h3
          refine ⟨o, d, rfl, hd, by simp [Yj, ho, hd], fun j hj hji he => ?_, fun t htl j hj hsj => ?_⟩
          · have h5 := List.all_eq_true.1 h3.1 j (List.mem_range.2 hj)
            simp only [Bool.or_eq_true] at h5
            rcases h5 with h5 | h5
            · exact hji (Nat.eq_of_beq_eq_true h5)
            · rw [he] at h5; simp at h5
          · have h5 := List.all_eq_true.1 (List.all_eq_true.1 h3.2 t htl) j (List.mem_range.2 hj)
            simp only [Bool.or_eq_true, Bool.and_eq_true] at h5
            rcases h5 with h5 | h5
            · rw [hsj] at h5; simp at h5
            · exact ⟨.inl (any_mem.1 h5.1), h5.2⟩
    | cons r p =>
      simp only [List.cons_append, List.cons.injEq] at e
      obtain ⟨rfl, rfl⟩ := e
      obtain ⟨a1, a2, a3, o, d, a4, a5, a6, a7, a8⟩ := Z5z h4 p i post rfl
      refine ⟨a1, fun hm => a2 (.tail _ hm), fun hm => ?_, o, d, a4, a5, a6, a7, fun t ht j hj hs => ?_⟩
      · rcases List.mem_cons.1 hm with h | h
        · exact a2 (h ▸ .head _)
        · exact a3 h
      · obtain ⟨b1, b2⟩ := a8 t ht j hj hs
        refine ⟨?_, b2⟩
        rcases b1 with b1 | b1
        · rcases List.mem_cons.1 b1 with rfl | b1
          · exact .inr (.head _)
          · exact .inl b1
        · exact .inr (.tail _ b1)
theorem Z9f : ∀ {l : List Nat}, (∀ p i post, l = p ++ i :: post → i ∉ p) → l.Nodup
 | [], _ => List.nodup_nil
 | i :: l, h => by
  refine List.nodup_cons.2 ⟨fun hm => ?_, Z9f fun p j post e hj => h (i :: p) j post (by rw [e]; rfl) (.tail _ hj)⟩
  obtain ⟨p, post, e⟩ := List.append_of_mem hm
  exact h (i :: p) i post (by rw [e]; rfl) (.head _)
theorem DoneQ.cut {m c : Nat} {vs : Nat → Value} {a0 a : Act} {done : Nat → Bool} (h : DoneQ ops m vs a0 done a) (hc : Yj ops c = none) : DoneQ ops m vs a0 (fun q => if q = c then true else done q) a :=
 ⟨h.size, h.defers, fun j d hj hd hs hl => h.has j d hj (by
  have : j ≠ c := by rintro rfl; rw [hc] at hs; cases hs
  simpa [this] using hd) hs hl, fun t ht => h.old t fun j hj hd => ht j hj (by
  by_cases e : j = c <;> simp [e, hd])⟩
theorem TU.tail {l : List Nat} {H0 : Heap} (hH : H0 = H) (h : TO C ops Q l E H) : TU C ops (fun a => ∀ w, Inv C.w0 C.M w H0 → wpOpsIn (FW C.ρ) 0 C.P ops Q l a w) [] E := fun a hf w hi => h a w hf (hH ▸ hi)
variable {Qn : Act → Prop} {l : List Nat} {i d : Nat} {ty : TypeId} {Zc : String} {af : Array Edge} {g : Option (Nat × Bool)}
theorem Z5o {op : Op} {v : Value} (ho : ops[i]? = some ⟨some d, op, ty, Zc, af, g⟩) (hg : Zk ops E g = true) (hd : Nat.ble (d + 1) C.n = true) (hnd : ∀ c, op ≠ .defer c)
    (hr : ∀ a w, Fits C.n C.D E a → (execOp a.eval ⟨some d, op, ty, Zc, af, g⟩).run C.P w = .ok (.value v) w)
    (k : TU C ops Qn l ((d, v) :: E)) (hns : ∀ cs b, op ≠ .select cs b := by simp) : TU C ops Qn (i :: l) E := by
  intro a hf
  simp only [wpU, ho]
  refine ⟨hnd, hns, ?_⟩
  rw [if_pos (Z1p hf hg)]
  exact ⟨v, fun w => hr a w hf, k _ (hf.put hd v)⟩
theorem TU.move {x : Operand} {v : Value} (ho : ops[i]? = some ⟨some d, .move x, ty, Zc, af, g⟩) (hg : Zk ops E g = true) (hd : Nat.ble (d + 1) C.n = true) (hx : ev E x = some v)
    (kk : TU C ops Qn l ((d, v) :: E)) : TU C ops Qn (i :: l) E := Z5o ho hg hd (by simp) (fun a w hf => by simp [execOp, hf.ev hx]) kk
theorem TU.nilCheck {x : Operand} {p : Addr} (ho : ops[i]? = some ⟨some d, .nilCheck x, ty, Zc, af, g⟩) (hg : Zk ops E g = true) (hd : Nat.ble (d + 1) C.n = true) (hx : ev E x = some (.pointer (some p)))
    (k : TU C ops Qn l ((d, .pointer (some p)) :: E)) : TU C ops Qn (i :: l) E :=
  Z5o ho hg hd (by simp) (fun a w hf => by simp [execOp, hf.ev hx]) k
theorem TU.fieldAddr {s : TypeId} {x : Operand} {f o b p : Nat} (ho : ops[i]? = some ⟨some d, .fieldAddr s x f, ty, Zc, af, g⟩) (hg : Zk ops E g = true) (hd : Nat.ble (d + 1) C.n = true)
    (hx : ev E x = some (.pointer (some ⟨b, p, none⟩))) (hT : Vh C.P s f = some o) (kk : TU C ops Qn l ((d, .pointer (some ⟨b, p + o, none⟩)) :: E)) : TU C ops Qn (i :: l) E :=
  Z5o ho hg hd (by simp) (fun a w hf => by simp [execOp, hf.ev hx, Z5l hT]) kk
theorem TU.fieldAddr0 {s : TypeId} {x : Operand} {f o b : Nat} (ho : ops[i]? = some ⟨some d, .fieldAddr s x f, ty, Zc, af, g⟩) (hg : Zk ops E g = true) (hd : Nat.ble (d + 1) C.n = true)
    (hx : ev E x = some (.pointer (some ⟨b, 0, none⟩))) (hT : Vh C.P s f = some o) (kk : TU C ops Qn l ((d, .pointer (some ⟨b, o, none⟩)) :: E)) : TU C ops Qn (i :: l) E :=
  TU.fieldAddr ho hg hd hx hT (by rw [Nat.zero_add]; exact kk)
variable {Q : Exit → Act → World → Prop}
theorem TO.neS {t t2 : TypeId} {x y : Operand} {us ws : List Int} {va vb : Array Value} (ks : List IntKind) (ht : eqsT C.P t ks = true) (q0_ : ops[i]? = some ⟨some d, .binOp .neq t x y t2, ty, Zc, af, g⟩ ∧ Zk ops E g = true ∧ Nat.ble (d + 1) C.n = true ∧ ev E x = some (.agg va) ∧ ev E y = some (.agg vb) ∧ us.length = ks.length ∧ ws.length = ks.length ∧ ((ks.zip us).map fun p => Value.int p.1 p.2).toArray = va ∧ ((ks.zip ws).map fun p => Value.int p.1 p.2).toArray = vb) (kk : TO C ops Q l ((d, .bool (!decide (us = ws))) :: E) H) : TO C ops Q (i :: l) E H := have ⟨ho, hg, hd, hx, hy, ha, hb, hva, hvb⟩ := q0_;
  TO.val ho hg hd (by simp) (fun a w hf _ => by
    subst hva; subst hvb
    have h3 : C.P.eqGuardType C.P.depth t = false := by simp only [eqsT, Bool.and_eq_true, Bool.not_eq_true'] at ht; exact ht.2
    have := Z7q (eqsT_run ht ha hb w) rfl
    simp only [execOp, hf.ev hx, hf.ev hy]
    simp [run_eqGuard_agg w _ _ _ _ _ _ h3, this]) kk
end
end Go.Acq
namespace Go.Acq
open Go Go.RowKit
section rules
variable {C : Cx} {ops : Array Oper} {Q : Exit → Act → World → Prop} {l : List Nat} {E : Env} {H R : Heap} {i d : Nat} {ty : TypeId} {Zc : String} {af : Array Edge} {g : Option (Nat × Bool)}
end rules
section control
variable {C : Cx} {Q : Exit → Act → World → Prop} {E : Env} {H : Heap}
def AQX (n : Nat) (w0 : World) (M : List Nat) (B : Env → Heap → Prop) : Exit → Act → World → Prop := fun e a w => e = .normal ∧ ∃ E1 H1, Fits n [] E1 a ∧ Inv w0 M w H1 ∧ B E1 H1
theorem X.asgX {ρ : Option Nat} {P : Program} {n : Nat} {w0 : World} {M : List Nat} {B : Env → Heap → Prop} (E1 : Env) (H1 : Heap) (hE : AllF E1 E) (hH : Pick H1 H) (hB : B E1 H1) : X ⟨P, ρ, n, [], w0, M⟩ (AQX n w0 M B) .normal E H :=
 fun _ _ hf hi => ⟨rfl, E1, H1, hf.weak hE.sub, hi.pick hH, hB⟩
end control
end Go.Acq
namespace Go.Acq
open Go Go.RowKit
section
variable {C : Cx} {Q : Exit → Act → World → Prop} {E : Env} {H : Heap} {c x y : Code}
end
end Go.Acq
namespace Go.Acq
open Go Go.RowKit
abbrev Str := List UInt8
def bs (l : Str) : ByteArray := ⟨l.toArray⟩
def Zq (x : Str) : List Value := [.string (bs x)]
def ub (l : Str) : List Int := l.map fun b => (b.toNat : Int)
def bu (l : List Int) : Str := l.map fun n => UInt8.ofNat n.toNat
abbrev slok (n : Nat) : Prop := n ≤ 9223372036854775807
theorem Xk (x : Str) : (bs x).size = x.length := by simp [bs, ByteArray.size]
theorem Us (x : Str) : (bs x).data.toList = x := by simp [bs]
theorem bs_of (s : ByteArray) : bs s.data.toList = s := by cases s; simp [bs]
theorem bs_inj {x y : Str} (h : bs x = bs y) : x = y := by rw [← Us x, h, Us]
theorem bs_app (x y : Str) : bs x ++ bs y = bs (x ++ y) := by
 apply ByteArray.ext
 simp [bs]
theorem bs_get (x : Str) (i : Nat) : (bs x)[i]? = x[i]? := by
 show (if h : i < (bs x).size then some (bs x)[i] else none) = _
 by_cases h : i < x.length
 ·
  rw [dif_pos (by rw [Xk]; exact h), List.getElem?_eq_getElem h]
  simp [bs, ByteArray.getElem_eq_getElem_data]
 · rw [dif_neg (by rw [Xk]; exact h), List.getElem?_eq_none (by omega)]
theorem Z63 (x : Str) (l h : Nat) : (bs x).extract l h = bs ((x.take h).drop l) := by
 apply ByteArray.ext
 apply Array.ext'
 simp [bs, ByteArray.data_extract, List.drop_take]
theorem bu_ub (x : Str) : bu (ub x) = x := by
 unfold bu ub
 rw [List.map_map]
 conv => rhs; rw [← List.map_id x]
 apply List.map_congr_left
 intro b _
 simp
theorem Ko (x : Str) : (ub x).length = x.length := List.length_map ..
def Nu (P : Program) (t : TypeId) : Bool :=
  match P.underlying t with
  | some .string => true
  | _ => false
theorem Z1a {P : Program} {t : TypeId} (h : Nu P t = true) : P.underlying t = some .string := by
 unfold Nu at h
 split at h
 · assumption
 · cases h
theorem Zab (x y : Str) : ((bs x).toList == (bs y).toList) = decide (x = y) := by
 have h : ∀ z : Str, (bs z).toList = z := fun z => by rw [ByteArray.toList_eq, Us]
 rw [h, h]
 by_cases e : x = y
 · subst e; simp
 · rw [decide_eq_false e]; simpa using e
section rules
variable {C : Cx} {ops : Array Oper} {Q : Exit → Act → World → Prop} {l : List Nat} {E : Env} {H R : Heap} {i d : Nat} {ty : TypeId} {Zc : String} {af : Array Edge} {g : Option (Nat × Bool)}
theorem Z3u {t t2 : TypeId} {x y : Operand} {p q : Str} (h : slok (p ++ q).length) (q0_ : ops[i]? = some ⟨some d, .binOp .add t x y t2, ty, Zc, af, g⟩ ∧ Zk ops E g = true ∧ Nat.ble (d + 1) C.n = true ∧ ev E x = some (.string (bs p)) ∧ ev E y = some (.string (bs q))) (kk : TO C ops Q l ((d, .string (bs (p ++ q))) :: E) H) : TO C ops Q (i :: l) E H := have ⟨ho, hg, hd, hx, hy⟩ := q0_;
  TO.val ho hg hd (by simp) (fun a w hf _ => by
    have h1 : ¬ ((((bs p).size + (bs q).size : Nat) : Int) > IntKind.i64.max) := by
      rw [Xk, Xk]; unfold slok at h; rw [List.length_append] at h
      show ¬ ((_ : Int) > 9223372036854775807)
      omega
    simp only [execOp, hf.ev hx, hf.ev hy, eqGuard_at_string, binOp, Op.stringOp, if_neg h1, bs_app]
    simp) kk
theorem Up {t t2 : TypeId} {x y : Operand} {p q : Str} (q0_ : ops[i]? = some ⟨some d, .binOp .eql t x y t2, ty, Zc, af, g⟩ ∧ Zk ops E g = true ∧ Nat.ble (d + 1) C.n = true ∧ ev E x = some (.string (bs p)) ∧ ev E y = some (.string (bs q))) (kk : TO C ops Q l ((d, .bool (decide (p = q))) :: E) H) : TO C ops Q (i :: l) E H := have ⟨ho, hg, hd, hx, hy⟩ := q0_;
  TO.val ho hg hd (by simp) (fun a w hf _ => by
    simp only [execOp, hf.ev hx, hf.ev hy, eqGuard_at_string, binOp, Op.stringOp, Zab]
    simp) kk
theorem Z7b {t : TypeId} {at' : Array TypeId} {x : Operand} {p : Str}
    (q0_ : ops[i]? = some ⟨some d, .call ⟨.builtin .len, #[x], at'⟩, ty, Zc, af, g⟩ ∧ Zk ops E g = true ∧ Nat.ble (d + 1) C.n = true ∧ at'[0]? = some t ∧ ev E x = some (.string (bs p))) (ht : Nu C.P t = true) (kk : TO C ops Q l ((d, .int .i64 (p.length : Int)) :: E) H) : TO C ops Q (i :: l) E H := have ⟨ho, hg, hd, hat, hx⟩ := q0_;
  TO.val ho hg hd (by simp) (fun a w hf _ => by
    simp [execOp, resolve, invoke, builtin, hf.ev hx, Builtin.len_, hat, run_underlying (Z1a ht), goInt, Xk]) kk
theorem TO.ixT {t : TypeId} {x y : Operand} {p : Str} {k : IntKind} {q : Int} (h : inb q p.length) (q0_ : ops[i]? = some ⟨some d, .index t x y, ty, Zc, af, g⟩ ∧ Zk ops E g = true ∧ Nat.ble (d + 1) C.n = true ∧ ev E x = some (.string (bs p)) ∧ ev E y = some (.int k q)) (ht : Nu C.P t = true) (kk : TO C ops Q l ((d, .int .u8 ((p.getD q.toNat 0).toNat : Int)) :: E) H) : TO C ops Q (i :: l) E H := have ⟨ho, hg, hd, hx, hy⟩ := q0_;
  TO.val ho hg hd (by simp) (fun a w hf _ => by
    have h2 := Nj h
    have h3 : p.getD q.toNat 0 = p[q.toNat] := by rw [List.getD_eq_getElem?_getD, List.getElem?_eq_getElem h2]; rfl
    simp [execOp, hf.ev hx, hf.ev hy, Instr.index, asIntOf, run_underlying (Z1a ht), h.1, bs_get, List.getElem?_eq_getElem h2, h3]) kk
theorem TO.slTH {t : TypeId} {x y : Operand} {p : Str} {k : IntKind} {q : Int} (h : 0 ≤ q ∧ q ≤ (p.length : Int)) (q0_ : ops[i]? = some ⟨some d, .slice t x none (some y) none, ty, Zc, af, g⟩ ∧ Zk ops E g = true ∧ Nat.ble (d + 1) C.n = true ∧ ev E x = some (.string (bs p)) ∧ ev E y = some (.int k q)) (ht : Nu C.P t = true) (kk : TO C ops Q l ((d, .string (bs (p.take q.toNat))) :: E) H) : TO C ops Q (i :: l) E H := have ⟨ho, hg, hd, hx, hy⟩ := q0_;
  TO.val ho hg hd (by simp) (fun a w hf _ => by
    have h1 : 0 ≤ q ∧ q ≤ ((bs p).size : Int) := by rw [Xk]; exact h
    simp [execOp, hf.ev hx, hf.ev hy, Instr.sliceAt, Instr.slice, Instr.sliceBounds, Instr.sliceBound, asIntOf, run_underlying (Z1a ht), h1, Z63]) kk
theorem Rh {α : Type} {f : α → List Value} {t : TypeId} {x : Operand} {base : Option Addr} {n c : Nat} {p : Int} {xs : List α} {v : Value} (dflt : α) (hr : RS C.w0 C.M f 1 base n c xs) (hp : inb p xs.length) (q0_ : ops[i]? = some ⟨some d, .load t x, ty, Zc, af, g⟩ ∧ Zk ops E g = true ∧ Nat.ble (d + 1) C.n = true ∧ ev E x = some (.pointer (some (ea base (p.toNat * 1)))) ∧ f (xs.getD p.toNat dflt) = [v]) (hT : Xv C.P t = true)
    (kk : TO C ops Q l ((d, v) :: E) H) : TO C ops Q (i :: l) E H := have ⟨ho, hg, hd, hx, hv⟩ := q0_; TO.ldFR (q := 0) dflt hr hp (by rw [hv]; rfl) ho hg hd hx hT kk
theorem TO.ldXO {α : Type} {f : α → List Value} {t T' : TypeId} {x : Operand} {b : Nat} {p : Int} {xs : List α} {j : List Value} {fr : Nat × Nat} {v : Value} (dflt : α) (hf : ∀ x, (f x).length = 1) (hp : inb p xs.length) (q0_ : ops[i]? = some ⟨some d, .load t x, ty, Zc, af, g⟩ ∧ Zk ops E g = true ∧ Nat.ble (d + 1) C.n = true ∧ ev E x = some (.pointer (some ⟨b, p.toNat, none⟩)) ∧ f (xs.getD p.toNat dflt) = [v]) (hT : Xv C.P t = true) (hm : (some b, Obj.cells (arr f xs j).toArray T' fr) ∈ H)
    (kk : TO C ops Q l ((d, v) :: E) H) : TO C ops Q (i :: l) E H := have ⟨ho, hg, hd, hx, hv⟩ := q0_;
  TO.ldFO (q := 0) dflt hf hp (by rw [hv]; rfl) ho hg hd (by rw [hx]; simp) hT hm kk
theorem Gg {α : Type} {f : α → List Value} {t T' : TypeId} {x : Operand} {ob : Option Nat} {n c : Nat} {p : Int} {xs : List α} {j : List Value} {fr : Nat × Nat} {v : Value} (dflt : α) (hf : ∀ x, (f x).length = 1) (h0 : ob = none → c = 0) (hc : n ≤ c) (hn : xs.length = n) (hp : inb p xs.length) (q0_ : ops[i]? = some ⟨some d, .load t x, ty, Zc, af, g⟩ ∧ Zk ops E g = true ∧ Nat.ble (d + 1) C.n = true ∧ ev E x = some (.pointer (some (ea (sb ob) (p.toNat * 1)))) ∧ f (xs.getD p.toNat dflt) = [v]) (hT : Xv C.P t = true) (hm : (ob, Obj.cells (arr f xs j).toArray T' fr) ∈ H)
    (kk : TO C ops Q l ((d, v) :: E) H) : TO C ops Q (i :: l) E H := have ⟨ho, hg, hd, hx, hv⟩ := q0_;
  TO.load ho hg hd hx hT (fun w hi => by
    have hR := hi.rs hf hm hn hc h0
    have := hR.ro.at dflt (o := p.toNat) (c := 0) (Nj hp) (by omega)
    rw [hv] at this
    simpa using this) kk
theorem Zes (w : World) (n c : Nat) (e : TypeId) : n ≤ grownCap w n c e := by unfold grownCap Question.cut; simp only; omega
theorem TO.toB {s t e : TypeId} {x : Operand} {p : Str} (q0_ : ops[i]? = some ⟨some d, .convert s t x, ty, Zc, af, g⟩ ∧ Zk ops E g = true ∧ Nat.ble (d + 1) C.n = true ∧ ev E x = some (.string (bs p))) (hs : Nu C.P s = true) (ht : Xi C.P t = some e) (he : C.P.underlying e = some (.int .u8))
    (kk : ∀ (b c : Nat) (j : List Value) (fr : Nat × Nat), (ub p).length ≤ c → j.length = (c - (ub p).length) * 1 →
      TO C ops Q l ((d, .slice (some ⟨b, 0, none⟩) (ub p).length c) :: E) ((some b, .cells (arr (intC .u8) (ub p) j).toArray e fr) :: H)) : TO C ops Q (i :: l) E H := have ⟨ho, hg, hd, hx⟩ := q0_;
  Kk ho hg (by simp) fun a w hf hi => by
    have hr := run_bytes_of_string (P := C.P) w s t e (bs p) (Z1a hs) (Kp ht) he
    have h1 : (execOp a.eval ⟨some d, .convert s t x, ty, Zc, af, g⟩).run C.P w = .ok (.value (.slice (some ⟨w.heap.size, 0, none⟩) (bs p).size (grownCap w (bs p).size 0 e)))
        (w.drew.alloc (.cells (bytesRow (bs p) (grownCap w (bs p).size 0 e)) e ((bytesRow (bs p) (grownCap w (bs p).size 0 e)).size, (bytesRow (bs p) (grownCap w (bs p).size 0 e)).size + 1))) := by
      simp only [execOp, hf.ev hx]
      simp [hr]
    rw [h1]
    have hb : bytesRow (bs p) (grownCap w (bs p).size 0 e) = (arr (intC .u8) (ub p) (List.replicate (grownCap w (bs p).size 0 e - (bs p).size) (.int .u8 0))).toArray := by
      apply Array.ext'
      simp only [bytesRow, bs, arr, ub]
      simp [List.flatMap_map, intC, ← List.map_eq_flatMap]
    have hsz : (bs p).size = (ub p).length := by rw [Xk, Ko]
    rw [hb, hsz]
    exact kk _ _ _ _ (Zes w _ _ _) (by simp) _ _ (hf.put hd _) (hi.drew.alloc _)
theorem Z6x : ∀ (l : List Int) (r : ByteArray), l.foldl (fun r n => r.push (UInt8.ofNat n.toNat)) r = r ++ bs (bu l)
 | [], r => by
  apply ByteArray.ext
  simp [bs, bu]
 | n :: l, r => by
  rw [List.foldl_cons, Z6x l]
  apply ByteArray.ext
  simp [bs, bu, ByteArray.push]
theorem TO.toT {s t e : TypeId} {x : Operand} {base : Option Addr} {n c : Nat} {xs : List Int} (q0_ : ops[i]? = some ⟨some d, .convert s t x, ty, Zc, af, g⟩ ∧ Zk ops E g = true ∧ Nat.ble (d + 1) C.n = true ∧ ev E x = some (.slice base n c)) (hs : Xi C.P s = some e) (he : C.P.underlying e = some (.int .u8)) (ht : Nu C.P t = true)
    (hr : ∀ w, Inv C.w0 C.M w H → RS w [] (intC .u8) 1 base n c xs)
    (kk : TO C ops Q l ((d, .string (bs (bu xs))) :: E) H) : TO C ops Q (i :: l) E H := have ⟨ho, hg, hd, hx⟩ := q0_;
  TO.val ho hg hd (by simp) (fun a w hf hi => by
    have hR := (hr w hi).ro
    have h1 := run_convert_bytes_string (P := C.P) w s t e base n c (Kp hs) he (Z1a ht)
    have h2 : (Conv.bytesToString (.slice base n c)).run C.P w = .ok (.string (bs (bu xs))) w := by
      cases base with
      | none =>
        have h3 := hR.nil rfl
        have h4 : xs = [] := List.eq_nil_of_length_eq_zero (by rw [hR.len]; exact h3)
        subst h4
        rfl
      | some ad =>
        have hl := run_loadCells_list (P := C.P) w ad (xs.map (Value.int .u8)) (fun q v hq => by
          have hql : q < xs.length := by have := (List.getElem?_eq_some_iff.1 hq).1; simpa using this
          have := hR.at 0 (o := q) (c := 0) hql (by omega)
          rw [List.getElem?_map, List.getElem?_eq_getElem hql] at hq
          simp only [ea, Option.getD_some, Nat.mul_one, Nat.add_zero] at this
          rw [this, List.getD_eq_getElem?_getD, List.getElem?_eq_getElem hql]
          simpa [intC] using hq)
        rw [List.length_map, hR.len] at hl
        rw [run_bytesToString w ad n c xs hl, Z6x]
        rfl
    simp only [execOp, hf.ev hx]
    simp [h1, h2]) kk
end rules
section quiet
variable {C : Cx} {ops : Array Oper} {Q : Act → Prop} {l : List Nat} {E : Env} {H R : Heap} {i d : Nat} {ty : TypeId} {Zc : String} {af : Array Edge} {g : Option (Nat × Bool)}
theorem Z7k {α : Type} {f : α → List Value} {t T' : TypeId} {x : Operand} {ob : Option Nat} {n c : Nat} {p : Int} {xs : List α} {j : List Value} {fr : Nat × Nat} {v : Value} (dflt : α) (hf : ∀ x, (f x).length = 1) (h0 : ob = none → c = 0) (hc : n ≤ c) (hn : xs.length = n) (hp : inb p xs.length) (q0_ : ops[i]? = some ⟨some d, .load t x, ty, Zc, af, g⟩ ∧ Zk ops E g = true ∧ Nat.ble (d + 1) C.n = true ∧ ev E x = some (.pointer (some (ea (sb ob) (p.toNat * 1)))) ∧ f (xs.getD p.toNat dflt) = [v]) (hT : Xv C.P t = true) (hm : (ob, Obj.cells (arr f xs j).toArray T' fr) ∈ H)
    (kk : TQ C ops Q l ((d, v) :: E) H) : TQ C ops Q (i :: l) E H := have ⟨ho, hg, hd, hx, hv⟩ := q0_;
  TQ.load ho hg hd hx hT (fun w hi => by
    have hR := hi.rs hf hm hn hc h0
    have := hR.ro.at dflt (o := p.toNat) (c := 0) (Nj hp) (by omega)
    rw [hv] at this
    simpa using this) kk
end quiet
end Go.Acq
namespace Go.Acq
open Go Go.RowKit
section rules
variable {C : Cx} {ops : Array Oper} {Q : Exit → Act → World → Prop} {l : List Nat} {E : Env} {H R : Heap} {i d : Nat} {ty : TypeId} {Zc : String} {af : Array Edge} {g : Option (Nat × Bool)}
end rules
section control
variable {C : Cx} {Q : Exit → Act → World → Prop} {E : Env} {H : Heap}
end control
end Go.Acq
namespace Go.Acq
open Go Go.RowKit
section control
variable {C : Cx} {Q : Exit → Act → World → Prop} {E : Env} {H H' : Heap}
theorem T.perm {c : Code} (hp : List.Perm H H') (k : T C c Q E H') : T C c Q E H := fun a w hf hi => k a w hf (hi.perm hp)
theorem X.perm {e : Exit} (hp : List.Perm H H') (k : Acq.X C Q e E H') : Acq.X C Q e E H := fun a w hf hi => k a w hf (hi.perm hp)
theorem RQ.turn {S X : Type} {J : S ⊕ X → Heap → Prop} {HE : Heap} {jmp : X → Code} {r : S ⊕ X} {w0 : World} {M : List Nat} {e : Exit} {a : Act} {w : World}
    (h : RQ (fun r Hq => ∃ Hq', Hq = HE ++ Hq' ∧ J r Hq') jmp r w0 M e a w) : RQ (fun r Hq => ∃ Hq', Hq = Hq' ++ HE ∧ J r Hq') jmp r w0 M e a w := by
  cases e with
  | normal => obtain ⟨s, _, h1, ⟨Hq, rfl, hJ⟩, hi⟩ := h; exact ⟨s, _, h1, ⟨Hq, rfl, hJ⟩, hi.perm List.perm_append_comm⟩
  | ret => obtain ⟨x, _, h1, h2, ⟨Hq, rfl, hJ⟩, hi⟩ := h; exact ⟨x, _, h1, h2, ⟨Hq, rfl, hJ⟩, hi.perm List.perm_append_comm⟩
  | exit id => obtain ⟨x, _, h1, h2, ⟨Hq, rfl, hJ⟩, hi⟩ := h; exact ⟨x, _, h1, h2, ⟨Hq, rfl, hJ⟩, hi.perm List.perm_append_comm⟩
  | goto _ => exact h.elim
  | panic _ => exact h.elim
  | outgrown => exact h.elim
end control
end Go.Acq
namespace Go.Acq
open Go Go.Lib
theorem Z8y (x : Str) (i : Nat) (h : i < x.length) : (bs x).get! i = x[i] := by
 have h2 : i < (bs x).data.size := by simpa [bs] using h
 simp [ByteArray.get!, bs, h]
theorem Z2e (x : Str) (i : Nat) (c : UInt8) (h : x[i]? = some c) (ha : c.toNat < 128) : Utf8.decode (bs x) i = (c.toNat, 1) := by
 obtain ⟨h1, h2⟩ := List.getElem?_eq_some_iff.1 h
 unfold Utf8.decode
 simp only [Nat.add_zero, Z8y x i h1, h2]
 rw [if_pos ha]
theorem Z1j {l : Str} {i : Nat} {c : UInt8} (h : l[i]? = some c) : l.drop i = c :: l.drop (i + 1) := by
 obtain ⟨h1, h2⟩ := List.getElem?_eq_some_iff.1 h
 rw [← h2]; exact List.drop_eq_getElem_cons h1
theorem Z9k {l : Str} {i : Nat} {c : UInt8} (h : l[i]? = some c) : l.take (i + 1) = l.take i ++ [c] := by
 obtain ⟨h1, h2⟩ := List.getElem?_eq_some_iff.1 h
 rw [← h2]; exact List.take_succ_eq_append_getElem h1
theorem Z41 {l : Str} {i : Nat} (h : i < l.length) : ∃ c, l[i]? = some c := ⟨_, List.getElem?_eq_getElem h⟩
def Xm (p : Nat → Bool) : Str → Str → List Str
  | [], cur => if cur = [] then [] else [cur]
  | b :: l, cur => if p b.toNat then (if cur = [] then Xm p l [] else cur :: Xm p l []) else Xm p l (cur ++ [b])
def Ll (l : Str) : Bool := l.all fun b => decide (b.toNat < 128)
theorem Z62 {p : Nat → Bool} {cur : Str} (h : cur ≠ []) : Xm p [] cur = [cur] := by rw [Xm, if_neg h]
theorem Z5m {p : Nat → Bool} {b : UInt8} {l cur : Str} (hq : p b.toNat = true) (h : cur ≠ []) : Xm p (b :: l) cur = cur :: Xm p l [] := by rw [Xm, if_pos hq, if_neg h]
theorem Z9m {p : Nat → Bool} {b : UInt8} {l : Str} (hq : p b.toNat = true) : Xm p (b :: l) [] = Xm p l [] := by rw [Xm, if_pos hq, if_pos rfl]
theorem Z4v {p : Nat → Bool} {b : UInt8} {l cur : Str} (hq : ¬ p b.toNat = true) : Xm p (b :: l) cur = Xm p l (cur ++ [b]) := by rw [Xm, if_neg hq]
def Z0k (p : Nat → Bool) (l : Str) : List Str := if Ll l then Xm p l [] else (goFieldsP p (bs l)).map fun b => b.data.toList
def anyT (p : Nat → Bool) (l : Str) : Bool := if Ll l then l.any (fun b => p b.toNat) else decide (0 ≤ idxFunc p true (bs l))
theorem Z74 {l : Str} (h : Ll l = true) {i : Nat} {c : UInt8} (hi : l[i]? = some c) : c.toNat < 128 := by
 have := List.all_eq_true.1 h c (List.mem_of_getElem? hi)
 simpa using this
theorem Z8k (p : Nat → Bool) (l : Str) (h : Ll l = true) : ∀ (f Zc : Nat), l.length ≤ Zc + f → decide (0 ≤ idxFuncFrom p true (bs l) f Zc) = (l.drop Zc).any (fun b => p b.toNat)
 | 0, Zc, hf => by
  rw [List.drop_eq_nil_of_le (by omega)]; rfl
 | f + 1, Zc, hf => by
  by_cases hp : Zc < l.length
  ·
   obtain ⟨c, hc⟩ := Z41 hp
   rw [idxFuncFrom, if_pos (by rw [Xk]; exact hp), Z2e l Zc c hc (Z74 h hc), Z1j hc, List.any_cons]
   by_cases hq : p c.toNat = true
   · rw [if_pos hq, hq, Bool.true_or]; exact decide_eq_true (by omega)
   ·
    rw [if_neg hq, Bool.eq_false_iff.2 hq, Bool.false_or]
    exact Z8k p l h f (Zc + 1) (by omega)
  · rw [idxFuncFrom_end _ _ _ _ _ (by rw [Xk]; exact hp), List.drop_eq_nil_of_le (by omega)]; rfl
theorem Z6f (p : Nat → Bool) (l : Str) : decide (0 ≤ idxFunc p true (bs l)) = anyT p l := by
 unfold anyT
 by_cases h : Ll l = true
 ·
  rw [if_pos h]
  have := Z8k p l h l.length 0 (by omega)
  unfold idxFunc
  rw [Xk, this, List.drop_zero]
 · rw [if_neg h]
def Wc (l : Str) (st : Option Nat) (Zc : Nat) : Str :=
  match st with
  | some a => (l.take Zc).drop a
  | none => []
def opn (st : Option Nat) (Zc : Nat) : Prop := ∀ a, st = some a → a < Zc
theorem Zbs (p : Nat → Bool) (l : Str) (h : Ll l = true) : ∀ (f Zc : Nat) (st : Option Nat) (acc : List (Nat × Nat)), l.length ≤ Zc + f → Zc ≤ l.length → opn st Zc →
    (closeSpans (bs l) (spansFromP p (bs l) f Zc st acc)).map (fun x => (l.take x.2).drop x.1) = acc.map (fun x => (l.take x.2).drop x.1) ++ Xm p (l.drop Zc) (Wc l st Zc) := by
  have fin : ∀ (f Zc : Nat) (st : Option Nat) (acc : List (Nat × Nat)), Zc = l.length → opn st Zc →
      (closeSpans (bs l) (spansFromP p (bs l) f Zc st acc)).map (fun x => (l.take x.2).drop x.1) = acc.map (fun x => (l.take x.2).drop x.1) ++ Xm p (l.drop Zc) (Wc l st Zc) := by
    intro f Zc st acc hp ho
    subst hp
    rw [spansFromP_end _ _ _ _ _ _ (by rw [Xk]; omega), List.drop_eq_nil_of_le (Nat.le_refl _)]
    cases st with
    | none => simp [closeSpans, Wc, Xm]
    | some a =>
      have h1 : a < l.length := ho a rfl
      have h2 : Wc l (some a) l.length ≠ [] := by
        intro e
        have := congrArg List.length e
        unfold Wc at this
        simp only at this
        rw [List.length_drop, List.length_take] at this
        simp only [List.length_nil] at this
        omega
      rw [Z62 h2]
      simp only [closeSpans, Wc, Xk, List.map_append, List.map_cons, List.map_nil]
  intro f
  induction f with
  | zero => intro Zc st acc hf hp ho; exact fin 0 Zc st acc (by omega) ho
  | succ f ih =>
    intro Zc st acc hf hp ho
    by_cases hlt : Zc < l.length
    · obtain ⟨c, hc⟩ := Z41 hlt
      have hd := Z2e l Zc c hc (Z74 h hc)
      rw [Z1j hc]
      have hsz : Zc < (bs l).size := by rw [Xk]; exact hlt
      by_cases hq : p c.toNat = true
      · cases st with
        | none =>
          have e : spansFromP p (bs l) (f + 1) Zc none acc = spansFromP p (bs l) f (Zc + 1) none acc := by
            simp only [spansFromP, if_pos hsz, hd, if_pos hq]
          rw [e, ih (Zc + 1) none acc (by omega) (by omega) (fun a e => by cases e)]
          rw [show Wc l none Zc = [] from rfl, Z9m hq]; rfl
        | some a =>
          have h1 : a < Zc := ho a rfl
          have h2 : Wc l (some a) Zc ≠ [] := by
            intro e
            have := congrArg List.length e
            unfold Wc at this
            simp only at this
            rw [List.length_drop, List.length_take] at this
            simp only [List.length_nil] at this
            omega
          have e : spansFromP p (bs l) (f + 1) Zc (some a) acc = spansFromP p (bs l) f (Zc + 1) none (acc ++ [(a, Zc)]) := by
            simp only [spansFromP, if_pos hsz, hd, if_pos hq]
          rw [e, ih (Zc + 1) none (acc ++ [(a, Zc)]) (by omega) (by omega) (fun a e => by cases e)]
          rw [Z5m hq h2]
          simp only [Wc, List.map_append, List.map_cons, List.map_nil, List.append_assoc, List.cons_append, List.nil_append]
      · cases st with
        | none =>
          have e : spansFromP p (bs l) (f + 1) Zc none acc = spansFromP p (bs l) f (Zc + 1) (some Zc) acc := by
            simp only [spansFromP, if_pos hsz, hd, if_neg hq]
          rw [e, ih (Zc + 1) (some Zc) acc (by omega) (by omega) (fun a e => by cases e; omega)]
          have : (l.take (Zc + 1)).drop Zc = [c] := by
            rw [Z9k hc, List.drop_append, List.drop_eq_nil_of_le (by rw [List.length_take]; omega), List.length_take, Nat.min_eq_left (Nat.le_of_lt hlt), Nat.sub_self]; rfl
          rw [Z4v hq]
          simp only [Wc, this, List.nil_append]
        | some a =>
          have h1 : a < Zc := ho a rfl
          have e : spansFromP p (bs l) (f + 1) Zc (some a) acc = spansFromP p (bs l) f (Zc + 1) (some a) acc := by
            simp only [spansFromP, if_pos hsz, hd, if_neg hq]
          rw [e, ih (Zc + 1) (some a) acc (by omega) (by omega) (fun b e => by cases e; omega)]
          have : (l.take (Zc + 1)).drop a = (l.take Zc).drop a ++ [c] := by
            rw [Z9k hc, List.drop_append_of_le_length (by rw [List.length_take]; omega)]
          rw [Z4v hq]
          simp only [Wc, this]
    · exact fin (f + 1) Zc st acc (by omega) ho
theorem Z8j (p : Nat → Bool) (l : Str) : goFieldsP p (bs l) = (Z0k p l).map bs := by
 unfold Z0k
 by_cases h : Ll l = true
 ·
  rw [if_pos h]
  have h1 := Zbs p l h l.length 0 none [] (by omega) (by omega) (fun a e => by cases e)
  simp only [List.map_nil, List.nil_append, List.drop_zero] at h1
  have h2 : Wc l none 0 = [] := rfl
  rw [h2] at h1
  rw [← h1]
  unfold goFieldsP spansOfP
  rw [Xk, List.map_map]
  apply List.map_congr_left
  intro x _
  exact Z63 l x.1 x.2
 ·
  rw [if_neg h, List.map_map]
  conv => lhs; rw [← List.map_id (goFieldsP p (bs l))]
  apply List.map_congr_left
  intro b _
  exact (bs_of b).symm
def Wf : Nat → Nat → Str
  | 0, _ => []
  | f + 1, u => if u < 10 then [UInt8.ofNat (48 + u)] else Wf f (u / 10) ++ [UInt8.ofNat (48 + u % 10)]
def Yz (n : Int) : Str := if n < 0 then 45 :: Wf 20 n.natAbs else Wf 20 n.toNat
theorem Z4p : ∀ (f u : Nat), u < 10 ^ (f + 1) → decDigits u = Wf (f + 1) u
 | 0, u, h => by
  have h2 : u < 10 := by simpa using h
  rw [decDigits, Wf, dif_pos h2, if_pos h2]
 | f + 1, u, h => by
  rw [decDigits, Wf]
  by_cases hu : u < 10
  · rw [dif_pos hu, if_pos hu]
  · rw [dif_neg hu, if_neg hu, Z4p f (u / 10) (by rw [Nat.pow_succ] at h; omega)]
theorem Z7n {n : Int} (h : i64ok n) : itoa n = Yz n := by
 obtain ⟨h1, h2⟩ := h
 have e : (10 : Nat) ^ (19 + 1) = 100000000000000000000 := by decide
 unfold itoa Yz
 rw [Z4p 19 n.natAbs (by rw [e]; omega), Z4p 19 n.toNat (by rw [e]; omega)]
end Go.Acq
namespace Go.Acq
open Go Go.RowKit Go.Proofs Go.Shelf
structure GK (P : Program) (w : World) (M : List Nat) : Prop where
  pow : Lib.TabIs P w "internal/strconv.uint64pow10" .u64 Lib.pow10Tab
  syn : ∃ tp p, w.var? P "strconv.ErrSyntax" = some #[.iface tp p]
  ran : ∃ tp p, w.var? P "strconv.ErrRange" = some #[.iface tp p]
  mxl : ∃ m, w.var? P "internal/bytealg.MaxLen" = some #[.int .i64 m]
  low : ∀ n, n ∈ ["internal/strconv.uint64pow10", "strconv.ErrSyntax", "strconv.ErrRange", "internal/bytealg.MaxLen"] → ∀ g, P.globalNamed n = some g → g ∉ M
section
variable {P : Program} {w0 w : World} {M M' : List Nat} {H Hm R : Heap}
theorem Z2y {n : String} {cs : Array Value} (h : w0.var? P n = some cs) (hl : ∀ g, P.globalNamed n = some g → g ∉ M) (hi : Inv w0 M w H) : w.var? P n = some cs := by
 unfold World.var? at h ⊢
 cases hg : P.globalNamed n with
 | none => simp [hg] at h
 | some g =>
  simp only [hg, Option.bind_some] at h ⊢
  have hlt : g < w0.heap.size := by
   rcases Nat.lt_or_ge g w0.heap.size with h' | h'
   · exact h'
   · simp [Array.getElem?_eq_none h'] at h
  rw [hi.keep g hlt (hl g hg)]
  exact h
theorem Z2j {n : String} {cs : Array Value} (h : w0.var? P n = some cs) {g : Nat} (hg : P.globalNamed n = some g) : g < w0.heap.size := by
 unfold World.var? at h
 simp only [hg, Option.bind_some] at h
 rcases Nat.lt_or_ge g w0.heap.size with h' | h'
 · exact h'
 · simp [Array.getElem?_eq_none h'] at h
theorem GK.lt (h : GK P w0 M) {n : String} (hn : n ∈ ["internal/strconv.uint64pow10", "strconv.ErrSyntax", "strconv.ErrRange", "internal/bytealg.MaxLen"]) {g : Nat} (hg : P.globalNamed n = some g) : g < w0.heap.size := by
 simp only [List.mem_cons, List.mem_nil_iff, or_false] at hn
 rcases hn with rfl | rfl | rfl | rfl
 · exact Z2j h.pow hg
 · obtain ⟨_, _, e⟩ := h.syn; exact Z2j e hg
 · obtain ⟨_, _, e⟩ := h.ran; exact Z2j e hg
 · obtain ⟨_, e⟩ := h.mxl; exact Z2j e hg
theorem GK.with (h : GK P w0 M) (hi : Inv w0 M w H) (hl : ∀ n, n ∈ ["internal/strconv.uint64pow10", "strconv.ErrSyntax", "strconv.ErrRange", "internal/bytealg.MaxLen"] → ∀ g, P.globalNamed n = some g → g ∉ M') : GK P w M' :=
 ⟨Z2y h.pow (h.low _ (by simp)) hi, by obtain ⟨a, b, e⟩ := h.syn; exact ⟨a, b, Z2y e (h.low _ (by simp)) hi⟩, by obtain ⟨a, b, e⟩ := h.ran; exact ⟨a, b, Z2y e (h.low _ (by simp)) hi⟩,
  by obtain ⟨a, e⟩ := h.mxl; exact ⟨a, Z2y e (h.low _ (by simp)) hi⟩, hl⟩
theorem GK.mono (h : GK P w0 M) (hi : Inv w0 M w H) : GK P w [] := h.with hi (fun _ _ _ _ => by simp)
theorem GK.monoM (h : GK P w0 M) (hi : Inv w0 M w H) (hp : List.Perm H (Hm ++ R)) (hM : Hm.filterMap (·.1) = M') : GK P w M' := h.with hi (fun n hn g hg hm => by
 subst hM
 obtain ⟨o, ho⟩ := Gl hm
 rcases hi.low g o ((List.Perm.mem_iff hp).2 (List.mem_append_left _ ho)) with hl | hl
 · have := h.lt hn hg; omega
 · exact h.low n hn g hg hl)
theorem Nx {w w' : World} (hb : Below w.heap.size w w') : Inv w [] w' [] := ⟨hb.os, hb.tape, hb.output, hb.size, fun b h _ => hb.block b h, by simp, by simp, by simp⟩
theorem Zc7 {w w' : World} (hb : Below w.heap.size w w') {A : Nat} {o : Obj} (h : w'.heap[A]? = some o) (hl : w.heap.size ≤ A) : Inv w [] w' [(some A, o)] :=
 ⟨hb.os, hb.tape, hb.output, hb.size, fun b h _ => hb.block b h, fun b o' hm => by simp at hm; obtain ⟨rfl, rfl⟩ := hm; exact h, fun b o' hm => by simp at hm; obtain ⟨rfl, rfl⟩ := hm; exact .inl hl, by simp⟩
end
section fns
variable {P : Program} {ρ : Ren}
def PredF (P : Program) (g : Nat) (p : Nat → Bool) : Prop := ∀ (w : World) (x : Nat), x ≤ 1114111 → Fnc P g #[.int .i32 (x : Int)] w [] (fun v N => v = .bool (p x) ∧ N = [])
theorem PredF.grows {g : Nat} {p : Nat → Bool} (h : PredF P g p) (w : World) : PredGrows P g #[] p w := fun W x hx _ => by
 have := h W x hx
 simp only [Array.append_empty]
 refine Calls.mono this ?_
 rintro e w' ⟨v, N, ⟨rfl, rfl⟩, rfl, hi⟩
 exact ⟨rfl, hi.below⟩
theorem Zbg (L : Lays.n229 P ρ) (g : Nat) (hF : Zz P g = true) (p : Nat → Bool) (hp : PredF P g p)
    (hi154 : (P.info? (ρ.t 154)).map (fun i => (i.zero, i.size, i.bytes)) = some (some (.agg #[.int .i64 0, .int .i64 0]), 2, 16))
    (hi9 : (P.info? (ρ.t 9)).map (fun i => (i.zero, i.size, i.bytes)) = some (some (.string ⟨#[]⟩), 1, 16)) (s : Str) (hs : s.length ≤ 4294967296) (w : World) {r : List Str} (hr : Z0k p s = r) :
    Fnc P (ρ.f 229) #[.string (bs s), .func (.func g) #[] #[]] w [] (fun v N => ∃ (ob : Option Nat) (n c : Nat) (j : List Value), v = .slice (sb ob) n c ∧ N = [(ob, .cells (arr Zq r j).toArray (ρ.t 9) (0, 0))] ∧ r.length = n ∧ n ≤ c ∧ j.length = (c - n) * 1 ∧ (ob = none → c = 0)) := by
  have h := Any.strings_FieldsFunc_grows L g #[] (fun args w => Kr hF args w) p (bs s) w (by rw [Xk]; exact hs) (hp.grows w) hi154 hi9
  refine Calls.mono h ?_
  rintro e w' ⟨A, rfl, hA, ⟨hl, hO⟩, hb⟩
  rw [Z8j, hr] at hl hO ⊢
  simp only [List.length_map] at hl hO ⊢
  rcases hO with ⟨hv, _⟩ | ⟨q, cap, cur, hv, _, hc, _, _, hsz, htk⟩
  · exact absurd hv (by simp)
  · simp only [Value.slice.injEq, Option.some.injEq, Addr.mk.injEq] at hv
    obtain ⟨⟨rfl, _⟩, _, rfl⟩ := hv
    have hcur : cur = (arr Zq r []).toArray := by
      apply Array.ext'
      rw [List.take_of_length_le (by rw [Array.length_toList, hsz]; exact Nat.le_refl _)] at htk
      rw [htk]
      simp only [arr, List.append_nil, List.map_map]
      rw [List.map_eq_flatMap]; rfl
    refine ⟨_, _, ⟨some A, r.length, r.length, [], rfl, rfl, rfl, Nat.le_refl _, by simp, fun e => by cases e⟩, rfl, ?_⟩
    rw [← hcur]
    exact Zc7 hb hc hA
theorem Fnc.anyf (L : LaysGw.n17 P ρ) (g : Nat) (hF : Zz P g = true) (p : Nat → Bool) (hp : PredF P g p) (s : Str) (w : World) :
    Fnc P (ρ.f 17) #[.string (bs s), .func (.func g) #[] #[]] w [] (fun v N => v = .bool (anyT p s) ∧ N = []) := by
  have h := Any.strings_ContainsFunc_grows L g #[] (fun args w => Kr hF args w) p (bs s) w (hp.grows w)
  refine Calls.mono h ?_
  rintro e w' ⟨rfl, hb⟩
  rw [Z6f]
  exact ⟨_, _, ⟨rfl, rfl⟩, rfl, Nx hb⟩
def IfV (ev : Value) (b : Bool) : Prop := (b = true ∧ ev = .nilIface) ∨ (b = false ∧ ∃ t v, ev = .iface t v)
def Z1y (s : Str) : Int × Bool :=
  match Lib.parseIntB 64 s with
  | .ok v => (v, true)
  | .range => (Lib.intSat 64 s, false)
  | _ => (0, false)
theorem Zay (L : LaysC.n174 P ρ) (s : Str) (hs : s.length ≤ 281474976710656) (w : World) {M : List Nat} (hG : GK P w M) {n : Int} {b : Bool} (hr : Z1y s = (n, b)) :
    Fnc P (ρ.f 174) #[.string (bs s), .int .i64 10, .int .i64 64] w [] (fun v N => ∃ ev : Value, v = .tuple #[.int .i64 n, ev] ∧ N = [] ∧ IfV ev b) := by
  have hd := Us s
  have hz : (bs s).size ≤ 281474976710656 := by rw [Xk]; exact hs
  unfold Z1y at hr
  cases h : Lib.parseIntB 64 s
  · rename_i v
    rw [h] at hr
    cases hr
    refine Calls.mono (Any.strconv_ParseInt_10_at64_ok L (bs s) (by omega) _ (by rw [hd]; exact h) w) ?_
    rintro e w' ⟨rfl, hw⟩
    refine ⟨_, _, ⟨_, rfl, rfl, .inl ⟨rfl, rfl⟩⟩, rfl, ?_⟩
    rcases hw with rfl | ⟨t, rfl⟩
    · exact Inv.refl w'
    · refine Nx ⟨rfl, rfl, rfl, by rw [Lib.bytesWorld_size]; omega, fun k hk => Lib.bytesWorld_at_old _ _ _ _ hk⟩
  · rw [h] at hr
    cases hr
    obtain ⟨tp, p, hv⟩ := hG.syn
    refine Calls.mono (Any.strconv_ParseInt_10_at64_syntax_var L (bs s) hz (by rw [hd]; exact h) tp p w hv) ?_
    rintro e w' ⟨A, rfl, hA, hc, hb⟩
    exact ⟨_, _, ⟨_, rfl, rfl, .inr ⟨rfl, _, _, rfl⟩⟩, rfl, Nx hb⟩
  · rw [h] at hr
    cases hr
    obtain ⟨tp, p, hv⟩ := hG.ran
    refine Calls.mono (Any.strconv_ParseInt_10_at64_range_var L (bs s) hz (by rw [hd]; exact h) tp p w hv) ?_
    rintro e w' ⟨A, rfl, hA, hc, hb⟩
    rw [hd]
    exact ⟨_, _, ⟨_, rfl, rfl, .inr ⟨rfl, _, _, rfl⟩⟩, rfl, Nx hb⟩
theorem Z77 (w : World) (k : Nat) (os : Array Obj) : Below w.heap.size w (Sort.grow (w.drewN k) os) := ⟨rfl, rfl, rfl, by show w.heap.size ≤ (w.heap ++ os).size; rw [Array.size_append]; omega, fun j hj => by
 show (w.heap ++ os)[j]? = _
 rw [Array.getElem?_append_left hj]⟩
theorem Zf7 (L : LaysM.n173 P ρ) (n : Int) (hn : i64ok n) (w : World) {M : List Nat} (hG : GK P w M) : Fnc P (ρ.f 173) #[.int .i64 n, .int .i64 10] w [] (fun v N => v = .string (bs (Yz n)) ∧ N = []) := by
 refine Calls.mono (Any.strconv_FormatInt_10 L n hn.1 hn.2 w hG.pow) ?_
 rintro e w' ⟨rfl, k, os, rfl⟩
 rw [Z7n hn]
 exact ⟨_, _, ⟨rfl, rfl⟩, rfl, Nx (Z77 w k os)⟩
theorem Fnc.itoa (L : LaysM.n171 P ρ) (n : Int) (hn : i64ok n) (w : World) {M : List Nat} (hG : GK P w M) : Fnc P (ρ.f 171) #[.int .i64 n] w [] (fun v N => v = .string (bs (Yz n)) ∧ N = []) := by
 refine Calls.mono (Any.strconv_Itoa L n hn.1 hn.2 w hG.pow) ?_
 rintro e w' ⟨rfl, k, os, rfl⟩
 rw [Z7n hn]
 exact ⟨_, _, ⟨rfl, rfl⟩, rfl, Nx (Z77 w k os)⟩
def idxB : List Int → Int → Int
  | [], _ => -1
  | x :: l, c => if x = c then 0 else if idxB l c = -1 then -1 else idxB l c + 1
end fns
end Go.Acq
namespace Go.Acq
open Go
variable {H : Type} {enc : TypeId × Value → H}
theorem handed_of_change {a : Assume} {C : Checked} {os : Os} {f : FuncId} {fn : Func} {s : ChangeSpec} {conds : List PathCond} {apart fresh handsOn again : Bool} {X : World → Array Value → Prop}
    (hX : ∀ (w w' : World) (args : Array Value), w.heap = w'.heap → X w args → X w' args)
    (own : ownKnob C.prog.godebug = none) (started : os.Started) (noInit : C.prog.inits.idxOf? f = none) (hfn : C.prog.funcs[f]? = some fn)
    (witness : ∃ (w : World) (tape : Tape) (i : Input), w.os = os ∧ (w.forCall tape i).Shaped C.prog ∧ i.vars = [] ∧ Input.okWide C.prog (w.forCall tape i) .any w.heap.size f i ∧
      ((s.pre enc C.prog fn conds apart (w.forCall tape i).memory i.args ∧ X (w.forCall tape i).memory i.args) ∧ sizedMet enc C.prog fn (OpenSpec.ofChange s) apart (w.forCall tape i).memory i.args) ∧ a.holds C.prog (lone (Frame.enter C.prog f i.args .normal) [] (w.forCall tape i)))
    (contract : ∀ (W : World) (base : Nat) (args : Array Value) (ds gs : List (DataW H)) (before : List MemPlace),
      (∀ (j : Nat) t v, fn.params[j]? = some t → args[j]? = some v → Value.okWide C.prog W .any base t v) →
      DataW.Whole enc C.prog fn.params.toList s.vars apart W args.toList ds gs before → X W args → W.ShapedOpen C.prog →
      Calls C.prog f args W fun e W' => ∃ v, e = .returned v ∧ s.post enc C.prog fn apart fresh handsOn again W args v W') :
    ReturnsInHanded a C os f .any (fun w args => (s.pre enc C.prog fn conds apart w args ∧ X w args) ∧ sizedMet enc C.prog fn (OpenSpec.ofChange s) apart w args) (s.post enc C.prog fn apart fresh handsOn again) := by
  refine returnsInHanded_of_calls own started noInit witness ?_
  intro w tape i _ hsh _ hok hpre hholds
  obtain ⟨_, _, _, fn', hfn', _, _, _, _, hval⟩ := hok
  have e : fn' = fn := Option.some.inj (hfn'.symm.trans hfn)
  subst e
  obtain ⟨⟨⟨ds, gs, before, hw, hc⟩, hx⟩, hz⟩ := hpre
  have hw' := DataW.Whole.of_heap (w' := w.forCall tape i) (by rfl) hw
  refine (contract (w.forCall tape i) w.heap.size i.args ds gs before hval hw' (hX _ _ _ (by rfl) hx) hsh).mono fun e W' ⟨v, he, hp⟩ => ?_
  subst he
  exact ChangeSpec.post_blind hp
theorem int_of_shaped {P : Program} {w : World} {n : String} {g : Nat} {t : TypeId} {zero : Array Value} {k : IntKind} (h : w.ShapedOpen P) (hn : P.globalNamed n = some g) (hg : g < P.globals.size)
    (h0 : ((begin P (fun _ _ => 0) default).world.heap[g]?).bind Obj.row? = some (zero, t)) (hz : zero.size = 1) (hb : P.buildable t = true) (hc : P.cellTypes P.depth t = some [t]) (hu : P.underlying t = some (.int k)) :
    ∃ m, w.var? P n = some #[.int k m] := by
  obtain ⟨m, hm⟩ := Go.Proofs.cell_of_shapedOpen_int h hg h0 hz hb hc hu
  obtain ⟨cs, hh, hs, -⟩ := h.1 g zero t hg h0
  refine ⟨m, ?_⟩
  have h1 : cs.size = 1 := hs.trans hz
  unfold World.cell? at hm
  rw [hh] at hm
  unfold World.var?
  rw [hn]
  simp only [Option.bind_some, hh]
  have h2 : cs[0]? = some (.int k m) := by simpa using hm
  obtain ⟨l⟩ := cs
  match l, h1, h2 with
  | [x], _, h2 =>
    have : x = .int k m := by simpa using h2
    rw [this]
  | [], h1, _ => simp at h1
  | _ :: _ :: _, h1, _ => simp at h1
end Go.Acq
namespace Go.Acq
open Go Go.RowKit Go.Proofs Go.Shelf
def idxT (xs : List Int) (c : Int) : Int := Lib.indexByte (bu xs) (UInt8.ofNat c.toNat)
section rules
variable {C : Cx} {ops : Array Oper} {Q : Exit → Act → World → Prop} {l : List Nat} {E : Env} {H R : Heap} {i d : Nat} {ty : TypeId} {Zc : String} {af : Array Edge} {g : Option (Nat × Bool)}
theorem TO.idxB {f : FuncId} {x y : Operand} {at' : Array TypeId} {base : Option Addr} {n c : Nat} {xs : List Int} {cv : Int} (hF : ExtF C.P f Extern.BytealgIndexByte.indexByte)
    (q0_ : ops[i]? = some ⟨some d, .call ⟨.value (.func f), #[x, y], at'⟩, ty, Zc, af, g⟩ ∧ Zk ops E g = true ∧ Nat.ble (d + 1) C.n = true ∧ ev E x = some (.slice base n c) ∧ ev E y = some (.int .u8 cv)) (hr : ∀ w, Inv C.w0 C.M w H → RS w [] (intC .u8) 1 base n c xs)
    (kk : TO C ops Q l ((d, .int .i64 (idxT xs cv)) :: E) H) : TO C ops Q (i :: l) E H := have ⟨ho, hg, hd, hx, hy⟩ := q0_;
  TO.val ho hg hd (by simp) (fun a w hf hi => by
    obtain ⟨fn, h1, h2, h3, h4, h5⟩ := hF
    have hR := (hr w hi).ro
    have hcall : (Extern.BytealgIndexByte.indexByte #[.slice base n c, .int .u8 cv]).run C.P w = .ok (.int .i64 (idxT xs cv)) w := by
      cases base with
      | none =>
        have h6 := hR.nil rfl
        have h7 : xs = [] := List.eq_nil_of_length_eq_zero (by rw [hR.len]; exact h6)
        subst h7
        rw [Lib.run_indexByteNil w n c cv]; rfl
      | some ad =>
        rw [Lib.run_indexByteAt w ad n c xs hR.len (fun q hq => by
          have := hR.at 0 (o := q) (c := 0) (by rw [hR.len]; exact hq) (by omega)
          simpa [ea, intC] using this) cv]; rfl
    have e : a.eval (.func f) = .func (.func f) #[] #[] := rfl
    simp [execOp, resolve, Deferred.ofValue, invoke, hf.ev hx, hf.ev hy, e, run_callFunc_extern h1 h2 h3 h4 h5, hcall, Result.andThen]) kk
theorem Z92 {α : Type} {xs : List α} {t e : TypeId} {x y z : Operand} {base : Option Addr} {n c s : Nat} {k k' : IntKind} {p : Int} (hn : xs.length = n) (hc : n ≤ c) (hp : 0 ≤ p ∧ p ≤ (xs.length : Int))
    (q0_ : ops[i]? = some ⟨some d, .slice t x none (some y) (some z), ty, Zc, af, g⟩ ∧ Zk ops E g = true ∧ Nat.ble (d + 1) C.n = true ∧ ev E x = some (.slice base n c) ∧ ev E y = some (.int k p) ∧ ev E z = some (.int k' p)) (ht : Xi C.P t = some e) (hs : Yq C.P e = some s)
    (kk : TO C ops Q l ((d, .slice base p.toNat p.toNat) :: E) H) : TO C ops Q (i :: l) E H := have ⟨ho, hg, hd, hx, hy, hz⟩ := q0_;
  TO.val ho hg hd (by simp) (fun a w hf hi => by
    have hu := Kp ht
    have hb : ∀ b : Option Addr, Option.map (fun x => x.add 0) b = b := fun b => by cases b <;> simp [Addr.add]
    have h0 := hp.1
    have h1 : p ≤ (c : Int) := by have := hp.2; omega
    have h2 : p ≤ (p.toNat : Int) := by omega
    simp [execOp, hf.ev hx, hf.ev hy, hf.ev hz, Instr.sliceAt, Instr.slice, Instr.sliceBounds, Instr.sliceBound, asIntOf, run_underlying hu, h0, h1, Gx hs, hb]
    intro hh; omega) kk
theorem Z83 {α : Type} {w : World} {M : List Nat} {f : α → List Value} {s n c : Nat} {base : Option Addr} {xs : List α} (h : RS w M f s base n c xs) {p : Int} (hp : 0 ≤ p ∧ p ≤ (xs.length : Int)) : RS w M f s base p.toNat p.toNat (xs.take p.toNat) := by
 have h1 := h.take hp
 exact ⟨h1.ro, h1.far, Nat.le_refl _⟩
def Rc (P : Program) (t : TypeId) : Bool :=
  match P.underlying t with
  | some (.interface _) => true
  | _ => false
theorem Zeu {P : Program} {t : TypeId} (h : Rc P t = true) : ∃ ms, P.underlying t = some (.interface ms) := by
 unfold Rc at h
 split at h
 · rename_i ms hu; exact ⟨ms, hu⟩
 · cases h
theorem Z6g {P : Program} (w : World) (n : Nat) {t : TypeId} {ev' : Value} {b : Bool} (hI : IfV ev' b) (ht : Rc P t = true) : (Op.equalIn (n + 1) t ev' .nilIface).run P w = .ok b w := by
 obtain ⟨ms, hu⟩ := Zeu ht
 rcases hI with ⟨rfl, rfl⟩ | ⟨rfl, tt, vv, rfl⟩
 · simp [Op.equalIn, run_underlying hu]
 · simp [Op.equalIn, run_underlying hu]
theorem Z8v {op : BinOp} {t : TypeId} {x : Operand} {ev' : Value} {b : Bool} (hI : IfV ev' b) : eqGuard op t x (.const .nilIface) ev' .nilIface = pure () := by
 rcases hI with ⟨rfl, rfl⟩ | ⟨rfl, tt, vv, rfl⟩
 · cases op <;> first | rfl | (cases x <;> rfl)
 · cases op <;> rfl
theorem Z9o {t t2 : TypeId} {x : Operand} {ev' : Value} {b : Bool} (hI : IfV ev' b) (q0_ : ops[i]? = some ⟨some d, .binOp .eql t x (.const .nilIface) t2, ty, Zc, af, g⟩ ∧ Zk ops E g = true ∧ Nat.ble (d + 1) C.n = true ∧ ev E x = some ev') (ht : Rc C.P t = true) (kk : TO C ops Q l ((d, .bool b) :: E) H) : TO C ops Q (i :: l) E H := have ⟨ho, hg, hd, hx⟩ := q0_;
  TO.val ho hg hd (by simp) (fun a w hf _ => by
    have hb : binOp .eql t ev' .nilIface = (do pure (.bool (← Op.equal t ev' .nilIface))) := by
      rcases hI with ⟨rfl, rfl⟩ | ⟨rfl, tt, vv, rfl⟩ <;> rfl
    have := Zc9 (Z86 fun q => Z6g (P := C.P) w q hI ht) hb
    have ey : a.eval (.const .nilIface) = .nilIface := rfl
    simp only [execOp, hf.ev hx, ey, Z8v hI]
    simp [this]) kk
theorem Zev {t t2 : TypeId} {x : Operand} {ev' : Value} {b : Bool} (hI : IfV ev' b) (q0_ : ops[i]? = some ⟨some d, .binOp .neq t x (.const .nilIface) t2, ty, Zc, af, g⟩ ∧ Zk ops E g = true ∧ Nat.ble (d + 1) C.n = true ∧ ev E x = some ev') (ht : Rc C.P t = true) (kk : TO C ops Q l ((d, .bool (!b)) :: E) H) : TO C ops Q (i :: l) E H := have ⟨ho, hg, hd, hx⟩ := q0_;
  TO.val ho hg hd (by simp) (fun a w hf _ => by
    have hb : binOp .neq t ev' .nilIface = (do pure (.bool (!(← Op.equal t ev' .nilIface)))) := by
      rcases hI with ⟨rfl, rfl⟩ | ⟨rfl, tt, vv, rfl⟩ <;> rfl
    have := Z7q (Z86 fun q => Z6g (P := C.P) w q hI ht) hb
    have ey : a.eval (.const .nilIface) = .nilIface := rfl
    simp only [execOp, hf.ev hx, ey, Z8v hI]
    simp [this]) kk
end rules
def BufO (ob : Option Nat) (b c : Nat) : Prop := c ≤ 9223372036854775807 ∧ ∀ q, ob = some q → b ≤ q
end Go.Acq
namespace Go.Acq
open Go Go.RowKit Go.Proofs Go.Shelf
def Z1v (e : TypeId) (R : Heap) : Bool := R.all fun p => match p.1, p.2 with
  | none, _ => true
  | some _, .cells _ T' _ => T' != e
  | some _, _ => true
theorem Z4g {e : TypeId} {R : Heap} (h : Z1v e R = true) {k : Nat} {o : Obj} (hm : (some k, o) ∈ R) : ∀ c fz, o ≠ .cells c e fz := by
 intro c fz ho
 have := List.all_eq_true.1 h _ hm
 subst ho
 simp at this
theorem BufO.nil (b : Nat) : BufO none b 0 := ⟨by omega, fun q e => by cases e⟩
section rules
variable {C : Cx} {ops : Array Oper} {Q : Exit → Act → World → Prop} {l : List Nat} {E : Env} {H R : Heap} {i d : Nat} {ty : TypeId} {Zc : String} {af : Array Edge} {g : Option (Nat × Bool)}
theorem Z51 {f : FuncId} {xs : Array Operand} {at' : Array TypeId} {vs : List Value} {Post : Value → Heap → Prop} (hF : Zz C.P f = true)
    (ho : ops[i]? = some ⟨some d, .call ⟨.value (.func f), xs, at'⟩, ty, Zc, af, g⟩) (hg : Zk ops E g = true) (hd : Nat.ble (d + 1) C.n = true) (hx : Wx E xs.toList = some vs)
    (hc : ∀ w, Inv C.w0 C.M w H → Calls C.P f vs.toArray w (fun e w' => ∃ v H', Post v H' ∧ e = .returned v ∧ Inv C.w0 C.M w' H'))
    (kk : ∀ v H', Post v H' → TO C ops Q l ((d, v) :: E) H') : TO C ops Q (i :: l) E H :=
  Kk ho hg (by simp) fun a w hf hi => by
    have e1 : xs.map a.eval = vs.toArray := by apply Array.ext'; simpa using Jh hf hx
    have hrun : (execOp a.eval ⟨some d, .call ⟨.value (.func f), xs, at'⟩, ty, Zc, af, g⟩).run C.P w = .ok (.enter f vs.toArray) w := by
      simp [execOp, resolve, Deferred.ofValue, invoke, Act.eval, e1, Kr hF]
    rw [hrun]
    refine ⟨by simp [FW], ?_⟩
    refine callsIn_FW.2 (Calls.mono (hc w hi) ?_)
    rintro e w' ⟨v, H', hP, rfl, hN⟩
    exact kk v H' hP _ _ (hf.put hd v) hN
variable {ρ : Ren} {b n c : Nat} {lr : Int} {ob : Option Nat} {xs : List Int} {j : List Value}
theorem Z6d (T e : TypeId) {w0 w : World} {M : List Nat} {R1 : Heap} (hi : Inv w0 M w H)
    (hb : Take (some b, .cells #[.slice (sb ob) n c, .int .i64 0, .int .i8 lr] T (0, 0)) H R1) (hr : Take (ob, .cells (arr (intC .u8) xs j).toArray e (0, 0)) R1 R)
    (hn : xs.length = n) (hc : n ≤ c) (hj : j.length = (c - n) * 1) (hz : ob = none → c = 0) (hB : BufO ob b c) : Lib.IsBuffer T e b b (xs.map (Value.int .u8)) w := by
  have h1 := hi.perm (hb.trans (List.Perm.cons _ hr))
  have hbk := h1.own b _ (.head _)
  have hl : (xs.map (Value.int .u8)).length = n := by rw [List.length_map]; exact hn
  refine ⟨Nat.le_refl _, .slice (sb ob) n c, lr, hbk, ⟨by rw [Nat.mul_one], ?_⟩, ?_⟩
  · cases ob with
    | none =>
      have h0 := hz rfl
      have hn0 : n = 0 := by omega
      subst hn0; subst h0
      exact .inl ⟨rfl, hl⟩
    | some q =>
      have hq := h1.own q _ (.tail _ (.head _))
      refine .inr ⟨q, c, _, by rw [hl]; rfl, hB.2 q rfl, hq, by rw [hl]; exact hc, ?_, ?_, ?_⟩
      · have := hB.1; unfold maxLen; omega
      · simp only [List.size_toArray, arr, List.length_append, Ge (s := 1) (f := intC .u8) (fun _ => rfl)]; omega
      · rw [hl]
        have e1 : xs.flatMap (intC .u8) = xs.map (Value.int .u8) := by rw [List.map_eq_flatMap]
        simp only [arr, e1, Nat.mul_one]
        rw [List.take_left' hl]
  · cases ob with
    | none => simp [sb, Value.ownBlock]
    | some q =>
      simp only [sb, Option.map_some, Value.ownBlock, ne_eq, Option.some.injEq]
      have ha := h1.apart
      simp only [List.filterMap_cons, List.nodup_cons, List.mem_cons, not_or] at ha
      exact fun e => ha.1.1 e.symm
theorem buf_back {T e : TypeId} {w0 w w' : World} {R1 : Heap} {ys : List Int} (hi : Inv w0 [] w H)
    (hb : Take (some b, .cells #[.slice (sb ob) n c, .int .i64 0, .int .i8 lr] T (0, 0)) H R1) (hr : Take (ob, .cells (arr (intC .u8) xs j).toArray e (0, 0)) R1 R) (hR : Z1v e R = true)
    (h : Lib.IsBuffer T e b b (ys.map (Value.int .u8)) w') (hBe : Below b w w') (hO : Lib.OthersKept e (some b) w w') (hlim : ys.length ≤ 140737488355328) :
    ∃ (ob' : Option Nat) (c' : Nat) (j' : List Value) (lr' : Int), ys.length ≤ c' ∧ j'.length = (c' - ys.length) * 1 ∧ (ob' = none → c' = 0) ∧ BufO ob' b c' ∧
      Inv w0 [] w' ((some b, .cells #[.slice (sb ob') ys.length c', .int .i64 0, .int .i8 lr'] T (0, 0)) :: (ob', .cells (arr (intC .u8) ys j').toArray e (0, 0)) :: R) := by
  obtain ⟨_, v, lr', hbk, ⟨hl1, hO1⟩, hne⟩ := h
  have hl : (ys.map (Value.int .u8)).length = ys.length := List.length_map ..
  rw [hl] at hO1
  have h1 := hi.perm (hb.trans (List.Perm.cons _ hr))
  have hbl : w0.heap.size ≤ b := by
    rcases h1.low b _ (.head _) with hh | hh
    · exact hh
    · simp at hh
  have hap := h1.apart
  simp only [List.filterMap_cons, List.nodup_cons] at hap
  have hRb : ∀ k o, (some k, o) ∈ R → k ≠ b := fun k o hm e => by
    subst e
    have hm2 := Nn hm
    cases ob with
    | none => exact hap.1 hm2
    | some q => exact hap.1 (List.mem_cons_of_mem _ hm2)
  have hRk : ∀ k o, (some k, o) ∈ R → w'.heap[k]? = some o := fun k o hm => by
    have hk : w.heap[k]? = some o := h1.own k o (.tail _ (.tail _ hm))
    exact hO k o hk (by simpa using hRb k o hm) (Z4g hR hm)
  have hRl : ∀ k o, (some k, o) ∈ R → w0.heap.size ≤ k ∨ k ∈ ([] : List Nat) := fun k o hm => h1.low k o (.tail _ (.tail _ hm))
  have hRn : (R.filterMap (·.1)).Nodup := by
    cases ob with
    | none => exact hap.2
    | some q => exact (List.nodup_cons.1 hap.2).2
  have hRb2 : b ∉ R.filterMap (·.1) := fun hm => by
    obtain ⟨o, ho⟩ := Gl hm
    exact hRb b o ho rfl
  have hkeep : ∀ k, k < w0.heap.size → k ∉ ([] : List Nat) → w'.heap[k]? = w0.heap[k]? := fun k hk hm => by
    rw [hBe.block k (by omega)]; exact h1.keep k hk hm
  have hsz : w0.heap.size ≤ w'.heap.size := Nat.le_trans h1.size hBe.size
  rcases hO1 with ⟨rfl, h0⟩ | ⟨q, cap, cur, rfl, hq, hcur, hnc, hcm, hcs, htk⟩
  · have hy : ys = [] := List.eq_nil_of_length_eq_zero h0
    subst hy
    refine ⟨none, 0, [], lr', Nat.le_refl _, rfl, fun _ => rfl, ⟨by omega, fun q e => by cases e⟩, ?_⟩
    refine ⟨hBe.os.trans h1.os, hBe.tape.trans h1.tape, hBe.output.trans h1.output, hsz, hkeep, fun k o hm => ?_, fun k o hm => ?_, ?_⟩
    · rcases List.mem_cons.1 hm with e | hm
      · cases e; exact hbk
      · rcases List.mem_cons.1 hm with e | hm
        · cases e
        · exact hRk k o hm
    · rcases List.mem_cons.1 hm with e | hm
      · cases e; exact .inl hbl
      · rcases List.mem_cons.1 hm with e | hm
        · cases e
        · exact hRl k o hm
    · simp only [List.filterMap_cons, List.nodup_cons]
      exact ⟨hRb2, hRn⟩
  · rw [Nat.mul_one] at hcs htk
    have hqb : q ≠ b := fun e => hne (by rw [← e]; rfl)
    have hqR : q ∉ R.filterMap (·.1) := fun hm => by
      obtain ⟨o, ho⟩ := Gl hm
      have h9 := hRk q o ho
      rw [hcur] at h9
      injection h9 with h9
      exact Z4g hR ho _ _ h9.symm
    have e1 : ys.flatMap (intC .u8) = ys.map (Value.int .u8) := by rw [List.map_eq_flatMap]
    have hrow : cur = (arr (intC .u8) ys (cur.toList.drop ys.length)).toArray := by
      apply Array.ext'
      simp only [arr, e1]
      rw [← htk, List.take_append_drop]
    refine ⟨some q, cap, cur.toList.drop ys.length, lr', hnc, by rw [List.length_drop, Array.length_toList, hcs, Nat.mul_one], (fun e => by cases e), ⟨by unfold maxLen at hcm; omega, fun q' e => by cases e; exact hq⟩, ?_⟩
    refine ⟨hBe.os.trans h1.os, hBe.tape.trans h1.tape, hBe.output.trans h1.output, hsz, hkeep, fun k o hm => ?_, fun k o hm => ?_, ?_⟩
    · rcases List.mem_cons.1 hm with e | hm
      · cases e; exact hbk
      · rcases List.mem_cons.1 hm with e | hm
        · injection e with e1 e2
          injection e1 with e1
          subst e1; subst e2
          rw [← hrow]; exact hcur
        · exact hRk k o hm
    · rcases List.mem_cons.1 hm with e | hm
      · cases e; exact .inl hbl
      · rcases List.mem_cons.1 hm with e | hm
        · injection e with e1 e2
          injection e1 with e1
          subst e1
          exact .inl (by omega)
        · exact hRl k o hm
    · simp only [List.filterMap_cons, List.nodup_cons, List.mem_cons, not_or]
      exact ⟨⟨fun e => hqb e.symm, hRb2⟩, hqR, hRn⟩
theorem TO.bufWS (L : LaysM.n178 C.P ρ) {x y : Operand} {at' : Array TypeId} {s : Str} {R1 : Heap} (hlim : (xs ++ ub s).length ≤ 140737488355328) (hM : C.M = []) (hF : Zz C.P (ρ.f 178) = true)
    (q0_ : ops[i]? = some ⟨some d, .call ⟨.value (.func (ρ.f 178)), #[x, y], at'⟩, ty, Zc, af, g⟩ ∧ Zk ops E g = true ∧ Nat.ble (d + 1) C.n = true ∧ ev E x = some (.pointer (some ⟨b, 0, none⟩)) ∧ ev E y = some (.string (bs s)))
    (hb : Take (some b, .cells #[.slice (sb ob) n c, .int .i64 0, .int .i8 lr] (ρ.t 93) (0, 0)) H R1) (hr : Take (ob, .cells (arr (intC .u8) xs j).toArray (ρ.t 5) (0, 0)) R1 R) (hR : Z1v (ρ.t 5) R = true)
    (hn : xs.length = n) (hc : n ≤ c) (hj : j.length = (c - n) * 1) (hz : ob = none → c = 0) (hB : BufO ob b c)
    (kk : ∀ (ob' : Option Nat) (n' c' : Nat) (j' : List Value) (lr' : Int), (xs ++ ub s).length = n' → n' ≤ c' → j'.length = (c' - n') * 1 → (ob' = none → c' = 0) → BufO ob' b c' →
      TO C ops Q l ((d, .tuple #[.int .i64 (s.length : Int), .nilIface]) :: E) ((some b, .cells #[.slice (sb ob') n' c', .int .i64 0, .int .i8 lr'] (ρ.t 93) (0, 0)) :: (ob', .cells (arr (intC .u8) (xs ++ ub s) j').toArray (ρ.t 5) (0, 0)) :: R)) :
    TO C ops Q (i :: l) E H := by
  obtain ⟨ho, hg, hd, hx, hy⟩ := q0_
  refine Z51 (vs := [.pointer (some ⟨b, 0, none⟩), .string (bs s)]) (Post := fun v H' => v = .tuple #[.int .i64 (s.length : Int), .nilIface] ∧ ∃ (ob' : Option Nat) (c' : Nat) (j' : List Value) (lr' : Int), (xs ++ ub s).length ≤ c' ∧ j'.length = (c' - (xs ++ ub s).length) * 1 ∧ (ob' = none → c' = 0) ∧ BufO ob' b c' ∧
      H' = (some b, .cells #[.slice (sb ob') (xs ++ ub s).length c', .int .i64 0, .int .i8 lr'] (ρ.t 93) (0, 0)) :: (ob', .cells (arr (intC .u8) (xs ++ ub s) j').toArray (ρ.t 5) (0, 0)) :: R) hF ho hg hd (by simp [Wx, hx, hy]) (fun w hi => ?_) ?_
  · have hB1 := Z6d (ρ.t 93) (ρ.t 5) hi hb hr hn hc hj hz hB
    have hbl : b < w.heap.size := hi.lt hb.mem
    rw [hM] at hi ⊢
    have hcall := Any.Buffer_WriteString_k L b b (xs.map (Value.int .u8)) (bs s) w hB1 (by omega) (fun v hv => by
      obtain ⟨y', _, rfl⟩ := List.mem_map.1 hv; rfl) (by rw [List.length_map, Xk]; rw [List.length_append, Ko] at hlim; exact hlim)
    refine Calls.mono hcall ?_
    rintro e w' ⟨rfl, hB2, hBe, hOk⟩
    have e2 : xs.map (Value.int .u8) ++ Lib.byteCells (bs s).data.toList = (xs ++ ub s).map (Value.int .u8) := by
      rw [Us, List.map_append]; simp [Lib.byteCells, ub]
    rw [e2] at hB2
    obtain ⟨ob', c', j', lr', h1, h2, h3, h4, h5⟩ := buf_back hi hb hr hR hB2 hBe hOk hlim
    refine ⟨_, _, ⟨?_, ob', c', j', lr', h1, h2, h3, h4, rfl⟩, rfl, h5⟩
    rw [Xk]
  · rintro v H' ⟨rfl, ob', c', j', lr', h1, h2, h3, h4, rfl⟩
    exact kk ob' _ c' j' lr' rfl h1 h2 h3 h4
theorem TO.bufB (L : LaysM.n183 C.P ρ) {x : Operand} {at' : Array TypeId} {R1 : Heap} (hF : Zz C.P (ρ.f 183) = true)
    (q0_ : ops[i]? = some ⟨some d, .call ⟨.value (.func (ρ.f 183)), #[x], at'⟩, ty, Zc, af, g⟩ ∧ Zk ops E g = true ∧ Nat.ble (d + 1) C.n = true ∧ ev E x = some (.pointer (some ⟨b, 0, none⟩)) ∧ C.M = [])
    (hb : Take (some b, .cells #[.slice (sb ob) n c, .int .i64 0, .int .i8 lr] (ρ.t 93) (0, 0)) H R1) (hr : Take (ob, .cells (arr (intC .u8) xs j).toArray (ρ.t 5) (0, 0)) R1 R) (hR : Z1v (ρ.t 5) R = true)
    (hn : xs.length = n) (hc : n ≤ c) (hj : j.length = (c - n) * 1) (hz : ob = none → c = 0) (hB : BufO ob b c)
    (kk : ∀ (ob' : Option Nat) (n' c' : Nat) (j' : List Value), xs.length = n' → n' ≤ c' → j'.length = (c' - n') * 1 → (ob' = none → c' = 0) →
      TO C ops Q l ((d, .slice (sb ob') n' c') :: E) ((ob', .cells (arr (intC .u8) xs j').toArray (ρ.t 5) (0, 0)) :: R)) :
    TO C ops Q (i :: l) E H := by
  obtain ⟨ho, hg, hd, hx, hM⟩ := q0_
  refine Z51 (vs := [.pointer (some ⟨b, 0, none⟩)]) (Post := fun v H' => ∃ (ob' : Option Nat) (c' : Nat) (j' : List Value), v = .slice (sb ob') xs.length c' ∧ xs.length ≤ c' ∧ j'.length = (c' - xs.length) * 1 ∧ (ob' = none → c' = 0) ∧
      H' = (ob', .cells (arr (intC .u8) xs j').toArray (ρ.t 5) (0, 0)) :: R) hF ho hg hd (by simp [Wx, hx]) (fun w hi => ?_) ?_
  · have hB1 := Z6d (ρ.t 93) (ρ.t 5) hi hb hr hn hc hj hz hB
    have hbl : b < w.heap.size := hi.lt hb.mem
    rw [hM] at hi ⊢
    refine Calls.mono (Any.Buffer_Bytes L b b (xs.map (Value.int .u8)) w hB1) ?_
    rintro e w' ⟨v, rfl, hv, k, rfl⟩
    have hbk : (w.drewN k).heap[b]? = some (.cells #[v, .int .i64 0, .int .i8 0] (ρ.t 93) (0, 0)) ∨ True := .inr trivial
    have hl : (xs.map (Value.int .u8)).length = xs.length := List.length_map ..
    have h1 := hi.perm (hb.trans (List.Perm.cons _ hr))
    have hi2 : Inv C.w0 [] (w.drewN k) R := (hi.pick (Rv (S := [(some b, Obj.cells #[.slice (sb ob) n c, .int .i64 0, .int .i8 lr] (ρ.t 93) (0, 0)), (ob, .cells (arr (intC .u8) xs j).toArray (ρ.t 5) (0, 0))]) ((hb.trans (List.Perm.cons _ hr)).trans (by
      exact (List.perm_append_comm (l₁ := [_, _]) (l₂ := R)))))).ofHeap rfl rfl rfl rfl
    rcases hv with ⟨_, ⟨rfl, h0⟩ | ⟨q, cap, cur, rfl, hq, hcur, hnc, hcm, hcs, htk⟩⟩
    · rw [hl] at h0
      have hy : xs = [] := List.eq_nil_of_length_eq_zero h0
      subst hy
      exact ⟨_, _, ⟨none, 0, [], rfl, Nat.le_refl _, rfl, fun _ => rfl, rfl⟩, rfl, hi2.addNone _⟩
    · rw [hl] at hnc htk
      rw [Nat.mul_one] at hcs htk
      have hcur' : w.heap[q]? = some (.cells cur (ρ.t 5) (0, 0)) := hcur
      have hqR : q ∉ R.filterMap (·.1) := fun hm => by
        obtain ⟨o, ho'⟩ := Gl hm
        have h9 : w.heap[q]? = some o := h1.own q o (.tail _ (.tail _ ho'))
        rw [hcur'] at h9
        injection h9 with h9
        exact Z4g hR ho' _ _ h9.symm
      have e1 : xs.flatMap (intC .u8) = xs.map (Value.int .u8) := by rw [List.map_eq_flatMap]
      have hrow : cur = (arr (intC .u8) xs (cur.toList.drop xs.length)).toArray := by
        apply Array.ext'
        simp only [arr, e1]
        rw [← htk, List.take_append_drop]
      have hbl2 : C.w0.heap.size ≤ b := by
        rcases h1.low b _ (.head _) with hh | hh
        · exact hh
        · simp at hh
      refine ⟨_, _, ⟨some q, cap, cur.toList.drop xs.length, by rw [hl]; rfl, hnc, by rw [List.length_drop, Array.length_toList]; omega, (fun e => by cases e), rfl⟩, rfl, ?_⟩
      refine ⟨hi2.os, hi2.tape, hi2.output, hi2.size, hi2.keep, fun k' o hm => ?_, fun k' o hm => ?_, ?_⟩
      · rcases List.mem_cons.1 hm with e | hm
        · injection e with e1 e2
          injection e1 with e1
          subst e1; subst e2
          rw [← hrow]; exact hcur
        · exact hi2.own k' o hm
      · rcases List.mem_cons.1 hm with e | hm
        · injection e with e1 e2
          injection e1 with e1
          subst e1
          exact .inl (by omega)
        · exact hi2.low k' o hm
      · simp only [List.filterMap_cons, List.nodup_cons]
        exact ⟨hqR, hi2.apart⟩
  · rintro v H' ⟨ob', c', j', rfl, h1, h2, h3, rfl⟩
    exact kk ob' _ c' j' rfl h1 h2 h3
theorem Zbu {P : Program} {w : World} {b : Nat} {cs : Array Value} {T : TypeId} {fr : Nat × Nat} (hb : w.heap[b]? = some (.cells cs T fr)) : (markStringish ⟨b, 0, none⟩).run P w = .ok () (w.freeze ⟨b, cs.size, none⟩ 1) := by
 show ((Go.shape b).bind _).run P w = _
 simp only [Go.shape, Sem.bind, Sem.run, World.shape?, hb]
 rfl
theorem TO.bbB {s e T : TypeId} {x : Operand} {b n c : Nat} {cs : Array Value} {fr : Nat × Nat} (q0_ : ops[i]? = some ⟨some d, .convert s s x, ty, Zc, af, g⟩ ∧ Zk ops E g = true ∧ Nat.ble (d + 1) C.n = true ∧ ev E x = some (.slice (some ⟨b, 0, none⟩) n c)) (hs : Xi C.P s = some e) (he : C.P.underlying e = some (.int .u8)) (ht : Take (some b, .cells cs T fr) H R)
    (kk : ∀ fr' : Nat × Nat, TO C ops Q l ((d, .slice (some ⟨b, 0, none⟩) n c) :: E) ((some b, .cells cs T fr') :: R)) : TO C ops Q (i :: l) E H := have ⟨ho, hg, hd, hx⟩ := q0_;
  Kk ho hg (by simp) fun a w hf hi => by
    have hb := hi.own _ _ ht.mem
    have h1 : (execOp a.eval ⟨some d, .convert s s x, ty, Zc, af, g⟩).run C.P w = .ok (.value (.slice (some ⟨b, 0, none⟩) n c)) (w.freeze ⟨b, cs.size, none⟩ 1) := by
      simp only [execOp, hf.ev hx]
      simp [convert, run_underlying (Kp hs), run_underlying he, Zbu hb]
    rw [h1]
    have hi2 : Inv C.w0 C.M (w.freeze ⟨b, cs.size, none⟩ 1) ((some b, .cells cs T (if fr.1 == fr.2 then (cs.size, cs.size + 1) else (min fr.1 cs.size, max fr.2 (cs.size + 1)))) :: R) := by
      refine hi.upd ht rfl rfl rfl (by simp [World.freeze]) ?_ fun k hk => ?_
      · obtain ⟨lo, hi⟩ := fr
        simp [World.freeze, Array.getElem?_modify, hb]
      · simp only [World.freeze, if_neg (Nat.one_ne_zero), Array.getElem?_modify]
        rw [if_neg (fun e => hk e.symm)]
    exact kk _ _ _ (hf.put hd _) hi2
end rules
end Go.Acq
namespace Go.Acq
open Go Go.RowKit Go.Proofs Go.Shelf
theorem Zey {α β : Type} {l : List α} {f g : α → List β} (h : ∀ x, x ∈ l → f x = g x) : l.flatMap f = l.flatMap g := by
 induction l with
 | nil => rfl
 | cons a l ih => rw [List.flatMap_cons, List.flatMap_cons, h a (.head _), ih (fun x hx => h x (.tail _ hx))]
def Uw (kp : Bool) (c : UInt8) : Str → Str → List Str
  | [], cur => [cur]
  | b :: l, cur => if b = c then (if kp then cur ++ [c] else cur) :: Uw kp c l [] else Uw kp c l (cur ++ [b])
theorem Z5d (kp : Bool) (c : UInt8) : ∀ (t cur : Str), (Lib.index t [c] = -1 ∧ Uw kp c t cur = [cur ++ t]) ∨ (∃ r : Nat, Lib.index t [c] = r ∧ r < t.length ∧ t.take (r + 1) = t.take r ++ [c] ∧ Uw kp c t cur = (cur ++ t.take (r + (if kp then 1 else 0))) :: Uw kp c (t.drop (r + 1)) [])
 | [], cur => .inl ⟨rfl, by rw [Uw, List.append_nil]⟩
 | b :: l, cur => by
  by_cases hb : b = c
  ·
   subst hb
   refine .inr ⟨0, by simp [Lib.index], by simp, by simp, ?_⟩
   rw [Uw, if_pos rfl]; cases kp <;> simp
  ·
   have h1 : ([c].isPrefixOf (b :: l)) = false := by simp [List.isPrefixOf, Ne.symm hb]
   rcases Z5d kp c l (cur ++ [b]) with ⟨h2, h3⟩ | ⟨r, h2, h3, h5, h4⟩
   ·
    refine .inl ⟨?_, by rw [Uw, if_neg hb, h3, List.append_assoc]; rfl⟩
    rw [Lib.index, h1, h2]; rfl
   ·
    refine .inr ⟨r + 1, ?_, by rw [List.length_cons]; omega, ?_, ?_⟩
    ·
     rw [Lib.index, h1, h2]
     have : ((r : Int) == -1) = false := beq_eq_false_iff_ne.2 (by omega)
     rw [this]; simp
    · rw [List.take_succ_cons, h5]; rfl
    ·
     rw [Uw, if_neg hb, h4, List.append_assoc]
     have e : r + 1 + (if kp = true then 1 else 0) = (r + (if kp = true then 1 else 0)) + 1 := by omega
     rw [e, List.take_succ_cons, List.drop_succ_cons]; rfl
theorem Z75 (kp : Bool) (c : UInt8) : ∀ (k : Nat) (s : Str), s.count c ≤ k → Lib.splitK [c] (if kp then 1 else 0) k s = Uw kp c s []
 | 0, s, h => by
  rcases Z5d kp c s [] with ⟨_, h3⟩ | ⟨r, h2, h3, h5, _⟩
  · rw [h3]; rfl
  ·
   exfalso
   have : c ∈ s := List.mem_of_mem_take (i := r + 1) (by rw [h5]; simp)
   have := List.count_pos_iff.2 this
   omega
 | k + 1, s, h => by
  rcases Z5d kp c s [] with ⟨h2, h3⟩ | ⟨r, h2, h3, h5, h4⟩
  · rw [h3, Lib.splitK, h2]; rfl
  ·
   have e : ((r : Int) == -1) = false := beq_eq_false_iff_ne.2 (by omega)
   rw [h4, Lib.splitK, h2, e]
   have hc : (s.drop (r + 1)).count c ≤ k := by
    have h6 : s.count c = (s.take (r + 1)).count c + (s.drop (r + 1)).count c := by rw [← List.count_append, List.take_append_drop]
    rw [h5, List.count_append, List.count_singleton_self] at h6
    omega
   simp only [Int.toNat_natCast, List.length_singleton, Bool.false_eq_true, if_false, List.nil_append]
   rw [Z75 kp c k _ hc]
section fns
variable {P : Program} {ρ : Ren}
theorem Zca (L : Lays.n102 P ρ) (s p : Str) (hs : s.length ≤ 9223372036854775807) (w : World) : Fnc P (ρ.f 102) #[.string (bs s), .string (bs p)] w [] (fun v N => v = .string (bs (Lib.trimSuffix s p)) ∧ N = []) := by
 refine Calls.mono (Any.strings_TrimSuffix L (bs s) (bs p) w (by rw [Xk]; exact hs)) ?_
 rintro e w' ⟨rfl, rfl⟩
 rw [Us, Us]
 exact ⟨_, _, ⟨rfl, rfl⟩, rfl, Inv.refl _⟩
theorem GK.max {w : World} {M : List Nat} (h : GK P w M) {g : Nat} (hg : P.globalNamed "internal/bytealg.MaxLen" = some g) : ∃ m, w.cell? ⟨g, 0, none⟩ = some (.int .i64 m) := by
 obtain ⟨m, e⟩ := h.mxl
 exact ⟨m, by simpa using World.var?_cell hg e 0⟩
theorem Z6e (L : Lays.n221 P ρ) (hgm : P.globalNamed "internal/bytealg.MaxLen" = some (ρ.g 1)) (hi9 : (P.info? (ρ.t 9)).map (fun i => (i.zero, i.size, i.bytes)) = some (some (.string ByteArray.empty), 1, 16)) (s : Str) (c : UInt8) (kp : Bool) (hs : s.length < 4294967281)
    (w : World) {M : List Nat} (hG : GK P w M) {r : List Str} (hr : Uw kp c s [] = r) :
    Fnc P (ρ.f 221) #[.string (bs s), .string (bs [c]), .int .i64 ((if kp then 1 else 0 : Nat) : Int), .int .i64 (-1)] w [] (fun v N => ∃ (ob : Option Nat) (n c : Nat) (j : List Value), v = .slice (sb ob) n c ∧ N = [(ob, .cells (arr Zq r j).toArray (ρ.t 9) (0, 0))] ∧ r.length = n ∧ n ≤ c ∧ j.length = (c - n) * 1 ∧ (ob = none → c = 0)) := by
  obtain ⟨m, hm⟩ := hG.max hgm
  have h1 : 1 ≤ (bs [c]).size := by rw [Xk]; exact Nat.le_refl _
  have hle := Lib.countB_le (bs [c]) h1 (bs s).size (bs s) (Nat.le_refl _)
  have hz := Xk s
  have hlen := Lib.splitB_all (bs [c]) h1 (if kp then 1 else 0) _ (bs s) rfl
  have cc := Any.strings_genSplit L hi9 (bs s) (bs [c]) (if kp then 1 else 0) (-1) (Lib.countB (bs s) (bs [c]) + 1) m w (by omega) hm h1 (by rw [Xk]; cases kp <;> simp) (by decide) (by decide) (by rw [if_pos (by decide)]; omega)
  rw [Nat.add_sub_cancel, hlen] at cc
  refine Calls.mono cc ?_
  rintro e w' ⟨rfl, rfl⟩
  have hd := Lib.splitB_data (bs [c]) (if kp then 1 else 0) (Lib.countB (bs s) (bs [c])) (bs s)
  have hcn : Lib.countB (bs s) (bs [c]) = s.count c := by
    show Lib.count _ _ = _
    rw [Us, Us, Lib.count_one]
  rw [Us, Us, hcn, Z75 kp c _ s (Nat.le_refl _), hr] at hd
  have hrl : r.length = Lib.countB (bs s) (bs [c]) + 1 := by rw [← hd, List.length_map, ← hcn]; exact hlen
  have hcells : Lib.cellsOf (Lib.splitB (bs [c]) (if kp then 1 else 0) (Lib.countB (bs s) (bs [c])) (bs s)) (Lib.countB (bs s) (bs [c]) + 1) = (arr Zq r []).toArray := by
    rw [← hlen, Lib.cellsOf_full]
    apply Array.ext'
    simp only [arr, List.append_nil]
    rw [← hd, hcn]
    rw [List.flatMap_map, List.map_eq_flatMap]
    apply Zey
    intro x _
    simp [Zq, bs_of]
  rw [hcells, ← hrl]
  refine ⟨_, _, ⟨some w.heap.size, r.length, r.length, [], rfl, rfl, rfl, Nat.le_refl _, by simp, fun e => by cases e⟩, rfl, ?_⟩
  exact (Inv.refl w).alloc _
theorem Fnc.join (L : Lays.n156 P ρ) (X : Builder.Extra P ρ) {base : Option Addr} {n c : Nat} {xs : List Str} (sep : Str) (w : World) {M : List Nat} (h : RS w M Zq 1 base n c xs) (hN : xs.length ≤ 140737488355328)
    (hlen : (Lib.join xs sep).length ≤ 140737488355328) : Fnc P (ρ.f 156) #[.slice base n c, .string (bs sep)] w [] (fun v N => v = .string (bs (Lib.join xs sep)) ∧ N = []) := by
  have hl := h.ro.len
  have hmap : (xs.map bs).map (·.data.toList) = xs := by
    rw [List.map_map]
    conv => rhs; rw [← List.map_id xs]
    apply List.map_congr_left
    intro x _
    exact Us x
  cases xs with
  | nil =>
    simp only [List.length_nil] at hl
    subst hl
    refine Calls.mono (Any.strings_Join_none L X base c (bs sep) w) ?_
    rintro e w' ⟨rfl, rfl⟩
    exact ⟨_, _, ⟨rfl, rfl⟩, rfl, Inv.refl _⟩
  | cons x xs =>
    cases base with
    | none => have := h.ro.nil rfl; rw [← hl] at this; simp at this
    | some ad =>
      have hcell : ∀ (j : Nat) y, (x :: xs)[j]? = some y → w.cell? (ad.add j) = some (.string (bs y)) := fun j y hj => by
        have hlt := (List.getElem?_eq_some_iff.1 hj).1
        have := h.ro.cell j 0 hlt (by omega) y hj
        simpa [ea, Zq] using this
      obtain ⟨bk, o, spot⟩ := ad
      have h0 := hcell 0 x rfl
      have hspot : spot = none := by simpa [Addr.add] using World.cell?_spot h0
      subst hspot
      have hbk : bk < w.heap.size := by
        have := World.block_lt_of_cell? _ _ h0
        simpa [Addr.add] using this
      have cc := Any.strings_Join L X bk o c ((x :: xs).map bs) (bs sep) w (fun j y hj => by
        rw [List.getElem?_map] at hj
        obtain ⟨z, hz, rfl⟩ := Option.map_eq_some_iff.1 hj
        have := hcell j z hz
        by_cases h0 : j = 0
        · subst h0; simpa [Addr.add] using this
        · simpa [Addr.add, h0] using this) hbk (by rw [List.length_map]; exact hN) (by rw [List.length_map, hl]; exact h.cap) (by rw [hmap, Us]; exact hlen)
      rw [List.length_map, hl, hmap, Us] at cc
      refine Calls.mono cc ?_
      rintro e w' ⟨rfl, hb⟩
      exact ⟨_, _, ⟨rfl, rfl⟩, rfl, Nx hb⟩
end fns
end Go.Acq
namespace Go.Acq
open Go Go.RowKit
def Wv (v : Value) : List PanicEntry := [{ v := v, recovered := false }]
def FncP (P : Program) (f : FuncId) (args : Array Value) (w : World) (M : List Nat) (pv : Value) : Prop :=
  Calls P f args w (fun e w' => e = .panicked (Wv pv) ∧ Inv w M w' [])
def FncSR {α : Type} (w : World) (M : List Nat) (pv : Value) (Post : α → Value → Heap → Prop) : α ⊕ Unit → Ending → World → Prop
  | .inl r => Xu w M (Post r)
  | .inr _ => fun e w' => e = .panicked (Wv pv) ∧ Inv w M w' []
def FncS {α : Type} (P : Program) (f : FuncId) (args : Array Value) (w : World) (M : List Nat) (pv : Value) (r : α ⊕ Unit) (Post : α → Value → Heap → Prop) : Prop :=
  Calls P f args w (FncSR w M pv Post r)
section
variable {α : Type} {P : Program} {f : FuncId} {args : Array Value} {w : World} {M : List Nat} {pv : Value} {Post : α → Value → Heap → Prop}
theorem FncS.ok {r : α} (h : FncS P f args w M pv (.inl r) Post) : Fnc P f args w M (Post r) := h
theorem Xj {u : Unit} (h : FncS P f args w M pv (.inr u) Post) : FncP P f args w M pv := h
theorem FncS.enter {fn : Func} {c : Code} {vs : List Value} {H : Heap} {r : α ⊕ Unit}
    (hf : P.funcs[f]? = some fn) (hb : fn.body = some c) (hn : Nat.ble vs.length fn.ntmps = true) (hi : Inv w M w H)
    (h : T ⟨P, none, fn.ntmps, [], w, M⟩ c (bodyPost P fn (FncSR w M pv Post r)) (Jy 0 vs) H) : FncS P f vs.toArray w M pv r Post := by
  have hn' := Nat.le_of_ble_eq_true hn
  refine callsIn_FW (ρ := none) (n := 0) |>.1 (callsIn_of_wp hf hb trivial ?_ rfl)
  refine h _ w ⟨by simp; omega, rfl, fun t v hv => ?_⟩ hi
  obtain ⟨_, h2⟩ := Rn vs 0 t v hv
  rw [Nat.sub_zero] at h2
  have hlt := (List.getElem?_eq_some_iff.1 h2).1
  simp only [Array.getD_eq_getD_getElem?]
  rw [Array.getElem?_append_left (by simpa using hlt)]
  simp [h2]
end
section rules
variable {C : Cx} {ops : Array Oper} {Q : Exit → Act → World → Prop} {l : List Nat} {E : Env} {H R : Heap} {i d : Nat} {ty : TypeId} {Zc : String} {af : Array Edge} {g : Option (Nat × Bool)}
theorem Xs {K : Act → World → Prop} {ch : List PanicEntry} (h : X C Q (.panic ch) E H) : X C (Exit.then K Q) (.panic ch) E H := h
theorem Z0m {id : Nat} {ch : List PanicEntry} (h : X C Q (.panic ch) E H) : X C (Exit.inBlock id Q) (.panic ch) E H := h
theorem Xq {α : Type} {fn : Func} {w0 : World} {M : List Nat} {pv : Value} {u : Unit} {Post : α → Value → Heap → Prop} (q0_ : C.w0 = w0 ∧ C.M = M ∧ C.D = []) :
    X C (bodyPost C.P fn (FncSR w0 M pv Post (.inr u))) (.panic (Wv pv)) E H := have ⟨hw, hMM, hD⟩ := q0_; fun a w hf hi => by
  refine ⟨hf.defers.trans hD, rfl, ?_⟩
  rw [← hw, ← hMM]
  exact hi.pick Zi
theorem Xp {f : FuncId} {xs : Array Operand} {at' : Array TypeId} {vs : List Value} {M : List Nat} {Hm : Heap} {pv : Value} (hF : Zz C.P f = true)
    (q0_ : ops[i]? = some ⟨some d, .call ⟨.value (.func f), xs, at'⟩, ty, Zc, af, g⟩ ∧ Zk ops E g = true ∧ Wx E xs.toList = some vs) (hH : List.Perm H (Hm ++ R)) (hM : Hm.filterMap (·.1) = M)
    (hc : ∀ w, Inv C.w0 C.M w H → FncP C.P f vs.toArray w M pv)
    (kk : X C Q (.panic (Wv pv)) E R) : TO C ops Q (i :: l) E H := have ⟨ho, hg, hx⟩ := q0_;
  Kk ho hg (by simp) fun a w hf hi => by
    have e1 : xs.map a.eval = vs.toArray := by apply Array.ext'; simpa using Jh hf hx
    have hrun : (execOp a.eval ⟨some d, .call ⟨.value (.func f), xs, at'⟩, ty, Zc, af, g⟩).run C.P w = .ok (.enter f vs.toArray) w := by
      simp [execOp, resolve, Deferred.ofValue, invoke, Act.eval, e1, Kr hF]
    rw [hrun]
    refine ⟨by simp [FW], ?_⟩
    refine callsIn_FW.2 (Calls.mono (hc w hi) ?_)
    rintro e w' ⟨rfl, hi2⟩
    have hj := hi.join (M' := M) hH (fun m h => by rw [hM]; exact h) hi2
    exact kk a w' hf (by simpa using hj)
theorem Z4e {f : FuncId} {x : Operand} {xs : Array Operand} {at' : Array TypeId} {vs : List Value} {fs cs : Array Value} {M : List Nat} {Hm : Heap} {pv : Value} (hF : Zz C.P f = true)
    (q0_ : ops[i]? = some ⟨some d, .call ⟨.value x, xs, at'⟩, ty, Zc, af, g⟩ ∧ Zk ops E g = true ∧ ev E x = some (.func (.func f) fs cs) ∧ Wx E xs.toList = some vs) (hH : List.Perm H (Hm ++ R)) (hM : Hm.filterMap (·.1) = M)
    (hc : ∀ w, Inv C.w0 C.M w H → FncP C.P f (fs ++ vs.toArray ++ cs) w M pv)
    (kk : X C Q (.panic (Wv pv)) E R) : TO C ops Q (i :: l) E H := have ⟨ho, hg, hfv, hx⟩ := q0_;
  Kk ho hg (by simp) fun a w hf hi => by
    have e1 : xs.map a.eval = vs.toArray := by apply Array.ext'; simpa using Jh hf hx
    have hrun : (execOp a.eval ⟨some d, .call ⟨.value x, xs, at'⟩, ty, Zc, af, g⟩).run C.P w = .ok (.enter f (fs ++ vs.toArray ++ cs)) w := by
      simp [execOp, resolve, Deferred.ofValue, invoke, hf.ev hfv, e1, Kr hF]
    rw [hrun]
    refine ⟨by simp [FW], ?_⟩
    refine callsIn_FW.2 (Calls.mono (hc w hi) ?_)
    rintro e w' ⟨rfl, hi2⟩
    have hj := hi.join (M' := M) hH (fun m h => by rw [hM]; exact h) hi2
    exact kk a w' hf (by simpa using hj)
theorem Ze0 {x : Operand} {t : TypeId} {v : Value} (q0_ : ops[i]? = some ⟨none, .panic x, ty, Zc, af, g⟩ ∧ Zk ops E g = true ∧ ev E x = some (.iface t v))
    (kk : X C Q (.panic (Wv (.iface t v))) E H) : TO C ops Q (i :: l) E H := have ⟨ho, hg, hx⟩ := q0_;
  Kk ho hg (by simp) fun a w hf hi => by
    have hrun : (execOp a.eval ⟨none, .panic x, ty, Zc, af, g⟩).run C.P w = .halt (.panic (.iface t v)) w := by
      simp [execOp, hf.ev hx, Instr.panic]
    rw [hrun]
    exact kk a w hf hi
theorem Zcp {x : Operand} {t : TypeId} {v : Value} (hr : ∀ w, (Instr.makeInterface t v).run C.P w = .ok (.iface t v) w) (q0_ : ops[i]? = some ⟨some d, .makeInterface t x, ty, Zc, af, g⟩ ∧ Zk ops E g = true ∧ Nat.ble (d + 1) C.n = true ∧ ev E x = some v)
    (kk : TO C ops Q l ((d, .iface t v) :: E) H) : TO C ops Q (i :: l) E H := have ⟨ho, hg, hd, hx⟩ := q0_;
  TO.val ho hg hd (by simp) (fun a w hf _ => by simp [execOp, hf.ev hx, hr]) kk
end rules
end Go.Acq
namespace Go.Acq
open Go Go.RowKit
theorem ba_beq (a b : ByteArray) : (a == b) = decide (a = b) := by
 cases a with | mk x => cases b with | mk y =>
 show (x == y) = _
 by_cases h : x = y
 · subst h; simp
 ·
  have : (ByteArray.mk x) ≠ ByteArray.mk y := fun e => h (by injection e)
  rw [decide_eq_false this]
  exact beq_eq_false_iff_ne.2 h
theorem bs_beq (a b : Str) : (bs a == bs b) = decide (a = b) := by
 rw [ba_beq]
 exact decide_eq_decide.2 ⟨bs_inj, fun e => by rw [e]⟩
def Vs {α : Type} (f : α → Value) : Nat → List (Str × α) → List MapEntry
  | _, [] => []
  | i, x :: xs => { key := .string (bs x.1), val := f x.2, born := i } :: Vs f (i + 1) xs
abbrev mapZO {α : Type} (f : α → Value) (xs : List (Str × α)) : Obj := .map (Vs f 0 xs).toArray xs.length
def Yd {α : Type} (z : α) (k : Str) : List (Str × α) → α
  | [] => z
  | x :: xs => if k = x.1 then x.2 else Yd z k xs
def Nd {α : Type} (k : Str) : List (Str × α) → Bool
  | [] => false
  | x :: xs => if k = x.1 then true else Nd k xs
def Yx {α : Type} (k : Str) (v : α) : List (Str × α) → List (Str × α)
  | [] => [(k, v)]
  | x :: xs => if k = x.1 then (k, v) :: xs else x :: Yx k v xs
def Kc {α : Type} (f : α → Value) (k : Str) : Nat → List (Str × α) → Option (Nat × Value)
  | _, [] => none
  | i, x :: xs => if k = x.1 then some (i, f x.2) else Kc f k (i + 1) xs
section
variable {α : Type} {f : α → Value} {k : Str} {z v : α}
theorem Z7u : ∀ (xs : List (Str × α)) (i j : Nat), Instr.findNow .string (.string (bs k)) (Vs f i xs) j = some (Kc f k j xs)
 | [], _, _ => rfl
 | x :: xs, i, j => by
  simp only [Vs, Instr.findNow, Instr.sameNow, Kc, bs_beq]
  by_cases h : k = x.1
  · rw [if_pos h, decide_eq_true h]
  ·
   rw [if_neg h, decide_eq_false h]
   exact Z7u xs (i + 1) (j + 1)
theorem Z2x : ∀ (xs : List (Str × α)) (j : Nat), (match Kc f k j xs with | some (_, u) => (u, true) | none => (f z, false)) = (f (Yd z k xs), Nd k xs)
 | [], _ => rfl
 | x :: xs, j => by
  unfold Kc Yd Nd
  by_cases h : k = x.1
  · rw [if_pos h, if_pos h, if_pos h]
  · rw [if_neg h, if_neg h, if_neg h]; exact Z2x xs (j + 1)
theorem Z4a : ∀ (xs : List (Str × α)) (i j : Nat), (match Kc f k j xs with
    | some (p, _) => (∃ o, (j ≤ p ∧ (Vs f i xs)[p - j]? = some o ∧ o.key = .string (bs k))) ∧ (Yx k v xs).length = xs.length ∧ Vs f i (Yx k v xs) = (Vs f i xs).modify (p - j) (fun e => { e with key := .string (bs k), val := f v })
    | none => (Yx k v xs).length = xs.length + 1 ∧ Vs f i (Yx k v xs) = Vs f i xs ++ [{ key := .string (bs k), val := f v, born := i + xs.length }])
  | [], i, j => by simp [Kc, Yx, Vs]
  | x :: xs, i, j => by
    unfold Kc Yx
    by_cases h : k = x.1
    · subst h
      simp [Vs]
    · simp only [if_neg h]
      have ih := Z4a xs (i + 1) (j + 1)
      cases hf : Kc f k (j + 1) xs with
      | none =>
        rw [hf] at ih
        simp only [Vs, List.length_cons, List.cons_append] at ih ⊢
        refine ⟨by omega, ?_⟩
        rw [ih.2]
        simp; omega
      | some y =>
        rw [hf] at ih
        obtain ⟨p, u⟩ := y
        simp only at ih ⊢
        obtain ⟨⟨o, h1, h2, h3⟩, h4, h5⟩ := ih
        have e : p - j = (p - (j + 1)) + 1 := by omega
        refine ⟨⟨o, by omega, ?_, h3⟩, by simp [h4], ?_⟩
        · rw [e]; simpa [Vs] using h2
        · rw [e]; simp only [Vs, List.modify_succ_cons, h5]
end
def Gc (P : Program) (t : TypeId) : Option TypeId :=
  match P.underlying t with
  | some (.map k e) => match P.underlying k with
    | some .string => some e
    | _ => none
  | _ => none
theorem Z15 {P : Program} {t e : TypeId} (h : Gc P t = some e) : ∃ k, P.underlying t = some (.map k e) ∧ P.underlying k = some .string := by
 unfold Gc at h
 split at h
 ·
  rename_i k e' h1
  split at h
  · rename_i h2; injection h with h; subst h; exact ⟨k, h1, h2⟩
  · cases h
 · cases h
section rules
variable {C : Cx} {ops : Array Oper} {Q : Exit → Act → World → Prop} {l : List Nat} {E : Env} {H R : Heap} {i d : Nat} {ty : TypeId} {Zc : String} {af : Array Edge} {g : Option (Nat × Bool)}
variable {α : Type} {f : α → Value}
theorem Z0t {t : TypeId} (f : α → Value) (q0_ : ops[i]? = some ⟨some d, .makeMap t none, ty, Zc, af, g⟩ ∧ Zk ops E g = true ∧ Nat.ble (d + 1) C.n = true)
    (k : ∀ b, TO C ops Q l ((d, .map (some b)) :: E) ((some b, mapZO f []) :: H)) : TO C ops Q (i :: l) E H := have ⟨ho, hg, hd⟩ := q0_;
  Z1b (fun b => .map (some b)) ho hg hd (by simp) (fun a w hf _ => by simp [execOp, Instr.makeMap]; rfl) k
theorem Gm {P : Program} {w : World} {em : Bool} {kt : TypeId} {s : ByteArray} (h : P.underlying kt = some .string) : (Instr.checkKey em 10000 kt (.string s)).run P w = .ok () w := by
 show (Instr.checkKey em (9999 + 1) kt (.string s)).run P w = .ok () w
 rw [Instr.checkKey]
 simp [underlying, h]
theorem Z0s {P : Program} {w : World} {kt : TypeId} {f : α → Value} {k : Str} {xs : List (Str × α)} (h : P.underlying kt = some .string) : (Instr.findKey kt (.string (bs k)) (Vs f 0 xs)).run P w = .ok (Kc f k 0 xs) w := by
 unfold Instr.findKey
 simp [underlying, h, Z7u]
theorem Nk {t e : TypeId} {x y : Operand} {b : Nat} {xs : List (Str × α)} {k : Str} {z : α} {u : Value} (hm : Gc C.P t = some e) (hz : Wb C.P e = some (f z))
    (q0_ : ops[i]? = some ⟨some d, .lookup t x y false, ty, Zc, af, g⟩ ∧ Zk ops E g = true ∧ Nat.ble (d + 1) C.n = true ∧ ev E x = some (.map (some b)) ∧ ev E y = some (.string (bs k))) (hh : (some b, mapZO f xs) ∈ H) (hu : f (Yd z k xs) = u)
    (kk : TO C ops Q l ((d, u) :: E) H) : TO C ops Q (i :: l) E H := have ⟨ho, hg, hd, hx, hy⟩ := q0_;
  TO.val ho hg hd (by simp) (fun a w hf hi => by
    obtain ⟨kt, h1, h2⟩ := Z15 hm
    subst hu
    have hget := Z2x (f := f) (k := k) (z := z) xs 0
    have hb := hi.own _ _ hh
    have hfind := Z0s (P := C.P) (w := w) (f := f) (k := k) (xs := xs) h2
    simp only [execOp, hf.ev hx, hf.ev hy]
    cases hc : Kc f k 0 xs with
    | none =>
      rw [hc] at hfind hget
      simp only [Prod.mk.injEq] at hget
      simp [Instr.lookup, Gm h2, hfind, underlying, h1, Lx hz, Gj hb, ← hget.1]
    | some y =>
      obtain ⟨p, v⟩ := y
      rw [hc] at hfind hget
      simp only [Prod.mk.injEq] at hget
      simp [Instr.lookup, Gm h2, hfind, underlying, h1, Lx hz, Gj hb, ← hget.1]) kk
theorem Kw {Q : Act → Prop} {t e : TypeId} {x y : Operand} {b : Nat} {xs : List (Str × α)} {k : Str} {z : α} {u : Value} (hm : Gc C.P t = some e) (hz : Wb C.P e = some (f z))
    (q0_ : ops[i]? = some ⟨some d, .lookup t x y false, ty, Zc, af, g⟩ ∧ Zk ops E g = true ∧ Nat.ble (d + 1) C.n = true ∧ ev E x = some (.map (some b)) ∧ ev E y = some (.string (bs k))) (hh : (some b, mapZO f xs) ∈ H) (hu : f (Yd z k xs) = u)
    (kk : TQ C ops Q l ((d, u) :: E) H) : TQ C ops Q (i :: l) E H := have ⟨ho, hg, hd, hx, hy⟩ := q0_;
  Jm ho hg hd (by simp) (fun a w hf hi => by
    obtain ⟨kt, h1, h2⟩ := Z15 hm
    subst hu
    have hget := Z2x (f := f) (k := k) (z := z) xs 0
    have hb := hi.own _ _ hh
    have hfind := Z0s (P := C.P) (w := w) (f := f) (k := k) (xs := xs) h2
    simp only [execOp, hf.ev hx, hf.ev hy]
    cases hc : Kc f k 0 xs with
    | none =>
      rw [hc] at hfind hget
      simp only [Prod.mk.injEq] at hget
      simp [Instr.lookup, Gm h2, hfind, underlying, h1, Lx hz, Gj hb, ← hget.1]
    | some y =>
      obtain ⟨p, v⟩ := y
      rw [hc] at hfind hget
      simp only [Prod.mk.injEq] at hget
      simp [Instr.lookup, Gm h2, hfind, underlying, h1, Lx hz, Gj hb, ← hget.1]) kk
theorem Zd9 {t e : TypeId} {x y : Operand} {b : Nat} {xs : List (Str × α)} {k : Str} {z : α} {u : Value} (hm : Gc C.P t = some e) (hz : Wb C.P e = some (f z))
    (ho : ops[i]? = some ⟨some d, .lookup t x y true, ty, Zc, af, g⟩) (hg : Zk ops E g = true) (hd : Nat.ble (d + 1) C.n = true)
    (hx : ev E x = some (.map (some b))) (hy : ev E y = some (.string (bs k))) (hh : (some b, mapZO f xs) ∈ H) (hu : f (Yd z k xs) = u)
    (kk : TO C ops Q l ((d, .tuple #[u, .bool (Nd k xs)]) :: E) H) : TO C ops Q (i :: l) E H :=
  TO.val ho hg hd (by simp) (fun a w hf hi => by
    obtain ⟨kt, h1, h2⟩ := Z15 hm
    subst hu
    have hget := Z2x (f := f) (k := k) (z := z) xs 0
    have hb := hi.own _ _ hh
    have hfind := Z0s (P := C.P) (w := w) (f := f) (k := k) (xs := xs) h2
    simp only [execOp, hf.ev hx, hf.ev hy]
    cases hc : Kc f k 0 xs with
    | none =>
      rw [hc] at hfind hget
      simp only [Prod.mk.injEq] at hget
      simp [Instr.lookup, Gm h2, hfind, underlying, h1, Lx hz, Gj hb, ← hget.1, ← hget.2]
    | some y =>
      obtain ⟨p, v⟩ := y
      rw [hc] at hfind hget
      simp only [Prod.mk.injEq] at hget
      simp [Instr.lookup, Gm h2, hfind, underlying, h1, Lx hz, Gj hb, ← hget.1, ← hget.2]) kk
theorem Z69 (s : ByteArray) : Instr.sameBits 10000 (.string s) (.string s) = true := by
 show Instr.sameBits (9999 + 1) (.string s) (.string s) = true
 simp [Instr.sameBits, ba_beq]
theorem TO.mputZ {t e : TypeId} {x y v : Operand} {b : Nat} {xs : List (Str × α)} {k : Str} {u : α} {fu : Value} (hm : Gc C.P t = some e) (q0_ : ops[i]? = some ⟨none, .mapUpdate t x y v, ty, Zc, af, g⟩ ∧ Zk ops E g = true ∧ ev E x = some (.map (some b)) ∧ ev E y = some (.string (bs k)) ∧ ev E v = some fu ∧ f u = fu) (ht : Take (some b, mapZO f xs) H R)
    (kk : TO C ops Q l E ((some b, mapZO f (Yx k u xs)) :: R)) : TO C ops Q (i :: l) E H := have ⟨ho, hg, hx, hy, hv, hu⟩ := q0_;
  Kk ho hg (by simp) fun a w hf hi => by
    obtain ⟨kt, h1, h2⟩ := Z15 hm
    subst hu
    have hb := hi.own _ _ ht.mem
    have hfind := Z0s (P := C.P) (w := w) (f := f) (k := k) (xs := xs) h2
    have hput := Z4a (f := f) (k := k) (v := u) xs 0 0
    have hrun : (execOp a.eval ⟨none, .mapUpdate t x y v, ty, Zc, af, g⟩).run C.P w = .ok .skip (Go.ChangeMaps.setBlock w b (mapZO f (Yx k u xs))) := by
      simp only [execOp, hf.ev hx, hf.ev hy, hf.ev hv]
      cases hc : Kc f k 0 xs with
      | none =>
        rw [hc] at hfind hput
        simp only at hput
        simp [Instr.mapUpdate, Gm h2, hfind, underlying, h1, Gj hb, Z3j hb]
        rw [show mapZO f (Yx k u xs) = .map (Vs f 0 xs ++ [({ key := .string (bs k), val := f u, born := xs.length } : MapEntry)]).toArray (xs.length + 1) by unfold mapZO; rw [hput.1, hput.2, Nat.zero_add]]
      | some y =>
        obtain ⟨p, v'⟩ := y
        rw [hc] at hfind hput
        simp only [Nat.sub_zero] at hput
        obtain ⟨⟨o, h5, h6, h7⟩, h8, h9⟩ := hput
        simp [Instr.mapUpdate, Gm h2, hfind, underlying, h1, Gj hb, Z3j hb, h6, h7, Instr.keyThatStays, Z69]
        rw [show mapZO f (Yx k u xs) = .map ((Vs f 0 xs).modify p fun e => { e with key := .string (bs k), val := f u }).toArray xs.length by unfold mapZO; rw [h8, h9]]
    rw [hrun]
    have hsz : b < w.heap.size := (Array.getElem?_eq_some_iff.1 hb).1
    refine kk _ _ (hf.putNone _) (hi.upd ht rfl rfl rfl (by simp [Go.ChangeMaps.setBlock]) (by simp [Go.ChangeMaps.setBlock, hsz]) fun k' hk => ?_)
    simp only [Go.ChangeMaps.setBlock]
    rw [Array.getElem?_setIfInBounds_ne (fun e => hk e.symm)]
end rules
end Go.Acq
namespace Go.Acq
open Go Go.RowKit
theorem Zdp {F : Fence} {n : Nat} {P : Program} {ops : Array Oper} {Q Z : Exit → Act → World → Prop} {i : Nat} {o : Oper} {a b : Act} {w : World} {k : Act → World → Prop} (hF : ∀ f, F.fn f) (ho : ops[i]? = some o) (hnd : ∀ c, o.op ≠ .defer c)
    (hex : execOp a.eval o = execOp b.eval o) (hw : Region.wanted o (yielded ops a.tmps) = Region.wanted o (yielded ops b.tmps))
    (hZ : ∀ e x w, Z e x w → ∃ ch, e = .panic ch ∧ Q (.panic ch) a w) (h : wpOpIn F n P ops Z i (fun _ _ => False) b w) : wpOpIn F n P ops Q i k a w := by
  have hlo : LetsOut Z → False := fun ⟨x, w, h⟩ => by obtain ⟨ch, h1, -⟩ := hZ _ _ _ h; cases h1
  have hp : ∀ ch w, Z (.panic ch) b w → Q (.panic ch) a w := fun ch w h => by obtain ⟨ch', h1, h2⟩ := hZ _ _ _ h; cases h1; exact h2
  unfold wpOpIn at h ⊢
  rw [ho] at h ⊢
  simp only at h ⊢
  rw [hw]
  split
  · rename_i hwt
    rw [if_pos hwt] at h
    refine ⟨fun f _ => hF f, ?_⟩
    have h := h.2
    rw [Oper.semAt_eq _ _ _ hnd] at h ⊢
    rw [hex]
    generalize (execOp b.eval o).run P w = r at h ⊢
    cases r with
    | ok x w' =>
      cases x <;> simp only [Oper.uponIn] at h ⊢ <;>
        first
          | exact h.elim
          | exact h
          | exact ⟨h.1, CallsIn.mono h.2 (fun e w'' he => by cases e <;> first | exact hp _ _ he | exact he.elim | exact (hlo he).elim)⟩
          | exact ⟨h.1, RoundIn.mono h.2 (fun e w'' he => by cases e <;> first | exact hp _ _ he | exact he.elim | exact (hlo he).elim)⟩
          | exact ⟨h.1, RowsIn.mono h.2 (fun v w'' he => he.elim)⟩
    | halt x w' => cases x <;> simp only [Oper.uponIn] at h ⊢ <;> first | exact hp _ _ h | exact h.elim | exact (hlo h).elim
  · rename_i hwt
    rw [if_neg hwt] at h
    exact h.2.elim
def PQ (w0 : World) (M : List Nat) (R : Heap) (pv : Value) : Exit → Act → World → Prop := fun e _ w => e = .panic (Wv pv) ∧ Inv w0 M w R
section
variable {C : Cx} {ops : Array Oper} {Q : Exit → Act → World → Prop} {E : Env} {H R : Heap} {pv : Value}
theorem X.pq : X C (PQ C.w0 C.M R pv) (.panic (Wv pv)) E R := fun a w hf hi => ⟨rfl, hi⟩
theorem TQ.tailP {Z : Exit → Act → World → Prop} {c : Nat} {H0 : Heap} (hH : H0 = H) (h : TO C ops Z [c] E H) : TQ C ops (fun a => ∀ w, Inv C.w0 C.M w H → wpOpsIn (FW C.ρ) 0 C.P ops Z [c] a w) [] E H0 := fun a hf w hi => h a w hf (hH ▸ hi)
theorem Zcj {id : Nat} (l : List Nat) (c : Nat) (hm : C.P.follows .mixedOrders = true) (hb : Gd ops = true) (s1 : setB ops ops.size [] l = true) (s2 : setB ops ops.size l [c] = true)
    (s5 : ((List.range ops.size).all fun j => Nat.beq j c || l.any (Nat.beq j) || Vk ops ops.size j c) = true) (s7 : callB C.P ops c = true)
    (k : TQ C ops (fun a1 => ∀ w, Inv C.w0 C.M w H → wpOpsIn (FW C.ρ) 0 C.P ops (PQ C.w0 C.M R pv) [c] a1 w) l E H)
    (kk : X C Q (.panic (Wv pv)) [] R) : T C (.region id ops true) Q E H := by
  intro a0 w0 hf0 hi0
  have g1 := fun p i post e => Z5z (l := l) s1 p i post e
  obtain ⟨hcm, hc1, -, oc, dc, hoc, hdc, hsc, huc, hlc⟩ := Z5z (l := [c]) s2 [] c [] rfl
  have hnd : l.Nodup := Z9f fun p i post e => (g1 p i post e).2.2.1
  have hops : ∀ i, i ∈ l → i < ops.size ∧ (∃ o, ops[i]? = some o) ∧ ∃ d, Yj ops i = some d ∧ ∀ j, j < ops.size → j ≠ i → Yj ops j ≠ some d := fun i hi => by
    obtain ⟨p, post, e⟩ := List.append_of_mem hi
    obtain ⟨h1, -, -, o, d, h2, h3, h4, h5, -⟩ := g1 p i post e
    exact ⟨h1, ⟨o, h2⟩, d, h4, h5⟩
  obtain ⟨vs, hst, hend⟩ := Z89 l a0 hnd (fun i hi => (hops i hi).2.1) (k a0 hf0)
  have hbase : DoneQ ops ops.size vs a0 (fun _ => false) a0 := ⟨rfl, rfl, fun j d _ h => by simp at h, fun t _ => rfl⟩
  have hpre : ∀ p post, l = p ++ post → DoneQ ops ops.size vs a0 (fun q => p.any (Nat.beq q)) (Ux ops vs p a0) := fun p post e => by
    have := Z9c (vs := vs) p _ _ (fun i hi => by
      obtain ⟨h1, -, h2⟩ := hops i (by rw [e]; exact List.mem_append_left _ hi)
      exact ⟨h1, h2⟩) hbase
    simpa using this
  have hfull := hpre l [] (by simp)
  have hclosed : ∀ (done : Nat → Bool) (i : Nat) (o : Oper), Gh ops done → ops[i]? = some o → (∀ e, e ∈ o.after → Region.binds .any e = true → done e.on = true) → Gh ops (fun q => if q = i then true else done q) := by
    intro done i o hc ho hd j o' ho' hj e he hbe
    show (if e.on = i then true else done e.on) = true
    by_cases hei : e.on = i
    · rw [if_pos hei]
    · rw [if_neg hei]
      by_cases hji : j = i
      · subst hji; rw [ho] at ho'; injection ho' with ho'; subst ho'; exact hd e he hbe
      · have hj' : done j = true := by simpa [hji] using hj
        exact hc j o' ho' hj' e he hbe
  refine wpIn_region_any hm (Z8h (J := fun done a w => Gh ops done ∧ done c = false ∧ DoneQ ops ops.size vs a0 done a ∧ Inv C.w0 C.M w H)
    hb ?_ ?_ ops.size (Array.replicate ops.size false) a0 _ (by simp) ?_ ?_)
  · rintro done i o a w ho hdi hd ⟨hc, hdc', hD, hinv⟩
    have hi : i < ops.size := (Array.getElem?_eq_some_iff.1 ho).1
    have hreach : ∀ j, Vk ops ops.size i j = true → done j = true := fun j hj => Nw hc _ i j hj (fun o' ho' => by rw [ho] at ho'; injection ho' with ho'; subst ho'; exact hd)
    have hcl := hclosed done i o hc ho hd
    by_cases hic : i = c
    · subst hic
      rw [hoc] at ho; injection ho with ho; subst ho
      obtain ⟨o', f, xs, ho', hnd, hns, hrun⟩ := Zcd (a := Ux ops vs l a0) (w := w) s7
      rw [hoc] at ho'; injection ho' with ho'; subst ho'
      have hw := hend w hinv
      rw [wpOpsIn_cons] at hw
      obtain ⟨hev, hwt⟩ := Z5s hD hfull (o := oc) (fun t htl j hj hsj => by
        obtain ⟨h1, h2⟩ := hlc t htl j hj hsj
        have : j ∈ l := by exact h1.elim (fun h1 => h1) (fun h1 => by simp at h1)
        exact ⟨hreach j h2, any_mem.2 this⟩)
      refine Zdp (Z := PQ C.w0 C.M R pv) (fun _ => trivial) hoc hnd (execOp_congr oc hns hev) hwt ?_ (wpOpIn_mono (fun a' w' h => by cases h.1) hw)
      rintro e x w' ⟨rfl, hi'⟩
      exact ⟨_, rfl, kk a w' ⟨hD.size.trans hf0.size, hD.defers.trans hf0.defers, fun t v h => by simp [find] at h⟩ hi'⟩
    by_cases hil : i ∈ l
    · obtain ⟨p, post, e⟩ := List.append_of_mem hil
      obtain ⟨him, -, -, o', d, ho', hd', hs, hu, hl⟩ := g1 p i post e
      rw [ho] at ho'; injection ho' with ho'; subst ho'
      obtain ⟨o', ho', hnd', hns', hval⟩ := hst p i post e
      rw [ho] at ho'; injection ho' with ho'; subst ho'
      obtain ⟨hev, hwt⟩ := Z5s hD (hpre p (i :: post) e) (o := o) (fun t htl j hj hsj => by
        obtain ⟨h1, h2⟩ := hl t htl j hj hsj
        have hjp : j ∈ p := by exact h1.elim (fun h1 => by simp at h1) (fun h1 => h1)
        exact ⟨hreach j h2, any_mem.2 hjp⟩)
      have hput := hD.put him hs hu
      have dci : (if c = i then true else done c) = false := by rw [if_neg (fun h => hic h.symm)]; exact hdc'
      have hex := execOp_congr o hns' hev
      unfold wpOpIn
      rw [ho]
      simp only
      rw [hwt]
      rcases hval with ⟨hw, hq⟩ | ⟨hw, hq⟩
      · rw [hw]
        simp only [if_true]
        refine ⟨fun _ _ => trivial, ?_⟩
        rw [Oper.semAt_eq _ _ _ hnd', hex]
        have hq := hq w hinv
        generalize (execOp (Ux ops vs p a0).eval o).run C.P w = r at hq
        cases r with
        | ok x w' =>
          cases x <;> simp only [Gb] at hq
          case value u =>
            obtain ⟨rfl, rfl⟩ := hq
            show _ ∧ _
            refine ⟨hcl, dci, ?_, hinv⟩
            rw [hd']; exact hput
          case enter f args =>
            obtain ⟨rfl, hcall⟩ := hq
            refine ⟨by simp [FW], callsIn_FW.2 (Calls.mono hcall ?_)⟩
            rintro e w'' ⟨rfl, hK⟩
            show _ ∧ _
            refine ⟨hcl, dci, ?_, hK⟩
            rw [hd']; exact hput
        | halt x w' => simp only [Gb] at hq
      · rw [hw]
        simp only [Bool.false_eq_true, if_false]
        refine ⟨fun _ _ => trivial, hcl, dci, ?_, hinv⟩
        rw [hd', ← hq]; exact hput
    · exfalso
      have := List.all_eq_true.1 s5 i (List.mem_range.2 hi)
      simp only [Bool.or_eq_true] at this
      rcases this with (h | h) | h
      · exact hic (Nat.eq_of_beq_eq_true h)
      · exact hil (any_mem.1 h)
      · rw [hreach c h] at hdc'; cases hdc'
  · rintro done a w hall ⟨hc, h1, -⟩
    rw [hall c hcm] at h1; cases h1
  · have : ((List.range ops.size).filter (fun i => !(Array.replicate ops.size false).getD i true)).length ≤ (List.range ops.size).length := List.length_filter_le _ _
    simpa using this
  · have hf : (fun q => (Array.replicate ops.size false).getD q false) = fun _ => false := by
      funext q
      simp only [Array.getD_eq_getD_getElem?, Array.getElem?_replicate]
      split <;> rfl
    rw [hf]
    exact ⟨fun i o _ h => by simp at h, rfl, hbase, hi0.ofHeap rfl rfl rfl rfl⟩
end
end Go.Acq
namespace Go.Acq
open Go Go.RowKit
section rules
variable {C : Cx} {ops : Array Oper} {Q : Exit → Act → World → Prop} {l : List Nat} {E : Env} {H R : Heap} {i d : Nat} {ty : TypeId} {Zc : String} {af : Array Edge} {g : Option (Nat × Bool)}
variable {α : Type} {f : α → Value}
theorem Kx {t e : TypeId} {x y v : Operand} {b : Nat} {xs : List (Str × α)} {k : Str} {u : α} {fu : Value} {xs' : List (Str × α)} (hm : Gc C.P t = some e) (hu : f u = fu) (he : Yx k u xs = xs')
    (q0_ : ops[i]? = some ⟨none, .insert t x y v, ty, Zc, af, g⟩ ∧ Zk ops E g = true ∧ ev E x = some (.map (some b)) ∧ ev E y = some (.string (bs k)) ∧ ev E v = some fu) (ht : Take (some b, mapZO f xs) H R)
    (kk : TO C ops Q l E ((some b, mapZO f xs') :: R)) : TO C ops Q (i :: l) E H := have ⟨ho, hg, hx, hy, hv⟩ := q0_;
  Kk ho hg (by simp) fun a w hf hi => by
    obtain ⟨kt, h1, h2⟩ := Z15 hm
    subst hu
    subst he
    have hb := hi.own _ _ ht.mem
    have hfind := Z0s (P := C.P) (w := w) (f := f) (k := k) (xs := xs) h2
    have hput := Z4a (f := f) (k := k) (v := u) xs 0 0
    have hrun : (execOp a.eval ⟨none, .insert t x y v, ty, Zc, af, g⟩).run C.P w = .ok .skip (Go.ChangeMaps.setBlock w b (mapZO f (Yx k u xs))) := by
      simp only [execOp, hf.ev hx, hf.ev hy, hf.ev hv]
      cases hc : Kc f k 0 xs with
      | none =>
        rw [hc] at hfind hput
        simp only at hput
        simp [Instr.mapUpdate, Gm h2, hfind, underlying, h1, Gj hb, Z3j hb]
        rw [show mapZO f (Yx k u xs) = .map (Vs f 0 xs ++ [({ key := .string (bs k), val := f u, born := xs.length } : MapEntry)]).toArray (xs.length + 1) by unfold mapZO; rw [hput.1, hput.2, Nat.zero_add]]
      | some y =>
        obtain ⟨p, v'⟩ := y
        rw [hc] at hfind hput
        simp only [Nat.sub_zero] at hput
        obtain ⟨⟨o, h5, h6, h7⟩, h8, h9⟩ := hput
        simp [Instr.mapUpdate, Gm h2, hfind, underlying, h1, Gj hb, Z3j hb, h6, h7, Instr.keyThatStays, Z69]
        rw [show mapZO f (Yx k u xs) = .map ((Vs f 0 xs).modify p fun e => { e with key := .string (bs k), val := f u }).toArray xs.length by unfold mapZO; rw [h8, h9]]
    rw [hrun]
    have hsz : b < w.heap.size := (Array.getElem?_eq_some_iff.1 hb).1
    refine kk _ _ (hf.putNone _) (hi.upd ht rfl rfl rfl (by simp [Go.ChangeMaps.setBlock]) (by simp [Go.ChangeMaps.setBlock, hsz]) fun k' hk => ?_)
    simp only [Go.ChangeMaps.setBlock]
    rw [Array.getElem?_setIfInBounds_ne (fun e => hk e.symm)]
theorem Z33 {t e : TypeId} {x y : Operand} {b : Nat} {xs : List (Str × α)} {k : Str} {z : α} {u : Value} {bb : Bool} (hm : Gc C.P t = some e) (hz : Wb C.P e = some (f z))
    (q0_ : ops[i]? = some ⟨some d, .lookup t x y true, ty, Zc, af, g⟩ ∧ Zk ops E g = true ∧ Nat.ble (d + 1) C.n = true ∧ ev E x = some (.map (some b)) ∧ ev E y = some (.string (bs k))) (hh : (some b, mapZO f xs) ∈ H) (hu : f (Yd z k xs) = u) (hb : Nd k xs = bb)
    (kk : TO C ops Q l ((d, .tuple #[u, .bool bb]) :: E) H) : TO C ops Q (i :: l) E H := have ⟨ho, hg, hd, hx, hy⟩ := q0_;
  Zd9 (z := z) hm hz ho hg hd hx hy hh hu (hb ▸ kk)
end rules
end Go.Acq
namespace Go.Acq
open Go Go.RowKit
abbrev WideI (P : Program) : Machine → Prop := Machine.fenced P Fence.wide
theorem Zem {P : Program} {ρ : Option Nat} {n l : Nat} {f : FuncId} {fn : Func} {tmps : Array Value} {assign body : Code} {w : World} {R : Ending → World → Prop} (hf : P.funcs[f]? = some fn)
    (h : assign.wpIn (FW (some l)) n P (fun e a₁ w₁ => e = .normal ∧ ∃ w₂, (Instr.beginRound l).run P w₁ = .ok () w₂ ∧ body.wpIn (FW (some l)) n P (fun e a w => ∃ ch, e = .panic ch ∧ a.defers = [] ∧ R (.panicked ch) w) a₁ w₂) { tmps := tmps, defers := [] } w) :
    RoundIn (FW ρ) n P l f tmps assign body w R := by
  refine ⟨trivial, fun c cs hr => ?_⟩
  have hwide : ∀ m, (FW ρ).fn m := fun _ => trivial
  obtain ⟨b, hb⟩ : ∃ b : Frame, b = { (default : Frame) with fn := f, kind := .normal, roundOf := some l } := ⟨_, rfl⟩
  have hro : b.roundOf = some l := by rw [hb]
  have hfn : b.fn = f := by rw [hb]
  have e0 : Frame.round l f tmps assign body .normal = b.atR { tmps := tmps, defers := [] } [.code assign, .beginRound, .code body] := by
    rw [hb]; simp [Frame.round, Frame.atR]
  have room : ∀ k, (FW (some l)).room k := fun k d hd => by cases hd
  obtain ⟨e, a₁, w₁, ⟨rfl, w₂, hbr, hbody⟩, h1⟩ := h b [.beginRound, .code body] (c :: cs) hro trivial (room _)
  obtain ⟨e, a₂, w₃, ⟨ch, rfl, hd, hR⟩, todo, h2⟩ := hbody b [] (c :: cs) hro trivial (room _)
  refine ⟨.panicked ch, w₃, hR, ?_⟩
  rw [e0]
  have s1 : StepsIn (Machine.fenced P (FW (some l))) P (lone (b.atR a₁ [.beginRound, .code body]) (c :: cs) w₁) (lone (b.atR a₁ [.code body]) (c :: cs) w₂) :=
    .one (fenced_calm (n := 0) (fr := b.atR a₁ [.beginRound, .code body]) trivial (room _) rfl) (stepR_beginRound hro hbr)
  have hl : Frame.leaving P { b.atR a₂ todo with mode := .panicking ch } w₃ (.panicked ch) := ⟨rfl, hd, fn, by show P.funcs[b.fn]? = _; rw [hfn]; exact hf⟩
  exact (StepsIn.trans h1 s1).trans (StepsIn.trans h2 (.one (fenced_leaving (n := 0) trivial (room _) hl) (step_leave_panicked hl)))
def YCP {S V : Type} (P : Program) (l : Nat) (pv : Value) (en : World → List Nat → V → List Value → Prop) (y : S → V → Option (S ⊕ Unit)) (J : S ⊕ Unit → Heap → Prop) (EE : Heap → Prop) (w : World) (M : List Nat) : Prop :=
  ∀ (s : S) (v : V) (r : S ⊕ Unit), y s v = some r → ∀ (w' : World) (Hs HE : Heap) (vals : List Value), J (.inl s) Hs → EE HE → Inv w M w' (Hs ++ HE) → en w' (ids (Hs ++ HE)) v vals →
    YieldAt (FW none) 0 P l vals.toArray w' fun e w'' => match r with
      | .inl s' => ∃ Hs', J (.inl s') Hs' ∧ e = .returned (.bool true) ∧ Inv w' (ids (Hs ++ HE)) w'' (Hs' ++ HE)
      | .inr _ => e = .panicked (Wv pv) ∧ Inv w' (ids (Hs ++ HE)) w'' []
section rules
variable {C : Cx} {ops : Array Oper} {Q : Exit → Act → World → Prop} {l : List Nat} {E : Env} {H R : Heap} {i d : Nat} {ty : TypeId} {Zc : String} {af : Array Edge} {g : Option (Nat × Bool)}
theorem Z9s {S V : Type} {lp : Nat} {pv : Value} {en : World → List Nat → V → List Value → Prop} {y : S → V → Option (S ⊕ Unit)} {J : S ⊕ Unit → Heap → Prop} {EE : Heap → Prop} {x : Operand} {xs : Array Operand} {at' : Array TypeId} {t r : S ⊕ Unit} {v : V} {vals : List Value} {Ho HE Hs : Heap}
    (hY : YCP C.P lp pv en y J EE C.w0 C.M) (hr : Rm y t v = some r) (hJ : J t Hs) (hE : EE HE)
    (q0_ : ops[i]? = some ⟨some d, .call ⟨.value x, xs, at'⟩, ty, Zc, af, g⟩ ∧ Zk ops E g = true ∧ Nat.ble (d + 1) C.n = true ∧ ev E x = some (.func (.yield lp) #[] #[]) ∧ Wx E xs.toList = some vals) (hH : List.Perm H (HE ++ R)) (hR : R = Ho ++ Hs)
    (hen : ∀ w, Inv C.w0 C.M w H → List.Perm H ((Hs ++ HE) ++ Ho) → en w (ids (Hs ++ HE)) v vals)
    (kp : r = .inr () → X C Q (.panic (Wv pv)) E Ho)
    (kk : ∀ Hs', J r Hs' → TO C ops Q l ((d, .bool r.isLeft) :: E) (HE ++ (Ho ++ Hs'))) : TO C ops Q (i :: l) E H := by
  obtain ⟨ho, hg, hd, hx, hxs⟩ := q0_
  obtain ⟨s, rfl, hys⟩ := Zas hr
  refine Kk ho hg (by simp) fun a w hf hi => ?_
  subst hR
  have hpm : ∀ Hx : Heap, List.Perm (HE ++ (Ho ++ Hx)) ((Hx ++ HE) ++ Ho) := fun Hx => by
    rw [← List.append_assoc, List.append_assoc Hx]
    exact List.perm_append_comm
  have hi' := hi.perm (hH.trans (hpm Hs))
  obtain ⟨fn, tmps, assign, body, hrun, hround⟩ := hY s v r hys w Hs HE vals hJ hE hi'.left (hen w hi (hH.trans (hpm Hs)))
  have e1 : xs.map a.eval = vals.toArray := by apply Array.ext'; simpa using Jh hf hxs
  have : (execOp a.eval ⟨some d, .call ⟨.value x, xs, at'⟩, ty, Zc, af, g⟩).run C.P w = .ok (.round lp fn tmps assign body) w := by
    simp [execOp, resolve, Deferred.ofValue, invoke, hf.ev hx, e1, hrun]
  rw [this]
  rw [Oper.uponIn_round]
  have hround' : RoundIn (FW C.ρ) (0 - 1) C.P lp fn tmps assign body w _ := hround
  refine ⟨by simp [FW], hround'.mono ?_⟩
  intro e w' hR
  cases r with
  | inl s' =>
    obtain ⟨Hs', hJ', rfl, hi2⟩ := hR
    have hk := kk Hs' hJ'
    unfold TO at hk
    exact hk _ _ (hf.put hd _) (((hi'.join (List.Perm.refl _) (fun m hm => hm) hi2)).perm (hpm Hs').symm)
  | inr u =>
    obtain ⟨rfl, hi2⟩ := hR
    exact kp rfl a w' hf (by simpa using hi'.join (List.Perm.refl _) (fun m hm => hm) hi2)
theorem Z91 {α : Type} {fn : Func} {w0 : World} {M : List Nat} {pv : Value} {u : Unit} {Post : α → Value → Heap → Prop} (q0_ : C.w0 = w0 ∧ C.M = M ∧ C.D = []) :
    X C (bodyPost C.P fn (FncSR w0 M pv Post (.inr u))) (.panic (Wv pv)) E H := have ⟨hw, hMM, hD⟩ := q0_; Xq ⟨hw, hMM, hD⟩
end rules
def RQP {S : Type} (J : S → Heap → Prop) (pv : Value) (r : S ⊕ Unit) (w0 : World) (M : List Nat) : Exit → Act → World → Prop
  | .normal, _, w => ∃ s Hs, r = .inl s ∧ J s Hs ∧ Inv w0 M w Hs
  | .panic ch, a, w => r = .inr () ∧ ch = Wv pv ∧ a.defers = [] ∧ Inv w0 M w []
  | _, _, _ => False
theorem X.rpNext {C : Cx} {E : Env} {H : Heap} {S : Type} {J : S → Heap → Prop} {pv : Value} {r : S ⊕ Unit} {w0 : World} {M : List Nat} {s : S} {Hs : Heap} (h : some (Sum.inl s) = some r) (q0_ : C.w0 = w0 ∧ C.M = M) (hJ : J s Hs) (hp : Pick Hs H) :
    X C (RQP J pv r w0 M) .normal E H := have ⟨hw, hMM⟩ := q0_; fun _ _ _ hi => ⟨s, Hs, by injection h with h; exact h.symm, hJ, by rw [← hw, ← hMM]; exact hi.pick hp⟩
theorem X.rpPan {C : Cx} {E : Env} {H : Heap} {S : Type} {J : S → Heap → Prop} {pv : Value} {r : S ⊕ Unit} {w0 : World} {M : List Nat} {u : Unit} (h : some (Sum.inr u) = some r) (q0_ : C.w0 = w0 ∧ C.M = M ∧ C.D = []) :
    X C (RQP J pv r w0 M) (.panic (Wv pv)) E H := have ⟨hw, hMM, hD⟩ := q0_; fun _ _ hf hi => ⟨by injection h with h; exact h.symm, rfl, hf.defers.trans hD, by rw [← hw, ← hMM]; exact hi.pick Zi⟩
def AtF (f : FuncId) (P : Program) (c : Code) (Q : Exit → Act → World → Prop) (a : Act) (w : World) : Prop :=
  ∀ (b : Frame) (k : List Item) (cs : List Frame), b.fn = f → b.roundOf = none → ∃ e a' w', Q e a' w' ∧ ArrivesIn (WideI P) P (lone (b.atR a (.code c :: k)) cs w) b k cs e a' w'
def TA (C : Cx) (f : FuncId) (c : Code) (Q : Exit → Act → World → Prop) (E : Env) (H : Heap) : Prop := ∀ a w, Fits C.n C.D E a → Inv C.w0 C.M w H → AtF f C.P c Q a w
section control
variable {C : Cx} {f : FuncId} {Q : Exit → Act → World → Prop} {E : Env} {H H' : Heap} {x y : Code}
theorem Jo (hρ : C.ρ = none) (h : T C x Q E H) : TA C f x Q E H := fun a w hf hi b k cs _ hro => h a w hf hi b k cs (hro.trans hρ.symm) trivial (fun d hd => by cases hd)
theorem AtF.seq {P : Program} {a : Act} {w : World} (h : AtF f P x (Exit.then (fun a w => AtF f P y Q a w) Q) a w) : AtF f P (.seq x y) Q a w := by
 intro b k cs hb hro
 have i0 : (lone (b.atR a (.code (.seq x y) :: k)) cs w).fenced P Fence.wide := fenced_wide P _
 obtain ⟨e, a₁, w₁, hq, harr⟩ := h b (.code y :: k) cs hb hro
 have keep : ∀ e, e ≠ .normal → ArrivesIn (WideI P) P (lone (b.atR a (.code x :: .code y :: k)) cs w) b (.code y :: k) cs e a₁ w₁ → ArrivesIn (WideI P) P (lone (b.atR a (.code (.seq x y) :: k)) cs w) b k cs e a₁ w₁ :=
  fun e he harr => .of_steps (.one i0 stepR_seq) (.pass (x := .code y) rfl (fun _ _ => .inl he) harr)
 cases e with
 | normal =>
  obtain ⟨e₂, a₂, w₂, hq₂, harr₂⟩ := hq b k cs hb hro
  exact ⟨e₂, a₂, w₂, hq₂, .of_steps (.head i0 stepR_seq harr) harr₂⟩
 | exit id => exact ⟨_, a₁, w₁, hq, keep _ (by simp) harr⟩
 | goto l => exact ⟨_, a₁, w₁, hq, keep _ (by simp) harr⟩
 | ret => exact ⟨_, a₁, w₁, hq, keep _ (by simp) harr⟩
 | panic ch => exact ⟨_, a₁, w₁, hq, keep _ (by simp) harr⟩
 | outgrown => exact ⟨_, a₁, w₁, hq, keep _ (by simp) harr⟩
theorem TA.seq (h : TA C f x (Exit.then (fun a w => AtF f C.P y Q a w) Q) E H) : TA C f (.seq x y) Q E H := fun a w hf hi => AtF.seq (h a w hf hi)
theorem Li {P : Program} (hP : C.P = P) (h : TA C f y Q E H) : X C (Exit.then (fun a w => AtF f P y Q a w) Q) .normal E H := fun a w hf hi => by subst hP; exact h a w hf hi
theorem AtF.rangeFunc {P : Program} {g : Operand} {ps : Array Tmp} {assign body : Code} {a : Act} {w : World} {l : Nat} {mark : List Deferred} {w₁ : World} {d : Deferred} {fc : FuncId} {args : Array Value}
    (he : (Instr.enterLoop f a.tmps ps assign body none).run P w = .ok (l, mark) w₁) (hres : (resolve a.eval (rangeCall g l) 0).run P w₁ = .ok d w₁) (hinv : (invoke d.target d.args).run P w₁ = .ok (.enter fc args) w₁)
    (hc : Calls P fc args w₁ fun e w₃ => match e with
      | .returned _ => ∃ w₄, (Instr.endLoop l).run P w₃ = .ok none w₄ ∧ Q .normal { a with defers := mark ++ a.defers } w₄
      | .panicked ch => Q (.panic ch) { a with defers := mark ++ a.defers } w₃
      | .outgrown => False) : AtF f P (.rangeFunc g ps assign body) Q a w := by
  intro b k cs hb hro
  rw [← hb, ← hro] at he
  have s0 := stepR_rangeFunc (P := P) (b := b) (a := a) (k := k) (cs := cs) (w := w) he hres hinv
  obtain ⟨e, w₃, fr, hR, hs, -, hl⟩ := hc (b.atR { a with defers := mark ++ a.defers } (.inRangeFunc l :: k) :: cs)
  cases e with
  | outgrown => exact hR.elim
  | returned v =>
    obtain ⟨w₄, hend, hq⟩ := hR
    have s1 := step_leave_returned (c := b.atR { a with defers := mark ++ a.defers } (.inRangeFunc l :: k)) (cs := cs) hl
    rw [finish_atR_inRangeFunc] at s1
    have s2 := stepR_endRangeFunc (P := P) (b := b) (a := { a with defers := mark ++ a.defers }) (k := k) (cs := cs) hend
    refine ⟨.normal, _, w₄, hq, ?_⟩
    exact stepsIn_wide.2 (.head s0 (Steps.trans hs (.head s1 (.one s2))))
  | panicked ch =>
    have s1 := step_leave_panicked (c := b.atR { a with defers := mark ++ a.defers } (.inRangeFunc l :: k)) (cs := cs) hl
    rw [Frame.raise_atR] at s1
    exact ⟨.panic ch, _, w₃, hR, .inRangeFunc l :: k, stepsIn_wide.2 (.head s0 (Steps.trans hs (.one s1)))⟩
theorem Zb2 {S V : Type} (hρ : C.ρ = none) {fnf : Func} (hfn : C.P.funcs[f]? = some fnf) {gop : Operand} {ps : Array Tmp} {assign body : Code} {fi : FuncId} {fs cs : Array Value} (hF : Zz C.P fi = true) (hg : ev E gop = some (.func (.func fi) fs cs))
    (hps : ps.toList.all (fun p => Nat.ble (p + 1) C.n) = true) (pv : Value) (en : World → List Nat → V → List Value → Prop) (hlen : ∀ w M v vals, en w M v vals → vals.length = ps.size)
    (y : S → V → Option (S ⊕ Unit)) (J : S → Heap → Prop) (EE EO : Heap → Prop) (s0 : S) (t : S ⊕ Unit) (Hs0 HE0 R : Heap) (hJ : J s0 Hs0) (hH : Pick ((Hs0 ++ HE0) ++ R) H)
    (it : ∀ (lp : Nat) (w : World) (J' : S ⊕ Unit → Heap → Prop) (H0 : Heap), (∀ u Hs, ¬ J' (.inr u) Hs) → J' (.inl s0) H0 → Inv w (ids (H0 ++ HE0)) w (H0 ++ HE0) → YCP C.P lp pv en y J' EE w (ids (H0 ++ HE0)) → ∀ lo, Inv C.w0 C.M w (((some lp, lo) :: (Hs0 ++ HE0)) ++ R) → H0 = (some lp, lo) :: Hs0 →
      FncS C.P fi (fs ++ #[.func (.yield lp) #[] #[]] ++ cs) w (ids (H0 ++ HE0)) pv t (fun s v N => v = .tuple #[] ∧ ∃ HE' Hs', N = HE' ++ Hs' ∧ J' (.inl s) Hs' ∧ EO HE'))
    (round : ∀ (lp : Nat) (w' : World) (s : S) (v : V) (r : S ⊕ Unit) (Hs HE : Heap) (vals : List Value), y s v = some r → J s Hs → EE HE → en w' (ids ((some lp, mkO) :: (Hs ++ HE))) v vals → Inv w' (ids (Hs ++ HE)) w' (Hs ++ HE) → Inv C.w0 C.M w' ((Hs ++ HE) ++ R) →
      T ⟨C.P, some lp, C.n, [], w', ids (Hs ++ HE)⟩ assign (AQX C.n w' (ids (Hs ++ HE)) fun E1 H1 => ∀ w2, Inv w2 (ids H1) w2 H1 → Inv C.w0 C.M w2 (H1 ++ R) → Inv w' (ids ((some lp, mkO) :: (Hs ++ HE))) w2 H1 → T ⟨C.P, some lp, C.n, [], w2, ids H1⟩ body (RQP (fun s Hq => ∃ Hq', Hq = Hq' ++ HE ∧ J s Hq') pv r w2 (ids H1)) E1 H1) (putPs ps.toList vals E) (Hs ++ HE))
    (next : ∀ s, t = .inl s → ∀ rr Hs HE, J s Hs → EO HE → Acq.X { C with D := mkD rr :: C.D } Q .normal E ((Hs ++ HE) ++ ((some rr, mkO) :: R)))
    (pan : t = .inr () → ∀ rr, Acq.X { C with D := mkD rr :: C.D } Q (.panic (Wv pv)) E ((some rr, mkO) :: R)) :
    TA C f (.rangeFunc gop ps assign body) Q E H := by
  intro a w hf hi0
  have hi := hi0.pick hH
  obtain ⟨rr, hrr⟩ : ∃ rr, w.heap.size = rr := ⟨_, rfl⟩
  obtain ⟨wa, hwa⟩ : ∃ wa, w.alloc mkO = wa := ⟨_, rfl⟩
  obtain ⟨lp, hlp⟩ : ∃ lp, wa.heap.size = lp := ⟨_, rfl⟩
  obtain ⟨lo, hlo⟩ : ∃ lo, recO f a.tmps ps assign body rr .ready none = lo := ⟨_, rfl⟩
  obtain ⟨wb, hwb⟩ : ∃ wb, wa.alloc lo = wb := ⟨_, rfl⟩
  have hia : Inv C.w0 C.M wa ((some rr, mkO) :: ((Hs0 ++ HE0) ++ R)) := by rw [← hwa, ← hrr]; exact hi.alloc mkO
  have hib : Inv C.w0 C.M wb ((some lp, lo) :: (some rr, mkO) :: ((Hs0 ++ HE0) ++ R)) := by rw [← hwb, ← hlp]; exact hia.alloc lo
  have hlp2 : w.heap.size + 1 = lp := by rw [← hlp, ← hwa]; exact (World.size_alloc ..).symm
  have hib' : Inv C.w0 C.M wb (((some lp, lo) :: (Hs0 ++ HE0)) ++ ((some rr, mkO) :: R)) := hib.perm (by
    rw [List.cons_append]
    exact List.Perm.cons _ List.perm_middle.symm)
  have h2 : a.eval gop = .func (.func fi) fs cs := hf.ev hg
  have h3 : ∀ v, a.eval (.const v) = v := fun _ => rfl
  refine AtF.rangeFunc (l := lp) (mark := [mkD rr]) (w₁ := wb) (d := { target := .fn (.func fi) cs, args := fs.push (.func (.yield lp) #[] #[]) }) (fc := fi) (args := fs ++ #[.func (.yield lp) #[] #[]] ++ cs) ?_ ?_ ?_ ?_
  · rw [run_enterLoop_outer, ← hwb, ← hlo, ← hwa, ← hlp2, ← hrr]
  · simp [resolve, Deferred.ofValue, h2, h3]
  · show (callFunc fi (fs.push (.func (.yield lp) #[] #[]) ++ cs)).run C.P wb = _
    rw [Array.push_eq_append]
    exact Kr hF _ _
  · have hfa : Fits C.n (mkD rr :: C.D) E { a with defers := [mkD rr] ++ a.defers } := ⟨hf.size, by simp [hf.defers], hf.get⟩
    have hcall := it lp wb (fun r Hx => match r with | .inl s => ∃ Hs, Hx = (some lp, recO f a.tmps ps assign body rr .ready none) :: Hs ∧ J s Hs | .inr _ => False) ((some lp, lo) :: Hs0) (fun _ _ h => h)
      ⟨Hs0, by rw [← hlo], hJ⟩ (hib'.left.self (Zv _) rfl) ?_ lo (hib'.pick (by
        refine Rv (S := [(some rr, mkO)]) ?_
        rw [List.append_assoc]
        exact List.Perm.append_left _ (List.perm_append_singleton _ _).symm)) rfl
    · refine Calls.mono hcall ?_
      intro e w3 hR
      cases t with
      | inr u =>
        obtain ⟨rfl, hi3⟩ := hR
        have hj3 := hib'.join (M' := ids ((some lp, lo) :: (Hs0 ++ HE0))) (List.Perm.refl _) (fun m hm => hm) hi3
        exact pan rfl rr _ _ hfa (by simpa using hj3)
      | inl s =>
        obtain ⟨v, N, ⟨rfl, HE3, Hq3, rfl, ⟨Hs3, rfl, hJ3⟩, hE3⟩, rfl, hi3⟩ := hR
        have hi3 := hi3.perm List.perm_append_comm
        have hj3 := hib'.join (M' := ids ((some lp, lo) :: (Hs0 ++ HE0))) (List.Perm.refl _) (fun m hm => hm) hi3
        have hl3 := hj3.own lp _ (.head _)
        have hput := hj3.put (recO f a.tmps ps assign body rr .exhausted none)
        have hpk : Pick ((Hs3 ++ HE3) ++ ((some rr, mkO) :: R)) ((some lp, recO f a.tmps ps assign body rr .exhausted none) :: ((Hs3 ++ HE3) ++ ((some rr, mkO) :: R))) := Pick.skip (Zv _)
        exact ⟨_, run_endLoop hl3 (by simp), next s rfl rr Hs3 HE3 hJ3 hE3 _ _ hfa (hput.pick hpk)⟩
    · rintro s v r hys w' Hx HE vals ⟨Hs1, rfl, hJs⟩ hE hi' hen
      obtain ⟨Hs, hHs⟩ : ∃ Hs, Hs1 ++ HE = Hs := ⟨_, rfl⟩
      have hi' : Inv wb (ids ((some lp, lo) :: (Hs0 ++ HE0))) w' ((some lp, recO f a.tmps ps assign body rr .ready none) :: Hs) := by rw [← hHs]; exact hi'
      have hlw := hi'.own lp _ (.head _)
      have hout := hib'.join (M' := ids ((some lp, lo) :: (Hs0 ++ HE0))) (List.Perm.refl _) (fun m hm => hm) hi'
      have hself := hi'.self (Hm := Hs) (Pick.skip (Zv _)) rfl
      have houtH : Inv C.w0 C.M w' (Hs ++ R) := hout.pick (by
        refine Pick.skip ?_
        refine Rv (S := [(some rr, mkO)]) ?_
        rw [List.append_assoc]
        exact List.Perm.append_left _ (List.perm_append_singleton _ _).symm)
      have hasg := round lp w' s v r Hs1 HE vals hys hJs hE hen (by rw [hHs]; exact hself) (by rw [hHs]; exact houtH)
      rw [hHs] at hasg
      refine ⟨_, _, _, _, run_yield hlw (by simp [hlen _ _ _ _ hen]), ?_⟩
      have hf0 : Fits C.n [] E { tmps := a.tmps, defers := [] } := ⟨hf.size, rfl, hf.get⟩
      have hf1 := Z87 (vs := vals) hps hf0
      have hw0 := hasg _ w' hf1 hself
      have hrw : (ps.zip vals.toArray).foldl (fun tmps (t, a) => tmps.setIfInBounds t a) a.tmps = (ps.toList.zip vals).foldl (fun tmps (t, a) => tmps.setIfInBounds t a) a.tmps := by
        rw [← Array.foldl_toList]; simp
      rw [hrw]
      have hall := (hi'.self (Zv _) rfl)
      have beg : ∀ (a1 : Act) (w1 : World) (H1 : Heap), Inv w' (ids Hs) w1 H1 →
          (Instr.beginRound lp).run C.P w1 = .ok () (w1.putObj lp (recO f a.tmps ps assign body rr .busy none)) ∧ Inv w' (ids ((some lp, recO f a.tmps ps assign body rr .ready none) :: Hs)) (w1.putObj lp (recO f a.tmps ps assign body rr .busy none)) ((some lp, recO f a.tmps ps assign body rr .busy none) :: H1) ∧
            Inv C.w0 C.M (w1.putObj lp (recO f a.tmps ps assign body rr .busy none)) (H1 ++ R) := fun a1 w1 H1 hia1 => by
        have hall1 := hall.join (Hm := Hs) (R := [(some lp, recO f a.tmps ps assign body rr .ready none)]) (M' := ids Hs) ((List.perm_append_singleton _ _).symm) (fun m hm => hm) hia1
        have hall1 := hall1.perm (List.perm_append_singleton _ _)
        have hl1 := hall1.own lp _ (.head _)
        have hb1 := hall1.put (recO f a.tmps ps assign body rr .busy none)
        have hout1 := hout.join (M' := ids ((some lp, recO f a.tmps ps assign body rr .ready none) :: Hs)) (List.Perm.refl _) (fun m hm => hm) hall1
        have hout2 := hout1.put (recO f a.tmps ps assign body rr .busy none)
        exact ⟨run_beginRound hl1 rfl, hb1, hout2.pick (by
          refine Pick.skip ?_
          refine Rv (S := [(some rr, mkO)]) ?_
          rw [List.append_assoc]
          exact List.Perm.append_left _ (List.perm_append_singleton _ _).symm)⟩
      cases r with
      | inr u =>
        refine Zem hfn ?_
        refine wpIn_mono (F := FW (some lp)) hw0 ?_
        rintro e a1 w1 ⟨rfl, E1, H1, hfa, hia1, hbody⟩
        obtain ⟨hbr, hb1, hout2⟩ := beg a1 w1 H1 hia1
        have hs2 := hb1.self (Hm := H1) (Pick.skip (Zv _)) rfl
        refine ⟨rfl, _, hbr, ?_⟩
        have hwp := hbody _ hs2 hout2 (hb1.pick (H' := H1) (Pick.skip (Zv _))) a1 _ hfa hs2
        refine wpIn_mono (F := FW (some lp)) hwp ?_
        intro e a3 w3 hq
        cases e with
        | panic ch =>
          obtain ⟨-, rfl, hd, hi3⟩ := hq
          refine ⟨_, rfl, hd, rfl, ?_⟩
          have h2 := hb1.join (Hm := H1) (R := [(some lp, recO f a.tmps ps assign body rr .busy none)]) (M' := ids H1) ((List.perm_append_singleton _ _).symm) (fun m hm => hm) hi3
          have h2 := h2.pick Zi
          rw [← hHs] at h2; exact h2
        | normal => obtain ⟨s', _, h, _⟩ := hq; cases h
        | ret => exact hq.elim
        | exit _ => exact hq.elim
        | goto _ => exact hq.elim
        | outgrown => exact hq.elim
      | inl s' =>
        refine roundIn_of_wpIn trivial ?_
        refine wpIn_mono (F := FW (some lp)) hw0 ?_
        rintro e a1 w1 ⟨rfl, E1, H1, hfa, hia1, hbody⟩
        obtain ⟨hbr, hb1, hout2⟩ := beg a1 w1 H1 hia1
        have hs2 := hb1.self (Hm := H1) (Pick.skip (Zv _)) rfl
        refine ⟨_, hbr, ?_⟩
        have hwp := hbody _ hs2 hout2 (hb1.pick (H' := H1) (Pick.skip (Zv _))) a1 _ hfa hs2
        refine wpIn_mono (F := FW (some lp)) hwp ?_
        intro e a3 w3 hq
        cases e with
        | normal =>
          obtain ⟨s2, Hs', h, ⟨Hs4, rfl, hJ'⟩, hi3⟩ := hq
          cases h
          have h2 := hb1.join (Hm := H1) (R := [(some lp, recO f a.tmps ps assign body rr .busy none)]) (M' := ids H1) ((List.perm_append_singleton _ _).symm) (fun m hm => hm) hi3
          have h2 := h2.perm (List.perm_append_singleton _ _)
          have h3 := h2.own lp _ (.head _)
          have h4 := h2.put (recO f a.tmps ps assign body rr .ready none)
          rw [← hHs] at h4
          exact ⟨_, _, run_endRound none h3, _, ⟨Hs4, rfl, hJ'⟩, rfl, h4⟩
        | panic ch => obtain ⟨h, _⟩ := hq; cases h
        | ret => exact hq.elim
        | exit _ => exact hq.elim
        | goto _ => exact hq.elim
        | outgrown => exact hq.elim
end control
end Go.Acq
namespace Go.Acq
open Go Go.RowKit
abbrev dfD (f : FuncId) (fs cs : Array Value) : Deferred := { target := .fn (.func f) cs, args := fs }
section control
variable {C : Cx} {f : FuncId} {Q : Exit → Act → World → Prop} {E E' : Env} {H H' : Heap} {x y c : Code}
theorem AtF.block {P : Program} {id : Nat} {a : Act} {w : World} (h : AtF f P c (Exit.inBlock id Q) a w) : AtF f P (.block id c) Q a w := by
 intro b k cs hb hro
 have i0 : (lone (b.atR a (.code (.block id c) :: k)) cs w).fenced P Fence.wide := fenced_wide P _
 have i1 : ∀ a w, (lone (b.atR a (.inBlock id :: k)) cs w).fenced P Fence.wide := fun _ _ => fenced_wide P _
 obtain ⟨e, a₁, w₁, hq, harr⟩ := h b (.inBlock id :: k) cs hb hro
 cases e with
 | normal => exact ⟨.normal, a₁, w₁, hq, .head i0 stepR_block (StepsIn.trans harr (.one (i1 _ _) stepR_inBlock))⟩
 | exit j =>
  by_cases hj : j = id
  ·
   subst hj
   simp only [Exit.inBlock, if_true] at hq
   exact ⟨.normal, a₁, w₁, hq, .head i0 stepR_block (harr.1 k (by simp [exitTo]))⟩
  ·
   simp only [Exit.inBlock, if_neg hj] at hq
   have hne : (id == j) = false := by simp; exact fun h => hj h.symm
   have hx : exitTo j (.inBlock id :: k) = exitTo j k := by simp [exitTo, hne]
   refine ⟨.exit j, a₁, w₁, hq, fun k' hk => .head i0 stepR_block (harr.1 k' (hx.trans hk)), fun hr' _ => by rw [hro] at hr'; cases hr'⟩
 | goto l =>
  have hx : gotoIn l (.inBlock id :: k) = gotoIn l k := by simp [gotoIn]
  exact ⟨_, a₁, w₁, hq, fun k' hk => .head i0 stepR_block (harr.1 k' (hx.trans hk)), fun hr' _ => by rw [hro] at hr'; cases hr'⟩
 | ret => exact ⟨_, a₁, w₁, hq, .of_steps (.one i0 stepR_block) harr⟩
 | panic ch => exact ⟨_, a₁, w₁, hq, .of_steps (.one i0 stepR_block) harr⟩
 | outgrown => exact ⟨_, a₁, w₁, hq, .of_steps (.one i0 stepR_block) harr⟩
theorem TA.block {id : Nat} (h : TA C f c (Exit.inBlock id Q) E H) : TA C f (.block id c) Q E H := fun a w hf hi => AtF.block (h a w hf hi)
theorem Z9i (hE : AllF E' E) (h : TA C f c Q E' H) : TA C f c Q E H := fun a w hf hi => h a w (hf.weak hE.sub) hi
theorem TA.perm (hp : List.Perm H H') (k : TA C f c Q E H') : TA C f c Q E H := fun a w hf hi => k a w hf (hi.perm hp)
theorem RQP.turn {S : Type} {J : S → Heap → Prop} {HE : Heap} {pv : Value} {r : S ⊕ Unit} {w0 : World} {M : List Nat} {e : Exit} {a : Act} {w : World}
    (h : RQP (fun s Hq => ∃ Hq', Hq = HE ++ Hq' ∧ J s Hq') pv r w0 M e a w) : RQP (fun s Hq => ∃ Hq', Hq = Hq' ++ HE ∧ J s Hq') pv r w0 M e a w := by
  cases e with
  | normal => obtain ⟨s, _, h1, ⟨Hq, rfl, hJ⟩, hi⟩ := h; exact ⟨s, _, h1, ⟨Hq, rfl, hJ⟩, hi.perm List.perm_append_comm⟩
  | panic _ => exact h
  | ret => exact h.elim
  | exit _ => exact h.elim
  | goto _ => exact h.elim
  | outgrown => exact h.elim
theorem Z9z {S V : Type} (hρ : C.ρ = none) {fnf : Func} (hfn : C.P.funcs[f]? = some fnf) {gop : Operand} {ps : Array Tmp} {assign body : Code} {fi : FuncId} {fs cs : Array Value} (hF : Zz C.P fi = true) (hg : ev E gop = some (.func (.func fi) fs cs))
    (hps : ps.toList.all (fun p => Nat.ble (p + 1) C.n) = true) (pv : Value) (en : World → List Nat → V → List Value → Prop) (hlen : ∀ w M v vals, en w M v vals → vals.length = ps.size)
    (y : S → V → Option (S ⊕ Unit)) (J : S → Heap → Prop) (EE EO : Heap → Prop) (s0 : S) (t : S ⊕ Unit) (Hs0 HE0 R : Heap) (hJ : J s0 Hs0) (hH : Pick ((HE0 ++ R) ++ Hs0) H)
    (it : ∀ (lp : Nat) (w : World) (J' : S ⊕ Unit → Heap → Prop) (H0 : Heap), (∀ u Hs, ¬ J' (.inr u) Hs) → J' (.inl s0) H0 → Inv w (ids (H0 ++ HE0)) w (H0 ++ HE0) → YCP C.P lp pv en y J' EE w (ids (H0 ++ HE0)) → ∀ lo, Inv C.w0 C.M w (((some lp, lo) :: (Hs0 ++ HE0)) ++ R) → H0 = (some lp, lo) :: Hs0 →
      FncS C.P fi (fs ++ #[.func (.yield lp) #[] #[]] ++ cs) w (ids (H0 ++ HE0)) pv t (fun s v N => v = .tuple #[] ∧ ∃ HE' Hs', N = HE' ++ Hs' ∧ J' (.inl s) Hs' ∧ EO HE'))
    (round : ∀ (lp : Nat) (w' : World) (s : S) (v : V) (r : S ⊕ Unit) (Hs HE : Heap) (vals : List Value), y s v = some r → J s Hs → EE HE → en w' (ids ((some lp, mkO) :: (Hs ++ HE))) v vals → Inv w' (ids (Hs ++ HE)) w' (Hs ++ HE) → Inv C.w0 C.M w' ((Hs ++ HE) ++ R) →
      T ⟨C.P, some lp, C.n, [], w', ids (Hs ++ HE)⟩ assign (AQX C.n w' (ids (Hs ++ HE)) fun E1 H1 => ∀ w2, Inv w2 (ids H1) w2 H1 → Inv C.w0 C.M w2 (H1 ++ R) → Inv w' (ids ((some lp, mkO) :: (Hs ++ HE))) w2 H1 → T ⟨C.P, some lp, C.n, [], w2, ids H1⟩ body (RQP (fun s Hq => ∃ Hq', Hq = HE ++ Hq' ∧ J s Hq') pv r w2 (ids H1)) E1 H1) (putPs ps.toList vals E) (HE ++ Hs))
    (next : ∀ s, t = .inl s → ∀ rr Hs HE, J s Hs → EO HE → Acq.X { C with D := mkD rr :: C.D } Q .normal E ((HE ++ ((some rr, mkO) :: R)) ++ Hs))
    (pan : t = .inr () → ∀ rr, Acq.X { C with D := mkD rr :: C.D } Q (.panic (Wv pv)) E ((some rr, mkO) :: R)) :
    TA C f (.rangeFunc gop ps assign body) Q E H := by
  have hpm : ∀ (Hs HE R : Heap), List.Perm ((Hs ++ HE) ++ R) ((HE ++ R) ++ Hs) := fun Hs HE R => by
    rw [List.append_assoc]; exact List.perm_append_comm
  refine Zb2 hρ hfn hF hg hps pv en hlen y J EE EO s0 t Hs0 HE0 R hJ ?_ it ?_ ?_ pan
  · obtain ⟨S', ns, hn, hS⟩ := hH
    exact ⟨S', ns, hn, hS.trans ((hpm Hs0 HE0 R).symm.append_right S')⟩
  · intro lp w' s v r Hs HE vals hy hJ' hE hen h1 h2
    refine T.perm List.perm_append_comm ?_
    have h := round lp w' s v r Hs HE vals hy hJ' hE hen h1 h2
    intro a w hf hi
    refine wpIn_mono (F := FW (some lp)) (h a w hf hi) ?_
    rintro e a1 w1 ⟨rfl, E1, H1, hf1, hi1, hB⟩
    refine ⟨rfl, E1, H1, hf1, hi1, fun w2 k1 k2 k3 => ?_⟩
    intro a2 w3 hf2 hi2
    exact wpIn_mono (F := FW (some lp)) (hB w2 k1 k2 k3 a2 w3 hf2 hi2) fun e a w hq => RQP.turn hq
  · intro s hs rr Hs HE hJ' hE
    exact Acq.X.perm (hpm Hs HE _) (next s hs rr Hs HE hJ' hE)
theorem Zd3 {P : Program} {f : FuncId} {fn : Func} {c : Code} {vs : List Value} {w : World} {M : List Nat} {H : Heap} {Post : Value → Heap → Prop}
    (hf : P.funcs[f]? = some fn) (hb : fn.body = some c) (hn : Nat.ble vs.length fn.ntmps = true) (hi : Inv w M w H)
    (h : TA ⟨P, none, fn.ntmps, [], w, M⟩ f c (bodyPostM (FW none) 0 P fn (Xu w M Post)) (Jy 0 vs) H) : Fnc P f vs.toArray w M Post := by
  have hn' := Nat.le_of_ble_eq_true hn
  refine callsIn_FW (ρ := none) (n := 0) |>.1 ⟨trivial, fun cs _ => ?_⟩
  obtain ⟨a0, ha0⟩ : ∃ a0 : Act, a0 = { tmps := vs.toArray ++ Array.replicate (fn.ntmps - vs.toArray.size) undef, defers := [] } := ⟨_, rfl⟩
  have hfit : Fits fn.ntmps [] (Jy 0 vs) a0 := by
    rw [ha0]
    refine ⟨by simp; omega, rfl, fun t v hv => ?_⟩
    obtain ⟨_, h2⟩ := Rn vs 0 t v hv
    rw [Nat.sub_zero] at h2
    have hlt := (List.getElem?_eq_some_iff.1 h2).1
    simp only [Array.getD_eq_getD_getElem?]
    rw [Array.getElem?_append_left (by simpa using hlt)]
    simp [h2]
  obtain ⟨b, hbd⟩ : ∃ b : Frame, b = { (default : Frame) with fn := f, kind := .normal, roundOf := none } := ⟨_, rfl⟩
  have e0 : Frame.enter P f vs.toArray .normal = b.atR a0 [.code c] := by rw [hbd, ha0]; simp [Frame.enter, Frame.atR, hf, hb]
  have hbf : b.fn = f := by rw [hbd]
  have hbr : b.roundOf = none := by rw [hbd]
  have hbk : b.kind = .normal := by rw [hbd]
  have hroom : ∀ k, (FW none).room k := fun k d hd => by cases hd
  obtain ⟨e, a', w', hq, harr⟩ := h a0 w hfit hi b [] cs hbf hbr
  rw [e0]
  have door : ∀ (u : FrameMode) (todo : List Item), LeavesInM (FW none) 0 P fn a'.tmps (Xu w M Post) a'.defers u w' → StepsIn (WideI P) P (lone (b.atR a0 [.code c]) cs w) (lone { b.atR a' todo with mode := u } cs w') →
      ∃ e w' fr, Xu w M Post e w' ∧ ComesIn (Machine.fenced P (FW none)) P (lone (b.atR a0 [.code c]) cs w) (lone fr cs w') e ∧ fr.fn = f ∧ fr.leaving P w' e := fun u todo hL hs => by
    obtain ⟨e', w'', fr', hR, hs2, hfn, hl⟩ := leaves_stepsInM a'.defers u w' { b.atR a' todo with mode := u } cs rfl rfl rfl (by show P.funcs[b.fn]? = _; rw [hbf]; exact hf) (by show b.kind = _; exact hbk) trivial (hroom _) hL
    exact ⟨e', w'', fr', hR, ComesIn.of_steps hs hs2, hfn.trans hbf, hl⟩
  cases e with
  | normal => exact door .returning [] hq (StepsIn.trans harr (.one (fenced_wide P _) (stepR_end hbr)))
  | ret => obtain ⟨todo, hs⟩ := harr.1 hbr; exact door .returning todo hq hs
  | panic ch => obtain ⟨todo, hs⟩ := harr; exact door (.panicking ch) todo hq hs
  | exit id => exact hq.elim
  | goto l => exact hq.elim
  | outgrown => obtain ⟨v, N, -, hv, -⟩ := hq; cases hv
end control
section rules
variable {C : Cx} {ops : Array Oper} {Q : Exit → Act → World → Prop} {l : List Nat} {E : Env} {H R : Heap} {i d : Nat} {ty : TypeId} {Zc : String} {af : Array Edge} {g : Option (Nat × Bool)}
theorem Zf6 {x : Operand} {at' : Array TypeId} {f : FuncId} {fs cs : Array Value} (q0_ : ops[i]? = some ⟨none, .defer ⟨.value x, #[], at'⟩, ty, Zc, af, g⟩ ∧ Zk ops E g = true ∧ ev E x = some (.func (.func f) fs cs) ∧ C.ρ = none)
    (kk : TO { C with D := dfD f fs cs :: C.D } ops Q l E H) : TO C ops Q (i :: l) E H := by
  obtain ⟨ho, hg, hx, hρ⟩ := q0_
  intro a w hf hi
  have hw : Region.wanted (⟨none, .defer ⟨.value x, #[], at'⟩, ty, Zc, af, g⟩ : Oper) (yielded ops a.tmps) = true := Z1p hf hg
  simp only [wpOpsIn, ho, hw, if_true, Oper.wpIn]
  refine ⟨fun _ _ => trivial, ?_⟩
  have hr : (FW C.ρ).round = none := by rw [hρ]; rfl
  rw [hr, Oper.semAt_none]
  have hrun : (execOp a.eval ⟨none, .defer ⟨.value x, #[], at'⟩, ty, Zc, af, g⟩).run C.P w = .ok (.defer (dfD f fs cs)) w := by
    simp [execOp, resolve, Deferred.ofValue, hf.ev hx]
  rw [hrun, Oper.uponIn_defer]
  exact kk _ w ⟨hf.size, by simp [Act.put, hf.defers], hf.get⟩ hi
theorem Zdm {x : Operand} {t t1 : TypeId} {v : Value} (hu : (match C.P.underlying t with | some (.struct _) => true | _ => false) = true) (q0_ : ops[i]? = some ⟨some d, .typeAssert x t1 t true, ty, Zc, af, g⟩ ∧ Zk ops E g = true ∧ Nat.ble (d + 1) C.n = true ∧ ev E x = some (.iface t v))
    (kk : TO C ops Q l ((d, .tuple #[v, .bool true]) :: E) H) : TO C ops Q (i :: l) E H := have ⟨ho, hg, hd, hx⟩ := q0_;
  TO.val ho hg hd (by simp) (fun a w hf _ => by
    have hr : (Instr.typeAssert (.iface t v) t1 t true).run C.P w = .ok (.tuple #[v, .bool true]) w := by
      cases h : C.P.underlying t with
      | none => rw [h] at hu; cases hu
      | some u =>
        rw [h] at hu
        unfold Instr.typeAssert
        simp only [Sem.run_bind, run_underlying h]
        cases u <;> first | (simp; done) | cases hu
    simp [execOp, hf.ev hx, hr]) kk
end rules
theorem Z99 {P : Program} {f : FuncId} {fn : Func} {id d : Nat} {at' : Array TypeId} {ty : TypeId} {Zc : String} {y : Code} {vs : List Value} {w : World} {M : List Nat} {H : Heap} {u u1 : FrameMode} {rv : Value} {K : World → Prop}
    (hf : P.funcs[f]? = some fn) (hb : fn.body = some (.seq (.region id #[⟨some d, .call ⟨.builtin .recover, #[], at'⟩, ty, Zc, #[], none⟩] false) y)) (hr : fn.results = #[]) (hn : Nat.ble vs.length fn.ntmps = true) (hd : Nat.ble (d + 1) fn.ntmps = true) (hi : Inv w M w H)
    (hu : (u = .returning ∧ rv = .nilIface ∧ u1 = .returning) ∨ (u = .panicking (Wv rv) ∧ u1 = .panicking [{ v := rv, recovered := true }]))
    (h : T ⟨P, none, fn.ntmps, [], w, M⟩ y (fun e a w' => (e = .normal ∨ e = .ret) ∧ a.defers = [] ∧ K w') ((d, rv) :: Jy 0 vs) H) :
    CallsDIn (FW none) 0 P f vs.toArray u w (fun e u' w' => (∃ v, e = .returned v) ∧ u' = u1 ∧ K w') := by
  have hn' := Nat.le_of_ble_eq_true hn
  refine callsDIn_of_wpSIn hf hb trivial fun c₀ cs hu0 => ?_
  refine wpSIn_seq (wpSIn_region ?_)
  obtain ⟨a0, ha0⟩ : ∃ a0 : Act, a0 = { tmps := vs.toArray ++ Array.replicate (fn.ntmps - vs.toArray.size) undef, defers := [] } := ⟨_, rfl⟩
  have hfit : Fits fn.ntmps [] (Jy 0 vs) a0 := by
    rw [ha0]
    refine ⟨by simp; omega, rfl, fun t v hv => ?_⟩
    obtain ⟨_, h2⟩ := Rn vs 0 t v hv
    rw [Nat.sub_zero] at h2
    have hlt := (List.getElem?_eq_some_iff.1 h2).1
    simp only [Array.getD_eq_getD_getElem?]
    rw [Array.getElem?_append_left (by simpa using hlt)]
    simp [h2]
  rw [← ha0]
  have hrun : (execOp a0.eval ⟨some d, .call ⟨.builtin .recover, #[], at'⟩, ty, Zc, #[], none⟩).run P w = .ok .recover w := by
    simp [execOp, resolve, invoke, go_sem]
  have fin : ∀ u2, u1 = u2 → wpOpsSIn (FW none) 0 P #[⟨some d, .call ⟨.builtin .recover, #[], at'⟩, ty, Zc, #[], none⟩] (Exit.thenS (y.wpSIn (FW none) 0 P (bodyPostS P fn c₀ cs fun e u' w' => (∃ v, e = .returned v) ∧ u' = u1 ∧ K w')) (bodyPostS P fn c₀ cs fun e u' w' => (∃ v, e = .returned v) ∧ u' = u1 ∧ K w')) [] (a0.put (some d) rv) ({ c₀ with mode := u2 } :: cs) w := fun u2 h2 => by
    subst h2
    show y.wpSIn (FW none) 0 P _ (a0.put (some d) rv) _ w
    refine wpSIn_of_wpIn rfl (wpIn_mono (h _ w (hfit.put hd rv) hi) ?_)
    rintro e a w' ⟨he, hdf, hK⟩
    have hres : (results fn a.tmps).run P w' = .ok (.tuple #[]) w' := by simp [results, hr]
    rcases he with rfl | rfl
    · exact ⟨hdf, u1, rfl, _, hres, ⟨_, rfl⟩, rfl, hK⟩
    · exact ⟨hdf, u1, rfl, _, hres, ⟨_, rfl⟩, rfl, hK⟩
  have hl : List.range (#[⟨some d, .call ⟨.builtin .recover, #[], at'⟩, ty, Zc, #[], none⟩] : Array Oper).size = [0] := rfl
  rw [hl]
  unfold wpOpsSIn
  simp only [List.getElem?_toArray, List.getElem?_cons_zero, Region.wanted, if_true]
  refine ⟨fun _ _ => trivial, ?_⟩
  rw [hrun]
  simp only
  rcases hu with ⟨rfl, rfl, rfl⟩ | ⟨rfl, rfl⟩
  · have : recoverD (c₀ :: cs) = none := by simp [recoverD, hu0]
    rw [this]
    have hc : ({ c₀ with mode := .returning } : Frame) = c₀ := by rw [← hu0]
    have := fin .returning rfl
    rw [hc] at this
    exact this
  · have : recoverD (c₀ :: cs) = some (rv, { c₀ with mode := .panicking [{ v := rv, recovered := true }] } :: cs) := by simp [recoverD, hu0, Wv]
    rw [this]
    exact fin _ rfl
theorem Z4n {P : Program} {fn : Func} {tmps : Array Value} {R : Ending → World → Prop} {w0 : World} {M : List Nat} {f : FuncId} {fs cs : Array Value} {u u1 : FrameMode} {H' : Heap} {K : World → World → Prop} (hu : u ≠ .run) (hs : settle u1 = .returning) (hF : Zz P f = true)
    (hc : ∀ w', Inv w0 M w' H' → CallsDIn (FW none) 0 P f (fs ++ cs) u w' (fun e u' w'' => (∃ v, e = .returned v) ∧ u' = u1 ∧ K w' w''))
    (hk : ∀ w' w'', Inv w0 M w' H' → K w' w'' → ∃ v, (results fn tmps).run P w'' = .ok v w'' ∧ R (.returned v) w'') : ∀ (ms : List Nat) (w : World), Inv w0 M w (markH ms ++ H') →
    LeavesInM (FW none) 0 P fn tmps R (ms.map mkD ++ [dfD f fs cs]) u w
  | [], w, hi => by
    refine ⟨hu, .inr ⟨(fun h => by cases h), .func f, cs, f, fs ++ cs, rfl, ?_, fun _ _ => trivial, ?_⟩⟩
    · show (callFunc f (fs ++ cs)).run P w = _
      exact Kr hF _ _
    · refine CallsDIn.mono (hc w hi) ?_
      rintro e u' w'' ⟨⟨v, rfl⟩, rfl, hK⟩
      show LeavesInM (FW none) 0 P fn tmps R [] (settle u') w''
      rw [hs]
      exact hk w w'' hi hK
  | r :: ms, w, hi => by
    refine ⟨hu, .inl ⟨r, _, rfl, run_takeDeferred (hi.own r _ (.head _)), ?_⟩⟩
    exact Z4n hu hs hF hc hk ms _ ((Inv.put hi (.deferred none)).pick (Pick.skip (Zv _)))
section ends
variable {C : Cx} {E : Env} {H H' N : Heap}
theorem X.retC {fn : Func} {rs : List ResultVar} {vs : List Value} {v : Value} {w0 : World} {M : List Nat} {Post : Value → Heap → Prop} {f : FuncId} {fs cs : Array Value} (ms : List Nat) (q0_ : C.ρ = none ∧ C.w0 = w0 ∧ C.M = M ∧ C.D = ms.map mkD ++ [dfD f fs cs] ∧ fn.results.toList = rs) (hF : Zz C.P f = true)
    (hc : ∀ w, CallsDIn (FW none) 0 C.P f (fs ++ cs) .returning w (fun e u' w' => (∃ v, e = .returned v) ∧ u' = .returning ∧ Inv w [] w' []))
    (hH : Pick (markH ms ++ H') H) (hr : ∀ (j : Nat) r u, rs[j]? = some r → vs[j]? = some u → Res { C with D := [] } E H' r u) (q1_ : rs.length = vs.length ∧ v = Rr vs)
    (hN : Pick N H') (hP : Post v N) : Acq.X C (bodyPostM (FW none) 0 C.P fn (Xu w0 M Post)) .ret E H := by
  obtain ⟨hρ, hw, hMM, hD, hfn⟩ := q0_; obtain ⟨hl, hv⟩ := q1_
  intro a w hf hi
  show LeavesInM (FW none) 0 C.P fn a.tmps (Xu w0 M Post) a.defers .returning w
  rw [hf.defers, hD]
  refine Z4n (w0 := C.w0) (M := C.M) (K := fun w w' => Inv w [] w' []) (u := .returning) (u1 := .returning) (H' := H') (by simp) rfl hF (fun w' _ => hc w') (fun w' w'' hi' hK => ?_) ms w (hi.pick hH)
  exact (X.ret (C := { C with D := [] }) (fn := fn) (Post := Post) hw hMM rfl hfn hr ⟨hl, hv⟩ hN hP { a with defers := [] } w'' ⟨hf.size, rfl, hf.get⟩ (hi'.join0 hK)).2
theorem Z1g {fn : Func} {rs : List ResultVar} {vs : List Value} {v pv : Value} {w0 : World} {M : List Nat} {Post : Value → Heap → Prop} {f : FuncId} {fs cs : Array Value} {Hc Hc' R : Heap} (ms : List Nat) (q0_ : C.ρ = none ∧ C.w0 = w0 ∧ C.M = M ∧ C.D = ms.map mkD ++ [dfD f fs cs] ∧ fn.results.toList = rs) (hF : Zz C.P f = true)
    (hc : ∀ w, Inv w (ids Hc) w Hc → CallsDIn (FW none) 0 C.P f (fs ++ cs) (.panicking (Wv pv)) w (fun e u' w' => (∃ v, e = .returned v) ∧ u' = .panicking [{ v := pv, recovered := true }] ∧ Inv w (ids Hc) w' Hc'))
    (hH : Pick (markH ms ++ (Hc ++ R)) H) (hr : ∀ (j : Nat) r u, rs[j]? = some r → vs[j]? = some u → Res { C with D := [] } E (Hc' ++ R) r u) (q1_ : rs.length = vs.length ∧ v = Rr vs)
    (hN : Pick N (Hc' ++ R)) (hP : Post v N) : Acq.X C (bodyPostM (FW none) 0 C.P fn (Xu w0 M Post)) (.panic (Wv pv)) E H := by
  obtain ⟨hρ, hw, hMM, hD, hfn⟩ := q0_; obtain ⟨hl, hv⟩ := q1_
  intro a w hf hi
  show LeavesInM (FW none) 0 C.P fn a.tmps (Xu w0 M Post) a.defers (.panicking (Wv pv)) w
  rw [hf.defers, hD]
  refine Z4n (w0 := C.w0) (M := C.M) (K := fun w w' => Inv w (ids Hc) w' Hc') (u1 := .panicking [{ v := pv, recovered := true }]) (H' := Hc ++ R) (by simp) rfl hF (fun w' hi' => hc w' (hi'.self (Rv (List.Perm.refl _)) rfl)) (fun w' w'' hi' hK => ?_) ms w (hi.pick hH)
  have hj := hi'.join (List.Perm.refl _) (fun m hm => hm) hK
  exact (X.ret (C := { C with D := [] }) (fn := fn) (Post := Post) hw hMM rfl hfn hr ⟨hl, hv⟩ hN hP { a with defers := [] } w'' ⟨hf.size, rfl, hf.get⟩ hj).2
theorem res2 {r r' : ResultVar} {v v' : Value} (hr : Res C E H r v) (hr' : Res C E H r' v') : ∀ (j : Nat) q u, [r, r'][j]? = some q → [v, v'][j]? = some u → Res C E H q u := fun j q u h1 h2 => by
 match j with
 | 0 => simp at h1 h2; subst h1; subst h2; exact hr
 | 1 => simp at h1 h2; subst h1; subst h2; exact hr'
 | j + 2 => simp at h1
end ends
end Go.Acq
namespace Go.Acq
open Go Go.RowKit Go.Proofs Go.Shelf
def Le (l : Str) (c : UInt8) : Nat → Int
  | 0 => -1
  | k + 1 => if l.getD k 0 = c then (k : Int) else Le l c k
def Lv (l : Str) (c : UInt8) : Int := Le l c l.length
theorem bs_bang (s : Str) (k : Nat) (h : k < s.length) : (bs s).data[k]! = s.getD k 0 := by
 show (s.toArray)[k]! = s.getD k 0
 rw [getElem!_pos s.toArray k (by simpa using h), List.getElem_toArray, List.getD_eq_getElem?_getD, List.getElem?_eq_getElem h]; rfl
theorem Z8g (s : Str) (c : UInt8) : ∀ k, k ≤ s.length → Lib.lastIdx (bs s) (c.toNat : Int) k = Le s c k
 | 0, _ => rfl
 | k + 1, h => by
  rw [Lib.lastIdx, Le, bs_bang s k (by omega), Z8g s c k (by omega)]
  by_cases hc : s.getD k 0 = c
  · rw [if_pos hc, if_pos (by rw [hc])]
  · rw [if_neg hc, if_neg (fun e => hc (UInt8.toNat_inj.1 (by omega)))]
theorem ascii_bs {l : Str} (h : l.all (fun b => decide (b.toNat < 128)) = true) : ∀ (j : Nat) b, (bs l).data.toList[j]? = some b → b.toNat < 128 := by rw [Us]; exact ascii_of_all h
section fns
variable {P : Program} {ρ : Ren}
theorem Za2 (L : Lays.n148 P ρ) (s : Str) (c : UInt8) (hs : s.length < 4611686018427387904) (w : World) :
    Fnc P (ρ.f 148) #[.string (bs s), .string (bs [c])] w [] (fun v N => v = .int .i64 (Lv s c) ∧ N = []) := by
  refine Calls.mono (Any.strings_LastIndex_one L (bs s) (bs [c]) (by rw [Xk]; rfl) (by rw [Xk]; exact hs) w) ?_
  rintro e w' ⟨rfl, rfl⟩
  have : Lib.lastIndexByte (bs s) (c.toNat : Int) = Lv s c := by
    unfold Lib.lastIndexByte Lv
    rw [Xk]
    exact Z8g s c _ (Nat.le_refl _)
  exact ⟨_, _, ⟨rfl, rfl⟩, by rw [← this]; rfl, Inv.refl _⟩
theorem Ze1 (L : Lays.n158 P ρ) (X : Builder.Extra P ρ) (s : Str) (hs : s.length ≤ 140737488355328) (ha : s.all (fun b => decide (b.toNat < 128)) = true) (w : World) :
    Fnc P (ρ.f 158) #[.string (bs s)] w [] (fun v N => v = .string (bs (Lib.toUpperA s)) ∧ N = []) := by
  refine Calls.mono (Any.strings_ToUpper_ascii L X (bs s) w (by rw [Xk]; exact hs) (ascii_bs ha)) ?_
  rintro e w' ⟨rfl, hb⟩
  rw [Us]
  exact ⟨_, _, ⟨rfl, rfl⟩, rfl, Nx hb⟩
end fns
end Go.Acq
namespace Go.Acq
open Go Go.RowKit Go.Proofs Go.Shelf
def SdP (TB TE : TypeId) (xs : List Int) (t : Str) (b : Nat) (R : Heap) (v : Value) (H' : Heap) : Prop := v = .tuple #[] ∧ ∃ (ob' : Option Nat) (n' c' : Nat) (j' : List Value) (lr' : Int), (xs ++ ub t).length = n' ∧ n' ≤ c' ∧ j'.length = (c' - n') * 1 ∧ (ob' = none → c' = 0) ∧ BufO ob' b c' ∧
  H' = (some b, .cells #[.slice (sb ob') n' c', .int .i64 0, .int .i8 lr'] TB (0, 0)) :: (ob', .cells (arr (intC .u8) (xs ++ ub t) j').toArray TE (0, 0)) :: R
theorem Zam {P : Program} {f : FuncId} {fn : Func} {c : Code} {vs : List Value} {w0 w : World} {M : List Nat} {H : Heap} {R : Ending → World → Prop}
    (hf : P.funcs[f]? = some fn) (hb : fn.body = some c) (hn : Nat.ble vs.length fn.ntmps = true) (hi : Inv w0 M w H)
    (h : T ⟨P, none, fn.ntmps, [], w0, M⟩ c (bodyPost P fn R) (Jy 0 vs) H) : Calls P f vs.toArray w R := by
  have hn' := Nat.le_of_ble_eq_true hn
  refine callsIn_FW (ρ := none) (n := 0) |>.1 (callsIn_of_wp hf hb trivial ?_ rfl)
  refine h _ w ⟨by simp; omega, rfl, fun t v hv => ?_⟩ hi
  obtain ⟨_, h2⟩ := Rn vs 0 t v hv
  rw [Nat.sub_zero] at h2
  have hlt := (List.getElem?_eq_some_iff.1 h2).1
  simp only [Array.getD_eq_getD_getElem?]
  rw [Array.getElem?_append_left (by simpa using hlt)]
  simp [h2]
theorem X.retW {C : Cx} {E : Env} {H : Heap} {fn : Func} {R : Ending → World → Prop} (q0_ : C.D = [] ∧ fn.results.toList = []) (h : ∀ w, Inv C.w0 C.M w H → R (.returned (.tuple #[])) w) : X C (bodyPost C.P fn R) .ret E H := by
 obtain ⟨hD, hfn⟩ := q0_
 intro a w hf hi
 have hr : fn.results = #[] := by apply Array.ext'; simpa using hfn
 exact ⟨hf.defers.trans hD, .tuple #[], by simp [results, hr], h w hi⟩
section rules
variable {C : Cx} {ops : Array Oper} {Q : Exit → Act → World → Prop} {l : List Nat} {E : Env} {H R : Heap} {i d : Nat} {ty : TypeId} {Zc : String} {af : Array Edge} {g : Option (Nat × Bool)}
theorem Z2i {TB TE : TypeId} {f : FuncId} {x y : Operand} {at' : Array TypeId} {xs : List Int} {t : Str} {b nn cc : Nat} {base : Option Addr} (hM : C.M = []) (hF : Zz C.P f = true)
    (q0_ : ops[i]? = some ⟨some d, .call ⟨.value (.func f), #[x, y], at'⟩, ty, Zc, af, g⟩ ∧ Zk ops E g = true ∧ Nat.ble (d + 1) C.n = true ∧ ev E x = some (.pointer (some ⟨b, 0, none⟩)) ∧ ev E y = some (.slice base nn cc))
    (hc : ∀ w, Inv C.w0 [] w H → Calls C.P f #[.pointer (some ⟨b, 0, none⟩), .slice base nn cc] w (fun e w' => ∃ v H', SdP TB TE xs t b R v H' ∧ e = .returned v ∧ Inv C.w0 [] w' H'))
    (kk : ∀ (ob' : Option Nat) (n' c' : Nat) (j' : List Value) (lr' : Int), (xs ++ ub t).length = n' → n' ≤ c' → j'.length = (c' - n') * 1 → (ob' = none → c' = 0) → BufO ob' b c' →
      TO C ops Q l ((d, .tuple #[]) :: E) ((some b, .cells #[.slice (sb ob') n' c', .int .i64 0, .int .i8 lr'] TB (0, 0)) :: (ob', .cells (arr (intC .u8) (xs ++ ub t) j').toArray TE (0, 0)) :: R)) :
    TO C ops Q (i :: l) E H := by
  obtain ⟨ho, hg, hd, hx, hy⟩ := q0_
  refine Z51 (vs := [.pointer (some ⟨b, 0, none⟩), .slice base nn cc]) (Post := SdP TB TE xs t b R) hF ho hg hd (by simp [Wx, hx, hy]) (fun w hi => by rw [hM] at hi ⊢; exact hc w hi) ?_
  rintro v H' ⟨rfl, ob', n', c', j', lr', h1, h2, h3, h4, h5, rfl⟩
  exact kk ob' n' c' j' lr' h1 h2 h3 h4 h5
end rules
end Go.Acq
namespace Go.Acq
open Go
structure Net where
  N : Int
  S : Int
  T : Int
  Arcs : List Arc
  deriving DecidableEq
instance : Inhabited Net := ⟨⟨default, default, default, default⟩⟩
structure Csr where
  N : Int
  S : Int
  T : Int
  First : List Int
  Head : List Int
  Rev : List Int
  Cap : List Int
  Arc : List Int
  Back : List Bool
  deriving DecidableEq
instance : Inhabited Csr := ⟨⟨default, default, default, default, default, default, default, default, default⟩⟩
def Nl (x0 n1 : Int) : Option (Int) :=
  if n1 < 1 then
  (some 0)
  else
  gd (n1 ≠ 0) <|
  gd (i64ok ((x0.tmod n1) + n1)) <|
  gd (n1 ≠ 0) <|
  some (((x0.tmod n1) + n1).tmod n1)
def Z02 (n0 : Net) (a1 r6 : Int) (a0 : List Arc) (a2 c38 : Int) : Option ((List Arc × Int) ⊕ (List Arc)) :=
  Option.bind (Nl (((n0.Arcs.take (min (n0.Arcs.length : Int) a1).toNat).getD a2.toNat default).fr) (2 + r6)) fun a3 =>
  Option.bind (Nl (((n0.Arcs.take (min (n0.Arcs.length : Int) a1).toNat).getD a2.toNat default).to) (2 + r6)) fun a4 =>
  gd (apok (a0 ++ ([(Arc.mk a3 a4 (c38.tmod 1125899906842624))])).length 24) <|
  gd (i64ok (a2 + 1)) <|
  some (.inl ((a0 ++ ([(Arc.mk a3 a4 (c38.tmod 1125899906842624))])), (a2 + 1)))
def Z21 (n0 : Net) (a0 r6 : Int) (a1 : List Arc) (a2 : Int) : Option ((List Arc × Int) ⊕ (List Arc)) :=
  if a2 < ((n0.Arcs.take (min (n0.Arcs.length : Int) a0).toNat).length : Int) then
  (gd (inb a2 (n0.Arcs.take (min (n0.Arcs.length : Int) a0).toNat).length) <|
  if (((n0.Arcs.take (min (n0.Arcs.length : Int) a0).toNat).getD a2.toNat default).cap) < 0 then
  (gd (i64ok ((((n0.Arcs.take (min (n0.Arcs.length : Int) a0).toNat).getD a2.toNat default).cap) + 1)) <|
  gd (i64ok (-((((n0.Arcs.take (min (n0.Arcs.length : Int) a0).toNat).getD a2.toNat default).cap) + 1))) <|
  Z02 n0 a0 r6 a1 a2 (-((((n0.Arcs.take (min (n0.Arcs.length : Int) a0).toNat).getD a2.toNat default).cap) + 1)))
  else
  Z02 n0 a0 r6 a1 a2 (((n0.Arcs.take (min (n0.Arcs.length : Int) a0).toNat).getD a2.toNat default).cap))
  else
  some (.inr a1)
def Z2l (r6 a1 a2 : Int) (a0 : List Arc) : Option (Net) :=
  some (Net.mk (2 + r6) a1 a2 a0)
def Z0c (n0 : Net) (a0 r6 a1 a2 : Int) : Option (Net) :=
  gd (0 ≤ (min (n0.Arcs.length : Int) a0) ∧ (min (n0.Arcs.length : Int) a0) ≤ (n0.Arcs.length : Int)) <|
  Option.bind (We (fun s => Z21 n0 a0 r6 s.1 s.2) Wg ([], 0)) fun p2_0_0 => Z2l r6 a1 a2 p2_0_0
def Z20 (n0 : Net) (a0 a1 : Int) : Option (Net) :=
  gd (i64ok (a0 - 1)) <|
  Option.bind (Nl n0.N (a0 - 1)) fun r6 =>
  gd (i64ok (2 + r6)) <|
  Option.bind (Nl n0.S (2 + r6)) fun a2 =>
  Option.bind (Nl n0.T (2 + r6)) fun a3 =>
  if a2 = a3 then
  (gd (i64ok (a2 + 1)) <|
  gd ((2 + r6) ≠ 0) <|
  Z0c n0 a1 r6 a2 ((a2 + 1).tmod (2 + r6)))
  else
  Z0c n0 a1 r6 a2 a3
def Z3t  : Option (Unit) :=
  some ()
def Z3g  : Option (Unit) :=
  some ()
def Z25  : Option (Unit) :=
  Option.bind Z3t fun _ =>
  Option.bind Z3g fun _ =>
  some ()
def Z23 (n0 : Net) : Option (Bool) :=
  if 2 ≤ n0.N then
  (some (decide (n0.N ≤ 4096)))
  else
  some false
def Z2g (n0 : Net) : Option (Bool) :=
  some (decide ((n0.Arcs.length : Int) ≤ 16384))
def Ny (n0 : Net) (v1 : Int) : Option (Bool) :=
  if 0 ≤ v1 then
  (some (decide (v1 < n0.N)))
  else
  some false
def Z3l (n0 : Net) : Option (Bool) :=
  Option.bind (Ny n0 n0.S) fun r3 =>
  if r3 = true then
  (Option.bind (Ny n0 n0.T) fun r6 =>
  if r6 = true then
  (some (decide (n0.S ≠ n0.T)))
  else
  some false)
  else
  some false
def Z0x (n0 : Net) (a1 : Arc) : Option (Bool) :=
  Option.bind (Ny n0 a1.fr) fun r5 =>
  if r5 = true then
  (Option.bind (Ny n0 a1.to) fun r8 =>
  some r8)
  else
  some false
def Z2p (a0 : Arc) (c2 : Net) : Option (Bool) :=
  Option.bind (Z0x c2 a0) fun r3 =>
  some (!r3)
def Z1c (s0 : List Arc) (a0 : Net) (x1 : Int) : Option ((Int) ⊕ (Int ⊕ Unit)) :=
  if x1 < (s0.length : Int) then
  (gd (inb x1 s0.length) <|
  Option.bind (Z2p (s0.getD x1.toNat default) a0) fun r4 =>
  if r4 = true then
  (some (.inr (.inl x1)))
  else
  gd (i64ok (x1 + 1)) <|
  some (.inl (x1 + 1)))
  else
  some (.inr (.inr ()))
def Z5c  : Option (Int) :=
  some (-1)
def Z45 (s0 : List Arc) (a0 : Net) : Option (Int) :=
  Option.bind (We (fun s => Z1c s0 a0 s) Wg 0) fun o => match o with | .inl p1_0_0 => (some p1_0_0) | .inr () => Z5c
def Z2w (s0 : List Arc) (a0 : Net) : Option (Bool) :=
  Option.bind (Z45 s0 a0) fun r1 =>
  some (decide (0 ≤ r1))
def Z1d (n0 : Net) : Option (Bool) :=
  Option.bind (Z2w n0.Arcs n0) fun r3 =>
  some (!r3)
def Z2d (n0 : Net) (a1 : Arc) : Option (Bool) :=
  some (decide (0 ≤ a1.cap))
def Z26 (a0 : Arc) (c2 : Net) : Option (Bool) :=
  Option.bind (Z2d c2 a0) fun r3 =>
  some (!r3)
def Z22 (s0 : List Arc) (a0 : Net) (x1 : Int) : Option ((Int) ⊕ (Int ⊕ Unit)) :=
  if x1 < (s0.length : Int) then
  (gd (inb x1 s0.length) <|
  Option.bind (Z26 (s0.getD x1.toNat default) a0) fun r4 =>
  if r4 = true then
  (some (.inr (.inl x1)))
  else
  gd (i64ok (x1 + 1)) <|
  some (.inl (x1 + 1)))
  else
  some (.inr (.inr ()))
def Z4w  : Option (Int) :=
  some (-1)
def Z3b (s0 : List Arc) (a0 : Net) : Option (Int) :=
  Option.bind (We (fun s => Z22 s0 a0 s) Wg 0) fun o => match o with | .inl p1_0_0 => (some p1_0_0) | .inr () => Z4w
def Z42 (s0 : List Arc) (a0 : Net) : Option (Bool) :=
  Option.bind (Z3b s0 a0) fun r1 =>
  some (decide (0 ≤ r1))
def Z18 (n0 : Net) : Option (Bool) :=
  Option.bind (Z42 n0.Arcs n0) fun r3 =>
  some (!r3)
def Z1x (n0 : Net) (a0 x4 : Int) (a1 : Bool) : Option ((Int × Int) ⊕ ((Int × Bool) ⊕ Int)) :=
  if a1 = true then
  (some (.inr (.inl (0, false))))
  else
  gd (i64ok (a0 - ((n0.Arcs.getD x4.toNat default).cap))) <|
  gd (i64ok (x4 + 1)) <|
  some (.inl ((a0 - ((n0.Arcs.getD x4.toNat default).cap)), (x4 + 1)))
def Z1n (n0 : Net) (a0 x4 : Int) : Option ((Int × Int) ⊕ ((Int × Bool) ⊕ Int)) :=
  if x4 < (n0.Arcs.length : Int) then
  (gd (inb x4 n0.Arcs.length) <|
  if ((n0.Arcs.getD x4.toNat default).cap) < 0 then
  (Z1x n0 a0 x4 true)
  else
  Z1x n0 a0 x4 (decide (a0 < ((n0.Arcs.getD x4.toNat default).cap))))
  else
  some (.inr (.inr a0))
def Z3q (a0 : Int) : Option (Int × Bool) :=
  gd (i64ok (4611686018427387904 - a0)) <|
  some ((4611686018427387904 - a0), true)
def Z11 (n0 : Net) : Option (Int × Bool) :=
  Option.bind (We (fun s => Z1n n0 s.1 s.2) Wg (4611686018427387904, 0)) fun o => match o with | .inl (p1_0_0, p1_0_1) => (some (p1_0_0, p1_0_1)) | .inr p1_1_0 => (Z3q p1_1_0)
def Z27 (n0 : Net) : Option (Bool) :=
  Option.bind (Z11 n0) fun (r3, r4) =>
  some r4
def Z3i  : Option (Int) :=
  some 0
def Z03 (n0 : Net) : Option (Int) :=
  Option.bind Z25 fun _ =>
  Option.bind (Z23 n0) fun a0 =>
  if (!a0) = true then
  (some 10)
  else
  Option.bind (Z2g n0) fun a1 =>
  if (!a1) = true then
  (some 11)
  else
  Option.bind (Z3l n0) fun a2 =>
  if (!a2) = true then
  (some 12)
  else
  Option.bind (Z1d n0) fun a3 =>
  if (!a3) = true then
  (some 13)
  else
  Option.bind (Z18 n0) fun a4 =>
  if (!a4) = true then
  (some 14)
  else
  Option.bind (Z27 n0) fun a5 =>
  if (!a5) = true then
  (some 15)
  else
  Z3i
end Go.Acq
namespace Go.Acq
open Go
structure Hop where
  Arc : Int
  Back : Bool
  deriving DecidableEq
instance : Inhabited Hop := ⟨⟨default, default⟩⟩
end Go.Acq
namespace Go.Acq
open Go
end Go.Acq
namespace Go.Acq
open Go
structure BytesBuffer where
  buf : List Int
  off : Int
  lastRead : Int
  deriving DecidableEq
instance : Inhabited BytesBuffer := ⟨⟨default, default, default⟩⟩
def Z01 (c0 : Int) : Option (Bool) :=
  if c0 = 9 then
  (some true)
  else
  if c0 = 13 then
  (some true)
  else
  some (decide (c0 = 32))
def Uy (x : Nat) : Bool := decide (Z01 (x : Int) = some true)
def Z28 (s0 : Str) : Option (List Str) :=
  gd (s0.length ≤ 4294967296) <| some (Z0k Uy s0)
def Z0u (a0 : List Int) : Option (List Str) :=
  Option.bind (Z28 (bu a0)) fun r1 =>
  some r1
def Z0b (c0 : Int) : Option (Bool) :=
  if c0 < 48 then
  (some true)
  else
  some (decide (57 < c0))
def Lg (x : Nat) : Bool := decide (Z0b (x : Int) = some true)
def Z48 (s0 : Str) : Option (Bool) :=
  some (anyT Lg s0)
def Z2u (s0 : Str) (i1 i2 : Int) : Option (Int × Bool) :=
  gd (s0.length ≤ 281474976710656 ∧ i1 = 10 ∧ i2 = 64) <| some (Z1y s0)
def Z04 (s0 : Str) (x4 : Bool) : Option (Int × Bool) :=
  if x4 = true then
  (some (0, false))
  else
  Option.bind (Z2u s0 10 64) fun (r6, r7) =>
  if (!r7) = true then
  (some (0, false))
  else
  some (r6, true)
def Z1i (s0 : Str) : Option (Int × Bool) :=
  if 19 < (s0.length : Int) then
  (Z04 s0 true)
  else
  Option.bind (Z48 s0) fun r2 =>
  Z04 s0 r2
def Z60 (i0 i1 : Int) : Option (Str) :=
  gd (i64ok i0 ∧ i1 = 10) <| some (Yz i0)
def Lt (i0 : Int) : Option (Str) :=
  gd (i64ok i0) <| some (Yz i0)
def Z2c (s0 a1 : List Int) (a0 : Int) : Option (Unit) :=
  some ()
def Z3o (s0 a0 : List Int) : Option (Unit) :=
  Option.bind (Z2c s0 a0 0) fun _ =>
  some ()
def Z39 (b0 : List Int) (c1 : Int) : Option (Int) :=
  some (idxT b0 c1)
def Z0p (s0 a0 : List Int) : Option (Int) :=
  if (a0.length : Int) = 0 then
  (none)
  else
  if (a0.length : Int) = 1 then
  (gd (inb 0 a0.length) <|
  Option.bind (Z39 s0 (a0.getD (0 : Int).toNat 0)) fun r4 =>
  some r4)
  else
  none
def Nf {S_ X_ : Type} (a3 : S_ → List Int → Option (S_ ⊕ X_)) (c1 : List Int) (c3 : Int) (c4 : List Int) (a2 : S_ ⊕ X_) : Option ((List Int × (S_ ⊕ X_)) ⊕ ((List Int × (S_ ⊕ X_)) ⊕ (S_ ⊕ X_))) :=
  Option.bind (Z0p c4 c1) fun a0 =>
  if a0 < 0 then
  (some (.inr (.inl (c4, a2))))
  else
  gd (i64ok (a0 + c3)) <|
  gd (0 ≤ (a0 + c3) ∧ (a0 + c3) ≤ (c4.length : Int)) <|
  gd (0 ≤ ((c4.take (a0 + c3).toNat).length : Int) ∧ ((c4.take (a0 + c3).toNat).length : Int) ≤ ((c4.take (a0 + c3).toNat).length : Int)) <|
  Option.bind (Rm a3 a2 ((c4.take (a0 + c3).toNat).take ((c4.take (a0 + c3).toNat).length : Int).toNat)) fun a1 =>
  if (!a1.isLeft) = true then
  (some (.inr (.inr a1)))
  else
  gd (i64ok (a0 + (c1.length : Int))) <|
  gd (0 ≤ (a0 + (c1.length : Int)) ∧ (a0 + (c1.length : Int)) ≤ (c4.length : Int)) <|
  some (.inl ((c4.drop (a0 + (c1.length : Int)).toNat), a1))
def Z12 {S_ X_ : Type} (a2 : S_ → List Int → Option (S_ ⊕ X_)) (c28 : List Int) (a0 : S_ ⊕ X_) : Option ((S_ ⊕ X_)) :=
  gd (0 ≤ (c28.length : Int) ∧ (c28.length : Int) ≤ (c28.length : Int)) <|
  Option.bind (Rm a2 a0 (c28.take (c28.length : Int).toNat)) fun a1 =>
  some a1
def Z40 {S_ X_ : Type} (a0 : S_ → List Int → Option (S_ ⊕ X_)) (c1 : List Int) (c2 : List Int) (c3 : Int) (a1 : S_ ⊕ X_) : Option ((S_ ⊕ X_)) :=
  Option.bind (We (fun s => Nf a0 c1 c3 s.1 s.2) Wg (c2, a1)) fun o => match o with | .inl (p2_0_0, p2_0_1) => (Z12 a0 p2_0_0 p2_0_1) | .inr p2_1_0 => (some p2_1_0)
def Z1o {S_ X_ : Type} (a1 : S_ → List Int → Option (S_ ⊕ X_)) (c1 : List Int) (c2 : List Int) (c3 : Int) (a0 : S_ ⊕ X_) : Option ((S_ ⊕ X_)) :=
  if (c1.length : Int) = 0 then
  (none)
  else
  Z40 a1 c1 c2 c3 a0
end Go.Acq
namespace Go.Acq
open Go
structure DimacsReader where
  n : Net
  said : List (Str × Int)
  arcs : Int
  words : List Str
  deriving DecidableEq
instance : Inhabited DimacsReader := ⟨⟨default, default, default, default⟩⟩
def Xy (a0 : Bool) : Option (Unit ⊕ Unit) :=
  some (if a0 = true then .inl () else .inr ())
def La (a2 : DimacsReader) (a3 a1 a0 : Int) : Option ((Int) ⊕ Unit) :=
  gd (inb a3 a2.words.length) <|
  Option.bind (Z1i (a2.words.getD a3.toNat ([] : Str))) fun (r2, r3) =>
  if r3 = true then
  (if a1 ≤ r2 then
  (Option.bind (Xy (decide (r2 ≤ a0))) fun t => match t with | .inl _ => (some (.inl r2)) | .inr _ => some (.inr ()))
  else
  Option.bind (Xy false) fun t => match t with | .inl _ => (none) | .inr _ => some (.inr ()))
  else
  Option.bind (Xy false) fun t => match t with | .inl _ => (none) | .inr _ => some (.inr ())
def Rf (r0 : DimacsReader) (n1 : Int) : Option ((Unit) ⊕ Unit) :=
  Option.bind (Xy (decide ((r0.words.length : Int) = n1))) fun t => match t with | .inl _ => (some (.inl ())) | .inr _ => some (.inr ())
def Rb (a0 : DimacsReader) (a1 : Int) : Option ((Int) ⊕ Unit) :=
  Option.bind (La a0 a1 1 a0.n.N) fun t => match t with | .inl r1 => (gd (i64ok (r1 - 1)) <| some (.inl (r1 - 1))) | .inr _ => some (.inr ())
def Rz (r0 : DimacsReader) (a0 : Str) : Option ((DimacsReader) ⊕ Unit) :=
  gd (i64ok ((Yd 0 a0 r0.said) + 1)) <|
  Option.bind (Xy (decide ((Yd 0 a0 (Yx a0 ((Yd 0 a0 r0.said) + 1) r0.said)) = 1))) fun t => match t with | .inl _ => (some (.inl (DimacsReader.mk r0.n (Yx a0 ((Yd 0 a0 r0.said) + 1) r0.said) r0.arcs r0.words))) | .inr _ => some (.inr ())
def Z16 (r0 : DimacsReader) : Option ((DimacsReader) ⊕ Unit) :=
  Option.bind (Rf r0 4) fun t => match t with | .inl _ => (Option.bind (Rz r0 ([112] : Str)) fun t => match t with | .inl r5 => (gd (inb 1 r0.words.length) <| Option.bind (Xy (decide ((r0.words.getD (1 : Int).toNat ([] : Str)) = ([109, 97, 120] : Str)))) fun t => match t with | .inl _ => (Option.bind (La (DimacsReader.mk r0.n r5.said r0.arcs r0.words) 2 0 2147483648) fun t => match t with | .inl a0 => (Option.bind (La (DimacsReader.mk r0.n r5.said r0.arcs r0.words) 3 0 2147483648) fun t => match t with | .inl a1 => (some (.inl (DimacsReader.mk (Net.mk a0 r0.n.S r0.n.T r0.n.Arcs) r5.said a1 r0.words))) | .inr _ => some (.inr ())) | .inr _ => some (.inr ())) | .inr _ => some (.inr ())) | .inr _ => some (.inr ())) | .inr _ => some (.inr ())
def Z0i (r0 : DimacsReader) : Option ((DimacsReader) ⊕ Unit) :=
  Option.bind (Rf r0 3) fun t => match t with | .inl _ => (Option.bind (Rb r0 1) fun t => match t with | .inl r5 => (gd (inb 2 r0.words.length) <| Option.bind (Rz r0 (r0.words.getD (2 : Int).toNat ([] : Str))) fun t => match t with | .inl r9 => (gd (inb 2 r0.words.length) <| if (r0.words.getD (2 : Int).toNat ([] : Str)) = ([115] : Str) then (some (.inl (DimacsReader.mk (Net.mk r0.n.N r5 r0.n.T r0.n.Arcs) r9.said r0.arcs r0.words))) else if (r0.words.getD (2 : Int).toNat ([] : Str)) = ([116] : Str) then (some (.inl (DimacsReader.mk (Net.mk r0.n.N r0.n.S r5 r0.n.Arcs) r9.said r0.arcs r0.words))) else Option.bind (Xy false) fun t => match t with | .inl _ => (none) | .inr _ => some (.inr ())) | .inr _ => some (.inr ())) | .inr _ => some (.inr ())) | .inr _ => some (.inr ())
def Z1h (r0 : DimacsReader) : Option ((DimacsReader) ⊕ Unit) :=
  Option.bind (Rf r0 4) fun t => match t with | .inl _ => (Option.bind (Rb r0 1) fun t => match t with | .inl r6 => (Option.bind (Rb r0 2) fun t => match t with | .inl r9 => (Option.bind (La r0 3 0 9223372036854775807) fun t => match t with | .inl a0 => (gd (apok (r0.n.Arcs ++ ([(Arc.mk r6 r9 a0)])).length 24) <| some (.inl (DimacsReader.mk (Net.mk r0.n.N r0.n.S r0.n.T (r0.n.Arcs ++ ([(Arc.mk r6 r9 a0)]))) r0.said r0.arcs r0.words))) | .inr _ => some (.inr ())) | .inr _ => some (.inr ())) | .inr _ => some (.inr ())) | .inr _ => some (.inr ())
def Z0y (r0 : DimacsReader) (r4 : List Str) : Option ((DimacsReader) ⊕ Unit) :=
  Option.bind (Z16 (DimacsReader.mk r0.n r0.said r0.arcs r4)) fun t => match t with | .inl a0 => (some (.inl (DimacsReader.mk (Net.mk a0.n.N r0.n.S r0.n.T r0.n.Arcs) a0.said a0.arcs r4))) | .inr _ => some (.inr ())
def Z0q (r0 : DimacsReader) (r4 : List Str) : Option ((DimacsReader) ⊕ Unit) :=
  Option.bind (Z0i (DimacsReader.mk r0.n r0.said r0.arcs r4)) fun t => match t with | .inl a0 => (some (.inl (DimacsReader.mk (Net.mk r0.n.N a0.n.S a0.n.T r0.n.Arcs) a0.said r0.arcs r4))) | .inr _ => some (.inr ())
def Z0z (r0 : DimacsReader) (r4 : List Str) : Option ((DimacsReader) ⊕ Unit) :=
  Option.bind (Z1h (DimacsReader.mk r0.n r0.said r0.arcs r4)) fun t => match t with | .inl a0 => (some (.inl (DimacsReader.mk (Net.mk r0.n.N r0.n.S r0.n.T a0.n.Arcs) a0.said r0.arcs r4))) | .inr _ => some (.inr ())
def Z0j (r0 : DimacsReader) (b1 : List Int) : Option ((DimacsReader) ⊕ Unit) :=
  Option.bind (Z0u b1) fun r4 =>
  if (r4.length : Int) = 0 then
  (some (.inl (DimacsReader.mk r0.n r0.said r0.arcs r4)))
  else
  gd (inb 0 r4.length) <|
  gd (inb 0 (r4.getD (0 : Int).toNat ([] : Str)).length) <|
  if (((r4.getD (0 : Int).toNat ([] : Str)).getD (0 : Int).toNat 0).toNat : Int) = 99 then
  (some (.inl (DimacsReader.mk r0.n r0.said r0.arcs r4)))
  else
  gd (inb 0 r4.length) <|
  if (r4.getD (0 : Int).toNat ([] : Str)) = ([112] : Str) then
  (if (r4.getD (0 : Int).toNat ([] : Str)) = ([112] : Str) then
  (Option.bind (Xy true) fun t => match t with | .inl _ => (Z0y r0 r4) | .inr _ => some (.inr ()))
  else
  Option.bind (Xy (decide ((Yd 0 ([112] : Str) r0.said) = 1))) fun t => match t with | .inl _ => (Z0y r0 r4) | .inr _ => some (.inr ()))
  else
  if (r4.getD (0 : Int).toNat ([] : Str)) = ([110] : Str) then
  (if (r4.getD (0 : Int).toNat ([] : Str)) = ([112] : Str) then
  (Option.bind (Xy true) fun t => match t with | .inl _ => (Z0q r0 r4) | .inr _ => some (.inr ()))
  else
  Option.bind (Xy (decide ((Yd 0 ([112] : Str) r0.said) = 1))) fun t => match t with | .inl _ => (Z0q r0 r4) | .inr _ => some (.inr ()))
  else
  if (r4.getD (0 : Int).toNat ([] : Str)) = ([97] : Str) then
  (if (r4.getD (0 : Int).toNat ([] : Str)) = ([112] : Str) then
  (Option.bind (Xy true) fun t => match t with | .inl _ => (Z0z r0 r4) | .inr _ => some (.inr ()))
  else
  Option.bind (Xy (decide ((Yd 0 ([112] : Str) r0.said) = 1))) fun t => match t with | .inl _ => (Z0z r0 r4) | .inr _ => some (.inr ()))
  else
  Option.bind (Xy false) fun t => match t with | .inl _ => (none) | .inr _ => some (.inr ())
def Nq (a4 a5 n22 : Int) (a6 : List Arc) (a3 : List (Str × Int)) (a1 : Int) (a0 : List Str) (a7 : List Int) : Option ((Int × Int × Int × List Arc × (List (Str × Int)) × Int × List Str) ⊕ (Unit)) :=
  Option.bind (Z0j (DimacsReader.mk (Net.mk a4 a5 n22 a6) a3 a1 a0) a7) fun t => match t with | .inl a2 => (some (.inl (a2.n.N, a2.n.S, a2.n.T, a2.n.Arcs, a2.said, a2.arcs, a2.words))) | .inr _ => some (.inr ())
def Z1m (b0 : List Int) : Option (Net × Bool) :=
  Option.bind (Z3o b0 ([10])) fun _ =>
  Option.bind (Z1o (fun s v => Nq s.1 s.2.1 s.2.2.1 s.2.2.2.1 s.2.2.2.2.1 s.2.2.2.2.2.1 s.2.2.2.2.2.2 v) ([10]) b0 0 (.inl (0, 0, 0, [], ([] : List (Str × Int)), 0, []))) fun t => match t with | .inl (a4, a5, n22, a3, a0, a1, a2) => (if (Yd 0 ([112] : Str) a0) = 1 then (if (Yd 0 ([115] : Str) a0) = 1 then (if (Yd 0 ([116] : Str) a0) = 1 then (Option.bind (Xy (decide ((a3.length : Int) = a1))) fun t => match t with | .inl _ => (some ((Net.mk a4 a5 n22 a3), true)) | .inr _ => some ((Net.mk 0 0 0 ([])), false)) else Option.bind (Xy false) fun t => match t with | .inl _ => (none) | .inr _ => some ((Net.mk 0 0 0 ([])), false)) else Option.bind (Xy false) fun t => match t with | .inl _ => (none) | .inr _ => some ((Net.mk 0 0 0 ([])), false)) else Option.bind (Xy false) fun t => match t with | .inl _ => (none) | .inr _ => some ((Net.mk 0 0 0 ([])), false)) | .inr _ => (some ((Net.mk 0 0 0 ([])), false))
def Z0d (b0 : List Int) : Option (Net × Int) :=
  Option.bind (Z1m b0) fun (r3, r4) =>
  if (!r4) = true then
  (some ((Net.mk 0 0 0 ([])), 70))
  else
  Option.bind (Z03 r3) fun a0 =>
  if a0 ≠ 0 then
  (some ((Net.mk 0 0 0 ([])), a0))
  else
  some (r3, 0)
def Uj (s0 : Str) (a0 : Int) : Option (Bool) :=
  Option.bind (Z0d (ub s0)) fun (r8, r9) =>
  some (decide (r9 = a0))
def Z3n (a0 b1 : Net) (a1 : Int) : Option ((Int) ⊕ (Bool ⊕ Unit)) :=
  if a1 < (a0.Arcs.length : Int) then
  (gd (inb a1 a0.Arcs.length) <|
  gd (inb a1 b1.Arcs.length) <|
  if (!decide (([(a0.Arcs.getD a1.toNat default).fr, (a0.Arcs.getD a1.toNat default).to, (a0.Arcs.getD a1.toNat default).cap] : List Int) = [(b1.Arcs.getD a1.toNat default).fr, (b1.Arcs.getD a1.toNat default).to, (b1.Arcs.getD a1.toNat default).cap])) = true then
  (some (.inr (.inl false)))
  else
  gd (i64ok (a1 + 1)) <|
  some (.inl (a1 + 1)))
  else
  some (.inr (.inr ()))
def Z5j  : Option (Bool) :=
  some true
def Z4r (a0 b1 : Net) : Option (Bool) :=
  if a0.N ≠ b1.N then
  (some false)
  else
  if a0.S ≠ b1.S then
  (some false)
  else
  if a0.T ≠ b1.T then
  (some false)
  else
  if (a0.Arcs.length : Int) ≠ (b1.Arcs.length : Int) then
  (some false)
  else
  Option.bind (We (fun s => Z3n a0 b1 s) Wg 0) fun o => match o with | .inl p1_0_0 => (some p1_0_0) | .inr () => Z5j
def Z2h (a0 : Bool) : Option (Bool) :=
  some a0
def Z38 (a0 : Bool) : Option (Bool) :=
  if a0 = true then
  (Option.bind (Uj ([112, 32, 109, 97, 120, 32, 51, 32, 49, 10, 110, 32, 49, 32, 115, 10, 110, 32, 51, 32, 116, 10, 97, 32, 49, 32, 52, 32, 53, 10] : Str) 70) fun a1 =>
  Z2h a1)
  else
  Z2h false
def Z2z (a0 : Bool) : Option (Bool) :=
  if a0 = true then
  (Option.bind (Uj ([112, 32, 109, 97, 120, 32, 51, 32, 48, 10, 110, 32, 49, 32, 115, 10, 110, 32, 49, 32, 116, 10] : Str) 12) fun a1 =>
  Z38 a1)
  else
  Z38 false
def Z3w (a0 : Bool) : Option (Bool) :=
  if a0 = true then
  (Option.bind (Uj ([112, 32, 109, 97, 120, 32, 49, 32, 48, 10, 110, 32, 49, 32, 115, 10, 110, 32, 49, 32, 116, 10] : Str) 10) fun a1 =>
  Z2z a1)
  else
  Z2z false
def Z10  : Option (Bool) :=
  Option.bind (Z0d ([112, 32, 109, 97, 120, 32, 51, 32, 49, 10, 110, 32, 49, 32, 115, 10, 110, 32, 51, 32, 116, 10, 97, 32, 49, 32, 51, 32, 53])) fun (r4, r5) =>
  if r5 = 0 then
  (Option.bind (Z4r r4 (Net.mk 3 0 2 ([(Arc.mk 0 2 5)]))) fun a0 =>
  if a0 = true then
  (Option.bind (Uj ([112, 32, 109, 97, 120, 32, 51, 32, 49, 10, 110, 32, 49, 32, 115, 10, 110, 32, 51, 32, 116, 10] : Str) 70) fun a1 =>
  Z3w a1)
  else
  Z3w false)
  else
  some false
end Go.Acq
namespace Go.Acq
open Go
def Z2a (x0 : List Str) (s1 : Str) : Option (Str) :=
  gd (x0.length ≤ 140737488355328 ∧ (Lib.join x0 s1).length ≤ 140737488355328) <| some (Lib.join x0 s1)
def Nm (v0 : Int) : Option (Str) :=
  gd (i64ok (v0 + 1)) <|
  Option.bind (Lt (v0 + 1)) fun r2 =>
  some r2
def Z0w (n0 : Net) (a0 : List Int) (a1 : Int) : Option ((List Int × Int) ⊕ (List Int)) :=
  if a1 < (n0.Arcs.length : Int) then
  (gd (inb a1 n0.Arcs.length) <|
  Option.bind (Nm ((n0.Arcs.getD a1.toNat default).fr)) fun a2 =>
  Option.bind (Nm ((n0.Arcs.getD a1.toNat default).to)) fun a3 =>
  Option.bind (Z60 ((n0.Arcs.getD a1.toNat default).cap) 10) fun a4 =>
  gd (([([97] : Str), a2, a3, a4]).length ≤ 140737488355328 ∧ (a0 ++ ub (Lib.join ([([97] : Str), a2, a3, a4]) [32] ++ [10])).length ≤ 140737488355328) <|
  gd (i64ok (a1 + 1)) <|
  some (.inl ((a0 ++ ub (Lib.join ([([97] : Str), a2, a3, a4]) [32] ++ [10])), (a1 + 1))))
  else
  some (.inr a0)
def Z3x (a0 : List Int) : Option (List Int × Int) :=
  some (a0, 0)
def Z1s (n0 : Net) : Option (List Int × Int) :=
  Option.bind (Z03 n0) fun r3 =>
  if r3 ≠ 0 then
  (some ([], r3))
  else
  Option.bind (Lt n0.N) fun r8 =>
  Option.bind (Lt (n0.Arcs.length : Int)) fun a0 =>
  gd (([([112] : Str), ([109, 97, 120] : Str), r8, a0]).length ≤ 140737488355328 ∧ (([] : List Int) ++ ub (Lib.join ([([112] : Str), ([109, 97, 120] : Str), r8, a0]) [32] ++ [10])).length ≤ 140737488355328) <|
  Option.bind (Nm n0.S) fun a1 =>
  gd (([([110] : Str), a1, ([115] : Str)]).length ≤ 140737488355328 ∧ ((([] : List Int) ++ ub (Lib.join ([([112] : Str), ([109, 97, 120] : Str), r8, a0]) [32] ++ [10])) ++ ub (Lib.join ([([110] : Str), a1, ([115] : Str)]) [32] ++ [10])).length ≤ 140737488355328) <|
  Option.bind (Nm n0.T) fun a2 =>
  gd (([([110] : Str), a2, ([116] : Str)]).length ≤ 140737488355328 ∧ (((([] : List Int) ++ ub (Lib.join ([([112] : Str), ([109, 97, 120] : Str), r8, a0]) [32] ++ [10])) ++ ub (Lib.join ([([110] : Str), a1, ([115] : Str)]) [32] ++ [10])) ++ ub (Lib.join ([([110] : Str), a2, ([116] : Str)]) [32] ++ [10])).length ≤ 140737488355328) <|
  Option.bind (We (fun s => Z0w n0 s.1 s.2) Wg ((((([] : List Int) ++ ub (Lib.join ([([112] : Str), ([109, 97, 120] : Str), r8, a0]) [32] ++ [10])) ++ ub (Lib.join ([([110] : Str), a1, ([115] : Str)]) [32] ++ [10])) ++ ub (Lib.join ([([110] : Str), a2, ([116] : Str)]) [32] ++ [10])), 0)) fun p1_0_0 => Z3x p1_0_0
def Z4o (s0 s1 : Str) : Option (Str) :=
  gd (slok s0.length) <| some (Lib.trimSuffix s0 s1)
def Z50 (s0 s1 : Str) (i2 i3 : Int) : Option (List Str) :=
  gd (s0.length < 4294967281 ∧ s1.length = 1 ∧ (i2 = 0 ∨ i2 = 1) ∧ i3 = -1) <| some (Uw (decide (i2 = 1)) (s1.getD 0 0) s0 [])
def Z4i (s0 a0 : Str) : Option (List Str) :=
  Option.bind (Z50 s0 a0 0 (-1)) fun r1 =>
  some r1
end Go.Acq
namespace Go.Acq
open Go
def Z5t (s0 s1 : Str) : Option (Int) :=
  gd (s1.length = 1 ∧ s0.length < 4611686018427387904) <| some (Lv s0 (s1.getD 0 0))
def Kn (l0 c1 : List Str) (c2 : Int) : Option (Str) :=
  gd (0 ≤ c2 ∧ c2 ≤ (c1.length : Int)) <|
  gd (apok (c1.take c2.toNat).length 16) <|
  gd (apok ((c1.take c2.toNat) ++ l0).length 16) <|
  gd (i64ok (c2 + 1)) <|
  gd (0 ≤ (c2 + 1) ∧ (c2 + 1) ≤ (c1.length : Int)) <|
  gd (apok (((c1.take c2.toNat) ++ l0) ++ (c1.drop (c2 + 1).toNat)).length 16) <|
  Option.bind (Z2a (((c1.take c2.toNat) ++ l0) ++ (c1.drop (c2 + 1).toNat)) ([10] : Str)) fun a0 =>
  gd (slok (a0 ++ ([10] : Str)).length) <|
  some (a0 ++ ([10] : Str))
def Z49 (s0 : Str) : Option (Str) :=
  gd (s0.length ≤ 140737488355328 ∧ s0.all (fun b => decide (b.toNat < 128)) = true) <| some (Lib.toUpperA s0)
def Z0v (a1 a2 a3 a4 a5 r82 : Str) (a0 : Int) : Option ((Int) ⊕ (Bool ⊕ Unit)) :=
  if a0 < (([a1, a2, a3, a4, a5, r82]).length : Int) then
  (gd (inb a0 ([a1, a2, a3, a4, a5, r82]).length) <|
  Option.bind (Uj (([a1, a2, a3, a4, a5, r82]).getD a0.toNat ([] : Str)) 70) fun a6 =>
  if (!a6) = true then
  (some (.inr (.inl false)))
  else
  gd (i64ok (a0 + 1)) <|
  some (.inl (a0 + 1)))
  else
  some (.inr (.inr ()))
def Z36 (a1 : Int) (a0 : List Str) : Option (Bool) :=
  gd (inb (a1.tmod (a0.length : Int)) a0.length) <|
  Option.bind (Kn ([(a0.getD (a1.tmod (a0.length : Int)).toNat ([] : Str))]) a0 (a1.tmod (a0.length : Int))) fun a4 =>
  Option.bind (Uj a4 0) fun a5 =>
  if a5 = true then
  (Option.bind (Uj ([] : Str) 70) fun a2 =>
  if a2 = true then
  (Option.bind Z10 fun a3 =>
  some a3)
  else
  some false)
  else
  some false
def Z43 (n0 : Net) (a1 : Int) : Option (Bool) :=
  Option.bind (Z20 n0 20 20) fun r3 =>
  Option.bind (Z1s r3) fun (a3, a4) =>
  if a4 ≠ 0 then
  (some false)
  else
  Option.bind (Z4o (bu a3) ([10] : Str)) fun a5 =>
  Option.bind (Z4i a5 ([10] : Str)) fun a0 =>
  gd (i64ok (3 + (r3.Arcs.length : Int))) <|
  if (a0.length : Int) ≠ (3 + (r3.Arcs.length : Int)) then
  (some false)
  else
  gd (i64ok a1) <|
  gd ((a0.length : Int) ≠ 0) <|
  gd (inb (a1.tmod (a0.length : Int)) a0.length) <|
  gd (inb (a1.tmod (a0.length : Int)) a0.length) <|
  Option.bind (Z5t (a0.getD (a1.tmod (a0.length : Int)).toNat ([] : Str)) ([32] : Str)) fun a2 =>
  gd (0 ≤ a2 ∧ a2 ≤ ((a0.getD (a1.tmod (a0.length : Int)).toNat ([] : Str)).length : Int)) <|
  Option.bind (Kn ([]) a0 (a1.tmod (a0.length : Int))) fun a6 =>
  gd (inb (a1.tmod (a0.length : Int)) a0.length) <|
  gd (inb (a1.tmod (a0.length : Int)) a0.length) <|
  Option.bind (Kn ([(a0.getD (a1.tmod (a0.length : Int)).toNat ([] : Str)), (a0.getD (a1.tmod (a0.length : Int)).toNat ([] : Str))]) a0 (a1.tmod (a0.length : Int))) fun a7 =>
  gd (inb (a1.tmod (a0.length : Int)) a0.length) <|
  gd (slok ((a0.getD (a1.tmod (a0.length : Int)).toNat ([] : Str)) ++ ([32, 49] : Str)).length) <|
  Option.bind (Kn ([((a0.getD (a1.tmod (a0.length : Int)).toNat ([] : Str)) ++ ([32, 49] : Str))]) a0 (a1.tmod (a0.length : Int))) fun a8 =>
  Option.bind (Kn ([((a0.getD (a1.tmod (a0.length : Int)).toNat ([] : Str)).take a2.toNat)]) a0 (a1.tmod (a0.length : Int))) fun a9 =>
  gd (inb (a1.tmod (a0.length : Int)) a0.length) <|
  gd (slok (([120] : Str) ++ (a0.getD (a1.tmod (a0.length : Int)).toNat ([] : Str))).length) <|
  Option.bind (Kn ([(([120] : Str) ++ (a0.getD (a1.tmod (a0.length : Int)).toNat ([] : Str)))]) a0 (a1.tmod (a0.length : Int))) fun b0 =>
  gd (inb (a1.tmod (a0.length : Int)) a0.length) <|
  Option.bind (Z49 (a0.getD (a1.tmod (a0.length : Int)).toNat ([] : Str))) fun b1 =>
  Option.bind (Kn ([b1]) a0 (a1.tmod (a0.length : Int))) fun r82 =>
  Option.bind (We (fun s => Z0v a6 a7 a8 a9 b0 r82 s) Wg 0) fun o => match o with | .inl p1_0_0 => (some p1_0_0) | .inr () => (Z36 a1 a0)
end Go.Acq
namespace Go.Proofs
open Go.Shelf
def Zei : Go.Shelf.Ren := ⟨fun | 171 => 45 | 243 => 86 | 246 => 70 | 283 => 115 | 284 => 116 | 285 => 117 | 286 => 118 | 129 => 151 | 317 => 150 | 318 => 152 | 319 => 153 | 320 => 154 | 337 => 176 | 338 => 177 | n => n, fun | 3 => 3 | 9 => 9 | 2 => 2 | 4 => 4 | 171 => 159 | 0 => 0 | 53 => 156 | 37 => 25 | 5 => 5 | 173 => 162 | 212 => 184 | 51 => 153 | 20 => 20 | 213 => 185 | 46 => 110 | 232 => 224 | 233 => 225 | n => n, fun | 17 => 2 | 18 => 8 | 19 => 9 | n => n⟩
theorem Zc2 : Go.Proofs.LaysM.n171 Tryz.prog Zei := {
 mixed := by kernel_rfl
 f129 := Tryz.func151.trans (congrArg some (by kernel_rfl))
 f171 := Tryz.func45.trans (congrArg some (by kernel_rfl))
 f243 := Tryz.func86.trans (congrArg some (by kernel_rfl))
 f246 := Tryz.func70.trans (congrArg some (by kernel_rfl))
 f283 := Tryz.func115.trans (congrArg some (by kernel_rfl))
 f284 := Tryz.func116.trans (congrArg some (by kernel_rfl))
 f285 := Tryz.func117.trans (congrArg some (by kernel_rfl))
 f286 := Tryz.func118.trans (congrArg some (by kernel_rfl))
 f317 := Tryz.func150.trans (congrArg some (by kernel_rfl))
 f318 := Tryz.func152.trans (congrArg some (by kernel_rfl))
 f319 := Tryz.func153.trans (congrArg some (by kernel_rfl))
 f320 := Tryz.func154.trans (congrArg some (by kernel_rfl))
 f337 := Tryz.func176.trans (congrArg some (by kernel_rfl))
 f338 := Tryz.func177.trans (congrArg some (by kernel_rfl))
 t0 := Tryz.underlying0
 a0 := Tryz.isAgg0
 z0 := Tryz.sizeOf0
 v0 := Tryz.zeroValue0
 t2 := Tryz.underlying2
 a2 := Tryz.isAgg2
 z2 := Tryz.sizeOf2
 v2 := Tryz.zeroValue2
 t3 := Tryz.underlying3
 a3 := Tryz.isAgg3
 z3 := Tryz.sizeOf3
 v3 := Tryz.zeroValue3
 t4 := Tryz.underlying4
 a4 := Tryz.isAgg4
 z4 := Tryz.sizeOf4
 v4 := Tryz.zeroValue4
 t5 := Tryz.underlying5
 a5 := Tryz.isAgg5
 z5 := Tryz.sizeOf5
 v5 := Tryz.zeroValue5
 t9 := Tryz.underlying9
 a9 := Tryz.isAgg9
 z9 := Tryz.sizeOf9
 v9 := Tryz.zeroValue9
 t20 := Tryz.underlying20
 a20 := Tryz.isAgg20
 z20 := Tryz.sizeOf20
 v20 := Tryz.zeroValue20
 t37 := Tryz.underlying25
 a37 := Tryz.isAgg25
 z37 := Tryz.sizeOf25
 v37 := Tryz.zeroValue25
 t46 := Tryz.underlying110
 a46 := Tryz.isAgg110
 z46 := Tryz.sizeOf110
 v46 := Tryz.zeroValue110
 t51 := Tryz.underlying153
 a51 := Tryz.isAgg153
 z51 := Tryz.sizeOf153
 v51 := Tryz.zeroValue153
 t53 := Tryz.underlying156
 a53 := Tryz.isAgg156
 z53 := Tryz.sizeOf156
 v53 := Tryz.zeroValue156
 t171 := Tryz.underlying159
 a171 := Tryz.isAgg159
 z171 := Tryz.sizeOf159
 v171 := Tryz.zeroValue159
 t173 := Tryz.underlying162
 a173 := Tryz.isAgg162
 z173 := Tryz.sizeOf162
 v173 := Tryz.zeroValue162
 t212 := Tryz.underlying184
 a212 := Tryz.isAgg184
 z212 := Tryz.sizeOf184
 v212 := Tryz.zeroValue184
 t213 := Tryz.underlying185
 a213 := Tryz.isAgg185
 z213 := Tryz.sizeOf185
 t232 := Tryz.underlying224
 a232 := Tryz.isAgg224
 z232 := Tryz.sizeOf224
 v232 := Tryz.zeroValue224
 t233 := Tryz.underlying225
 a233 := Tryz.isAgg225
 z233 := Tryz.sizeOf225
 v233 := Tryz.zeroValue225
 g17 := by kernel_rfl
 g18 := by kernel_rfl
 g19 := by kernel_rfl
 i0 := by kernel_rfl
 i2 := by kernel_rfl
 i3 := by kernel_rfl
 i4 := by kernel_rfl
 i5 := by kernel_rfl
 i9 := by kernel_rfl
 i20 := by kernel_rfl
 i37 := by kernel_rfl
 i46 := by kernel_rfl
 i51 := by kernel_rfl
 i53 := by kernel_rfl
 i171 := by kernel_rfl
 i173 := by kernel_rfl
 i212 := by kernel_rfl
 i232 := by kernel_rfl
 i233 := by kernel_rfl
 m17 := by kernel_rfl
 m18 := by kernel_rfl
 m19 := by kernel_rfl }
def Zcm : Go.Shelf.Ren := ⟨fun | 173 => 32 | 246 => 70 | 283 => 115 | 284 => 116 | 285 => 117 | 286 => 118 | 129 => 151 | 317 => 150 | 318 => 152 | 319 => 153 | 320 => 154 | 337 => 176 | 338 => 177 | n => n, fun | 2 => 2 | 3 => 3 | 9 => 9 | 4 => 4 | 171 => 159 | 0 => 0 | 53 => 156 | 37 => 25 | 5 => 5 | 173 => 162 | 212 => 184 | 51 => 153 | 20 => 20 | 213 => 185 | 46 => 110 | 232 => 224 | 233 => 225 | n => n, fun | 17 => 2 | 18 => 8 | 19 => 9 | n => n⟩
theorem Zcz : Go.Proofs.LaysM.n173 Tryz.prog Zcm := {
 mixed := by kernel_rfl
 f129 := Tryz.func151.trans (congrArg some (by kernel_rfl))
 f173 := Tryz.func32.trans (congrArg some (by kernel_rfl))
 f246 := Tryz.func70.trans (congrArg some (by kernel_rfl))
 f283 := Tryz.func115.trans (congrArg some (by kernel_rfl))
 f284 := Tryz.func116.trans (congrArg some (by kernel_rfl))
 f285 := Tryz.func117.trans (congrArg some (by kernel_rfl))
 f286 := Tryz.func118.trans (congrArg some (by kernel_rfl))
 f317 := Tryz.func150.trans (congrArg some (by kernel_rfl))
 f318 := Tryz.func152.trans (congrArg some (by kernel_rfl))
 f319 := Tryz.func153.trans (congrArg some (by kernel_rfl))
 f320 := Tryz.func154.trans (congrArg some (by kernel_rfl))
 f337 := Tryz.func176.trans (congrArg some (by kernel_rfl))
 f338 := Tryz.func177.trans (congrArg some (by kernel_rfl))
 t0 := Tryz.underlying0
 a0 := Tryz.isAgg0
 z0 := Tryz.sizeOf0
 v0 := Tryz.zeroValue0
 t2 := Tryz.underlying2
 a2 := Tryz.isAgg2
 z2 := Tryz.sizeOf2
 v2 := Tryz.zeroValue2
 t3 := Tryz.underlying3
 a3 := Tryz.isAgg3
 z3 := Tryz.sizeOf3
 v3 := Tryz.zeroValue3
 t4 := Tryz.underlying4
 a4 := Tryz.isAgg4
 z4 := Tryz.sizeOf4
 v4 := Tryz.zeroValue4
 t5 := Tryz.underlying5
 a5 := Tryz.isAgg5
 z5 := Tryz.sizeOf5
 v5 := Tryz.zeroValue5
 t9 := Tryz.underlying9
 a9 := Tryz.isAgg9
 z9 := Tryz.sizeOf9
 v9 := Tryz.zeroValue9
 t20 := Tryz.underlying20
 a20 := Tryz.isAgg20
 z20 := Tryz.sizeOf20
 v20 := Tryz.zeroValue20
 t37 := Tryz.underlying25
 a37 := Tryz.isAgg25
 z37 := Tryz.sizeOf25
 v37 := Tryz.zeroValue25
 t46 := Tryz.underlying110
 a46 := Tryz.isAgg110
 z46 := Tryz.sizeOf110
 v46 := Tryz.zeroValue110
 t51 := Tryz.underlying153
 a51 := Tryz.isAgg153
 z51 := Tryz.sizeOf153
 v51 := Tryz.zeroValue153
 t53 := Tryz.underlying156
 a53 := Tryz.isAgg156
 z53 := Tryz.sizeOf156
 v53 := Tryz.zeroValue156
 t171 := Tryz.underlying159
 a171 := Tryz.isAgg159
 z171 := Tryz.sizeOf159
 v171 := Tryz.zeroValue159
 t173 := Tryz.underlying162
 a173 := Tryz.isAgg162
 z173 := Tryz.sizeOf162
 v173 := Tryz.zeroValue162
 t212 := Tryz.underlying184
 a212 := Tryz.isAgg184
 z212 := Tryz.sizeOf184
 v212 := Tryz.zeroValue184
 t213 := Tryz.underlying185
 a213 := Tryz.isAgg185
 z213 := Tryz.sizeOf185
 t232 := Tryz.underlying224
 a232 := Tryz.isAgg224
 z232 := Tryz.sizeOf224
 v232 := Tryz.zeroValue224
 t233 := Tryz.underlying225
 a233 := Tryz.isAgg225
 z233 := Tryz.sizeOf225
 v233 := Tryz.zeroValue225
 g17 := by kernel_rfl
 g18 := by kernel_rfl
 g19 := by kernel_rfl
 i0 := by kernel_rfl
 i2 := by kernel_rfl
 i3 := by kernel_rfl
 i4 := by kernel_rfl
 i5 := by kernel_rfl
 i9 := by kernel_rfl
 i20 := by kernel_rfl
 i37 := by kernel_rfl
 i46 := by kernel_rfl
 i51 := by kernel_rfl
 i53 := by kernel_rfl
 i171 := by kernel_rfl
 i173 := by kernel_rfl
 i212 := by kernel_rfl
 i232 := by kernel_rfl
 i233 := by kernel_rfl
 m17 := by kernel_rfl
 m18 := by kernel_rfl
 m19 := by kernel_rfl }
def Z7i : Go.Shelf.Ren := ⟨fun | 178 => 52 | 251 => 101 | 252 => 102 | 181 => 138 | 184 => 139 | 290 => 140 | 324 => 173 | n => n, fun | 130 => 76 | 9 => 9 | 3 => 3 | 75 => 90 | 0 => 0 | 93 => 74 | 91 => 72 | 131 => 145 | 4 => 4 | 37 => 25 | 20 => 20 | 80 => 109 | 5 => 5 | n => n, fun | 14 => 1 | n => n⟩
theorem Zbv : Go.Proofs.LaysM.n178 Tryz.prog Z7i := {
 mixed := by kernel_rfl
 f178 := Tryz.func52.trans (congrArg some (by kernel_rfl))
 f181 := Tryz.func138.trans (congrArg some (by kernel_rfl))
 f184 := Tryz.func139.trans (congrArg some (by kernel_rfl))
 f251 := Tryz.func101.trans (congrArg some (by kernel_rfl))
 f252 := Tryz.func102.trans (congrArg some (by kernel_rfl))
 f290 := Tryz.func140.trans (congrArg some (by kernel_rfl))
 f324 := Tryz.func173.trans (congrArg some (by kernel_rfl))
 t0 := Tryz.underlying0
 a0 := Tryz.isAgg0
 z0 := Tryz.sizeOf0
 v0 := Tryz.zeroValue0
 t3 := Tryz.underlying3
 a3 := Tryz.isAgg3
 z3 := Tryz.sizeOf3
 v3 := Tryz.zeroValue3
 t4 := Tryz.underlying4
 a4 := Tryz.isAgg4
 z4 := Tryz.sizeOf4
 v4 := Tryz.zeroValue4
 t9 := Tryz.underlying9
 a9 := Tryz.isAgg9
 z9 := Tryz.sizeOf9
 v9 := Tryz.zeroValue9
 t20 := Tryz.underlying20
 a20 := Tryz.isAgg20
 z20 := Tryz.sizeOf20
 v20 := Tryz.zeroValue20
 t37 := Tryz.underlying25
 a37 := Tryz.isAgg25
 z37 := Tryz.sizeOf25
 v37 := Tryz.zeroValue25
 t75 := Tryz.underlying90
 a75 := Tryz.isAgg90
 z75 := Tryz.sizeOf90
 v75 := Tryz.zeroValue90
 t91 := Tryz.underlying72
 a91 := Tryz.isAgg72
 z91 := Tryz.sizeOf72
 v91 := Tryz.zeroValue72
 t93 := Tryz.underlying74
 a93 := Tryz.isAgg74
 z93 := Tryz.sizeOf74
 v93 := Tryz.zeroValue74
 t130 := Tryz.underlying76
 a130 := Tryz.isAgg76
 z130 := Tryz.sizeOf76
 v130 := Tryz.zeroValue76
 t131 := Tryz.underlying145
 a131 := Tryz.isAgg145
 z131 := Tryz.sizeOf145
 v131 := Tryz.zeroValue145
 g14 := by kernel_rfl
 t5 := Tryz.underlying5
 a5 := Tryz.isAgg5
 z5 := Tryz.sizeOf5
 v5 := Tryz.zeroValue5
 t80 := Tryz.underlying109
 a80 := Tryz.isAgg109
 z80 := Tryz.sizeOf109
 v80 := Tryz.zeroValue109
 i0 := by kernel_rfl
 i3 := by kernel_rfl
 i4 := by kernel_rfl
 i5 := by kernel_rfl
 i9 := by kernel_rfl
 i20 := by kernel_rfl
 i37 := by kernel_rfl
 i75 := by kernel_rfl
 i80 := by kernel_rfl
 i91 := by kernel_rfl
 i93 := by kernel_rfl
 i130 := by kernel_rfl
 i131 := by kernel_rfl
 m14 := by kernel_rfl }
def Z79 : Go.Shelf.Ren := ⟨fun | 183 => 47 | n => n, fun | 130 => 76 | 37 => 25 | 0 => 0 | 93 => 74 | 3 => 3 | 5 => 5 | 91 => 72 | n => n, fun | n => n⟩
theorem Zah : Go.Proofs.LaysM.n183 Tryz.prog Z79 := {
 mixed := by kernel_rfl
 f183 := Tryz.func47.trans (congrArg some (by kernel_rfl))
 t0 := Tryz.underlying0
 a0 := Tryz.isAgg0
 z0 := Tryz.sizeOf0
 v0 := Tryz.zeroValue0
 t3 := Tryz.underlying3
 a3 := Tryz.isAgg3
 z3 := Tryz.sizeOf3
 v3 := Tryz.zeroValue3
 t37 := Tryz.underlying25
 a37 := Tryz.isAgg25
 z37 := Tryz.sizeOf25
 v37 := Tryz.zeroValue25
 t93 := Tryz.underlying74
 a93 := Tryz.isAgg74
 z93 := Tryz.sizeOf74
 v93 := Tryz.zeroValue74
 t130 := Tryz.underlying76
 a130 := Tryz.isAgg76
 z130 := Tryz.sizeOf76
 v130 := Tryz.zeroValue76
 t5 := Tryz.underlying5
 a5 := Tryz.isAgg5
 z5 := Tryz.sizeOf5
 v5 := Tryz.zeroValue5
 t91 := Tryz.underlying72
 a91 := Tryz.isAgg72
 z91 := Tryz.sizeOf72
 v91 := Tryz.zeroValue72
 i0 := by kernel_rfl
 i3 := by kernel_rfl
 i5 := by kernel_rfl
 i37 := by kernel_rfl
 i91 := by kernel_rfl
 i93 := by kernel_rfl
 i130 := by kernel_rfl }
def Zet : Go.Shelf.Ren := ⟨fun | 174 => 73 | 247 => 120 | 245 => 121 | 287 => 156 | 279 => 157 | 280 => 158 | 281 => 159 | 282 => 160 | 321 => 178 | 322 => 179 | 316 => 180 | 171 => 45 | 205 => 181 | 243 => 86 | 246 => 70 | 283 => 115 | 284 => 116 | 285 => 117 | 286 => 118 | 129 => 151 | 317 => 150 | 318 => 152 | 319 => 153 | 320 => 154 | 337 => 176 | 338 => 177 | n => n, fun | 9 => 9 | 3 => 3 | 2 => 2 | 75 => 90 | 85 => 117 | 4 => 4 | 167 => 189 | 5 => 5 | 53 => 156 | 175 => 190 | 46 => 110 | 168 => 192 | 37 => 25 | 0 => 0 | 210 => 217 | 21 => 21 | 127 => 152 | 145 => 228 | 143 => 226 | 171 => 159 | 173 => 162 | 212 => 184 | 51 => 153 | 20 => 20 | 213 => 185 | 232 => 224 | 233 => 225 | 80 => 109 | n => n, fun | 15 => 6 | 16 => 7 | 17 => 2 | 18 => 8 | 19 => 9 | n => n⟩
theorem Zbp : Go.Proofs.LaysC.n174 Tryz.prog Zet := {
 mixed := by kernel_rfl
 f129 := Tryz.func151.trans (congrArg some (by kernel_rfl))
 f171 := Tryz.func45.trans (congrArg some (by kernel_rfl))
 f174 := Tryz.func73.trans (congrArg some (by kernel_rfl))
 f205 := Tryz.func181.trans (congrArg some (by kernel_rfl))
 f243 := Tryz.func86.trans (congrArg some (by kernel_rfl))
 f245 := Tryz.func121.trans (congrArg some (by kernel_rfl))
 f246 := Tryz.func70.trans (congrArg some (by kernel_rfl))
 f247 := Tryz.func120.trans (congrArg some (by kernel_rfl))
 f279 := Tryz.func157.trans (congrArg some (by kernel_rfl))
 f280 := Tryz.func158.trans (congrArg some (by kernel_rfl))
 f281 := Tryz.func159.trans (congrArg some (by kernel_rfl))
 f282 := Tryz.func160.trans (congrArg some (by kernel_rfl))
 f283 := Tryz.func115.trans (congrArg some (by kernel_rfl))
 f284 := Tryz.func116.trans (congrArg some (by kernel_rfl))
 f285 := Tryz.func117.trans (congrArg some (by kernel_rfl))
 f286 := Tryz.func118.trans (congrArg some (by kernel_rfl))
 f287 := Tryz.func156.trans (congrArg some (by kernel_rfl))
 f316 := Tryz.func180.trans (congrArg some (by kernel_rfl))
 f317 := Tryz.func150.trans (congrArg some (by kernel_rfl))
 f318 := Tryz.func152.trans (congrArg some (by kernel_rfl))
 f319 := Tryz.func153.trans (congrArg some (by kernel_rfl))
 f320 := Tryz.func154.trans (congrArg some (by kernel_rfl))
 f321 := Tryz.func178.trans (congrArg some (by kernel_rfl))
 f322 := Tryz.func179.trans (congrArg some (by kernel_rfl))
 f337 := Tryz.func176.trans (congrArg some (by kernel_rfl))
 f338 := Tryz.func177.trans (congrArg some (by kernel_rfl))
 t0 := Tryz.underlying0
 a0 := Tryz.isAgg0
 z0 := Tryz.sizeOf0
 v0 := Tryz.zeroValue0
 t2 := Tryz.underlying2
 a2 := Tryz.isAgg2
 z2 := Tryz.sizeOf2
 v2 := Tryz.zeroValue2
 t3 := Tryz.underlying3
 a3 := Tryz.isAgg3
 z3 := Tryz.sizeOf3
 v3 := Tryz.zeroValue3
 t4 := Tryz.underlying4
 a4 := Tryz.isAgg4
 z4 := Tryz.sizeOf4
 v4 := Tryz.zeroValue4
 t5 := Tryz.underlying5
 a5 := Tryz.isAgg5
 z5 := Tryz.sizeOf5
 v5 := Tryz.zeroValue5
 t9 := Tryz.underlying9
 a9 := Tryz.isAgg9
 z9 := Tryz.sizeOf9
 v9 := Tryz.zeroValue9
 t20 := Tryz.underlying20
 a20 := Tryz.isAgg20
 z20 := Tryz.sizeOf20
 v20 := Tryz.zeroValue20
 t21 := Tryz.underlying21
 a21 := Tryz.isAgg21
 z21 := Tryz.sizeOf21
 v21 := Tryz.zeroValue21
 t37 := Tryz.underlying25
 a37 := Tryz.isAgg25
 z37 := Tryz.sizeOf25
 v37 := Tryz.zeroValue25
 t46 := Tryz.underlying110
 a46 := Tryz.isAgg110
 z46 := Tryz.sizeOf110
 v46 := Tryz.zeroValue110
 t51 := Tryz.underlying153
 a51 := Tryz.isAgg153
 z51 := Tryz.sizeOf153
 v51 := Tryz.zeroValue153
 t53 := Tryz.underlying156
 a53 := Tryz.isAgg156
 z53 := Tryz.sizeOf156
 v53 := Tryz.zeroValue156
 t75 := Tryz.underlying90
 a75 := Tryz.isAgg90
 z75 := Tryz.sizeOf90
 v75 := Tryz.zeroValue90
 t85 := Tryz.underlying117
 a85 := Tryz.isAgg117
 z85 := Tryz.sizeOf117
 v85 := Tryz.zeroValue117
 t127 := Tryz.underlying152
 a127 := Tryz.isAgg152
 z127 := Tryz.sizeOf152
 v127 := Tryz.zeroValue152
 t143 := Tryz.underlying226
 a143 := Tryz.isAgg226
 z143 := Tryz.sizeOf226
 v143 := Tryz.zeroValue226
 t145 := Tryz.underlying228
 a145 := Tryz.isAgg228
 z145 := Tryz.sizeOf228
 v145 := Tryz.zeroValue228
 t167 := Tryz.underlying189
 a167 := Tryz.isAgg189
 z167 := Tryz.sizeOf189
 v167 := Tryz.zeroValue189
 t168 := Tryz.underlying192
 a168 := Tryz.isAgg192
 z168 := Tryz.sizeOf192
 v168 := Tryz.zeroValue192
 t171 := Tryz.underlying159
 a171 := Tryz.isAgg159
 z171 := Tryz.sizeOf159
 v171 := Tryz.zeroValue159
 t173 := Tryz.underlying162
 a173 := Tryz.isAgg162
 z173 := Tryz.sizeOf162
 v173 := Tryz.zeroValue162
 t175 := Tryz.underlying190
 a175 := Tryz.isAgg190
 z175 := Tryz.sizeOf190
 v175 := Tryz.zeroValue190
 t210 := Tryz.underlying217
 a210 := Tryz.isAgg217
 z210 := Tryz.sizeOf217
 v210 := Tryz.zeroValue217
 t212 := Tryz.underlying184
 a212 := Tryz.isAgg184
 z212 := Tryz.sizeOf184
 v212 := Tryz.zeroValue184
 t213 := Tryz.underlying185
 a213 := Tryz.isAgg185
 z213 := Tryz.sizeOf185
 t232 := Tryz.underlying224
 a232 := Tryz.isAgg224
 z232 := Tryz.sizeOf224
 v232 := Tryz.zeroValue224
 t233 := Tryz.underlying225
 a233 := Tryz.isAgg225
 z233 := Tryz.sizeOf225
 v233 := Tryz.zeroValue225
 g15 := by kernel_rfl
 g16 := by kernel_rfl
 g17 := by kernel_rfl
 g18 := by kernel_rfl
 g19 := by kernel_rfl
 t80 := Tryz.underlying109
 a80 := Tryz.isAgg109
 z80 := Tryz.sizeOf109
 v80 := Tryz.zeroValue109
 i0 := by kernel_rfl
 i2 := by kernel_rfl
 i3 := by kernel_rfl
 i4 := by kernel_rfl
 i5 := by kernel_rfl
 i9 := by kernel_rfl
 i20 := by kernel_rfl
 i21 := by kernel_rfl
 i37 := by kernel_rfl
 i46 := by kernel_rfl
 i51 := by kernel_rfl
 i53 := by kernel_rfl
 i75 := by kernel_rfl
 i80 := by kernel_rfl
 i85 := by kernel_rfl
 i127 := by kernel_rfl
 i143 := by kernel_rfl
 i145 := by kernel_rfl
 i167 := by kernel_rfl
 i168 := by kernel_rfl
 i171 := by kernel_rfl
 i173 := by kernel_rfl
 i175 := by kernel_rfl
 i210 := by kernel_rfl
 i212 := by kernel_rfl
 i232 := by kernel_rfl
 i233 := by kernel_rfl
 m15 := by kernel_rfl
 m16 := by kernel_rfl
 m17 := by kernel_rfl
 m18 := by kernel_rfl
 m19 := by kernel_rfl
 c0 := by kernel_rfl
 c2 := by kernel_rfl
 c3 := by kernel_rfl
 c4 := by kernel_rfl
 c5 := by kernel_rfl
 c9 := by kernel_rfl
 c20 := by kernel_rfl
 c21 := by kernel_rfl
 c37 := by kernel_rfl
 c46 := by kernel_rfl
 c51 := by kernel_rfl
 c53 := by kernel_rfl
 c75 := by kernel_rfl
 c80 := by kernel_rfl
 c85 := by kernel_rfl
 c127 := by kernel_rfl
 c143 := by kernel_rfl
 c145 := by kernel_rfl
 c167 := by kernel_rfl
 c168 := by kernel_rfl
 c171 := by kernel_rfl
 c173 := by kernel_rfl
 c175 := by kernel_rfl
 c210 := by kernel_rfl
 c212 := by kernel_rfl
 c213 := by kernel_rfl
 c232 := by kernel_rfl
 c233 := by kernel_rfl }
def Zf3 : Go.Shelf.Ren := ⟨fun | 229 => 146 | n => n, fun | 9 => 9 | 40 => 115 | 31 => 43 | 152 => 210 | 3 => 3 | 0 => 0 | 4 => 4 | 21 => 21 | 154 => 212 | n => n, fun | n => n⟩
theorem Zbb : Go.Proofs.Lays.n229 Tryz.prog Zf3 := {
 mixed := by kernel_rfl
 f229 := Tryz.func146.trans (congrArg some (by kernel_rfl))
 t0 := Tryz.underlying0
 a0 := Tryz.isAgg0
 z0 := Tryz.sizeOf0
 v0 := Tryz.zeroValue0
 t3 := Tryz.underlying3
 a3 := Tryz.isAgg3
 z3 := Tryz.sizeOf3
 v3 := Tryz.zeroValue3
 t4 := Tryz.underlying4
 a4 := Tryz.isAgg4
 z4 := Tryz.sizeOf4
 v4 := Tryz.zeroValue4
 t9 := Tryz.underlying9
 a9 := Tryz.isAgg9
 z9 := Tryz.sizeOf9
 v9 := Tryz.zeroValue9
 t21 := Tryz.underlying21
 a21 := Tryz.isAgg21
 z21 := Tryz.sizeOf21
 v21 := Tryz.zeroValue21
 t31 := Tryz.underlying43
 a31 := Tryz.isAgg43
 z31 := Tryz.sizeOf43
 v31 := Tryz.zeroValue43
 t40 := Tryz.underlying115
 a40 := Tryz.isAgg115
 z40 := Tryz.sizeOf115
 v40 := Tryz.zeroValue115
 t152 := Tryz.underlying210
 a152 := Tryz.isAgg210
 z152 := Tryz.sizeOf210
 v152 := Tryz.zeroValue210
 t154 := Tryz.underlying212
 a154 := Tryz.isAgg212
 z154 := Tryz.sizeOf212
 v154 := Tryz.zeroValue212 }
def Zci : Go.Shelf.Ren := ⟨fun | 17 => 72 | 15 => 119 | 20 => 155 | n => n, fun | 9 => 9 | 23 => 115 | 4 => 4 | 3 => 3 | 0 => 0 | 21 => 21 | n => n, fun | n => n⟩
theorem Zdy : Go.Proofs.LaysGw.n17 Tryz.prog Zci := {
 mixed := by kernel_rfl
 f15 := Tryz.func119.trans (congrArg some (by kernel_rfl))
 f17 := Tryz.func72.trans (congrArg some (by kernel_rfl))
 f20 := Tryz.func155.trans (congrArg some (by kernel_rfl))
 t0 := Tryz.underlying0
 a0 := Tryz.isAgg0
 z0 := Tryz.sizeOf0
 v0 := Tryz.zeroValue0
 i0 := by kernel_rfl
 t3 := Tryz.underlying3
 a3 := Tryz.isAgg3
 z3 := Tryz.sizeOf3
 v3 := Tryz.zeroValue3
 i3 := by kernel_rfl
 t4 := Tryz.underlying4
 a4 := Tryz.isAgg4
 z4 := Tryz.sizeOf4
 v4 := Tryz.zeroValue4
 i4 := by kernel_rfl
 t9 := Tryz.underlying9
 a9 := Tryz.isAgg9
 z9 := Tryz.sizeOf9
 v9 := Tryz.zeroValue9
 i9 := by kernel_rfl
 t21 := Tryz.underlying21
 a21 := Tryz.isAgg21
 z21 := Tryz.sizeOf21
 v21 := Tryz.zeroValue21
 i21 := by kernel_rfl
 t23 := Tryz.underlying115
 a23 := Tryz.isAgg115
 z23 := Tryz.sizeOf115
 v23 := Tryz.zeroValue115
 i23 := by kernel_rfl }
def Zc3 : Go.Shelf.Ren := ⟨fun | 102 => 30 | 209 => 66 | 207 => 111 | n => n, fun | 9 => 9 | 4 => 4 | 3 => 3 | n => n, fun | n => n⟩
theorem Zdb : Go.Proofs.Lays.n102 Tryz.prog Zc3 := {
 mixed := by kernel_rfl
 f102 := Tryz.func30.trans (congrArg some (by kernel_rfl))
 f207 := Tryz.func111.trans (congrArg some (by kernel_rfl))
 f209 := Tryz.func66.trans (congrArg some (by kernel_rfl))
 t3 := Tryz.underlying3
 a3 := Tryz.isAgg3
 z3 := Tryz.sizeOf3
 v3 := Tryz.zeroValue3
 t4 := Tryz.underlying4
 a4 := Tryz.isAgg4
 z4 := Tryz.sizeOf4
 v4 := Tryz.zeroValue4
 t9 := Tryz.underlying9
 a9 := Tryz.isAgg9
 z9 := Tryz.sizeOf9
 v9 := Tryz.zeroValue9 }
def Zf5 : Go.Shelf.Ren := ⟨fun | 221 => 58 | 268 => 104 | 138 => 18 | 143 => 57 | 195 => 55 | 197 => 105 | 218 => 56 | 219 => 103 | 260 => 145 | 217 => 141 | 225 => 142 | 224 => 143 | 267 => 144 | 266 => 174 | 314 => 175 | n => n, fun | 9 => 9 | 3 => 3 | 31 => 43 | 4 => 4 | 0 => 0 | 105 => 148 | 21 => 21 | 5 => 5 | 46 => 110 | 119 => 206 | 139 => 209 | 138 => 208 | 146 => 154 | 51 => 153 | n => n, fun | 1 => 0 | 3 => 4 | 4 => 5 | n => n⟩
theorem Z7x : Go.Proofs.Lays.n221 Tryz.prog Zf5 := {
 mixed := by kernel_rfl
 f138 := Tryz.func18.trans (congrArg some (by kernel_rfl))
 f143 := Tryz.func57.trans (congrArg some (by kernel_rfl))
 f195 := Tryz.func55.trans (congrArg some (by kernel_rfl))
 f197 := Tryz.func105.trans (congrArg some (by kernel_rfl))
 f217 := Tryz.func141.trans (congrArg some (by kernel_rfl))
 f218 := Tryz.func56.trans (congrArg some (by kernel_rfl))
 f219 := Tryz.func103.trans (congrArg some (by kernel_rfl))
 f221 := Tryz.func58.trans (congrArg some (by kernel_rfl))
 f224 := Tryz.func143.trans (congrArg some (by kernel_rfl))
 f225 := Tryz.func142.trans (congrArg some (by kernel_rfl))
 f260 := Tryz.func145.trans (congrArg some (by kernel_rfl))
 f266 := Tryz.func174.trans (congrArg some (by kernel_rfl))
 f267 := Tryz.func144.trans (congrArg some (by kernel_rfl))
 f268 := Tryz.func104.trans (congrArg some (by kernel_rfl))
 f314 := Tryz.func175.trans (congrArg some (by kernel_rfl))
 t0 := Tryz.underlying0
 a0 := Tryz.isAgg0
 z0 := Tryz.sizeOf0
 v0 := Tryz.zeroValue0
 t3 := Tryz.underlying3
 a3 := Tryz.isAgg3
 z3 := Tryz.sizeOf3
 v3 := Tryz.zeroValue3
 t4 := Tryz.underlying4
 a4 := Tryz.isAgg4
 z4 := Tryz.sizeOf4
 v4 := Tryz.zeroValue4
 t5 := Tryz.underlying5
 a5 := Tryz.isAgg5
 z5 := Tryz.sizeOf5
 v5 := Tryz.zeroValue5
 t9 := Tryz.underlying9
 a9 := Tryz.isAgg9
 z9 := Tryz.sizeOf9
 v9 := Tryz.zeroValue9
 t21 := Tryz.underlying21
 a21 := Tryz.isAgg21
 z21 := Tryz.sizeOf21
 v21 := Tryz.zeroValue21
 t31 := Tryz.underlying43
 a31 := Tryz.isAgg43
 z31 := Tryz.sizeOf43
 v31 := Tryz.zeroValue43
 t46 := Tryz.underlying110
 a46 := Tryz.isAgg110
 z46 := Tryz.sizeOf110
 v46 := Tryz.zeroValue110
 t51 := Tryz.underlying153
 a51 := Tryz.isAgg153
 z51 := Tryz.sizeOf153
 v51 := Tryz.zeroValue153
 t105 := Tryz.underlying148
 a105 := Tryz.isAgg148
 z105 := Tryz.sizeOf148
 v105 := Tryz.zeroValue148
 t119 := Tryz.underlying206
 a119 := Tryz.isAgg206
 z119 := Tryz.sizeOf206
 t138 := Tryz.underlying208
 a138 := Tryz.isAgg208
 z138 := Tryz.sizeOf208
 v138 := Tryz.zeroValue208
 t139 := Tryz.underlying209
 a139 := Tryz.isAgg209
 z139 := Tryz.sizeOf209
 v139 := Tryz.zeroValue209
 t146 := Tryz.underlying154
 a146 := Tryz.isAgg154
 z146 := Tryz.sizeOf154
 v146 := Tryz.zeroValue154
 g1 := by kernel_rfl
 g3 := by kernel_rfl
 g4 := by kernel_rfl }
def Z7w : Go.Shelf.Ren := ⟨fun | 156 => 28 | 165 => 63 | 166 => 64 | 169 => 65 | 240 => 109 | 241 => 110 | 276 => 148 | 277 => 149 | n => n, fun | 31 => 43 | 9 => 9 | 3 => 3 | 4 => 4 | 0 => 0 | 20 => 20 | 72 => 107 | 76 => 91 | 70 => 105 | 37 => 25 | 75 => 90 | 127 => 152 | 164 => 180 | 5 => 5 | 80 => 109 | n => n, fun | n => n⟩
theorem Zcy : Go.Proofs.Lays.n156 Tryz.prog Z7w := {
 mixed := by kernel_rfl
 f156 := Tryz.func28.trans (congrArg some (by kernel_rfl))
 f165 := Tryz.func63.trans (congrArg some (by kernel_rfl))
 f166 := Tryz.func64.trans (congrArg some (by kernel_rfl))
 f169 := Tryz.func65.trans (congrArg some (by kernel_rfl))
 f240 := Tryz.func109.trans (congrArg some (by kernel_rfl))
 f241 := Tryz.func110.trans (congrArg some (by kernel_rfl))
 f276 := Tryz.func148.trans (congrArg some (by kernel_rfl))
 f277 := Tryz.func149.trans (congrArg some (by kernel_rfl))
 t0 := Tryz.underlying0
 a0 := Tryz.isAgg0
 z0 := Tryz.sizeOf0
 v0 := Tryz.zeroValue0
 t3 := Tryz.underlying3
 a3 := Tryz.isAgg3
 z3 := Tryz.sizeOf3
 v3 := Tryz.zeroValue3
 t4 := Tryz.underlying4
 a4 := Tryz.isAgg4
 z4 := Tryz.sizeOf4
 v4 := Tryz.zeroValue4
 t9 := Tryz.underlying9
 a9 := Tryz.isAgg9
 z9 := Tryz.sizeOf9
 v9 := Tryz.zeroValue9
 t20 := Tryz.underlying20
 a20 := Tryz.isAgg20
 z20 := Tryz.sizeOf20
 v20 := Tryz.zeroValue20
 t31 := Tryz.underlying43
 a31 := Tryz.isAgg43
 z31 := Tryz.sizeOf43
 v31 := Tryz.zeroValue43
 t37 := Tryz.underlying25
 a37 := Tryz.isAgg25
 z37 := Tryz.sizeOf25
 v37 := Tryz.zeroValue25
 t70 := Tryz.underlying105
 a70 := Tryz.isAgg105
 z70 := Tryz.sizeOf105
 v70 := Tryz.zeroValue105
 t72 := Tryz.underlying107
 a72 := Tryz.isAgg107
 z72 := Tryz.sizeOf107
 v72 := Tryz.zeroValue107
 t75 := Tryz.underlying90
 a75 := Tryz.isAgg90
 z75 := Tryz.sizeOf90
 v75 := Tryz.zeroValue90
 t76 := Tryz.underlying91
 a76 := Tryz.isAgg91
 z76 := Tryz.sizeOf91
 v76 := Tryz.zeroValue91
 t127 := Tryz.underlying152
 a127 := Tryz.isAgg152
 z127 := Tryz.sizeOf152
 v127 := Tryz.zeroValue152
 t164 := Tryz.underlying180
 a164 := Tryz.isAgg180
 z164 := Tryz.sizeOf180
 v164 := Tryz.zeroValue180 }
theorem Za3 : Builder.Extra Tryz.prog Z7w := {
 sizeBuilder := by kernel_rfl
 liesBuilder := by kernel_rfl
 t5 := Tryz.underlying5
 a5 := Tryz.isAgg5
 z5 := Tryz.sizeOf5
 v5 := Tryz.zeroValue5
 infoByte := by kernel_rfl
 cellsByte := by kernel_rfl
 sizeByte := by kernel_rfl
 neB5 := by decide }
def Zco : Go.Shelf.Ren := ⟨fun | 148 => 39 | 222 => 81 | 223 => 82 | 269 => 125 | n => n, fun | 9 => 9 | 3 => 3 | 4 => 4 | 5 => 5 | 146 => 154 | 51 => 153 | 46 => 110 | n => n, fun | n => n⟩
theorem Zdc : Go.Proofs.Lays.n148 Tryz.prog Zco := {
 mixed := by kernel_rfl
 f148 := Tryz.func39.trans (congrArg some (by kernel_rfl))
 f222 := Tryz.func81.trans (congrArg some (by kernel_rfl))
 f223 := Tryz.func82.trans (congrArg some (by kernel_rfl))
 f269 := Tryz.func125.trans (congrArg some (by kernel_rfl))
 t3 := Tryz.underlying3
 a3 := Tryz.isAgg3
 z3 := Tryz.sizeOf3
 v3 := Tryz.zeroValue3
 t4 := Tryz.underlying4
 a4 := Tryz.isAgg4
 z4 := Tryz.sizeOf4
 v4 := Tryz.zeroValue4
 t5 := Tryz.underlying5
 a5 := Tryz.isAgg5
 z5 := Tryz.sizeOf5
 v5 := Tryz.zeroValue5
 t9 := Tryz.underlying9
 a9 := Tryz.isAgg9
 z9 := Tryz.sizeOf9
 v9 := Tryz.zeroValue9
 t46 := Tryz.underlying110
 a46 := Tryz.isAgg110
 z46 := Tryz.sizeOf110
 v46 := Tryz.zeroValue110
 t51 := Tryz.underlying153
 a51 := Tryz.isAgg153
 z51 := Tryz.sizeOf153
 v51 := Tryz.zeroValue153
 t146 := Tryz.underlying154
 a146 := Tryz.isAgg154
 z146 := Tryz.sizeOf154
 v146 := Tryz.zeroValue154 }
def Z97 : Go.Shelf.Ren := ⟨fun | 158 => 40 | 165 => 63 | 166 => 64 | 167 => 83 | 169 => 65 | 230 => 84 | 203 => 85 | 240 => 109 | 241 => 110 | 197 => 105 | 118 => 126 | 168 => 127 | 270 => 128 | 262 => 129 | 276 => 148 | 277 => 149 | 260 => 145 | 242 => 163 | 313 => 164 | 278 => 184 | 274 => 185 | 275 => 186 | n => n, fun | 9 => 9 | 4 => 4 | 3 => 3 | 5 => 5 | 72 => 107 | 0 => 0 | 76 => 91 | 75 => 90 | 107 => 128 | 70 => 105 | 20 => 20 | 37 => 25 | 127 => 152 | 21 => 21 | 105 => 148 | 164 => 180 | 162 => 199 | 203 => 197 | 119 => 206 | 46 => 110 | 139 => 209 | 138 => 208 | 51 => 153 | 160 => 219 | 208 => 232 | 206 => 230 | 80 => 109 | n => n, fun | 13 => 3 | 3 => 4 | 4 => 5 | n => n⟩
theorem Zbw : Go.Proofs.Lays.n158 Tryz.prog Z97 := {
 mixed := by kernel_rfl
 f118 := Tryz.func126.trans (congrArg some (by kernel_rfl))
 f158 := Tryz.func40.trans (congrArg some (by kernel_rfl))
 f165 := Tryz.func63.trans (congrArg some (by kernel_rfl))
 f166 := Tryz.func64.trans (congrArg some (by kernel_rfl))
 f167 := Tryz.func83.trans (congrArg some (by kernel_rfl))
 f168 := Tryz.func127.trans (congrArg some (by kernel_rfl))
 f169 := Tryz.func65.trans (congrArg some (by kernel_rfl))
 f197 := Tryz.func105.trans (congrArg some (by kernel_rfl))
 f203 := Tryz.func85.trans (congrArg some (by kernel_rfl))
 f230 := Tryz.func84.trans (congrArg some (by kernel_rfl))
 f240 := Tryz.func109.trans (congrArg some (by kernel_rfl))
 f241 := Tryz.func110.trans (congrArg some (by kernel_rfl))
 f242 := Tryz.func163.trans (congrArg some (by kernel_rfl))
 f260 := Tryz.func145.trans (congrArg some (by kernel_rfl))
 f262 := Tryz.func129.trans (congrArg some (by kernel_rfl))
 f270 := Tryz.func128.trans (congrArg some (by kernel_rfl))
 f274 := Tryz.func185.trans (congrArg some (by kernel_rfl))
 f275 := Tryz.func186.trans (congrArg some (by kernel_rfl))
 f276 := Tryz.func148.trans (congrArg some (by kernel_rfl))
 f277 := Tryz.func149.trans (congrArg some (by kernel_rfl))
 f278 := Tryz.func184.trans (congrArg some (by kernel_rfl))
 f313 := Tryz.func164.trans (congrArg some (by kernel_rfl))
 t0 := Tryz.underlying0
 a0 := Tryz.isAgg0
 z0 := Tryz.sizeOf0
 v0 := Tryz.zeroValue0
 t3 := Tryz.underlying3
 a3 := Tryz.isAgg3
 z3 := Tryz.sizeOf3
 v3 := Tryz.zeroValue3
 t4 := Tryz.underlying4
 a4 := Tryz.isAgg4
 z4 := Tryz.sizeOf4
 v4 := Tryz.zeroValue4
 t5 := Tryz.underlying5
 a5 := Tryz.isAgg5
 z5 := Tryz.sizeOf5
 v5 := Tryz.zeroValue5
 t9 := Tryz.underlying9
 a9 := Tryz.isAgg9
 z9 := Tryz.sizeOf9
 v9 := Tryz.zeroValue9
 t20 := Tryz.underlying20
 a20 := Tryz.isAgg20
 z20 := Tryz.sizeOf20
 v20 := Tryz.zeroValue20
 t21 := Tryz.underlying21
 a21 := Tryz.isAgg21
 z21 := Tryz.sizeOf21
 v21 := Tryz.zeroValue21
 t37 := Tryz.underlying25
 a37 := Tryz.isAgg25
 z37 := Tryz.sizeOf25
 v37 := Tryz.zeroValue25
 t46 := Tryz.underlying110
 a46 := Tryz.isAgg110
 z46 := Tryz.sizeOf110
 v46 := Tryz.zeroValue110
 t51 := Tryz.underlying153
 a51 := Tryz.isAgg153
 z51 := Tryz.sizeOf153
 v51 := Tryz.zeroValue153
 t70 := Tryz.underlying105
 a70 := Tryz.isAgg105
 z70 := Tryz.sizeOf105
 v70 := Tryz.zeroValue105
 t72 := Tryz.underlying107
 a72 := Tryz.isAgg107
 z72 := Tryz.sizeOf107
 v72 := Tryz.zeroValue107
 t75 := Tryz.underlying90
 a75 := Tryz.isAgg90
 z75 := Tryz.sizeOf90
 v75 := Tryz.zeroValue90
 t76 := Tryz.underlying91
 a76 := Tryz.isAgg91
 z76 := Tryz.sizeOf91
 v76 := Tryz.zeroValue91
 t105 := Tryz.underlying148
 a105 := Tryz.isAgg148
 z105 := Tryz.sizeOf148
 v105 := Tryz.zeroValue148
 t107 := Tryz.underlying128
 a107 := Tryz.isAgg128
 z107 := Tryz.sizeOf128
 v107 := Tryz.zeroValue128
 t119 := Tryz.underlying206
 a119 := Tryz.isAgg206
 z119 := Tryz.sizeOf206
 t127 := Tryz.underlying152
 a127 := Tryz.isAgg152
 z127 := Tryz.sizeOf152
 v127 := Tryz.zeroValue152
 t138 := Tryz.underlying208
 a138 := Tryz.isAgg208
 z138 := Tryz.sizeOf208
 v138 := Tryz.zeroValue208
 t139 := Tryz.underlying209
 a139 := Tryz.isAgg209
 z139 := Tryz.sizeOf209
 v139 := Tryz.zeroValue209
 t160 := Tryz.underlying219
 a160 := Tryz.isAgg219
 z160 := Tryz.sizeOf219
 v160 := Tryz.zeroValue219
 t162 := Tryz.underlying199
 a162 := Tryz.isAgg199
 z162 := Tryz.sizeOf199
 v162 := Tryz.zeroValue199
 t164 := Tryz.underlying180
 a164 := Tryz.isAgg180
 z164 := Tryz.sizeOf180
 v164 := Tryz.zeroValue180
 t203 := Tryz.underlying197
 a203 := Tryz.isAgg197
 z203 := Tryz.sizeOf197
 v203 := Tryz.zeroValue197
 t206 := Tryz.underlying230
 a206 := Tryz.isAgg230
 z206 := Tryz.sizeOf230
 v206 := Tryz.zeroValue230
 t208 := Tryz.underlying232
 a208 := Tryz.isAgg232
 z208 := Tryz.sizeOf232
 v208 := Tryz.zeroValue232
 g3 := by kernel_rfl
 g4 := by kernel_rfl
 g13 := by kernel_rfl }
theorem Zc8 : Builder.Extra Tryz.prog Z97 := {
 sizeBuilder := by kernel_rfl
 liesBuilder := by kernel_rfl
 t5 := Tryz.underlying5
 a5 := Tryz.isAgg5
 z5 := Tryz.sizeOf5
 v5 := Tryz.zeroValue5
 infoByte := by kernel_rfl
 cellsByte := by kernel_rfl
 sizeByte := by kernel_rfl
 neB5 := by decide }
end Go.Proofs
