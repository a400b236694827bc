/- Texts of this claim, one behind the other. -/
import Derived.Test.YtnppjbofdkokkaaGreatDoorA1
import Derived.Laws.LoneSync
import Derived.Laws.BytesString
import Derived.Laws.IdiomStrings
import Derived.Laws.Strings
import Derived.Lib.FieldsP
import Derived.Lib.ItoaNum
import Derived.Lib.ParseIntB
import Derived.Shelf.GgClosure.StringsIndexFunc
import Derived.Shelf.Strings.FieldsFuncGrows
import Derived.Shelf.Strings.FuncGrows
import Derived.Shelf.Strconv.ErrVarParseInt
import Derived.Shelf.Strconv.Itoa4
import Derived.Lib.Bytes2
import Derived.Handed
import Derived.SizedLaws
import Derived.Shelf.Vars
import Derived.Stop.LaidErr
import Derived.Lib.LaidTab
import Derived.LaidLaws
import Derived.Shelf.Bytes.SlIndexAt
import Derived.Shelf.Bytes.BufferK
import Derived.Shelf.Bytes.Bytes
import Derived.Shelf.Strings.Count
import Derived.Shelf.Strings.Split
import Derived.Shelf.Strings.Replace
import Derived.Shelf.Strings.Prefix
import Derived.Shelf.Strings.OnBuilder
import Derived.Laws.Panics
import Derived.RecoverIn
import Derived.RangeFuncLeaves
import Derived.Shelf.Strings.SlTrimAscii
import Derived.Shelf.Strings.LastIndex
import Derived.Shelf.Strings.Repeat
import Derived.Test.YtnppjbofdkokkaaGreatDoorChecked
set_option linter.unusedVariables false
set_option linter.unusedSimpArgs false
namespace Go.Acq
open Go Go.RowKit Go.Proofs Go.Shelf
theorem Z3e (xs : List Int) (i : Nat) : (xs.flatMap (intC .i64)).drop i = (xs.drop i).flatMap (intC .i64) := by
 induction xs generalizing i with
 | nil => simp
 | cons x xs ih => cases i with
  | zero => rfl
  | succ i => simpa [intC] using ih i
theorem Z9c (xs : List Int) (i : Nat) : (xs.flatMap (intC .i64)).take i = (xs.take i).flatMap (intC .i64) := by
 induction xs generalizing i with
 | nil => simp
 | cons x xs ih => cases i with
  | zero => rfl
  | succ i => simpa [intC] using ih i
theorem Uf (xs : List Int) : (xs.flatMap (intC .i64)).length = xs.length := by rw [Kl (s := 1) (fun _ => rfl)]; omega
theorem Z3j (xs : List Int) : ∀ v, v ∈ xs.flatMap (intC .i64) → v.oneCell' = true := by
 intro v hv
 obtain ⟨x, _, hx⟩ := List.mem_flatMap.1 hv
 have : v = .int .i64 x := by simpa [intC] using hx
 rw [this]; rfl
section
variable {P : Program} {ρ : Ren} {w w0 : World} {M : List Nat} {H R : Heap} {b : Nat} {T : TypeId} {cs : Array Value}
theorem Inv.setCells (P : Program) (h : Inv w0 M w H) (ht : Take (some b, .cells cs T (0, 0)) H R) {o : Nat} {vs : List Value} (hfit : o + vs.length ≤ cs.size) (h1 : ∀ u, u ∈ vs → u.oneCell' = true) :
    Inv w0 M (w.setCells b o vs) ((some b, .cells (cs.toList.take o ++ vs ++ cs.toList.drop (o + vs.length)).toArray T (0, 0)) :: R) := by
  rw [Z3d (P := P) (h.own _ _ ht.mem) hfit h1]
  exact h.setRow ht
theorem Z5i (h : Inv w0 M w H) (hm : (some b, .cells cs T (0, 0)) ∈ H) : w.shape? b = some (T, cs.size) := by
 have := h.own _ _ hm
 simp [World.shape?, this]
theorem Z58 (ys : List Int) (j : List Value) : (arr (intC .i64) ys j).toArray.size = ys.length + j.length := by
 rw [List.size_toArray, arr, List.length_append, Uf]
theorem ins_list {α : Type} (A B D j U : List α) {o i m k : Nat} (hA : A.length = o) (hB : B.length = i) (hU : U.length = m) (hk : k = o + i) (hm : m ≤ j.length) :
    ((((A ++ B) ++ (D ++ j)).take (k + m) ++ D ++ ((A ++ B) ++ (D ++ j)).drop (k + m + D.length)).take k ++ U ++ (((A ++ B) ++ (D ++ j)).take (k + m) ++ D ++ ((A ++ B) ++ (D ++ j)).drop (k + m + D.length)).drop (k + U.length))
    = (A ++ B) ++ U ++ (D ++ j.drop m) := by
  have hAB : (A ++ B).length = k := by rw [List.length_append]; omega
  have h1 : ((A ++ B) ++ (D ++ j)).take (k + m) = (A ++ B) ++ (D ++ j).take m := by
    rw [List.take_append, List.take_of_length_le (by omega), hAB, Nat.add_sub_cancel_left]
  have h2 : ((A ++ B) ++ (D ++ j)).drop (k + m + D.length) = j.drop m := by
    rw [List.drop_append, List.drop_eq_nil_of_le (by omega), List.nil_append, hAB, show k + m + D.length - k = D.length + m by omega, List.drop_append, List.drop_eq_nil_of_le (by omega), List.nil_append, Nat.add_sub_cancel_left]
  have h3 : ((D ++ j).take m).length = m := by rw [List.length_take, List.length_append]; omega
  rw [h1, h2]
  generalize (D ++ j).take m = t at h3
  generalize j.drop m = j'
  generalize A ++ B = X at hAB ⊢
  have hY : X ++ t ++ D ++ j' = X ++ (t ++ (D ++ j')) := by simp only [List.append_assoc]
  rw [hY, List.take_left' hAB, List.drop_append, List.drop_eq_nil_of_le (by omega), List.nil_append, hAB, hU, Nat.add_sub_cancel_left, List.drop_left' h3]
theorem ins_grow {α : Type} (A D Z Z' U : List α) {p m : Nat} (hA : A.length = p) (hU : U.length = m) (hZ : Z.length = m + D.length) :
    ((A ++ Z ++ Z').take p ++ U ++ (A ++ Z ++ Z').drop (p + U.length)).take (p + m) ++ D ++ ((A ++ Z ++ Z').take p ++ U ++ (A ++ Z ++ Z').drop (p + U.length)).drop (p + m + D.length) = A ++ U ++ D ++ Z' := by
  have h1 : (A ++ Z ++ Z').take p = A := by rw [List.append_assoc, List.take_left' hA]
  have h2 : (A ++ Z ++ Z').drop (p + U.length) = (Z ++ Z').drop m := by
    rw [List.append_assoc, List.drop_append, List.drop_eq_nil_of_le (by omega), List.nil_append, hA, hU, Nat.add_sub_cancel_left]
  have hAU : (A ++ U).length = p + m := by rw [List.length_append]; omega
  rw [h1, h2, List.take_left' hAU, List.drop_append, List.drop_eq_nil_of_le (by omega), List.nil_append, hAU, Nat.add_sub_cancel_left, List.drop_drop, List.drop_left' hZ]
theorem Z7r {ys : List Int} {j : List Value} {o i m : Nat} {us : List Int} (ho : o + i ≤ ys.length) (hm : us.length = m) (hj : m ≤ j.length) :
    (((arr (intC .i64) ys j).take (o + (i + m)) ++ ((ys.drop o).flatMap (intC .i64)).drop i ++ (arr (intC .i64) ys j).drop (o + (i + m) + (((ys.drop o).flatMap (intC .i64)).drop i).length)).take (o + i) ++ us.flatMap (intC .i64) ++
      ((arr (intC .i64) ys j).take (o + (i + m)) ++ ((ys.drop o).flatMap (intC .i64)).drop i ++ (arr (intC .i64) ys j).drop (o + (i + m) + (((ys.drop o).flatMap (intC .i64)).drop i).length)).drop (o + i + (us.flatMap (intC .i64)).length))
    = arr (intC .i64) (ys.take o ++ ((ys.drop o).take i ++ us ++ (ys.drop o).drop i)) (j.drop m) := by
  have hY : arr (intC .i64) ys j = ((ys.take o).flatMap (intC .i64) ++ ((ys.drop o).take i).flatMap (intC .i64)) ++ (((ys.drop o).drop i).flatMap (intC .i64) ++ j) := by
    show ys.flatMap (intC .i64) ++ j = _
    rw [← List.append_assoc, ← List.flatMap_append, ← List.flatMap_append, List.append_assoc, List.take_append_drop, List.take_append_drop]
  rw [Z3e, hY, ← Nat.add_assoc]
  have := ins_list ((ys.take o).flatMap (intC .i64)) (((ys.drop o).take i).flatMap (intC .i64)) (((ys.drop o).drop i).flatMap (intC .i64)) j (us.flatMap (intC .i64)) (o := o) (i := i) (m := m) (k := o + i)
    (by rw [Uf, List.length_take]; omega) (by rw [Uf, List.length_take, List.length_drop]; omega) (by rw [Uf, hm]) rfl hj
  rw [this]
  simp only [arr, List.flatMap_append, List.append_assoc]
def InsP (T : TypeId) (r us : List Int) (b2 : Nat) (j2 : List Value) (v : Value) (N : Heap) : Prop :=
  ∃ (base' : Option Addr) (n' c' : Nat) (ob' : Option Nat) (N' C' : Nat) (ys' : List Int) (j' : List Value), v = .slice base' n' c' ∧
    N = [(ob', .cells (arr (intC .i64) ys' j').toArray T (0, 0)), (some b2, .cells (arr (intC .i64) us j2).toArray T (0, 0))] ∧ Qu ob' base' n' c' r ys' N' C' ∧ ys'.length = N' ∧ N' ≤ C' ∧ j'.length = (C' - N') * 1 ∧ (ob' = none → C' = 0) ∧ C' ≤ 9223372036854775807
theorem Z4x {xs : List Int} {n : Nat} {base : Option Addr} (h : RO w (intC .i64) 1 base n xs) {a : Addr} (ha : base = some a) : ∀ j v, (xs.flatMap (intC .i64))[j]? = some v → w.cell? (a.add j) = some v := by
 intro j v hj
 have := h.cells j v hj
 rw [ha] at this
 exact this
theorem Fnc.insert (L : Lays2.n21 P ρ) (w : World) {M : List Nat} {ob : Option Nat} {base : Option Addr} {n c N C : Nat} {xs ys : List Int} {j : List Value} {i : Int} {us : List Int} {b2 c2 : Nat} {j2 : List Value} {r : List Int}
    (hin : Inv w M w [(ob, .cells (arr (intC .i64) ys j).toArray (ρ.t 3) (0, 0)), (some b2, .cells (arr (intC .i64) us j2).toArray (ρ.t 3) (0, 0))])
    (hQ : Qu ob base n c xs ys N C) (hn : ys.length = N) (hc : N ≤ C) (hj : j.length = (C - N) * 1) (hz : ob = none → C = 0) (hC : C ≤ 9223372036854775807)
    (hi0 : 0 ≤ i) (hi1 : i ≤ (xs.length : Int)) (hm : 0 < us.length) (hap : apok (xs ++ us).length 8) (hr9 : r = xs.take i.toNat ++ us ++ xs.drop i.toNat) :
    Fnc P (ρ.f 21) #[.slice base n c, .int .i64 i, .slice (some ⟨b2, 0, none⟩) us.length c2] w M (InsP (ρ.t 3) r us b2 j2) := by
  subst hr9
  have hl := hQ.len hn
  have hle := hQ.le hc
  have hnil := hQ.nil hc hz
  have hR := hQ.rs hin (fun _ => rfl) (.head _) hn hc hz
  obtain ⟨p, rfl⟩ : ∃ p : Nat, i = (p : Int) := ⟨i.toNat, (Int.toNat_of_nonneg hi0).symm⟩
  rw [Int.toNat_natCast]
  rw [List.length_append] at hap
  obtain ⟨hap1, hap2⟩ := hap
  have hm2 : (some b2, Obj.cells (arr (intC .i64) us j2).toArray (ρ.t 3) (0, 0)) ∈ [(ob, Obj.cells (arr (intC .i64) ys j).toArray (ρ.t 3) (0, 0)), (some b2, Obj.cells (arr (intC .i64) us j2).toArray (ρ.t 3) (0, 0))] := .tail _ (.head _)
  have hvs : ∀ q v, (us.flatMap (intC .i64))[q]? = some v → w.cell? ⟨b2, 0 + q, none⟩ = some v := fun q v hq => by
    rw [Nat.zero_add, hin.cell_own hm2]
    rw [List.getElem?_toArray, arr, List.getElem?_append_left (List.getElem?_eq_some_iff.1 hq).1]; exact hq
  have hcl := Uf xs
  have hvl := Uf us
  have h1c := Z3j xs
  have h1v := Z3j us
  by_cases hend : p = n
  · subst hend
    by_cases hr : p + us.length ≤ c
    · -- there is room at the end
      obtain ⟨o, ho1, ho2, rfl, ho4⟩ := hQ.ex
      have hb := ho4 (by omega)
      cases ob with
      | none => have := hz rfl; omega
      | some b =>
        simp only [sb, Option.map_some, Addr.add_lit, Nat.zero_add] at hb
        subst hb
        have hhd : (some b, Obj.cells (arr (intC .i64) ys j).toArray (ρ.t 3) (0, 0)) ∈ [(some b, Obj.cells (arr (intC .i64) ys j).toArray (ρ.t 3) (0, 0)), (some b2, Obj.cells (arr (intC .i64) us j2).toArray (ρ.t 3) (0, 0))] := .head _
        have hsz := Z58 ys j
        refine Calls.mono (Any2.slices_Insert_int_end_room L b o p c b2 0 us.length c2 (us.flatMap (intC .i64)) w hm hr (by omega) hvl (fun q hq => ?_) (fun q _ => hin.frozen_own hhd _) hvs h1v) ?_
        · rw [hin.cell_own hhd, Array.getElem?_eq_getElem (by rw [hsz]; omega)]; rfl
        · rintro e w' ⟨rfl, rfl⟩
          have h5 := hin.setCells P (Take.head _ _) (o := o + p) (vs := us.flatMap (intC .i64)) (by rw [hsz, hvl]; omega) h1v
          refine ⟨_, _, ⟨some ⟨b, o, none⟩, p + us.length, c, some b, N + us.length, C, ys ++ us, j.drop us.length, rfl, rfl, ⟨o, by omega, by omega, ?_, fun _ => by simp [sb, Addr.add_lit]⟩, by rw [List.length_append]; omega, by omega, by rw [List.length_drop]; omega, (fun e => by cases e), hC⟩, rfl, ?_⟩
          · rw [List.take_of_length_le (by omega), List.drop_eq_nil_of_le (show (ys.drop o).length ≤ p by omega), List.append_nil, List.drop_append_of_le_length (by omega)]
          · have e1 : ((arr (intC .i64) ys j).toArray.toList.take (o + p) ++ us.flatMap (intC .i64) ++ (arr (intC .i64) ys j).toArray.toList.drop (o + p + (us.flatMap (intC .i64)).length)).toArray = (arr (intC .i64) (ys ++ us) (j.drop us.length)).toArray := by
              have e2 := Uf ys
              simp only [arr, List.flatMap_append]
              rw [hvl, List.take_left' (by omega), List.drop_append, List.drop_eq_nil_of_le (by omega), List.nil_append, e2, show o + p + us.length - ys.length = us.length by omega]
            rw [← e1]; exact h5
    · -- a new row
      refine Calls.mono (Any2.slices_Insert_int_end_grow L base p c b2 0 us.length c2 (xs.flatMap (intC .i64)) (us.flatMap (intC .i64)) w hm hle (by omega) (by omega) (by omega) hvl hnil (fun a ha => Z4x hR.ro ha) hvs h1v) ?_
      rintro e w' ⟨rfl, rfl⟩
      have hcap : p + us.length ≤ grownCap w (p + us.length) c (ρ.t 3) := by unfold grownCap Question.cut; simp only; omega
      refine ⟨_, _, ⟨_, p + us.length, grownCap w (p + us.length) c (ρ.t 3), some w.heap.size, p + us.length, grownCap w (p + us.length) c (ρ.t 3), xs ++ us, (Builtin.zeroCells (Value.int .i64 0).cells (grownCap w (p + us.length) c (ρ.t 3) - (p + us.length))).toList, rfl, rfl, ?_, by rw [List.length_append]; omega, hcap, by rw [Array.length_toList, size_zeroCells]; rfl, (fun e => by cases e), Z42 (by omega)⟩, rfl, ?_⟩
      · rw [List.take_of_length_le (by omega), List.drop_eq_nil_of_le (by omega), List.append_nil]
        exact Qu.self (some w.heap.size) (xs ++ us) _ _
      · have e2 : ((xs.flatMap (intC .i64) ++ us.flatMap (intC .i64)).toArray ++ Builtin.zeroCells (Value.int .i64 0).cells (grownCap w (p + us.length) c (ρ.t 3) - (p + us.length))) = (arr (intC .i64) (xs ++ us) (Builtin.zeroCells (Value.int .i64 0).cells (grownCap w (p + us.length) c (ρ.t 3) - (p + us.length))).toList).toArray := by
          simp only [arr, List.flatMap_append]
          apply Array.ext'
          simp [List.append_assoc]
        rw [e2]
        exact (hin.drew.alloc _).pick (Zg (Take.head _ _) (Zg (Take.tail (Take.head _ _)) Zh))
  · have hpn : p < n := by omega
    obtain ⟨o, ho1, ho2, rfl, ho4⟩ := hQ.ex
    have hb := ho4 (by omega)
    cases ob with
    | none => have := hz rfl; omega
    | some b =>
      simp only [sb, Option.map_some, Addr.add_lit, Nat.zero_add] at hb
      subst hb
      have hhd : (some b, Obj.cells (arr (intC .i64) ys j).toArray (ρ.t 3) (0, 0)) ∈ [(some b, Obj.cells (arr (intC .i64) ys j).toArray (ρ.t 3) (0, 0)), (some b2, Obj.cells (arr (intC .i64) us j2).toArray (ρ.t 3) (0, 0))] := .head _
      have hsz := Z58 ys j
      have hcs : ∀ q v, ((ys.drop o).flatMap (intC .i64))[q]? = some v → w.cell? ⟨b, o + q, none⟩ = some v := fun q v hq => by
        have := Z4x hR.ro rfl q v hq
        rwa [Addr.add_lit] at this
      have hbb : b2 ≠ b := by
        have := hin.apart
        simp only [List.filterMap_cons, List.filterMap_nil, List.nodup_cons, List.mem_singleton] at this
        exact fun e => this.1 e.symm
      by_cases hr : n + us.length ≤ c
      · refine Calls.mono (Any2.slices_Insert_int_shift L b o n c p b2 0 us.length c2 ((ys.drop o).flatMap (intC .i64)) (us.flatMap (intC .i64)) w hpn hm hr (by omega) hbb (by rw [Uf]; exact hl) hvl hcs (fun q hq => ?_) (fun q _ => hin.frozen_own hhd _) hvs h1c h1v _ _ _ _ (Z5i hin hm2) (Z5i hin hhd) (by rw [hsz]; omega) (hin.frozen_own hm2 _) (hin.frozen_own hm2 _)) ?_
        · rw [hin.cell_own hhd, Array.getElem?_eq_getElem (by rw [hsz]; omega)]; rfl
        · rintro e w' ⟨rfl, rfl⟩
          have hdl : (((ys.drop o).flatMap (intC .i64)).drop p).length = n - p := by rw [List.length_drop, Uf]; omega
          have h5 := hin.drew.setCells P (Take.head _ _) (o := o + (p + us.length)) (vs := ((ys.drop o).flatMap (intC .i64)).drop p) (by rw [hsz, hdl]; omega) (fun v hv => h1c v (List.mem_of_mem_drop hv))
          have hsz2 : (arr (intC .i64) ys j).toArray.toList.length = ys.length + j.length := by rw [Array.length_toList]; exact hsz
          have h6 := h5.setCells P (Take.head _ _) (o := o + p) (vs := us.flatMap (intC .i64)) (by
            rw [List.size_toArray, List.length_append, List.length_append, List.length_take, hdl, hvl, List.length_drop, hsz2]; omega) h1v
          refine ⟨_, _, ⟨some ⟨b, o, none⟩, n + us.length, c, some b, N + us.length, C, ys.take o ++ ((ys.drop o).take p ++ us ++ (ys.drop o).drop p), j.drop us.length, rfl, rfl, ⟨o, by omega, by omega, ?_, fun _ => by simp [sb, Addr.add_lit]⟩, ?_, by omega, by rw [List.length_drop]; omega, (fun e => by cases e), hC⟩, rfl, ?_⟩
          · rw [List.drop_left' (by rw [List.length_take]; omega)]
          · simp only [List.length_append, List.length_take, List.length_drop]; omega
          · rw [← Z7r (by omega) rfl (by omega)]
            exact h6
      · refine Calls.mono (Any2.slices_Insert_int_grow L b o n c p b2 0 us.length c2 ((ys.drop o).flatMap (intC .i64)) (us.flatMap (intC .i64)) w hpn hm hle (by omega) (by omega) (by rw [Uf]; exact hl) hvl hcs hvs h1c h1v) ?_
        rintro e w' ⟨rfl, rfl⟩
        have hcap : n + us.length ≤ grownCap w (n + us.length) c (ρ.t 3) := by unfold grownCap Question.cut; simp only; omega
        obtain ⟨G, hG⟩ : ∃ G, G = grownCap w (n + us.length) c (ρ.t 3) := ⟨_, rfl⟩
        have hGm : G ≤ 9223372036854775807 := by rw [hG]; exact Z42 (by omega)
        rw [← hG] at hcap ⊢
        have hzl : ∀ k, (Builtin.zeroCells (Value.int .i64 0).cells k).toList.length = k := fun k => by rw [Array.length_toList, size_zeroCells]; exact Nat.mul_one k
        have hdl : (((ys.drop o).flatMap (intC .i64)).drop p).length = n - p := by rw [List.length_drop, Uf]; omega
        have htl : (((ys.drop o).flatMap (intC .i64)).take p).length = p := by rw [List.length_take, Uf]; omega
        have h0 := hin.alloc (.cells ((((ys.drop o).flatMap (intC .i64)).take p).toArray ++ Builtin.zeroCells (Value.int .i64 0).cells (n + us.length - p) ++ Builtin.zeroCells (Value.int .i64 0).cells (G - (n + us.length))) (ρ.t 3))
        have hsz0 : ((((ys.drop o).flatMap (intC .i64)).take p).toArray ++ Builtin.zeroCells (Value.int .i64 0).cells (n + us.length - p) ++ Builtin.zeroCells (Value.int .i64 0).cells (G - (n + us.length))).size = p + (n + us.length - p) + (G - (n + us.length)) := by
          rw [Array.size_append, Array.size_append, List.size_toArray, htl, size_zeroCells, size_zeroCells]
          show p + _ * 1 + _ * 1 = _
          rw [Nat.mul_one, Nat.mul_one]
        have h1 := h0.drew.setCells P (Take.head _ _) (o := p) (vs := us.flatMap (intC .i64)) (by rw [hsz0, hvl]; omega) h1v
        have h2 := h1.drew.setCells P (Take.head _ _) (o := p + us.length) (vs := ((ys.drop o).flatMap (intC .i64)).drop p) (by
          have hs0 : ((((ys.drop o).flatMap (intC .i64)).take p).toArray ++ Builtin.zeroCells (Value.int .i64 0).cells (n + us.length - p) ++ Builtin.zeroCells (Value.int .i64 0).cells (G - (n + us.length))).toList.length = p + (n + us.length - p) + (G - (n + us.length)) := by rw [Array.length_toList]; exact hsz0
          rw [List.size_toArray, List.length_append, List.length_append, List.length_take, hdl, hvl, List.length_drop, hs0]; omega) (fun v hv => h1c v (List.mem_of_mem_drop hv))
        refine ⟨_, _, ⟨_, n + us.length, G, some w.heap.size, n + us.length, G, (ys.drop o).take p ++ us ++ (ys.drop o).drop p, (Builtin.zeroCells (Value.int .i64 0).cells (G - (n + us.length))).toList, rfl, rfl, Qu.self (some w.heap.size) _ _ _, ?_, hcap, by rw [hzl]; omega, (fun e => by cases e), hGm⟩, rfl, ?_⟩
        · simp only [List.length_append, List.length_take, List.length_drop]; omega
        · have key := ins_grow (((ys.drop o).flatMap (intC .i64)).take p) (((ys.drop o).flatMap (intC .i64)).drop p) (Builtin.zeroCells (Value.int .i64 0).cells (n + us.length - p)).toList (Builtin.zeroCells (Value.int .i64 0).cells (G - (n + us.length))).toList (us.flatMap (intC .i64)) (p := p) (m := us.length) htl hvl (by rw [hzl, hdl]; omega)
          have e1 : (arr (intC .i64) ((ys.drop o).take p ++ us ++ (ys.drop o).drop p) (Builtin.zeroCells (Value.int .i64 0).cells (G - (n + us.length))).toList) = ((ys.drop o).flatMap (intC .i64)).take p ++ us.flatMap (intC .i64) ++ ((ys.drop o).flatMap (intC .i64)).drop p ++ (Builtin.zeroCells (Value.int .i64 0).cells (G - (n + us.length))).toList := by
            rw [Z9c, Z3e]; simp only [arr, List.flatMap_append]
          rw [e1, ← key]
          have e3 : ((((ys.drop o).flatMap (intC .i64)).take p).toArray ++ Builtin.zeroCells (Value.int .i64 0).cells (n + us.length - p) ++ Builtin.zeroCells (Value.int .i64 0).cells (G - (n + us.length))).toList = ((ys.drop o).flatMap (intC .i64)).take p ++ (Builtin.zeroCells (Value.int .i64 0).cells (n + us.length - p)).toList ++ (Builtin.zeroCells (Value.int .i64 0).cells (G - (n + us.length))).toList := by simp
          rw [e3] at h2
          exact h2.pick (Zg (Take.head _ _) (Zg (Take.tail (Take.head _ _)) Zh))
end
end Go.Acq
namespace Go.Acq
open Go Go.RowKit
section
variable {C : Cx} {ops : Array Oper} {Q : Exit → Act → World → Prop} {E : Env} {H : Heap}
end
end Go.Acq
namespace Go.Acq
open Go Go.RowKit
structure RowB where
  ob : Option Nat
  xs : List Int
  n : Nat
  c : Nat
  j : List Value
instance : Inhabited RowB := ⟨⟨none, [], 0, 0, []⟩⟩
def RowB.ok (r : RowB) : Prop := r.xs.length = r.n ∧ r.n ≤ r.c ∧ r.j.length = (r.c - r.n) * 1 ∧ (r.ob = none → r.c = 0)
def RowB.sm (r : RowB) : SM := (sb r.ob, r.n, r.c)
structure Fam (L : List RowB) (xss : List (List Int)) (n : Nat) : Prop where
  xs : L.map RowB.xs = xss
  ok : ∀ r, r ∈ L → r.ok
  len : xss.length = n
theorem RowB.ok0 : (default : RowB).ok := ⟨rfl, Nat.le_refl _, rfl, fun _ => rfl⟩
theorem Fam.replicate (n : Nat) : Fam (List.replicate n default) (List.replicate n []) n :=
 ⟨by rw [List.map_replicate]; rfl, fun r hr => by rw [(List.mem_replicate.1 hr).2]; exact RowB.ok0, List.length_replicate⟩
theorem Fam.lenL {L : List RowB} {xss : List (List Int)} {n : Nat} (h : Fam L xss n) : L.length = n := by rw [← h.len, ← h.xs, List.length_map]
theorem Fam.set {L : List RowB} {xss : List (List Int)} {n p : Nat} {r : RowB} (h : Fam L xss n) (hr : r.ok) : Fam (L.set p r) (xss.set p r.xs) n :=
 ⟨by rw [List.map_set, h.xs], fun q hq => by
  rcases List.mem_or_eq_of_mem_set hq with h1 | rfl
  · exact h.ok q h1
  · exact hr, by rw [List.length_set]; exact h.len⟩
section
variable {C : Cx} {Q : Exit → Act → World → Prop} {E : Env} {H : Heap} {e : Exit} {code : Code}
end
section ends
variable {C : Cx} {E : Env} {H N : Heap}
end ends
section rules
variable {C : Cx} {ops : Array Oper} {Q : Exit → Act → World → Prop} {l : List Nat} {E : Env} {H R : Heap} {i d : Nat} {ty : TypeId} {Zd : String} {af : Array Edge} {g : Option (Nat × Bool)}
theorem Fam.inb {L : List RowB} {xss : List (List Int)} {n : Nat} {p : Int} (h : Fam L xss n) (hp : inb p xss.length) : inb p (L.map RowB.sm).length := by
 rw [List.length_map, h.lenL, ← h.len]; exact hp
end rules
section draw
variable {C : Cx} {ops : Array Oper} {Q : Exit → Act → World → Prop} {E : Env} {H : Heap}
theorem ObE2.tail {S : List Sp} {HR : Nat → List Value → Heap → Prop} {hd : List (List Nat)} {W : Env} {Hc : Heap} {i : Nat} (Tl : Heap) (h : ObE2 C ops Q S HR hd W Hc i) : ObE2 C ops Q S HR hd W (Hc ++ Tl) i := by
 intro vs es Es Hx hb hr hh a w hf hi
 refine Nv (l2 := []) (fun e a w hne hq => ?_) (fun a w hq => ?_) [i] a w (h vs es Es (Tl ++ Hx) hb hr hh a w hf (hi.perm (Nc hb Hx)))
 · cases e <;> first | exact absurd rfl hne | exact hq
 ·
  obtain ⟨v, hb', e', h1, h2, h3, h4⟩ := hq
  refine ⟨v, hb', e', h1, h2, h3, h4.perm ?_⟩
  have e1 : hb' ++ (Hc ++ (e' ++ (Xe es (Yi S i) ++ (Tl ++ Hx)))) = hb' ++ (Hc ++ ((e' ++ Xe es (Yi S i)) ++ (Tl ++ Hx))) := by simp only [List.append_assoc]
  have e2 : hb' ++ ((Hc ++ Tl) ++ (e' ++ (Xe es (Yi S i) ++ Hx))) = hb' ++ ((Hc ++ Tl) ++ ((e' ++ Xe es (Yi S i)) ++ Hx)) := by simp only [List.append_assoc]
  rw [e1, e2]
  exact (Nc hb' Hx).symm
theorem ObsG2.tail {S : List Sp} {HR : Nat → List Value → Heap → Prop} {hd : List (List Nat)} {W : Env} {Hc : Heap} (Tl : Heap) : ∀ {l : List Nat}, ObsG2 C ops Q S HR hd W Hc l → ObsG2 C ops Q S HR hd W (Hc ++ Tl) l
 | [], _ => trivial
 | i :: l, ⟨h1, h2⟩ => by
  refine ⟨?_, ObsG2.tail Tl h2⟩
  cases he : Yl S i with
  | true => rw [he] at h1; exact ObE2.tail Tl h1
  | false => rw [he] at h1; exact ObQ.tail Tl h1
end draw
section ends
variable {C : Cx} {E : Env} {H H' N : Heap}
end ends
end Go.Acq
namespace Go.Acq
open Go Go.RowKit
section rules
variable {C : Cx} {ops : Array Oper} {Q : Act → Prop} {l : List Nat} {E : Env} {H R : Heap} {i d : Nat} {ty : TypeId} {Zd : String} {af : Array Edge} {g : Option (Nat × Bool)}
end rules
section ends
variable {C : Cx} {E : Env} {H N : Heap}
end ends
end Go.Acq
namespace Go.Acq
open Go Go.RowKit
section rules
variable {C : Cx} {ops : Array Oper} {Q : Exit → Act → World → Prop} {l : List Nat} {E : Env} {H R : Heap} {i d : Nat} {ty : TypeId} {Zd : String} {af : Array Edge} {g : Option (Nat × Bool)}
def ExtF (P : Program) (f : FuncId) (e : Array Value → Sem Value) : Prop :=
  ∃ fn, P.funcs[f]? = some fn ∧ (fn.name == "runtime.NumGoroutine") = false ∧ fn.body.isNone = true ∧ Extern.findNext fn = none ∧ Extern.find fn = some e
variable {x y z : Operand} {f : FuncId} {at' : Array TypeId} {ob : Option Nat} {n c : Nat} {p v u : Int} {xs : List Int} {j : List Value} {T : TypeId}
end rules
section rules
variable {C : Cx} {ops : Array Oper} {Q : Exit → Act → World → Prop} {l : List Nat} {E : Env} {H R : Heap} {i d : Nat} {ty : TypeId} {Zd : String} {af : Array Edge} {g : Option (Nat × Bool)}
end rules
end Go.Acq
namespace Go.Acq
open Go Go.RowKit
section rules
variable {C : Cx} {ops : Array Oper} {Q : Exit → Act → World → Prop} {l : List Nat} {E : Env} {H R : Heap} {i d : Nat} {ty : TypeId} {Zd : String} {af : Array Edge} {g : Option (Nat × Bool)}
end rules
end Go.Acq
namespace Go.Acq
open Go Go.RowKit
def wpU (P : Program) (ops : Array Oper) (Qn : Act → Prop) : List Nat → Act → Prop
  | [], a => Qn a
  | i :: rest, a => match ops[i]? with
    | none => wpU P ops Qn rest a
    | some o => (∀ c, o.op ≠ .defer c) ∧ (∀ cs b, o.op ≠ .select cs b) ∧
        if Region.wanted o (yielded ops a.tmps) = true then ∃ v, (∀ w, (execOp a.eval o).run P w = .ok (.value v) w) ∧ wpU P ops Qn rest (a.put o.dst v)
        else wpU P ops Qn rest (a.put o.dst undef)
def TU (C : Cx) (ops : Array Oper) (Qn : Act → Prop) (l : List Nat) (E : Env) : Prop := ∀ a, Fits C.n C.D E a → wpU C.P ops Qn l a
def Ld (ops : Array Oper) (m : Nat) : List Nat → List Nat → Bool
  | _, [] => true
  | pre, i :: l => Nat.blt i m && !(pre.any (Nat.beq i)) && (match ops[i]? with
    | none => false
    | some o => (match o.dst with | some d => (List.range m).all fun j => Nat.beq j i || !(Yb ops j == some d) | none => false) &&
        (o.looksAt ops).all fun t => (List.range m).all fun j => !(Yb ops j == some t) || (pre.any (Nat.beq j) && Xx ops ops.size i j)) && Ld ops m (i :: pre) l
section
variable {C : Cx} {ops : Array Oper} {Q : Exit → Act → World → Prop} {E : Env} {H : Heap}
def Va (ops : Array Oper) (vs : Nat → Value) : List Nat → Act → Act
  | [], a => a
  | i :: l, a => Va ops vs l (a.put (Yb ops i) (vs i))
theorem Z4e {vs vs' : Nat → Value} : ∀ (l : List Nat) (a : Act), (∀ i, i ∈ l → vs i = vs' i) → Va ops vs l a = Va ops vs' l a
 | [], _, _ => rfl
 | i :: l, a, h => by simp only [Va]; rw [h i (.head _)]; exact Z4e l _ fun j hj => h j (.tail _ hj)
def StepQ (P : Program) (ops : Array Oper) (K : World → Prop) (vs : Nat → Value) (i : Nat) (a : Act) : Prop :=
  ∃ o, ops[i]? = some o ∧ (∀ c, o.op ≠ .defer c) ∧ (∀ cs b, o.op ≠ .select cs b) ∧
    ((Region.wanted o (yielded ops a.tmps) = true ∧ ∀ w, K w → Ux P K w (vs i) ((execOp a.eval o).run P w)) ∨ (Region.wanted o (yielded ops a.tmps) = false ∧ vs i = undef))
def StepU (P : Program) (ops : Array Oper) (vs : Nat → Value) (i : Nat) (a : Act) : Prop :=
  ∃ o, ops[i]? = some o ∧ (∀ c, o.op ≠ .defer c) ∧ (∀ cs b, o.op ≠ .select cs b) ∧
    ((Region.wanted o (yielded ops a.tmps) = true ∧ ∀ w, (execOp a.eval o).run P w = .ok (.value (vs i)) w) ∨ (Region.wanted o (yielded ops a.tmps) = false ∧ vs i = undef))
theorem StepU.q {P : Program} {K : World → Prop} {vs : Nat → Value} {i : Nat} {a : Act} (h : StepU P ops vs i a) : StepQ P ops K vs i a := by
 obtain ⟨o, h1, h2, h3, h4⟩ := h
 refine ⟨o, h1, h2, h3, h4.imp (fun h => ⟨h.1, fun w _ => ?_⟩) id⟩
 rw [h.2 w]; exact ⟨rfl, rfl⟩
theorem Z4z {P : Program} {K : World → Prop} {Qn : Act → Prop} : ∀ (l : List Nat) (a : Act), l.Nodup → (∀ i, i ∈ l → ∃ o, ops[i]? = some o) → Vk P ops K Qn l a →
    ∃ vs : Nat → Value, (∀ pre i post, l = pre ++ i :: post → StepQ P ops K vs i (Va ops vs pre a)) ∧ Qn (Va ops vs l a)
  | [], a, _, _, h => ⟨fun _ => undef, fun pre i post e => by simp at e, h⟩
  | i :: l, a, hn, ho, h => by
    obtain ⟨o, hoi⟩ := ho i (.head _)
    simp only [Vk, hoi] at h
    obtain ⟨hd, hs, h⟩ := h
    have hslot : Yb ops i = o.dst := by simp [Yb, hoi]
    obtain ⟨v, hv, hr⟩ : ∃ v, ((Region.wanted o (yielded ops a.tmps) = true ∧ ∀ w, K w → Ux P K w v ((execOp a.eval o).run P w)) ∨ (Region.wanted o (yielded ops a.tmps) = false ∧ v = undef)) ∧ Vk P ops K Qn l (a.put o.dst v) := by
      by_cases hw : Region.wanted o (yielded ops a.tmps) = true
      · rw [if_pos hw] at h; obtain ⟨v, h1, h2⟩ := h; exact ⟨v, .inl ⟨hw, h1⟩, h2⟩
      · rw [if_neg hw] at h; exact ⟨undef, .inr ⟨by simpa using hw, rfl⟩, h⟩
    have hn' := List.nodup_cons.1 hn
    obtain ⟨vs, g1, g2⟩ := Z4z l _ hn'.2 (fun j hj => ho j (.tail _ hj)) hr
    let vs' : Nat → Value := fun j => if j = i then v else vs j
    have ei : vs' i = v := by simp [vs']
    have ee : ∀ (l' : List Nat) (b : Act), i ∉ l' → Va ops vs' l' b = Va ops vs l' b := fun l' b hni => Z4e l' b fun j hj => by
      have : j ≠ i := by rintro rfl; exact hni hj
      simp [vs', this]
    refine ⟨vs', fun pre j post e => ?_, ?_⟩
    · cases pre with
      | nil => simp only [List.nil_append, List.cons.injEq] at e; obtain ⟨rfl, rfl⟩ := e; exact ⟨o, hoi, hd, hs, by rw [ei]; exact hv⟩
      | cons q pre =>
        simp only [List.cons_append, List.cons.injEq] at e
        obtain ⟨rfl, rfl⟩ := e
        have h1 := g1 pre j post rfl
        have hni : i ∉ pre := fun hm => hn'.1 (List.mem_append_left _ hm)
        have hji : j ≠ i := by rintro rfl; exact hn'.1 (by simp)
        simp only [Va]
        rw [ei, hslot, ee pre _ hni]
        obtain ⟨o', a1, a2, a3, a4⟩ := h1
        have evj : vs' j = vs j := by simp [vs', hji]
        exact ⟨o', a1, a2, a3, by rw [evj]; exact a4⟩
    · simp only [Va]; rw [ei, hslot, ee l _ hn'.1]; exact g2
theorem Z52 {m : Nat} {vs : Nat → Value} {a0 : Act} : ∀ (l : List Nat) (done : Nat → Bool) (a : Act), (∀ i, i ∈ l → i < m ∧ ∃ d, Yb ops i = some d ∧ ∀ j, j < m → j ≠ i → Yb ops j ≠ some d) →
    DoneQ ops m vs a0 done a → DoneQ ops m vs a0 (fun q => done q || l.any (Nat.beq q)) (Va ops vs l a)
  | [], done, a, _, h => by simpa [Va] using h
  | i :: l, done, a, hu, h => by
    obtain ⟨hi, d, hd, hud⟩ := hu i (.head _)
    have h1 := h.put hi hd hud
    have h2 := Z52 l _ _ (fun j hj => hu j (.tail _ hj)) h1
    simp only [Va]
    rw [hd]
    have e : (fun q : Nat => (if q = i then true else done q) || l.any (Nat.beq q)) = fun q => done q || (i :: l).any (Nat.beq q) := by
      funext q
      by_cases c : q = i
      · subst c; simp
      · have : Nat.beq q i = false := by
          cases hb : Nat.beq q i with
          | true => exact absurd (Nat.eq_of_beq_eq_true hb) c
          | false => rfl
        simp [c, this]
    rw [← e]; exact h2
theorem DoneQ.congr {m : Nat} {vs vs' : Nat → Value} {a0 a : Act} {da : Nat → Bool} (h : DoneQ ops m vs a0 da a) (he : ∀ j, j < m → da j = true → vs j = vs' j) : DoneQ ops m vs' a0 da a :=
 ⟨h.size, h.defers, fun j d hj hd hs hl => by rw [← he j hj hd]; exact h.has j d hj hd hs hl, h.old⟩
def callB (P : Program) (ops : Array Oper) (c : Nat) : Bool := match ops[c]? with
  | some ⟨some _, .call ⟨.value (.func f), _, _⟩, _, _, _, _⟩ => Ya P f
  | _ => false
theorem Z8d {P : Program} {c : Nat} {a : Act} {w : World} (h : callB P ops c = true) : ∃ o f vs, ops[c]? = some o ∧ (∀ c, o.op ≠ .defer c) ∧ (∀ cs b, o.op ≠ .select cs b) ∧ (execOp a.eval o).run P w = .ok (.enter f vs) w := by
 unfold callB at h
 split at h
 ·
  rename_i d f xs at' ty Zd af g ho
  refine ⟨_, f, xs.map a.eval, ho, by simp, by simp, ?_⟩
  simp [execOp, resolve, Deferred.ofValue, invoke, Act.eval, Uq h]
 · cases h
theorem Z7s (q : Nat) : Nat.beq q q = true := by simp
theorem any_mem {l : List Nat} {q : Nat} : l.any (Nat.beq q) = true ↔ q ∈ l := by
 rw [List.any_eq_true]
 constructor
 · rintro ⟨x, hx, h⟩; rw [Nat.eq_of_beq_eq_true h]; exact hx
 · intro h; exact ⟨q, h, Z7s q⟩
theorem Z24 {m : Nat} : ∀ {l pre : List Nat}, Ld ops m pre l = true → ∀ p i post, l = p ++ i :: post → i < m ∧ i ∉ pre ∧ i ∉ p ∧ ∃ o d, ops[i]? = some o ∧ o.dst = some d ∧ Yb ops i = some d ∧ (∀ j, j < m → j ≠ i → Yb ops j ≠ some d) ∧
    ∀ t, t ∈ o.looksAt ops → ∀ j, j < m → Yb ops j = some t → (j ∈ pre ∨ j ∈ p) ∧ Xx ops ops.size i j = true
  | [], pre, _, p, i, post, e => by simp at e
  | q :: l, pre, h, p, i, post, e => by
    simp only [Ld, Bool.and_eq_true] at h
    obtain ⟨⟨⟨h1, h2⟩, h3⟩, h4⟩ := h
    have hq : q ∉ pre := fun hm => by rw [any_mem.2 hm] at h2; simp at h2
    cases p with
    | nil =>
      simp only [List.nil_append, List.cons.injEq] at e
      obtain ⟨rfl, rfl⟩ := e
      refine ⟨by simpa using h1, hq, by simp, ?_⟩
      cases ho : ops[q]? with
      | none => rw [ho] at h3; simp at h3
      | some o =>
        rw [ho] at h3
        simp only [Bool.and_eq_true] at h3
        cases hd : o.dst with
        | none => rw [hd] at h3; simp at h3
        | some d =>
          rw [hd] at h3
          refine ⟨o, d, rfl, hd, by simp [Yb, ho, hd], fun j hj hji he => ?_, fun t htl j hj hsj => ?_⟩
          · have h5 := List.all_eq_true.1 h3.1 j (List.mem_range.2 hj)
            simp only [Bool.or_eq_true] at h5
            rcases h5 with h5 | h5
            · exact hji (Nat.eq_of_beq_eq_true h5)
            · rw [he] at h5; simp at h5
          · have h5 := List.all_eq_true.1 (List.all_eq_true.1 h3.2 t htl) j (List.mem_range.2 hj)
            simp only [Bool.or_eq_true, Bool.and_eq_true] at h5
            rcases h5 with h5 | h5
            · rw [hsj] at h5; simp at h5
            · exact ⟨.inl (any_mem.1 h5.1), h5.2⟩
    | cons r p =>
      simp only [List.cons_append, List.cons.injEq] at e
      obtain ⟨rfl, rfl⟩ := e
      obtain ⟨a1, a2, a3, o, d, a4, a5, a6, a7, a8⟩ := Z24 h4 p i post rfl
      refine ⟨a1, fun hm => a2 (.tail _ hm), fun hm => ?_, o, d, a4, a5, a6, a7, fun t ht j hj hs => ?_⟩
      · rcases List.mem_cons.1 hm with h | h
        · exact a2 (h ▸ .head _)
        · exact a3 h
      · obtain ⟨b1, b2⟩ := a8 t ht j hj hs
        refine ⟨?_, b2⟩
        rcases b1 with b1 | b1
        · rcases List.mem_cons.1 b1 with rfl | b1
          · exact .inr (.head _)
          · exact .inl b1
        · exact .inr (.tail _ b1)
theorem Z3r : ∀ {l : List Nat}, (∀ p i post, l = p ++ i :: post → i ∉ p) → l.Nodup
 | [], _ => List.nodup_nil
 | i :: l, h => by
  refine List.nodup_cons.2 ⟨fun hm => ?_, Z3r fun p j post e hj => h (i :: p) j post (by rw [e]; rfl) (.tail _ hj)⟩
  obtain ⟨p, post, e⟩ := List.append_of_mem hm
  exact h (i :: p) i post (by rw [e]; rfl) (.head _)
theorem DoneQ.cut {m c : Nat} {vs : Nat → Value} {a0 a : Act} {done : Nat → Bool} (h : DoneQ ops m vs a0 done a) (hc : Yb ops c = none) : DoneQ ops m vs a0 (fun q => if q = c then true else done q) a :=
 ⟨h.size, h.defers, fun j d hj hd hs hl => h.has j d hj (by
  have : j ≠ c := by rintro rfl; rw [hc] at hs; cases hs
  simpa [this] using hd) hs hl, fun t ht => h.old t fun j hj hd => ht j hj (by
  by_cases e : j = c <;> simp [e, hd])⟩
theorem TU.tail {l : List Nat} {H0 : Heap} (hH : H0 = H) (h : TO C ops Q l E H) : TU C ops (fun a => ∀ w, Inv C.w0 C.M w H0 → wpOpsIn (FW C.ρ) 0 C.P ops Q l a w) [] E := fun a hf w hi => h a w hf (hH ▸ hi)
variable {Qn : Act → Prop} {l : List Nat} {i d : Nat} {ty : TypeId} {Zd : String} {af : Array Edge} {g : Option (Nat × Bool)}
theorem Z2b {op : Op} {v : Value} (ho : ops[i]? = some ⟨some d, op, ty, Zd, af, g⟩) (hg : Zi ops E g = true) (hd : Nat.ble (d + 1) C.n = true) (hnd : ∀ c, op ≠ .defer c)
    (hr : ∀ a w, Fits C.n C.D E a → (execOp a.eval ⟨some d, op, ty, Zd, af, g⟩).run C.P w = .ok (.value v) w)
    (k : TU C ops Qn l ((d, v) :: E)) (hns : ∀ cs b, op ≠ .select cs b := by simp) : TU C ops Qn (i :: l) E := by
  intro a hf
  simp only [wpU, ho]
  refine ⟨hnd, hns, ?_⟩
  rw [if_pos (Rt hf hg)]
  exact ⟨v, fun w => hr a w hf, k _ (hf.put hd v)⟩
theorem TU.move {x : Operand} {v : Value} (ho : ops[i]? = some ⟨some d, .move x, ty, Zd, af, g⟩) (hg : Zi ops E g = true) (hd : Nat.ble (d + 1) C.n = true) (hx : ev E x = some v)
    (kk : TU C ops Qn l ((d, v) :: E)) : TU C ops Qn (i :: l) E := Z2b ho hg hd (by simp) (fun a w hf => by simp [execOp, hf.ev hx]) kk
theorem TU.nilCheck {x : Operand} {p : Addr} (ho : ops[i]? = some ⟨some d, .nilCheck x, ty, Zd, af, g⟩) (hg : Zi ops E g = true) (hd : Nat.ble (d + 1) C.n = true) (hx : ev E x = some (.pointer (some p)))
    (k : TU C ops Qn l ((d, .pointer (some p)) :: E)) : TU C ops Qn (i :: l) E :=
  Z2b ho hg hd (by simp) (fun a w hf => by simp [execOp, hf.ev hx]) k
theorem TU.fieldAddr {s : TypeId} {x : Operand} {f o b p : Nat} (ho : ops[i]? = some ⟨some d, .fieldAddr s x f, ty, Zd, af, g⟩) (hg : Zi ops E g = true) (hd : Nat.ble (d + 1) C.n = true)
    (hx : ev E x = some (.pointer (some ⟨b, p, none⟩))) (hT : Wc C.P s f = some o) (kk : TU C ops Qn l ((d, .pointer (some ⟨b, p + o, none⟩)) :: E)) : TU C ops Qn (i :: l) E :=
  Z2b ho hg hd (by simp) (fun a w hf => by simp [execOp, hf.ev hx, Z1p hT]) kk
theorem TU.fieldAddr0 {s : TypeId} {x : Operand} {f o b : Nat} (ho : ops[i]? = some ⟨some d, .fieldAddr s x f, ty, Zd, af, g⟩) (hg : Zi ops E g = true) (hd : Nat.ble (d + 1) C.n = true)
    (hx : ev E x = some (.pointer (some ⟨b, 0, none⟩))) (hT : Wc C.P s f = some o) (kk : TU C ops Qn l ((d, .pointer (some ⟨b, o, none⟩)) :: E)) : TU C ops Qn (i :: l) E :=
  TU.fieldAddr ho hg hd hx hT (by rw [Nat.zero_add]; exact kk)
variable {Q : Exit → Act → World → Prop}
theorem TO.neS {t t2 : TypeId} {x y : Operand} {us ws : List Int} {va vb : Array Value} (ks : List IntKind) (ht : Lo C.P t ks = true) (q0_ : ops[i]? = some ⟨some d, .binOp .neq t x y t2, ty, Zd, af, g⟩ ∧ Zi ops E g = true ∧ Nat.ble (d + 1) C.n = true ∧ ev E x = some (.agg va) ∧ ev E y = some (.agg vb) ∧ us.length = ks.length ∧ ws.length = ks.length ∧ ((ks.zip us).map fun p => Value.int p.1 p.2).toArray = va ∧ ((ks.zip ws).map fun p => Value.int p.1 p.2).toArray = vb) (kk : TO C ops Q l ((d, .bool (!decide (us = ws))) :: E) H) : TO C ops Q (i :: l) E H := have ⟨ho, hg, hd, hx, hy, ha, hb, hva, hvb⟩ := q0_;
  TO.val ho hg hd (by simp) (fun a w hf _ => by
    subst hva; subst hvb
    have h3 : C.P.eqGuardType C.P.depth t = false := by simp only [Lo, Bool.and_eq_true, Bool.not_eq_true'] at ht; exact ht.2
    have := Z1n (eqsT_run ht ha hb w) rfl
    simp only [execOp, hf.ev hx, hf.ev hy]
    simp [run_eqGuard_agg w _ _ _ _ _ _ h3, this]) kk
end
end Go.Acq
namespace Go.Acq
open Go Go.RowKit
section rules
variable {C : Cx} {ops : Array Oper} {Q : Exit → Act → World → Prop} {l : List Nat} {E : Env} {H R : Heap} {i d : Nat} {ty : TypeId} {Zd : String} {af : Array Edge} {g : Option (Nat × Bool)}
end rules
section control
variable {C : Cx} {Q : Exit → Act → World → Prop} {E : Env} {H : Heap}
def AQX (n : Nat) (w0 : World) (M : List Nat) (B : Env → Heap → Prop) : Exit → Act → World → Prop := fun e a w => e = .normal ∧ ∃ E1 H1, Fits n [] E1 a ∧ Inv w0 M w H1 ∧ B E1 H1
theorem X.asgX {ρ : Option Nat} {P : Program} {n : Nat} {w0 : World} {M : List Nat} {B : Env → Heap → Prop} (E1 : Env) (H1 : Heap) (hE : AllF E1 E) (hH : Pick H1 H) (hB : B E1 H1) : X ⟨P, ρ, n, [], w0, M⟩ (AQX n w0 M B) .normal E H :=
 fun _ _ hf hi => ⟨rfl, E1, H1, hf.weak hE.sub, hi.pick hH, hB⟩
end control
end Go.Acq
namespace Go.Acq
open Go Go.RowKit
section
variable {C : Cx} {Q : Exit → Act → World → Prop} {E : Env} {H : Heap} {c x y : Code}
end
end Go.Acq
namespace Go.Acq
open Go Go.RowKit
abbrev Str := List UInt8
def bs (l : Str) : ByteArray := ⟨l.toArray⟩
def Ye (x : Str) : List Value := [.string (bs x)]
def ub (l : Str) : List Int := l.map fun b => (b.toNat : Int)
def bu (l : List Int) : Str := l.map fun n => UInt8.ofNat n.toNat
abbrev slok (n : Nat) : Prop := n ≤ 9223372036854775807
theorem bs_size (x : Str) : (bs x).size = x.length := by simp [bs, ByteArray.size]
theorem Wt (x : Str) : (bs x).data.toList = x := by simp [bs]
theorem bs_of (s : ByteArray) : bs s.data.toList = s := by cases s; simp [bs]
theorem bs_inj {x y : Str} (h : bs x = bs y) : x = y := by rw [← Wt x, h, Wt]
theorem bs_app (x y : Str) : bs x ++ bs y = bs (x ++ y) := by
 apply ByteArray.ext
 simp [bs]
theorem bs_get (x : Str) (i : Nat) : (bs x)[i]? = x[i]? := by
 show (if h : i < (bs x).size then some (bs x)[i] else none) = _
 by_cases h : i < x.length
 ·
  rw [dif_pos (by rw [bs_size]; exact h), List.getElem?_eq_getElem h]
  simp [bs, ByteArray.getElem_eq_getElem_data]
 · rw [dif_neg (by rw [bs_size]; exact h), List.getElem?_eq_none (by omega)]
theorem Z71 (x : Str) (l h : Nat) : (bs x).extract l h = bs ((x.take h).drop l) := by
 apply ByteArray.ext
 apply Array.ext'
 simp [bs, ByteArray.data_extract, List.drop_take]
theorem Za4 (x : Str) : (ub x).length = x.length := List.length_map ..
def Ge (P : Program) (t : TypeId) : Bool :=
  match P.underlying t with
  | some .string => true
  | _ => false
theorem Z0q {P : Program} {t : TypeId} (h : Ge P t = true) : P.underlying t = some .string := by
 unfold Ge at h
 split at h
 · assumption
 · cases h
theorem Z4t (x y : Str) : ((bs x).toList == (bs y).toList) = decide (x = y) := by
 have h : ∀ z : Str, (bs z).toList = z := fun z => by rw [ByteArray.toList_eq, Wt]
 rw [h, h]
 by_cases e : x = y
 · subst e; simp
 · rw [decide_eq_false e]; simpa using e
section rules
variable {C : Cx} {ops : Array Oper} {Q : Exit → Act → World → Prop} {l : List Nat} {E : Env} {H R : Heap} {i d : Nat} {ty : TypeId} {Zd : String} {af : Array Edge} {g : Option (Nat × Bool)}
theorem Z2j {t t2 : TypeId} {x y : Operand} {p q : Str} (h : slok (p ++ q).length) (q0_ : ops[i]? = some ⟨some d, .binOp .add t x y t2, ty, Zd, af, g⟩ ∧ Zi ops E g = true ∧ Nat.ble (d + 1) C.n = true ∧ ev E x = some (.string (bs p)) ∧ ev E y = some (.string (bs q))) (kk : TO C ops Q l ((d, .string (bs (p ++ q))) :: E) H) : TO C ops Q (i :: l) E H := have ⟨ho, hg, hd, hx, hy⟩ := q0_;
  TO.val ho hg hd (by simp) (fun a w hf _ => by
    have h1 : ¬ ((((bs p).size + (bs q).size : Nat) : Int) > IntKind.i64.max) := by
      rw [bs_size, bs_size]; unfold slok at h; rw [List.length_append] at h
      show ¬ ((_ : Int) > 9223372036854775807)
      omega
    simp only [execOp, hf.ev hx, hf.ev hy, eqGuard_at_string, binOp, Op.stringOp, if_neg h1, bs_app]
    simp) kk
theorem Wv {t t2 : TypeId} {x y : Operand} {p q : Str} (q0_ : ops[i]? = some ⟨some d, .binOp .eql t x y t2, ty, Zd, af, g⟩ ∧ Zi ops E g = true ∧ Nat.ble (d + 1) C.n = true ∧ ev E x = some (.string (bs p)) ∧ ev E y = some (.string (bs q))) (kk : TO C ops Q l ((d, .bool (decide (p = q))) :: E) H) : TO C ops Q (i :: l) E H := have ⟨ho, hg, hd, hx, hy⟩ := q0_;
  TO.val ho hg hd (by simp) (fun a w hf _ => by
    simp only [execOp, hf.ev hx, hf.ev hy, eqGuard_at_string, binOp, Op.stringOp, Z4t]
    simp) kk
theorem TO.neT {t t2 : TypeId} {x y : Operand} {p q : Str} (q0_ : ops[i]? = some ⟨some d, .binOp .neq t x y t2, ty, Zd, af, g⟩ ∧ Zi ops E g = true ∧ Nat.ble (d + 1) C.n = true ∧ ev E x = some (.string (bs p)) ∧ ev E y = some (.string (bs q))) (kk : TO C ops Q l ((d, .bool (decide (¬p = q))) :: E) H) : TO C ops Q (i :: l) E H := have ⟨ho, hg, hd, hx, hy⟩ := q0_;
  TO.val ho hg hd (by simp) (fun a w hf _ => by
    simp only [execOp, hf.ev hx, hf.ev hy, eqGuard_at_string, binOp, Op.stringOp, Z4t]
    simp) kk
theorem Jg {t : TypeId} {at' : Array TypeId} {x : Operand} {p : Str}
    (q0_ : ops[i]? = some ⟨some d, .call ⟨.builtin .len, #[x], at'⟩, ty, Zd, af, g⟩ ∧ Zi ops E g = true ∧ Nat.ble (d + 1) C.n = true ∧ at'[0]? = some t ∧ ev E x = some (.string (bs p))) (ht : Ge C.P t = true) (kk : TO C ops Q l ((d, .int .i64 (p.length : Int)) :: E) H) : TO C ops Q (i :: l) E H := have ⟨ho, hg, hd, hat, hx⟩ := q0_;
  TO.val ho hg hd (by simp) (fun a w hf _ => by
    simp [execOp, resolve, invoke, builtin, hf.ev hx, Builtin.len_, hat, run_underlying (Z0q ht), goInt, bs_size]) kk
theorem TO.ixT {t : TypeId} {x y : Operand} {p : Str} {k : IntKind} {q : Int} (h : inb q p.length) (q0_ : ops[i]? = some ⟨some d, .index t x y, ty, Zd, af, g⟩ ∧ Zi ops E g = true ∧ Nat.ble (d + 1) C.n = true ∧ ev E x = some (.string (bs p)) ∧ ev E y = some (.int k q)) (ht : Ge C.P t = true) (kk : TO C ops Q l ((d, .int .u8 ((p.getD q.toNat 0).toNat : Int)) :: E) H) : TO C ops Q (i :: l) E H := have ⟨ho, hg, hd, hx, hy⟩ := q0_;
  TO.val ho hg hd (by simp) (fun a w hf _ => by
    have h2 := Gf h
    have h3 : p.getD q.toNat 0 = p[q.toNat] := by rw [List.getD_eq_getElem?_getD, List.getElem?_eq_getElem h2]; rfl
    simp [execOp, hf.ev hx, hf.ev hy, Instr.index, asIntOf, run_underlying (Z0q ht), h.1, bs_get, List.getElem?_eq_getElem h2, h3]) kk
theorem Gt {α : Type} {f : α → List Value} {t : TypeId} {x : Operand} {base : Option Addr} {n c : Nat} {p : Int} {xs : List α} {v : Value} (dflt : α) (hr : RS C.w0 C.M f 1 base n c xs) (hp : inb p xs.length) (q0_ : ops[i]? = some ⟨some d, .load t x, ty, Zd, af, g⟩ ∧ Zi ops E g = true ∧ Nat.ble (d + 1) C.n = true ∧ ev E x = some (.pointer (some (ea base (p.toNat * 1)))) ∧ f (xs.getD p.toNat dflt) = [v]) (hT : Xk C.P t = true)
    (kk : TO C ops Q l ((d, v) :: E) H) : TO C ops Q (i :: l) E H := have ⟨ho, hg, hd, hx, hv⟩ := q0_; TO.ldFR (q := 0) dflt hr hp (by rw [hv]; rfl) ho hg hd hx hT kk
theorem Z5n {α : Type} {f : α → List Value} {t T' : TypeId} {x : Operand} {ob : Option Nat} {n c : Nat} {p : Int} {xs : List α} {j : List Value} {fr : Nat × Nat} {v : Value} (dflt : α) (hf : ∀ x, (f x).length = 1) (h0 : ob = none → c = 0) (hc : n ≤ c) (hn : xs.length = n) (hp : inb p xs.length) (q0_ : ops[i]? = some ⟨some d, .load t x, ty, Zd, af, g⟩ ∧ Zi ops E g = true ∧ Nat.ble (d + 1) C.n = true ∧ ev E x = some (.pointer (some (ea (sb ob) (p.toNat * 1)))) ∧ f (xs.getD p.toNat dflt) = [v]) (hT : Xk C.P t = true) (hm : (ob, Obj.cells (arr f xs j).toArray T' fr) ∈ H)
    (kk : TO C ops Q l ((d, v) :: E) H) : TO C ops Q (i :: l) E H := have ⟨ho, hg, hd, hx, hv⟩ := q0_;
  TO.load ho hg hd hx hT (fun w hi => by
    have hR := hi.rs hf hm hn hc h0
    have := hR.ro.at dflt (o := p.toNat) (c := 0) (Gf hp) (by omega)
    rw [hv] at this
    simpa using this) kk
theorem Za2 (w : World) (n c : Nat) (e : TypeId) : n ≤ grownCap w n c e := by unfold grownCap Question.cut; simp only; omega
theorem TO.toB {s t e : TypeId} {x : Operand} {p : Str} (q0_ : ops[i]? = some ⟨some d, .convert s t x, ty, Zd, af, g⟩ ∧ Zi ops E g = true ∧ Nat.ble (d + 1) C.n = true ∧ ev E x = some (.string (bs p))) (hs : Ge C.P s = true) (ht : Xj C.P t = some e) (he : C.P.underlying e = some (.int .u8))
    (kk : ∀ (b c : Nat) (j : List Value) (fr : Nat × Nat), (ub p).length ≤ c → j.length = (c - (ub p).length) * 1 →
      TO C ops Q l ((d, .slice (some ⟨b, 0, none⟩) (ub p).length c) :: E) ((some b, .cells (arr (intC .u8) (ub p) j).toArray e fr) :: H)) : TO C ops Q (i :: l) E H := have ⟨ho, hg, hd, hx⟩ := q0_;
  Vr ho hg (by simp) fun a w hf hi => by
    have hr := run_bytes_of_string (P := C.P) w s t e (bs p) (Z0q hs) (Ug ht) he
    have h1 : (execOp a.eval ⟨some d, .convert s t x, ty, Zd, af, g⟩).run C.P w = .ok (.value (.slice (some ⟨w.heap.size, 0, none⟩) (bs p).size (grownCap w (bs p).size 0 e)))
        (w.drew.alloc (.cells (bytesRow (bs p) (grownCap w (bs p).size 0 e)) e ((bytesRow (bs p) (grownCap w (bs p).size 0 e)).size, (bytesRow (bs p) (grownCap w (bs p).size 0 e)).size + 1))) := by
      simp only [execOp, hf.ev hx]
      simp [hr]
    rw [h1]
    have hb : bytesRow (bs p) (grownCap w (bs p).size 0 e) = (arr (intC .u8) (ub p) (List.replicate (grownCap w (bs p).size 0 e - (bs p).size) (.int .u8 0))).toArray := by
      apply Array.ext'
      simp only [bytesRow, bs, arr, ub]
      simp [List.flatMap_map, intC, ← List.map_eq_flatMap]
    have hsz : (bs p).size = (ub p).length := by rw [bs_size, Za4]
    rw [hb, hsz]
    exact kk _ _ _ _ (Za2 w _ _ _) (by simp) _ _ (hf.put hd _) (hi.drew.alloc _)
theorem Z5s : ∀ (l : List Int) (r : ByteArray), l.foldl (fun r n => r.push (UInt8.ofNat n.toNat)) r = r ++ bs (bu l)
 | [], r => by
  apply ByteArray.ext
  simp [bs, bu]
 | n :: l, r => by
  rw [List.foldl_cons, Z5s l]
  apply ByteArray.ext
  simp [bs, bu, ByteArray.push]
theorem TO.toT {s t e : TypeId} {x : Operand} {base : Option Addr} {n c : Nat} {xs : List Int} (q0_ : ops[i]? = some ⟨some d, .convert s t x, ty, Zd, af, g⟩ ∧ Zi ops E g = true ∧ Nat.ble (d + 1) C.n = true ∧ ev E x = some (.slice base n c)) (hs : Xj C.P s = some e) (he : C.P.underlying e = some (.int .u8)) (ht : Ge C.P t = true)
    (hr : ∀ w, Inv C.w0 C.M w H → RS w [] (intC .u8) 1 base n c xs)
    (kk : TO C ops Q l ((d, .string (bs (bu xs))) :: E) H) : TO C ops Q (i :: l) E H := have ⟨ho, hg, hd, hx⟩ := q0_;
  TO.val ho hg hd (by simp) (fun a w hf hi => by
    have hR := (hr w hi).ro
    have h1 := run_convert_bytes_string (P := C.P) w s t e base n c (Ug hs) he (Z0q ht)
    have h2 : (Conv.bytesToString (.slice base n c)).run C.P w = .ok (.string (bs (bu xs))) w := by
      cases base with
      | none =>
        have h3 := hR.nil rfl
        have h4 : xs = [] := List.eq_nil_of_length_eq_zero (by rw [hR.len]; exact h3)
        subst h4
        rfl
      | some ad =>
        have hl := run_loadCells_list (P := C.P) w ad (xs.map (Value.int .u8)) (fun q v hq => by
          have hql : q < xs.length := by have := (List.getElem?_eq_some_iff.1 hq).1; simpa using this
          have := hR.at 0 (o := q) (c := 0) hql (by omega)
          rw [List.getElem?_map, List.getElem?_eq_getElem hql] at hq
          simp only [ea, Option.getD_some, Nat.mul_one, Nat.add_zero] at this
          rw [this, List.getD_eq_getElem?_getD, List.getElem?_eq_getElem hql]
          simpa [intC] using hq)
        rw [List.length_map, hR.len] at hl
        rw [run_bytesToString w ad n c xs hl, Z5s]
        rfl
    simp only [execOp, hf.ev hx]
    simp [h1, h2]) kk
end rules
section quiet
variable {C : Cx} {ops : Array Oper} {Q : Act → Prop} {l : List Nat} {E : Env} {H R : Heap} {i d : Nat} {ty : TypeId} {Zd : String} {af : Array Edge} {g : Option (Nat × Bool)}
end quiet
end Go.Acq
namespace Go.Acq
open Go Go.RowKit
section rules
variable {C : Cx} {ops : Array Oper} {Q : Exit → Act → World → Prop} {l : List Nat} {E : Env} {H R : Heap} {i d : Nat} {ty : TypeId} {Zd : String} {af : Array Edge} {g : Option (Nat × Bool)}
end rules
section control
variable {C : Cx} {Q : Exit → Act → World → Prop} {E : Env} {H : Heap}
end control
end Go.Acq
namespace Go.Acq
open Go Go.RowKit
section control
variable {C : Cx} {Q : Exit → Act → World → Prop} {E : Env} {H H' : Heap}
theorem T.perm {c : Code} (hp : List.Perm H H') (k : T C c Q E H') : T C c Q E H := fun a w hf hi => k a w hf (hi.perm hp)
theorem X.perm {e : Exit} (hp : List.Perm H H') (k : Acq.X C Q e E H') : Acq.X C Q e E H := fun a w hf hi => k a w hf (hi.perm hp)
theorem RQ.turn {S X : Type} {J : S ⊕ X → Heap → Prop} {HE : Heap} {jmp : X → Code} {r : S ⊕ X} {w0 : World} {M : List Nat} {e : Exit} {a : Act} {w : World}
    (h : RQ (fun r Hq => ∃ Hq', Hq = HE ++ Hq' ∧ J r Hq') jmp r w0 M e a w) : RQ (fun r Hq => ∃ Hq', Hq = Hq' ++ HE ∧ J r Hq') jmp r w0 M e a w := by
  cases e with
  | normal => obtain ⟨s, _, h1, ⟨Hq, rfl, hJ⟩, hi⟩ := h; exact ⟨s, _, h1, ⟨Hq, rfl, hJ⟩, hi.perm List.perm_append_comm⟩
  | ret => obtain ⟨x, _, h1, h2, ⟨Hq, rfl, hJ⟩, hi⟩ := h; exact ⟨x, _, h1, h2, ⟨Hq, rfl, hJ⟩, hi.perm List.perm_append_comm⟩
  | exit id => obtain ⟨x, _, h1, h2, ⟨Hq, rfl, hJ⟩, hi⟩ := h; exact ⟨x, _, h1, h2, ⟨Hq, rfl, hJ⟩, hi.perm List.perm_append_comm⟩
  | goto _ => exact h.elim
  | panic _ => exact h.elim
  | outgrown => exact h.elim
end control
end Go.Acq
namespace Go.Acq
open Go Go.Lib
theorem Z5r (x : Str) (i : Nat) (h : i < x.length) : (bs x).get! i = x[i] := by
 have h2 : i < (bs x).data.size := by simpa [bs] using h
 simp [ByteArray.get!, bs, h]
theorem Z2x (x : Str) (i : Nat) (c : UInt8) (h : x[i]? = some c) (ha : c.toNat < 128) : Utf8.decode (bs x) i = (c.toNat, 1) := by
 obtain ⟨h1, h2⟩ := List.getElem?_eq_some_iff.1 h
 unfold Utf8.decode
 simp only [Nat.add_zero, Z5r x i h1, h2]
 rw [if_pos ha]
theorem Z2q {l : Str} {i : Nat} {c : UInt8} (h : l[i]? = some c) : l.drop i = c :: l.drop (i + 1) := by
 obtain ⟨h1, h2⟩ := List.getElem?_eq_some_iff.1 h
 rw [← h2]; exact List.drop_eq_getElem_cons h1
theorem Z4b {l : Str} {i : Nat} {c : UInt8} (h : l[i]? = some c) : l.take (i + 1) = l.take i ++ [c] := by
 obtain ⟨h1, h2⟩ := List.getElem?_eq_some_iff.1 h
 rw [← h2]; exact List.take_succ_eq_append_getElem h1
theorem Z36 {l : Str} {i : Nat} (h : i < l.length) : ∃ c, l[i]? = some c := ⟨_, List.getElem?_eq_getElem h⟩
def Wr (p : Nat → Bool) : Str → Str → List Str
  | [], cur => if cur = [] then [] else [cur]
  | b :: l, cur => if p b.toNat then (if cur = [] then Wr p l [] else cur :: Wr p l []) else Wr p l (cur ++ [b])
def Ju (l : Str) : Bool := l.all fun b => decide (b.toNat < 128)
theorem fldA_end {p : Nat → Bool} {cur : Str} (h : cur ≠ []) : Wr p [] cur = [cur] := by rw [Wr, if_neg h]
theorem fldA_cut {p : Nat → Bool} {b : UInt8} {l cur : Str} (hq : p b.toNat = true) (h : cur ≠ []) : Wr p (b :: l) cur = cur :: Wr p l [] := by rw [Wr, if_pos hq, if_neg h]
theorem Z9b {p : Nat → Bool} {b : UInt8} {l : Str} (hq : p b.toNat = true) : Wr p (b :: l) [] = Wr p l [] := by rw [Wr, if_pos hq, if_pos rfl]
theorem Z5a {p : Nat → Bool} {b : UInt8} {l cur : Str} (hq : ¬ p b.toNat = true) : Wr p (b :: l) cur = Wr p l (cur ++ [b]) := by rw [Wr, if_neg hq]
def Z02 (p : Nat → Bool) (l : Str) : List Str := if Ju l then Wr p l [] else (goFieldsP p (bs l)).map fun b => b.data.toList
def Lb (p : Nat → Bool) (l : Str) : Bool := if Ju l then l.any (fun b => p b.toNat) else decide (0 ≤ idxFunc p true (bs l))
theorem Z5g {l : Str} (h : Ju l = true) {i : Nat} {c : UInt8} (hi : l[i]? = some c) : c.toNat < 128 := by
 have := List.all_eq_true.1 h c (List.mem_of_getElem? hi)
 simpa using this
theorem Z39 (p : Nat → Bool) (l : Str) (h : Ju l = true) : ∀ (f Zd : Nat), l.length ≤ Zd + f → decide (0 ≤ idxFuncFrom p true (bs l) f Zd) = (l.drop Zd).any (fun b => p b.toNat)
 | 0, Zd, hf => by
  rw [List.drop_eq_nil_of_le (by omega)]; rfl
 | f + 1, Zd, hf => by
  by_cases hp : Zd < l.length
  ·
   obtain ⟨c, hc⟩ := Z36 hp
   rw [idxFuncFrom, if_pos (by rw [bs_size]; exact hp), Z2x l Zd c hc (Z5g h hc), Z2q hc, List.any_cons]
   by_cases hq : p c.toNat = true
   · rw [if_pos hq, hq, Bool.true_or]; exact decide_eq_true (by omega)
   ·
    rw [if_neg hq, Bool.eq_false_iff.2 hq, Bool.false_or]
    exact Z39 p l h f (Zd + 1) (by omega)
  · rw [idxFuncFrom_end _ _ _ _ _ (by rw [bs_size]; exact hp), List.drop_eq_nil_of_le (by omega)]; rfl
theorem Z5d (p : Nat → Bool) (l : Str) : decide (0 ≤ idxFunc p true (bs l)) = Lb p l := by
 unfold Lb
 by_cases h : Ju l = true
 ·
  rw [if_pos h]
  have := Z39 p l h l.length 0 (by omega)
  unfold idxFunc
  rw [bs_size, this, List.drop_zero]
 · rw [if_neg h]
def Vx (l : Str) (st : Option Nat) (Zd : Nat) : Str :=
  match st with
  | some a => (l.take Zd).drop a
  | none => []
def opn (st : Option Nat) (Zd : Nat) : Prop := ∀ a, st = some a → a < Zd
theorem Z6b (p : Nat → Bool) (l : Str) (h : Ju l = true) : ∀ (f Zd : Nat) (st : Option Nat) (acc : List (Nat × Nat)), l.length ≤ Zd + f → Zd ≤ l.length → opn st Zd →
    (closeSpans (bs l) (spansFromP p (bs l) f Zd st acc)).map (fun x => (l.take x.2).drop x.1) = acc.map (fun x => (l.take x.2).drop x.1) ++ Wr p (l.drop Zd) (Vx l st Zd) := by
  have fin : ∀ (f Zd : Nat) (st : Option Nat) (acc : List (Nat × Nat)), Zd = l.length → opn st Zd →
      (closeSpans (bs l) (spansFromP p (bs l) f Zd st acc)).map (fun x => (l.take x.2).drop x.1) = acc.map (fun x => (l.take x.2).drop x.1) ++ Wr p (l.drop Zd) (Vx l st Zd) := by
    intro f Zd st acc hp ho
    subst hp
    rw [spansFromP_end _ _ _ _ _ _ (by rw [bs_size]; omega), List.drop_eq_nil_of_le (Nat.le_refl _)]
    cases st with
    | none => simp [closeSpans, Vx, Wr]
    | some a =>
      have h1 : a < l.length := ho a rfl
      have h2 : Vx l (some a) l.length ≠ [] := by
        intro e
        have := congrArg List.length e
        unfold Vx at this
        simp only at this
        rw [List.length_drop, List.length_take] at this
        simp only [List.length_nil] at this
        omega
      rw [fldA_end h2]
      simp only [closeSpans, Vx, bs_size, List.map_append, List.map_cons, List.map_nil]
  intro f
  induction f with
  | zero => intro Zd st acc hf hp ho; exact fin 0 Zd st acc (by omega) ho
  | succ f ih =>
    intro Zd st acc hf hp ho
    by_cases hlt : Zd < l.length
    · obtain ⟨c, hc⟩ := Z36 hlt
      have hd := Z2x l Zd c hc (Z5g h hc)
      rw [Z2q hc]
      have hsz : Zd < (bs l).size := by rw [bs_size]; exact hlt
      by_cases hq : p c.toNat = true
      · cases st with
        | none =>
          have e : spansFromP p (bs l) (f + 1) Zd none acc = spansFromP p (bs l) f (Zd + 1) none acc := by
            simp only [spansFromP, if_pos hsz, hd, if_pos hq]
          rw [e, ih (Zd + 1) none acc (by omega) (by omega) (fun a e => by cases e)]
          rw [show Vx l none Zd = [] from rfl, Z9b hq]; rfl
        | some a =>
          have h1 : a < Zd := ho a rfl
          have h2 : Vx l (some a) Zd ≠ [] := by
            intro e
            have := congrArg List.length e
            unfold Vx at this
            simp only at this
            rw [List.length_drop, List.length_take] at this
            simp only [List.length_nil] at this
            omega
          have e : spansFromP p (bs l) (f + 1) Zd (some a) acc = spansFromP p (bs l) f (Zd + 1) none (acc ++ [(a, Zd)]) := by
            simp only [spansFromP, if_pos hsz, hd, if_pos hq]
          rw [e, ih (Zd + 1) none (acc ++ [(a, Zd)]) (by omega) (by omega) (fun a e => by cases e)]
          rw [fldA_cut hq h2]
          simp only [Vx, List.map_append, List.map_cons, List.map_nil, List.append_assoc, List.cons_append, List.nil_append]
      · cases st with
        | none =>
          have e : spansFromP p (bs l) (f + 1) Zd none acc = spansFromP p (bs l) f (Zd + 1) (some Zd) acc := by
            simp only [spansFromP, if_pos hsz, hd, if_neg hq]
          rw [e, ih (Zd + 1) (some Zd) acc (by omega) (by omega) (fun a e => by cases e; omega)]
          have : (l.take (Zd + 1)).drop Zd = [c] := by
            rw [Z4b hc, List.drop_append, List.drop_eq_nil_of_le (by rw [List.length_take]; omega), List.length_take, Nat.min_eq_left (Nat.le_of_lt hlt), Nat.sub_self]; rfl
          rw [Z5a hq]
          simp only [Vx, this, List.nil_append]
        | some a =>
          have h1 : a < Zd := ho a rfl
          have e : spansFromP p (bs l) (f + 1) Zd (some a) acc = spansFromP p (bs l) f (Zd + 1) (some a) acc := by
            simp only [spansFromP, if_pos hsz, hd, if_neg hq]
          rw [e, ih (Zd + 1) (some a) acc (by omega) (by omega) (fun b e => by cases e; omega)]
          have : (l.take (Zd + 1)).drop a = (l.take Zd).drop a ++ [c] := by
            rw [Z4b hc, List.drop_append_of_le_length (by rw [List.length_take]; omega)]
          rw [Z5a hq]
          simp only [Vx, this]
    · exact fin (f + 1) Zd st acc (by omega) ho
theorem Z6s (p : Nat → Bool) (l : Str) : goFieldsP p (bs l) = (Z02 p l).map bs := by
 unfold Z02
 by_cases h : Ju l = true
 ·
  rw [if_pos h]
  have h1 := Z6b p l h l.length 0 none [] (by omega) (by omega) (fun a e => by cases e)
  simp only [List.map_nil, List.nil_append, List.drop_zero] at h1
  have h2 : Vx l none 0 = [] := rfl
  rw [h2] at h1
  rw [← h1]
  unfold goFieldsP spansOfP
  rw [bs_size, List.map_map]
  apply List.map_congr_left
  intro x _
  exact Z71 l x.1 x.2
 ·
  rw [if_neg h, List.map_map]
  conv => lhs; rw [← List.map_id (goFieldsP p (bs l))]
  apply List.map_congr_left
  intro b _
  exact (bs_of b).symm
def Xn : Nat → Nat → Str
  | 0, _ => []
  | f + 1, u => if u < 10 then [UInt8.ofNat (48 + u)] else Xn f (u / 10) ++ [UInt8.ofNat (48 + u % 10)]
def Xl (n : Int) : Str := if n < 0 then 45 :: Xn 20 n.natAbs else Xn 20 n.toNat
theorem Z29 : ∀ (f u : Nat), u < 10 ^ (f + 1) → decDigits u = Xn (f + 1) u
 | 0, u, h => by
  have h2 : u < 10 := by simpa using h
  rw [decDigits, Xn, dif_pos h2, if_pos h2]
 | f + 1, u, h => by
  rw [decDigits, Xn]
  by_cases hu : u < 10
  · rw [dif_pos hu, if_pos hu]
  · rw [dif_neg hu, if_neg hu, Z29 f (u / 10) (by rw [Nat.pow_succ] at h; omega)]
theorem Z4c {n : Int} (h : i64ok n) : itoa n = Xl n := by
 obtain ⟨h1, h2⟩ := h
 have e : (10 : Nat) ^ (19 + 1) = 100000000000000000000 := by decide
 unfold itoa Xl
 rw [Z29 19 n.natAbs (by rw [e]; omega), Z29 19 n.toNat (by rw [e]; omega)]
end Go.Acq
namespace Go.Acq
open Go Go.RowKit Go.Proofs Go.Shelf
structure GK (P : Program) (w : World) (M : List Nat) : Prop where
  pow : Lib.TabIs P w "internal/strconv.uint64pow10" .u64 Lib.pow10Tab
  syn : ∃ tp p, w.var? P "strconv.ErrSyntax" = some #[.iface tp p]
  ran : ∃ tp p, w.var? P "strconv.ErrRange" = some #[.iface tp p]
  mxl : ∃ m, w.var? P "internal/bytealg.MaxLen" = some #[.int .i64 m]
  low : ∀ n, n ∈ ["internal/strconv.uint64pow10", "strconv.ErrSyntax", "strconv.ErrRange", "internal/bytealg.MaxLen"] → ∀ g, P.globalNamed n = some g → g ∉ M
section
variable {P : Program} {w0 w : World} {M M' : List Nat} {H Hm R : Heap}
theorem Rv {n : String} {cs : Array Value} (h : w0.var? P n = some cs) (hl : ∀ g, P.globalNamed n = some g → g ∉ M) (hi : Inv w0 M w H) : w.var? P n = some cs := by
 unfold World.var? at h ⊢
 cases hg : P.globalNamed n with
 | none => simp [hg] at h
 | some g =>
  simp only [hg, Option.bind_some] at h ⊢
  have hlt : g < w0.heap.size := by
   rcases Nat.lt_or_ge g w0.heap.size with h' | h'
   · exact h'
   · simp [Array.getElem?_eq_none h'] at h
  rw [hi.keep g hlt (hl g hg)]
  exact h
theorem Rx {n : String} {cs : Array Value} (h : w0.var? P n = some cs) {g : Nat} (hg : P.globalNamed n = some g) : g < w0.heap.size := by
 unfold World.var? at h
 simp only [hg, Option.bind_some] at h
 rcases Nat.lt_or_ge g w0.heap.size with h' | h'
 · exact h'
 · simp [Array.getElem?_eq_none h'] at h
theorem GK.lt (h : GK P w0 M) {n : String} (hn : n ∈ ["internal/strconv.uint64pow10", "strconv.ErrSyntax", "strconv.ErrRange", "internal/bytealg.MaxLen"]) {g : Nat} (hg : P.globalNamed n = some g) : g < w0.heap.size := by
 simp only [List.mem_cons, List.mem_nil_iff, or_false] at hn
 rcases hn with rfl | rfl | rfl | rfl
 · exact Rx h.pow hg
 · obtain ⟨_, _, e⟩ := h.syn; exact Rx e hg
 · obtain ⟨_, _, e⟩ := h.ran; exact Rx e hg
 · obtain ⟨_, e⟩ := h.mxl; exact Rx e hg
theorem GK.with (h : GK P w0 M) (hi : Inv w0 M w H) (hl : ∀ n, n ∈ ["internal/strconv.uint64pow10", "strconv.ErrSyntax", "strconv.ErrRange", "internal/bytealg.MaxLen"] → ∀ g, P.globalNamed n = some g → g ∉ M') : GK P w M' :=
 ⟨Rv h.pow (h.low _ (by simp)) hi, by obtain ⟨a, b, e⟩ := h.syn; exact ⟨a, b, Rv e (h.low _ (by simp)) hi⟩, by obtain ⟨a, b, e⟩ := h.ran; exact ⟨a, b, Rv e (h.low _ (by simp)) hi⟩,
  by obtain ⟨a, e⟩ := h.mxl; exact ⟨a, Rv e (h.low _ (by simp)) hi⟩, hl⟩
theorem GK.mono (h : GK P w0 M) (hi : Inv w0 M w H) : GK P w [] := h.with hi (fun _ _ _ _ => by simp)
theorem GK.monoM (h : GK P w0 M) (hi : Inv w0 M w H) (hp : List.Perm H (Hm ++ R)) (hM : Hm.filterMap (·.1) = M') : GK P w M' := h.with hi (fun n hn g hg hm => by
 subst hM
 obtain ⟨o, ho⟩ := Jv hm
 rcases hi.low g o ((List.Perm.mem_iff hp).2 (List.mem_append_left _ ho)) with hl | hl
 · have := h.lt hn hg; omega
 · exact h.low n hn g hg hl)
theorem Uw {w w' : World} (hb : Below w.heap.size w w') : Inv w [] w' [] := ⟨hb.os, hb.tape, hb.output, hb.size, fun b h _ => hb.block b h, by simp, by simp, by simp⟩
theorem Z99 {w w' : World} (hb : Below w.heap.size w w') {A : Nat} {o : Obj} (h : w'.heap[A]? = some o) (hl : w.heap.size ≤ A) : Inv w [] w' [(some A, o)] :=
 ⟨hb.os, hb.tape, hb.output, hb.size, fun b h _ => hb.block b h, fun b o' hm => by simp at hm; obtain ⟨rfl, rfl⟩ := hm; exact h, fun b o' hm => by simp at hm; obtain ⟨rfl, rfl⟩ := hm; exact .inl hl, by simp⟩
end
section fns
variable {P : Program} {ρ : Ren}
def PredF (P : Program) (g : Nat) (p : Nat → Bool) : Prop := ∀ (w : World) (x : Nat), x ≤ 1114111 → Fnc P g #[.int .i32 (x : Int)] w [] (fun v N => v = .bool (p x) ∧ N = [])
theorem PredF.grows {g : Nat} {p : Nat → Bool} (h : PredF P g p) (w : World) : PredGrows P g #[] p w := fun W x hx _ => by
 have := h W x hx
 simp only [Array.append_empty]
 refine Calls.mono this ?_
 rintro e w' ⟨v, N, ⟨rfl, rfl⟩, rfl, hi⟩
 exact ⟨rfl, hi.below⟩
theorem Za1 (L : Lays.n229 P ρ) (g : Nat) (hF : Ya P g = true) (p : Nat → Bool) (hp : PredF P g p)
    (hi154 : (P.info? (ρ.t 154)).map (fun i => (i.zero, i.size, i.bytes)) = some (some (.agg #[.int .i64 0, .int .i64 0]), 2, 16))
    (hi9 : (P.info? (ρ.t 9)).map (fun i => (i.zero, i.size, i.bytes)) = some (some (.string ⟨#[]⟩), 1, 16)) (s : Str) (hs : s.length ≤ 4294967296) (w : World) {r : List Str} (hr : Z02 p s = r) :
    Fnc P (ρ.f 229) #[.string (bs s), .func (.func g) #[] #[]] w [] (fun v N => ∃ (ob : Option Nat) (n c : Nat) (j : List Value), v = .slice (sb ob) n c ∧ N = [(ob, .cells (arr Ye r j).toArray (ρ.t 9) (0, 0))] ∧ r.length = n ∧ n ≤ c ∧ j.length = (c - n) * 1 ∧ (ob = none → c = 0)) := by
  have h := Any.strings_FieldsFunc_grows L g #[] (fun args w => Uq hF args w) p (bs s) w (by rw [bs_size]; exact hs) (hp.grows w) hi154 hi9
  refine Calls.mono h ?_
  rintro e w' ⟨A, rfl, hA, ⟨hl, hO⟩, hb⟩
  rw [Z6s, hr] at hl hO ⊢
  simp only [List.length_map] at hl hO ⊢
  rcases hO with ⟨hv, _⟩ | ⟨q, cap, cur, hv, _, hc, _, _, hsz, htk⟩
  · exact absurd hv (by simp)
  · simp only [Value.slice.injEq, Option.some.injEq, Addr.mk.injEq] at hv
    obtain ⟨⟨rfl, _⟩, _, rfl⟩ := hv
    have hcur : cur = (arr Ye r []).toArray := by
      apply Array.ext'
      rw [List.take_of_length_le (by rw [Array.length_toList, hsz]; exact Nat.le_refl _)] at htk
      rw [htk]
      simp only [arr, List.append_nil, List.map_map]
      rw [List.map_eq_flatMap]; rfl
    refine ⟨_, _, ⟨some A, r.length, r.length, [], rfl, rfl, rfl, Nat.le_refl _, by simp, fun e => by cases e⟩, rfl, ?_⟩
    rw [← hcur]
    exact Z99 hb hc hA
theorem Fnc.anyf (L : LaysGw.n17 P ρ) (g : Nat) (hF : Ya P g = true) (p : Nat → Bool) (hp : PredF P g p) (s : Str) (w : World) :
    Fnc P (ρ.f 17) #[.string (bs s), .func (.func g) #[] #[]] w [] (fun v N => v = .bool (Lb p s) ∧ N = []) := by
  have h := Any.strings_ContainsFunc_grows L g #[] (fun args w => Uq hF args w) p (bs s) w (hp.grows w)
  refine Calls.mono h ?_
  rintro e w' ⟨rfl, hb⟩
  rw [Z5d]
  exact ⟨_, _, ⟨rfl, rfl⟩, rfl, Uw hb⟩
def IfV (ev : Value) (b : Bool) : Prop := (b = true ∧ ev = .nilIface) ∨ (b = false ∧ ∃ t v, ev = .iface t v)
def Lh (s : Str) : Int × Bool :=
  match Lib.parseIntB 64 s with
  | .ok v => (v, true)
  | .range => (Lib.intSat 64 s, false)
  | _ => (0, false)
theorem Z62 (L : LaysC.n174 P ρ) (s : Str) (hs : s.length ≤ 281474976710656) (w : World) {M : List Nat} (hG : GK P w M) {n : Int} {b : Bool} (hr : Lh s = (n, b)) :
    Fnc P (ρ.f 174) #[.string (bs s), .int .i64 10, .int .i64 64] w [] (fun v N => ∃ ev : Value, v = .tuple #[.int .i64 n, ev] ∧ N = [] ∧ IfV ev b) := by
  have hd := Wt s
  have hz : (bs s).size ≤ 281474976710656 := by rw [bs_size]; exact hs
  unfold Lh at hr
  cases h : Lib.parseIntB 64 s
  · rename_i v
    rw [h] at hr
    cases hr
    refine Calls.mono (Any.strconv_ParseInt_10_at64_ok L (bs s) (by omega) _ (by rw [hd]; exact h) w) ?_
    rintro e w' ⟨rfl, hw⟩
    refine ⟨_, _, ⟨_, rfl, rfl, .inl ⟨rfl, rfl⟩⟩, rfl, ?_⟩
    rcases hw with rfl | ⟨t, rfl⟩
    · exact Inv.refl w'
    · refine Uw ⟨rfl, rfl, rfl, by rw [Lib.bytesWorld_size]; omega, fun k hk => Lib.bytesWorld_at_old _ _ _ _ hk⟩
  · rw [h] at hr
    cases hr
    obtain ⟨tp, p, hv⟩ := hG.syn
    refine Calls.mono (Any.strconv_ParseInt_10_at64_syntax_var L (bs s) hz (by rw [hd]; exact h) tp p w hv) ?_
    rintro e w' ⟨A, rfl, hA, hc, hb⟩
    exact ⟨_, _, ⟨_, rfl, rfl, .inr ⟨rfl, _, _, rfl⟩⟩, rfl, Uw hb⟩
  · rw [h] at hr
    cases hr
    obtain ⟨tp, p, hv⟩ := hG.ran
    refine Calls.mono (Any.strconv_ParseInt_10_at64_range_var L (bs s) hz (by rw [hd]; exact h) tp p w hv) ?_
    rintro e w' ⟨A, rfl, hA, hc, hb⟩
    rw [hd]
    exact ⟨_, _, ⟨_, rfl, rfl, .inr ⟨rfl, _, _, rfl⟩⟩, rfl, Uw hb⟩
theorem Z51 (w : World) (k : Nat) (os : Array Obj) : Below w.heap.size w (Sort.grow (w.drewN k) os) := ⟨rfl, rfl, rfl, by show w.heap.size ≤ (w.heap ++ os).size; rw [Array.size_append]; omega, fun j hj => by
 show (w.heap ++ os)[j]? = _
 rw [Array.getElem?_append_left hj]⟩
theorem Z6y (L : LaysM.n173 P ρ) (n : Int) (hn : i64ok n) (w : World) {M : List Nat} (hG : GK P w M) : Fnc P (ρ.f 173) #[.int .i64 n, .int .i64 10] w [] (fun v N => v = .string (bs (Xl n)) ∧ N = []) := by
 refine Calls.mono (Any.strconv_FormatInt_10 L n hn.1 hn.2 w hG.pow) ?_
 rintro e w' ⟨rfl, k, os, rfl⟩
 rw [Z4c hn]
 exact ⟨_, _, ⟨rfl, rfl⟩, rfl, Uw (Z51 w k os)⟩
theorem Fnc.itoa (L : LaysM.n171 P ρ) (n : Int) (hn : i64ok n) (w : World) {M : List Nat} (hG : GK P w M) : Fnc P (ρ.f 171) #[.int .i64 n] w [] (fun v N => v = .string (bs (Xl n)) ∧ N = []) := by
 refine Calls.mono (Any.strconv_Itoa L n hn.1 hn.2 w hG.pow) ?_
 rintro e w' ⟨rfl, k, os, rfl⟩
 rw [Z4c hn]
 exact ⟨_, _, ⟨rfl, rfl⟩, rfl, Uw (Z51 w k os)⟩
def idxB : List Int → Int → Int
  | [], _ => -1
  | x :: l, c => if x = c then 0 else if idxB l c = -1 then -1 else idxB l c + 1
end fns
end Go.Acq
namespace Go.Acq
open Go
variable {H : Type} {enc : TypeId × Value → H}
theorem handed_of_change {a : Assume} {C : Checked} {os : Os} {f : FuncId} {fn : Func} {s : ChangeSpec} {conds : List PathCond} {apart fresh handsOn again : Bool} {X : World → Array Value → Prop}
    (hX : ∀ (w w' : World) (args : Array Value), w.heap = w'.heap → X w args → X w' args)
    (own : ownKnob C.prog.godebug = none) (started : os.Started) (noInit : C.prog.inits.idxOf? f = none) (hfn : C.prog.funcs[f]? = some fn)
    (witness : ∃ (w : World) (tape : Tape) (i : Input), w.os = os ∧ (w.forCall tape i).Shaped C.prog ∧ i.vars = [] ∧ Input.okWide C.prog (w.forCall tape i) .any w.heap.size f i ∧
      ((s.pre enc C.prog fn conds apart (w.forCall tape i).memory i.args ∧ X (w.forCall tape i).memory i.args) ∧ sizedMet enc C.prog fn (OpenSpec.ofChange s) apart (w.forCall tape i).memory i.args) ∧ a.holds C.prog (lone (Frame.enter C.prog f i.args .normal) [] (w.forCall tape i)))
    (contract : ∀ (W : World) (base : Nat) (args : Array Value) (ds gs : List (DataW H)) (before : List MemPlace),
      (∀ (j : Nat) t v, fn.params[j]? = some t → args[j]? = some v → Value.okWide C.prog W .any base t v) →
      DataW.Whole enc C.prog fn.params.toList s.vars apart W args.toList ds gs before → X W args → W.ShapedOpen C.prog →
      Calls C.prog f args W fun e W' => ∃ v, e = .returned v ∧ s.post enc C.prog fn apart fresh handsOn again W args v W') :
    ReturnsInHanded a C os f .any (fun w args => (s.pre enc C.prog fn conds apart w args ∧ X w args) ∧ sizedMet enc C.prog fn (OpenSpec.ofChange s) apart w args) (s.post enc C.prog fn apart fresh handsOn again) := by
  refine returnsInHanded_of_calls own started noInit witness ?_
  intro w tape i _ hsh _ hok hpre hholds
  obtain ⟨_, _, _, fn', hfn', _, _, _, _, hval⟩ := hok
  have e : fn' = fn := Option.some.inj (hfn'.symm.trans hfn)
  subst e
  obtain ⟨⟨⟨ds, gs, before, hw, hc⟩, hx⟩, hz⟩ := hpre
  have hw' := DataW.Whole.of_heap (w' := w.forCall tape i) (by rfl) hw
  refine (contract (w.forCall tape i) w.heap.size i.args ds gs before hval hw' (hX _ _ _ (by rfl) hx) hsh).mono fun e W' ⟨v, he, hp⟩ => ?_
  subst he
  exact ChangeSpec.post_blind hp
theorem int_of_shaped {P : Program} {w : World} {n : String} {g : Nat} {t : TypeId} {zero : Array Value} {k : IntKind} (h : w.ShapedOpen P) (hn : P.globalNamed n = some g) (hg : g < P.globals.size)
    (h0 : ((begin P (fun _ _ => 0) default).world.heap[g]?).bind Obj.row? = some (zero, t)) (hz : zero.size = 1) (hb : P.buildable t = true) (hc : P.cellTypes P.depth t = some [t]) (hu : P.underlying t = some (.int k)) :
    ∃ m, w.var? P n = some #[.int k m] := by
  obtain ⟨m, hm⟩ := Go.Proofs.cell_of_shapedOpen_int h hg h0 hz hb hc hu
  obtain ⟨cs, hh, hs, -⟩ := h.1 g zero t hg h0
  refine ⟨m, ?_⟩
  have h1 : cs.size = 1 := hs.trans hz
  unfold World.cell? at hm
  rw [hh] at hm
  unfold World.var?
  rw [hn]
  simp only [Option.bind_some, hh]
  have h2 : cs[0]? = some (.int k m) := by simpa using hm
  obtain ⟨l⟩ := cs
  match l, h1, h2 with
  | [x], _, h2 =>
    have : x = .int k m := by simpa using h2
    rw [this]
  | [], h1, _ => simp at h1
  | _ :: _ :: _, h1, _ => simp at h1
end Go.Acq
namespace Go.Acq
open Go Go.RowKit Go.Proofs Go.Shelf
def idxT (xs : List Int) (c : Int) : Int := Lib.indexByte (bu xs) (UInt8.ofNat c.toNat)
section rules
variable {C : Cx} {ops : Array Oper} {Q : Exit → Act → World → Prop} {l : List Nat} {E : Env} {H R : Heap} {i d : Nat} {ty : TypeId} {Zd : String} {af : Array Edge} {g : Option (Nat × Bool)}
theorem TO.idxB {f : FuncId} {x y : Operand} {at' : Array TypeId} {base : Option Addr} {n c : Nat} {xs : List Int} {cv : Int} (hF : ExtF C.P f Extern.BytealgIndexByte.indexByte)
    (q0_ : ops[i]? = some ⟨some d, .call ⟨.value (.func f), #[x, y], at'⟩, ty, Zd, af, g⟩ ∧ Zi ops E g = true ∧ Nat.ble (d + 1) C.n = true ∧ ev E x = some (.slice base n c) ∧ ev E y = some (.int .u8 cv)) (hr : ∀ w, Inv C.w0 C.M w H → RS w [] (intC .u8) 1 base n c xs)
    (kk : TO C ops Q l ((d, .int .i64 (idxT xs cv)) :: E) H) : TO C ops Q (i :: l) E H := have ⟨ho, hg, hd, hx, hy⟩ := q0_;
  TO.val ho hg hd (by simp) (fun a w hf hi => by
    obtain ⟨fn, h1, h2, h3, h4, h5⟩ := hF
    have hR := (hr w hi).ro
    have hcall : (Extern.BytealgIndexByte.indexByte #[.slice base n c, .int .u8 cv]).run C.P w = .ok (.int .i64 (idxT xs cv)) w := by
      cases base with
      | none =>
        have h6 := hR.nil rfl
        have h7 : xs = [] := List.eq_nil_of_length_eq_zero (by rw [hR.len]; exact h6)
        subst h7
        rw [Lib.run_indexByteNil w n c cv]; rfl
      | some ad =>
        rw [Lib.run_indexByteAt w ad n c xs hR.len (fun q hq => by
          have := hR.at 0 (o := q) (c := 0) (by rw [hR.len]; exact hq) (by omega)
          simpa [ea, intC] using this) cv]; rfl
    have e : a.eval (.func f) = .func (.func f) #[] #[] := rfl
    simp [execOp, resolve, Deferred.ofValue, invoke, hf.ev hx, hf.ev hy, e, run_callFunc_extern h1 h2 h3 h4 h5, hcall, Result.andThen]) kk
theorem Z3v {α : Type} {xs : List α} {t e : TypeId} {x y z : Operand} {base : Option Addr} {n c s : Nat} {k k' : IntKind} {p : Int} (hn : xs.length = n) (hc : n ≤ c) (hp : 0 ≤ p ∧ p ≤ (xs.length : Int))
    (q0_ : ops[i]? = some ⟨some d, .slice t x none (some y) (some z), ty, Zd, af, g⟩ ∧ Zi ops E g = true ∧ Nat.ble (d + 1) C.n = true ∧ ev E x = some (.slice base n c) ∧ ev E y = some (.int k p) ∧ ev E z = some (.int k' p)) (ht : Xj C.P t = some e) (hs : Ym C.P e = some s)
    (kk : TO C ops Q l ((d, .slice base p.toNat p.toNat) :: E) H) : TO C ops Q (i :: l) E H := have ⟨ho, hg, hd, hx, hy, hz⟩ := q0_;
  TO.val ho hg hd (by simp) (fun a w hf hi => by
    have hu := Ug ht
    have hb : ∀ b : Option Addr, Option.map (fun x => x.add 0) b = b := fun b => by cases b <;> simp [Addr.add]
    have h0 := hp.1
    have h1 : p ≤ (c : Int) := by have := hp.2; omega
    have h2 : p ≤ (p.toNat : Int) := by omega
    simp [execOp, hf.ev hx, hf.ev hy, hf.ev hz, Instr.sliceAt, Instr.slice, Instr.sliceBounds, Instr.sliceBound, asIntOf, run_underlying hu, h0, h1, Ja hs, hb]
    intro hh; omega) kk
theorem Z3g {α : Type} {w : World} {M : List Nat} {f : α → List Value} {s n c : Nat} {base : Option Addr} {xs : List α} (h : RS w M f s base n c xs) {p : Int} (hp : 0 ≤ p ∧ p ≤ (xs.length : Int)) : RS w M f s base p.toNat p.toNat (xs.take p.toNat) := by
 have h1 := h.take hp
 exact ⟨h1.ro, h1.far, Nat.le_refl _⟩
def Jx (P : Program) (t : TypeId) : Bool :=
  match P.underlying t with
  | some (.interface _) => true
  | _ => false
theorem Z9l {P : Program} {t : TypeId} (h : Jx P t = true) : ∃ ms, P.underlying t = some (.interface ms) := by
 unfold Jx at h
 split at h
 · rename_i ms hu; exact ⟨ms, hu⟩
 · cases h
theorem Z3f {P : Program} (w : World) (n : Nat) {t : TypeId} {ev' : Value} {b : Bool} (hI : IfV ev' b) (ht : Jx P t = true) : (Op.equalIn (n + 1) t ev' .nilIface).run P w = .ok b w := by
 obtain ⟨ms, hu⟩ := Z9l ht
 rcases hI with ⟨rfl, rfl⟩ | ⟨rfl, tt, vv, rfl⟩
 · simp [Op.equalIn, run_underlying hu]
 · simp [Op.equalIn, run_underlying hu]
theorem Z5e {op : BinOp} {t : TypeId} {x : Operand} {ev' : Value} {b : Bool} (hI : IfV ev' b) : eqGuard op t x (.const .nilIface) ev' .nilIface = pure () := by
 rcases hI with ⟨rfl, rfl⟩ | ⟨rfl, tt, vv, rfl⟩
 · cases op <;> first | rfl | (cases x <;> rfl)
 · cases op <;> rfl
theorem Z5b {t t2 : TypeId} {x : Operand} {ev' : Value} {b : Bool} (hI : IfV ev' b) (q0_ : ops[i]? = some ⟨some d, .binOp .eql t x (.const .nilIface) t2, ty, Zd, af, g⟩ ∧ Zi ops E g = true ∧ Nat.ble (d + 1) C.n = true ∧ ev E x = some ev') (ht : Jx C.P t = true) (kk : TO C ops Q l ((d, .bool b) :: E) H) : TO C ops Q (i :: l) E H := have ⟨ho, hg, hd, hx⟩ := q0_;
  TO.val ho hg hd (by simp) (fun a w hf _ => by
    have hb : binOp .eql t ev' .nilIface = (do pure (.bool (← Op.equal t ev' .nilIface))) := by
      rcases hI with ⟨rfl, rfl⟩ | ⟨rfl, tt, vv, rfl⟩ <;> rfl
    have := Z6i (Z37 fun q => Z3f (P := C.P) w q hI ht) hb
    have ey : a.eval (.const .nilIface) = .nilIface := rfl
    simp only [execOp, hf.ev hx, ey, Z5e hI]
    simp [this]) kk
theorem Z7p {t t2 : TypeId} {x : Operand} {ev' : Value} {b : Bool} (hI : IfV ev' b) (q0_ : ops[i]? = some ⟨some d, .binOp .neq t x (.const .nilIface) t2, ty, Zd, af, g⟩ ∧ Zi ops E g = true ∧ Nat.ble (d + 1) C.n = true ∧ ev E x = some ev') (ht : Jx C.P t = true) (kk : TO C ops Q l ((d, .bool (!b)) :: E) H) : TO C ops Q (i :: l) E H := have ⟨ho, hg, hd, hx⟩ := q0_;
  TO.val ho hg hd (by simp) (fun a w hf _ => by
    have hb : binOp .neq t ev' .nilIface = (do pure (.bool (!(← Op.equal t ev' .nilIface)))) := by
      rcases hI with ⟨rfl, rfl⟩ | ⟨rfl, tt, vv, rfl⟩ <;> rfl
    have := Z1n (Z37 fun q => Z3f (P := C.P) w q hI ht) hb
    have ey : a.eval (.const .nilIface) = .nilIface := rfl
    simp only [execOp, hf.ev hx, ey, Z5e hI]
    simp [this]) kk
end rules
def BufO (ob : Option Nat) (b c : Nat) : Prop := c ≤ 9223372036854775807 ∧ ∀ q, ob = some q → b ≤ q
end Go.Acq
namespace Go.Acq
open Go Go.RowKit Go.Proofs Go.Shelf
theorem BufO.nil (b : Nat) : BufO none b 0 := ⟨by omega, fun q e => by cases e⟩
section rules
variable {C : Cx} {ops : Array Oper} {Q : Exit → Act → World → Prop} {l : List Nat} {E : Env} {H R : Heap} {i d : Nat} {ty : TypeId} {Zd : String} {af : Array Edge} {g : Option (Nat × Bool)}
variable {ρ : Ren} {b n c : Nat} {lr : Int} {ob : Option Nat} {xs : List Int} {j : List Value}
theorem Z90 {P : Program} {w : World} {b : Nat} {cs : Array Value} {T : TypeId} {fr : Nat × Nat} (hb : w.heap[b]? = some (.cells cs T fr)) : (markStringish ⟨b, 0, none⟩).run P w = .ok () (w.freeze ⟨b, cs.size, none⟩ 1) := by
 show ((Go.shape b).bind _).run P w = _
 simp only [Go.shape, Sem.bind, Sem.run, World.shape?, hb]
 rfl
theorem TO.bbB {s e T : TypeId} {x : Operand} {b n c : Nat} {cs : Array Value} {fr : Nat × Nat} (q0_ : ops[i]? = some ⟨some d, .convert s s x, ty, Zd, af, g⟩ ∧ Zi ops E g = true ∧ Nat.ble (d + 1) C.n = true ∧ ev E x = some (.slice (some ⟨b, 0, none⟩) n c)) (hs : Xj C.P s = some e) (he : C.P.underlying e = some (.int .u8)) (ht : Take (some b, .cells cs T fr) H R)
    (kk : ∀ fr' : Nat × Nat, TO C ops Q l ((d, .slice (some ⟨b, 0, none⟩) n c) :: E) ((some b, .cells cs T fr') :: R)) : TO C ops Q (i :: l) E H := have ⟨ho, hg, hd, hx⟩ := q0_;
  Vr ho hg (by simp) fun a w hf hi => by
    have hb := hi.own _ _ ht.mem
    have h1 : (execOp a.eval ⟨some d, .convert s s x, ty, Zd, af, g⟩).run C.P w = .ok (.value (.slice (some ⟨b, 0, none⟩) n c)) (w.freeze ⟨b, cs.size, none⟩ 1) := by
      simp only [execOp, hf.ev hx]
      simp [convert, run_underlying (Ug hs), run_underlying he, Z90 hb]
    rw [h1]
    have hi2 : Inv C.w0 C.M (w.freeze ⟨b, cs.size, none⟩ 1) ((some b, .cells cs T (if fr.1 == fr.2 then (cs.size, cs.size + 1) else (min fr.1 cs.size, max fr.2 (cs.size + 1)))) :: R) := by
      refine hi.upd ht rfl rfl rfl (by simp [World.freeze]) ?_ fun k hk => ?_
      · obtain ⟨lo, hi⟩ := fr
        simp [World.freeze, Array.getElem?_modify, hb]
      · simp only [World.freeze, if_neg (Nat.one_ne_zero), Array.getElem?_modify]
        rw [if_neg (fun e => hk e.symm)]
    exact kk _ _ _ (hf.put hd _) hi2
end rules
end Go.Acq
namespace Go.Acq
open Go Go.RowKit Go.Proofs Go.Shelf
theorem Z7h {α β : Type} {l : List α} {f g : α → List β} (h : ∀ x, x ∈ l → f x = g x) : l.flatMap f = l.flatMap g := by
 induction l with
 | nil => rfl
 | cons a l ih => rw [List.flatMap_cons, List.flatMap_cons, h a (.head _), ih (fun x hx => h x (.tail _ hx))]
def Uo (kp : Bool) (c : UInt8) : Str → Str → List Str
  | [], cur => [cur]
  | b :: l, cur => if b = c then (if kp then cur ++ [c] else cur) :: Uo kp c l [] else Uo kp c l (cur ++ [b])
theorem Z1m (kp : Bool) (c : UInt8) : ∀ (t cur : Str), (Lib.index t [c] = -1 ∧ Uo kp c t cur = [cur ++ t]) ∨ (∃ r : Nat, Lib.index t [c] = r ∧ r < t.length ∧ t.take (r + 1) = t.take r ++ [c] ∧ Uo kp c t cur = (cur ++ t.take (r + (if kp then 1 else 0))) :: Uo kp c (t.drop (r + 1)) [])
 | [], cur => .inl ⟨rfl, by rw [Uo, List.append_nil]⟩
 | b :: l, cur => by
  by_cases hb : b = c
  ·
   subst hb
   refine .inr ⟨0, by simp [Lib.index], by simp, by simp, ?_⟩
   rw [Uo, if_pos rfl]; cases kp <;> simp
  ·
   have h1 : ([c].isPrefixOf (b :: l)) = false := by simp [List.isPrefixOf, Ne.symm hb]
   rcases Z1m kp c l (cur ++ [b]) with ⟨h2, h3⟩ | ⟨r, h2, h3, h5, h4⟩
   ·
    refine .inl ⟨?_, by rw [Uo, if_neg hb, h3, List.append_assoc]; rfl⟩
    rw [Lib.index, h1, h2]; rfl
   ·
    refine .inr ⟨r + 1, ?_, by rw [List.length_cons]; omega, ?_, ?_⟩
    ·
     rw [Lib.index, h1, h2]
     have : ((r : Int) == -1) = false := beq_eq_false_iff_ne.2 (by omega)
     rw [this]; simp
    · rw [List.take_succ_cons, h5]; rfl
    ·
     rw [Uo, if_neg hb, h4, List.append_assoc]
     have e : r + 1 + (if kp = true then 1 else 0) = (r + (if kp = true then 1 else 0)) + 1 := by omega
     rw [e, List.take_succ_cons, List.drop_succ_cons]; rfl
theorem Z5k (kp : Bool) (c : UInt8) : ∀ (k : Nat) (s : Str), s.count c ≤ k → Lib.splitK [c] (if kp then 1 else 0) k s = Uo kp c s []
 | 0, s, h => by
  rcases Z1m kp c s [] with ⟨_, h3⟩ | ⟨r, h2, h3, h5, _⟩
  · rw [h3]; rfl
  ·
   exfalso
   have : c ∈ s := List.mem_of_mem_take (i := r + 1) (by rw [h5]; simp)
   have := List.count_pos_iff.2 this
   omega
 | k + 1, s, h => by
  rcases Z1m kp c s [] with ⟨h2, h3⟩ | ⟨r, h2, h3, h5, h4⟩
  · rw [h3, Lib.splitK, h2]; rfl
  ·
   have e : ((r : Int) == -1) = false := beq_eq_false_iff_ne.2 (by omega)
   rw [h4, Lib.splitK, h2, e]
   have hc : (s.drop (r + 1)).count c ≤ k := by
    have h6 : s.count c = (s.take (r + 1)).count c + (s.drop (r + 1)).count c := by rw [← List.count_append, List.take_append_drop]
    rw [h5, List.count_append, List.count_singleton_self] at h6
    omega
   simp only [Int.toNat_natCast, List.length_singleton, Bool.false_eq_true, if_false, List.nil_append]
   rw [Z5k kp c k _ hc]
section fns
variable {P : Program} {ρ : Ren}
theorem GK.max {w : World} {M : List Nat} (h : GK P w M) {g : Nat} (hg : P.globalNamed "internal/bytealg.MaxLen" = some g) : ∃ m, w.cell? ⟨g, 0, none⟩ = some (.int .i64 m) := by
 obtain ⟨m, e⟩ := h.mxl
 exact ⟨m, by simpa using World.var?_cell hg e 0⟩
theorem Fnc.split (L : Lays.n221 P ρ) (hgm : P.globalNamed "internal/bytealg.MaxLen" = some (ρ.g 1)) (hi9 : (P.info? (ρ.t 9)).map (fun i => (i.zero, i.size, i.bytes)) = some (some (.string ByteArray.empty), 1, 16)) (s : Str) (c : UInt8) (kp : Bool) (hs : s.length < 4294967281)
    (w : World) {M : List Nat} (hG : GK P w M) {r : List Str} (hr : Uo kp c s [] = r) :
    Fnc P (ρ.f 221) #[.string (bs s), .string (bs [c]), .int .i64 ((if kp then 1 else 0 : Nat) : Int), .int .i64 (-1)] w [] (fun v N => ∃ (ob : Option Nat) (n c : Nat) (j : List Value), v = .slice (sb ob) n c ∧ N = [(ob, .cells (arr Ye r j).toArray (ρ.t 9) (0, 0))] ∧ r.length = n ∧ n ≤ c ∧ j.length = (c - n) * 1 ∧ (ob = none → c = 0)) := by
  obtain ⟨m, hm⟩ := hG.max hgm
  have h1 : 1 ≤ (bs [c]).size := by rw [bs_size]; exact Nat.le_refl _
  have hle := Lib.countB_le (bs [c]) h1 (bs s).size (bs s) (Nat.le_refl _)
  have hz := bs_size s
  have hlen := Lib.splitB_all (bs [c]) h1 (if kp then 1 else 0) _ (bs s) rfl
  have cc := Any.strings_genSplit L hi9 (bs s) (bs [c]) (if kp then 1 else 0) (-1) (Lib.countB (bs s) (bs [c]) + 1) m w (by omega) hm h1 (by rw [bs_size]; cases kp <;> simp) (by decide) (by decide) (by rw [if_pos (by decide)]; omega)
  rw [Nat.add_sub_cancel, hlen] at cc
  refine Calls.mono cc ?_
  rintro e w' ⟨rfl, rfl⟩
  have hd := Lib.splitB_data (bs [c]) (if kp then 1 else 0) (Lib.countB (bs s) (bs [c])) (bs s)
  have hcn : Lib.countB (bs s) (bs [c]) = s.count c := by
    show Lib.count _ _ = _
    rw [Wt, Wt, Lib.count_one]
  rw [Wt, Wt, hcn, Z5k kp c _ s (Nat.le_refl _), hr] at hd
  have hrl : r.length = Lib.countB (bs s) (bs [c]) + 1 := by rw [← hd, List.length_map, ← hcn]; exact hlen
  have hcells : Lib.cellsOf (Lib.splitB (bs [c]) (if kp then 1 else 0) (Lib.countB (bs s) (bs [c])) (bs s)) (Lib.countB (bs s) (bs [c]) + 1) = (arr Ye r []).toArray := by
    rw [← hlen, Lib.cellsOf_full]
    apply Array.ext'
    simp only [arr, List.append_nil]
    rw [← hd, hcn]
    rw [List.flatMap_map, List.map_eq_flatMap]
    apply Z7h
    intro x _
    simp [Ye, bs_of]
  rw [hcells, ← hrl]
  refine ⟨_, _, ⟨some w.heap.size, r.length, r.length, [], rfl, rfl, rfl, Nat.le_refl _, by simp, fun e => by cases e⟩, rfl, ?_⟩
  exact (Inv.refl w).alloc _
theorem Fnc.join (L : Lays.n156 P ρ) (X : Builder.Extra P ρ) {base : Option Addr} {n c : Nat} {xs : List Str} (sep : Str) (w : World) {M : List Nat} (h : RS w M Ye 1 base n c xs) (hN : xs.length ≤ 140737488355328)
    (hlen : (Lib.join xs sep).length ≤ 140737488355328) : Fnc P (ρ.f 156) #[.slice base n c, .string (bs sep)] w [] (fun v N => v = .string (bs (Lib.join xs sep)) ∧ N = []) := by
  have hl := h.ro.len
  have hmap : (xs.map bs).map (·.data.toList) = xs := by
    rw [List.map_map]
    conv => rhs; rw [← List.map_id xs]
    apply List.map_congr_left
    intro x _
    exact Wt x
  cases xs with
  | nil =>
    simp only [List.length_nil] at hl
    subst hl
    refine Calls.mono (Any.strings_Join_none L X base c (bs sep) w) ?_
    rintro e w' ⟨rfl, rfl⟩
    exact ⟨_, _, ⟨rfl, rfl⟩, rfl, Inv.refl _⟩
  | cons x xs =>
    cases base with
    | none => have := h.ro.nil rfl; rw [← hl] at this; simp at this
    | some ad =>
      have hcell : ∀ (j : Nat) y, (x :: xs)[j]? = some y → w.cell? (ad.add j) = some (.string (bs y)) := fun j y hj => by
        have hlt := (List.getElem?_eq_some_iff.1 hj).1
        have := h.ro.cell j 0 hlt (by omega) y hj
        simpa [ea, Ye] using this
      obtain ⟨bk, o, spot⟩ := ad
      have h0 := hcell 0 x rfl
      have hspot : spot = none := by simpa [Addr.add] using World.cell?_spot h0
      subst hspot
      have hbk : bk < w.heap.size := by
        have := World.block_lt_of_cell? _ _ h0
        simpa [Addr.add] using this
      have cc := Any.strings_Join L X bk o c ((x :: xs).map bs) (bs sep) w (fun j y hj => by
        rw [List.getElem?_map] at hj
        obtain ⟨z, hz, rfl⟩ := Option.map_eq_some_iff.1 hj
        have := hcell j z hz
        by_cases h0 : j = 0
        · subst h0; simpa [Addr.add] using this
        · simpa [Addr.add, h0] using this) hbk (by rw [List.length_map]; exact hN) (by rw [List.length_map, hl]; exact h.cap) (by rw [hmap, Wt]; exact hlen)
      rw [List.length_map, hl, hmap, Wt] at cc
      refine Calls.mono cc ?_
      rintro e w' ⟨rfl, hb⟩
      exact ⟨_, _, ⟨rfl, rfl⟩, rfl, Uw hb⟩
end fns
end Go.Acq
namespace Go.Acq
open Go Go.RowKit
def Xs (v : Value) : List PanicEntry := [{ v := v, recovered := false }]
def FncP (P : Program) (f : FuncId) (args : Array Value) (w : World) (M : List Nat) (pv : Value) : Prop :=
  Calls P f args w (fun e w' => e = .panicked (Xs pv) ∧ Inv w M w' [])
def Ly {α : Type} (w : World) (M : List Nat) (pv : Value) (Post : α → Value → Heap → Prop) : α ⊕ Unit → Ending → World → Prop
  | .inl r => Xd w M (Post r)
  | .inr _ => fun e w' => e = .panicked (Xs pv) ∧ Inv w M w' []
def FncS {α : Type} (P : Program) (f : FuncId) (args : Array Value) (w : World) (M : List Nat) (pv : Value) (r : α ⊕ Unit) (Post : α → Value → Heap → Prop) : Prop :=
  Calls P f args w (Ly w M pv Post r)
section
variable {α : Type} {P : Program} {f : FuncId} {args : Array Value} {w : World} {M : List Nat} {pv : Value} {Post : α → Value → Heap → Prop}
theorem FncS.ok {r : α} (h : FncS P f args w M pv (.inl r) Post) : Fnc P f args w M (Post r) := h
theorem Yt {u : Unit} (h : FncS P f args w M pv (.inr u) Post) : FncP P f args w M pv := h
theorem FncS.enter {fn : Func} {c : Code} {vs : List Value} {H : Heap} {r : α ⊕ Unit}
    (hf : P.funcs[f]? = some fn) (hb : fn.body = some c) (hn : Nat.ble vs.length fn.ntmps = true) (hi : Inv w M w H)
    (h : T ⟨P, none, fn.ntmps, [], w, M⟩ c (bodyPost P fn (Ly w M pv Post r)) (Kb 0 vs) H) : FncS P f vs.toArray w M pv r Post := by
  have hn' := Nat.le_of_ble_eq_true hn
  refine callsIn_FW (ρ := none) (n := 0) |>.1 (callsIn_of_wp hf hb trivial ?_ rfl)
  refine h _ w ⟨by simp; omega, rfl, fun t v hv => ?_⟩ hi
  obtain ⟨_, h2⟩ := Ln vs 0 t v hv
  rw [Nat.sub_zero] at h2
  have hlt := (List.getElem?_eq_some_iff.1 h2).1
  simp only [Array.getD_eq_getD_getElem?]
  rw [Array.getElem?_append_left (by simpa using hlt)]
  simp [h2]
end
section rules
variable {C : Cx} {ops : Array Oper} {Q : Exit → Act → World → Prop} {l : List Nat} {E : Env} {H R : Heap} {i d : Nat} {ty : TypeId} {Zd : String} {af : Array Edge} {g : Option (Nat × Bool)}
theorem Xh {K : Act → World → Prop} {ch : List PanicEntry} (h : X C Q (.panic ch) E H) : X C (Exit.then K Q) (.panic ch) E H := h
theorem Lc {id : Nat} {ch : List PanicEntry} (h : X C Q (.panic ch) E H) : X C (Exit.inBlock id Q) (.panic ch) E H := h
theorem Xa {α : Type} {fn : Func} {w0 : World} {M : List Nat} {pv : Value} {u : Unit} {Post : α → Value → Heap → Prop} (q0_ : C.w0 = w0 ∧ C.M = M ∧ C.D = []) :
    X C (bodyPost C.P fn (Ly w0 M pv Post (.inr u))) (.panic (Xs pv)) E H := have ⟨hw, hMM, hD⟩ := q0_; fun a w hf hi => by
  refine ⟨hf.defers.trans hD, rfl, ?_⟩
  rw [← hw, ← hMM]
  exact hi.pick Zh
theorem Yz {f : FuncId} {xs : Array Operand} {at' : Array TypeId} {vs : List Value} {M : List Nat} {Hm : Heap} {pv : Value} (hF : Ya C.P f = true)
    (q0_ : ops[i]? = some ⟨some d, .call ⟨.value (.func f), xs, at'⟩, ty, Zd, af, g⟩ ∧ Zi ops E g = true ∧ Wz E xs.toList = some vs) (hH : List.Perm H (Hm ++ R)) (hM : Hm.filterMap (·.1) = M)
    (hc : ∀ w, Inv C.w0 C.M w H → FncP C.P f vs.toArray w M pv)
    (kk : X C Q (.panic (Xs pv)) E R) : TO C ops Q (i :: l) E H := have ⟨ho, hg, hx⟩ := q0_;
  Vr ho hg (by simp) fun a w hf hi => by
    have e1 : xs.map a.eval = vs.toArray := by apply Array.ext'; simpa using Kh hf hx
    have hrun : (execOp a.eval ⟨some d, .call ⟨.value (.func f), xs, at'⟩, ty, Zd, af, g⟩).run C.P w = .ok (.enter f vs.toArray) w := by
      simp [execOp, resolve, Deferred.ofValue, invoke, Act.eval, e1, Uq hF]
    rw [hrun]
    refine ⟨by simp [FW], ?_⟩
    refine callsIn_FW.2 (Calls.mono (hc w hi) ?_)
    rintro e w' ⟨rfl, hi2⟩
    have hj := hi.join (M' := M) hH (fun m h => by rw [hM]; exact h) hi2
    exact kk a w' hf (by simpa using hj)
theorem Z1d {f : FuncId} {x : Operand} {xs : Array Operand} {at' : Array TypeId} {vs : List Value} {fs cs : Array Value} {M : List Nat} {Hm : Heap} {pv : Value} (hF : Ya C.P f = true)
    (q0_ : ops[i]? = some ⟨some d, .call ⟨.value x, xs, at'⟩, ty, Zd, af, g⟩ ∧ Zi ops E g = true ∧ ev E x = some (.func (.func f) fs cs) ∧ Wz E xs.toList = some vs) (hH : List.Perm H (Hm ++ R)) (hM : Hm.filterMap (·.1) = M)
    (hc : ∀ w, Inv C.w0 C.M w H → FncP C.P f (fs ++ vs.toArray ++ cs) w M pv)
    (kk : X C Q (.panic (Xs pv)) E R) : TO C ops Q (i :: l) E H := have ⟨ho, hg, hfv, hx⟩ := q0_;
  Vr ho hg (by simp) fun a w hf hi => by
    have e1 : xs.map a.eval = vs.toArray := by apply Array.ext'; simpa using Kh hf hx
    have hrun : (execOp a.eval ⟨some d, .call ⟨.value x, xs, at'⟩, ty, Zd, af, g⟩).run C.P w = .ok (.enter f (fs ++ vs.toArray ++ cs)) w := by
      simp [execOp, resolve, Deferred.ofValue, invoke, hf.ev hfv, e1, Uq hF]
    rw [hrun]
    refine ⟨by simp [FW], ?_⟩
    refine callsIn_FW.2 (Calls.mono (hc w hi) ?_)
    rintro e w' ⟨rfl, hi2⟩
    have hj := hi.join (M' := M) hH (fun m h => by rw [hM]; exact h) hi2
    exact kk a w' hf (by simpa using hj)
theorem Z60 {x : Operand} {t : TypeId} {v : Value} (q0_ : ops[i]? = some ⟨none, .panic x, ty, Zd, af, g⟩ ∧ Zi ops E g = true ∧ ev E x = some (.iface t v))
    (kk : X C Q (.panic (Xs (.iface t v))) E H) : TO C ops Q (i :: l) E H := have ⟨ho, hg, hx⟩ := q0_;
  Vr ho hg (by simp) fun a w hf hi => by
    have hrun : (execOp a.eval ⟨none, .panic x, ty, Zd, af, g⟩).run C.P w = .halt (.panic (.iface t v)) w := by
      simp [execOp, hf.ev hx, Instr.panic]
    rw [hrun]
    exact kk a w hf hi
theorem Z8j {x : Operand} {t : TypeId} {v : Value} (hr : ∀ w, (Instr.makeInterface t v).run C.P w = .ok (.iface t v) w) (q0_ : ops[i]? = some ⟨some d, .makeInterface t x, ty, Zd, af, g⟩ ∧ Zi ops E g = true ∧ Nat.ble (d + 1) C.n = true ∧ ev E x = some v)
    (kk : TO C ops Q l ((d, .iface t v) :: E) H) : TO C ops Q (i :: l) E H := have ⟨ho, hg, hd, hx⟩ := q0_;
  TO.val ho hg hd (by simp) (fun a w hf _ => by simp [execOp, hf.ev hx, hr]) kk
end rules
end Go.Acq
namespace Go.Acq
open Go Go.RowKit
theorem ba_beq (a b : ByteArray) : (a == b) = decide (a = b) := by
 cases a with | mk x => cases b with | mk y =>
 show (x == y) = _
 by_cases h : x = y
 · subst h; simp
 ·
  have : (ByteArray.mk x) ≠ ByteArray.mk y := fun e => h (by injection e)
  rw [decide_eq_false this]
  exact beq_eq_false_iff_ne.2 h
theorem bs_beq (a b : Str) : (bs a == bs b) = decide (a = b) := by
 rw [ba_beq]
 exact decide_eq_decide.2 ⟨bs_inj, fun e => by rw [e]⟩
def Wo {α : Type} (f : α → Value) : Nat → List (Str × α) → List MapEntry
  | _, [] => []
  | i, x :: xs => { key := .string (bs x.1), val := f x.2, born := i } :: Wo f (i + 1) xs
abbrev mapZO {α : Type} (f : α → Value) (xs : List (Str × α)) : Obj := .map (Wo f 0 xs).toArray xs.length
def Yn {α : Type} (z : α) (k : Str) : List (Str × α) → α
  | [] => z
  | x :: xs => if k = x.1 then x.2 else Yn z k xs
def Kr {α : Type} (k : Str) : List (Str × α) → Bool
  | [] => false
  | x :: xs => if k = x.1 then true else Kr k xs
def Yu {α : Type} (k : Str) (v : α) : List (Str × α) → List (Str × α)
  | [] => [(k, v)]
  | x :: xs => if k = x.1 then (k, v) :: xs else x :: Yu k v xs
def Ve {α : Type} (f : α → Value) (k : Str) : Nat → List (Str × α) → Option (Nat × Value)
  | _, [] => none
  | i, x :: xs => if k = x.1 then some (i, f x.2) else Ve f k (i + 1) xs
section
variable {α : Type} {f : α → Value} {k : Str} {z v : α}
theorem Z4h : ∀ (xs : List (Str × α)) (i j : Nat), Instr.findNow .string (.string (bs k)) (Wo f i xs) j = some (Ve f k j xs)
 | [], _, _ => rfl
 | x :: xs, i, j => by
  simp only [Wo, Instr.findNow, Instr.sameNow, Ve, bs_beq]
  by_cases h : k = x.1
  · rw [if_pos h, decide_eq_true h]
  ·
   rw [if_neg h, decide_eq_false h]
   exact Z4h xs (i + 1) (j + 1)
theorem Z08 : ∀ (xs : List (Str × α)) (j : Nat), (match Ve f k j xs with | some (_, u) => (u, true) | none => (f z, false)) = (f (Yn z k xs), Kr k xs)
 | [], _ => rfl
 | x :: xs, j => by
  unfold Ve Yn Kr
  by_cases h : k = x.1
  · rw [if_pos h, if_pos h, if_pos h]
  · rw [if_neg h, if_neg h, if_neg h]; exact Z08 xs (j + 1)
theorem Z15 : ∀ (xs : List (Str × α)) (i j : Nat), (match Ve f k j xs with
    | some (p, _) => (∃ o, (j ≤ p ∧ (Wo f i xs)[p - j]? = some o ∧ o.key = .string (bs k))) ∧ (Yu k v xs).length = xs.length ∧ Wo f i (Yu k v xs) = (Wo f i xs).modify (p - j) (fun e => { e with key := .string (bs k), val := f v })
    | none => (Yu k v xs).length = xs.length + 1 ∧ Wo f i (Yu k v xs) = Wo f i xs ++ [{ key := .string (bs k), val := f v, born := i + xs.length }])
  | [], i, j => by simp [Ve, Yu, Wo]
  | x :: xs, i, j => by
    unfold Ve Yu
    by_cases h : k = x.1
    · subst h
      simp [Wo]
    · simp only [if_neg h]
      have ih := Z15 xs (i + 1) (j + 1)
      cases hf : Ve f k (j + 1) xs with
      | none =>
        rw [hf] at ih
        simp only [Wo, List.length_cons, List.cons_append] at ih ⊢
        refine ⟨by omega, ?_⟩
        rw [ih.2]
        simp; omega
      | some y =>
        rw [hf] at ih
        obtain ⟨p, u⟩ := y
        simp only at ih ⊢
        obtain ⟨⟨o, h1, h2, h3⟩, h4, h5⟩ := ih
        have e : p - j = (p - (j + 1)) + 1 := by omega
        refine ⟨⟨o, by omega, ?_, h3⟩, by simp [h4], ?_⟩
        · rw [e]; simpa [Wo] using h2
        · rw [e]; simp only [Wo, List.modify_succ_cons, h5]
end
def Kf (P : Program) (t : TypeId) : Option TypeId :=
  match P.underlying t with
  | some (.map k e) => match P.underlying k with
    | some .string => some e
    | _ => none
  | _ => none
theorem Lv {P : Program} {t e : TypeId} (h : Kf P t = some e) : ∃ k, P.underlying t = some (.map k e) ∧ P.underlying k = some .string := by
 unfold Kf at h
 split at h
 ·
  rename_i k e' h1
  split at h
  · rename_i h2; injection h with h; subst h; exact ⟨k, h1, h2⟩
  · cases h
 · cases h
section rules
variable {C : Cx} {ops : Array Oper} {Q : Exit → Act → World → Prop} {l : List Nat} {E : Env} {H R : Heap} {i d : Nat} {ty : TypeId} {Zd : String} {af : Array Edge} {g : Option (Nat × Bool)}
variable {α : Type} {f : α → Value}
theorem Lj {t : TypeId} (f : α → Value) (q0_ : ops[i]? = some ⟨some d, .makeMap t none, ty, Zd, af, g⟩ ∧ Zi ops E g = true ∧ Nat.ble (d + 1) C.n = true)
    (k : ∀ b, TO C ops Q l ((d, .map (some b)) :: E) ((some b, mapZO f []) :: H)) : TO C ops Q (i :: l) E H := have ⟨ho, hg, hd⟩ := q0_;
  Z03 (fun b => .map (some b)) ho hg hd (by simp) (fun a w hf _ => by simp [execOp, Instr.makeMap]; rfl) k
theorem Uy {P : Program} {w : World} {em : Bool} {kt : TypeId} {s : ByteArray} (h : P.underlying kt = some .string) : (Instr.checkKey em 10000 kt (.string s)).run P w = .ok () w := by
 show (Instr.checkKey em (9999 + 1) kt (.string s)).run P w = .ok () w
 rw [Instr.checkKey]
 simp [underlying, h]
theorem Lk {P : Program} {w : World} {kt : TypeId} {f : α → Value} {k : Str} {xs : List (Str × α)} (h : P.underlying kt = some .string) : (Instr.findKey kt (.string (bs k)) (Wo f 0 xs)).run P w = .ok (Ve f k 0 xs) w := by
 unfold Instr.findKey
 simp [underlying, h, Z4h]
theorem Ku {t e : TypeId} {x y : Operand} {b : Nat} {xs : List (Str × α)} {k : Str} {z : α} {u : Value} (hm : Kf C.P t = some e) (hz : Xr C.P e = some (f z))
    (q0_ : ops[i]? = some ⟨some d, .lookup t x y false, ty, Zd, af, g⟩ ∧ Zi ops E g = true ∧ Nat.ble (d + 1) C.n = true ∧ ev E x = some (.map (some b)) ∧ ev E y = some (.string (bs k))) (hh : (some b, mapZO f xs) ∈ H) (hu : f (Yn z k xs) = u)
    (kk : TO C ops Q l ((d, u) :: E) H) : TO C ops Q (i :: l) E H := have ⟨ho, hg, hd, hx, hy⟩ := q0_;
  TO.val ho hg hd (by simp) (fun a w hf hi => by
    obtain ⟨kt, h1, h2⟩ := Lv hm
    subst hu
    have hget := Z08 (f := f) (k := k) (z := z) xs 0
    have hb := hi.own _ _ hh
    have hfind := Lk (P := C.P) (w := w) (f := f) (k := k) (xs := xs) h2
    simp only [execOp, hf.ev hx, hf.ev hy]
    cases hc : Ve f k 0 xs with
    | none =>
      rw [hc] at hfind hget
      simp only [Prod.mk.injEq] at hget
      simp [Instr.lookup, Uy h2, hfind, underlying, h1, Js hz, Kd hb, ← hget.1]
    | some y =>
      obtain ⟨p, v⟩ := y
      rw [hc] at hfind hget
      simp only [Prod.mk.injEq] at hget
      simp [Instr.lookup, Uy h2, hfind, underlying, h1, Js hz, Kd hb, ← hget.1]) kk
theorem Uc {Q : Act → Prop} {t e : TypeId} {x y : Operand} {b : Nat} {xs : List (Str × α)} {k : Str} {z : α} {u : Value} (hm : Kf C.P t = some e) (hz : Xr C.P e = some (f z))
    (q0_ : ops[i]? = some ⟨some d, .lookup t x y false, ty, Zd, af, g⟩ ∧ Zi ops E g = true ∧ Nat.ble (d + 1) C.n = true ∧ ev E x = some (.map (some b)) ∧ ev E y = some (.string (bs k))) (hh : (some b, mapZO f xs) ∈ H) (hu : f (Yn z k xs) = u)
    (kk : TQ C ops Q l ((d, u) :: E) H) : TQ C ops Q (i :: l) E H := have ⟨ho, hg, hd, hx, hy⟩ := q0_;
  Ut ho hg hd (by simp) (fun a w hf hi => by
    obtain ⟨kt, h1, h2⟩ := Lv hm
    subst hu
    have hget := Z08 (f := f) (k := k) (z := z) xs 0
    have hb := hi.own _ _ hh
    have hfind := Lk (P := C.P) (w := w) (f := f) (k := k) (xs := xs) h2
    simp only [execOp, hf.ev hx, hf.ev hy]
    cases hc : Ve f k 0 xs with
    | none =>
      rw [hc] at hfind hget
      simp only [Prod.mk.injEq] at hget
      simp [Instr.lookup, Uy h2, hfind, underlying, h1, Js hz, Kd hb, ← hget.1]
    | some y =>
      obtain ⟨p, v⟩ := y
      rw [hc] at hfind hget
      simp only [Prod.mk.injEq] at hget
      simp [Instr.lookup, Uy h2, hfind, underlying, h1, Js hz, Kd hb, ← hget.1]) kk
theorem Z68 {t e : TypeId} {x y : Operand} {b : Nat} {xs : List (Str × α)} {k : Str} {z : α} {u : Value} (hm : Kf C.P t = some e) (hz : Xr C.P e = some (f z))
    (ho : ops[i]? = some ⟨some d, .lookup t x y true, ty, Zd, af, g⟩) (hg : Zi ops E g = true) (hd : Nat.ble (d + 1) C.n = true)
    (hx : ev E x = some (.map (some b))) (hy : ev E y = some (.string (bs k))) (hh : (some b, mapZO f xs) ∈ H) (hu : f (Yn z k xs) = u)
    (kk : TO C ops Q l ((d, .tuple #[u, .bool (Kr k xs)]) :: E) H) : TO C ops Q (i :: l) E H :=
  TO.val ho hg hd (by simp) (fun a w hf hi => by
    obtain ⟨kt, h1, h2⟩ := Lv hm
    subst hu
    have hget := Z08 (f := f) (k := k) (z := z) xs 0
    have hb := hi.own _ _ hh
    have hfind := Lk (P := C.P) (w := w) (f := f) (k := k) (xs := xs) h2
    simp only [execOp, hf.ev hx, hf.ev hy]
    cases hc : Ve f k 0 xs with
    | none =>
      rw [hc] at hfind hget
      simp only [Prod.mk.injEq] at hget
      simp [Instr.lookup, Uy h2, hfind, underlying, h1, Js hz, Kd hb, ← hget.1, ← hget.2]
    | some y =>
      obtain ⟨p, v⟩ := y
      rw [hc] at hfind hget
      simp only [Prod.mk.injEq] at hget
      simp [Instr.lookup, Uy h2, hfind, underlying, h1, Js hz, Kd hb, ← hget.1, ← hget.2]) kk
theorem Z3z (s : ByteArray) : Instr.sameBits 10000 (.string s) (.string s) = true := by
 show Instr.sameBits (9999 + 1) (.string s) (.string s) = true
 simp [Instr.sameBits, ba_beq]
theorem TO.mputZ {t e : TypeId} {x y v : Operand} {b : Nat} {xs : List (Str × α)} {k : Str} {u : α} {fu : Value} (hm : Kf C.P t = some e) (q0_ : ops[i]? = some ⟨none, .mapUpdate t x y v, ty, Zd, af, g⟩ ∧ Zi ops E g = true ∧ ev E x = some (.map (some b)) ∧ ev E y = some (.string (bs k)) ∧ ev E v = some fu ∧ f u = fu) (ht : Take (some b, mapZO f xs) H R)
    (kk : TO C ops Q l E ((some b, mapZO f (Yu k u xs)) :: R)) : TO C ops Q (i :: l) E H := have ⟨ho, hg, hx, hy, hv, hu⟩ := q0_;
  Vr ho hg (by simp) fun a w hf hi => by
    obtain ⟨kt, h1, h2⟩ := Lv hm
    subst hu
    have hb := hi.own _ _ ht.mem
    have hfind := Lk (P := C.P) (w := w) (f := f) (k := k) (xs := xs) h2
    have hput := Z15 (f := f) (k := k) (v := u) xs 0 0
    have hrun : (execOp a.eval ⟨none, .mapUpdate t x y v, ty, Zd, af, g⟩).run C.P w = .ok .skip (Go.ChangeMaps.setBlock w b (mapZO f (Yu k u xs))) := by
      simp only [execOp, hf.ev hx, hf.ev hy, hf.ev hv]
      cases hc : Ve f k 0 xs with
      | none =>
        rw [hc] at hfind hput
        simp only at hput
        simp [Instr.mapUpdate, Uy h2, hfind, underlying, h1, Kd hb, Z0a hb]
        rw [show mapZO f (Yu k u xs) = .map (Wo f 0 xs ++ [({ key := .string (bs k), val := f u, born := xs.length } : MapEntry)]).toArray (xs.length + 1) by unfold mapZO; rw [hput.1, hput.2, Nat.zero_add]]
      | some y =>
        obtain ⟨p, v'⟩ := y
        rw [hc] at hfind hput
        simp only [Nat.sub_zero] at hput
        obtain ⟨⟨o, h5, h6, h7⟩, h8, h9⟩ := hput
        simp [Instr.mapUpdate, Uy h2, hfind, underlying, h1, Kd hb, Z0a hb, h6, h7, Instr.keyThatStays, Z3z]
        rw [show mapZO f (Yu k u xs) = .map ((Wo f 0 xs).modify p fun e => { e with key := .string (bs k), val := f u }).toArray xs.length by unfold mapZO; rw [h8, h9]]
    rw [hrun]
    have hsz : b < w.heap.size := (Array.getElem?_eq_some_iff.1 hb).1
    refine kk _ _ (hf.putNone _) (hi.upd ht rfl rfl rfl (by simp [Go.ChangeMaps.setBlock]) (by simp [Go.ChangeMaps.setBlock, hsz]) fun k' hk => ?_)
    simp only [Go.ChangeMaps.setBlock]
    rw [Array.getElem?_setIfInBounds_ne (fun e => hk e.symm)]
end rules
end Go.Acq
namespace Go.Acq
open Go Go.RowKit
theorem Z9j {F : Fence} {n : Nat} {P : Program} {ops : Array Oper} {Q Z : Exit → Act → World → Prop} {i : Nat} {o : Oper} {a b : Act} {w : World} {k : Act → World → Prop} (hF : ∀ f, F.fn f) (ho : ops[i]? = some o) (hnd : ∀ c, o.op ≠ .defer c)
    (hex : execOp a.eval o = execOp b.eval o) (hw : Region.wanted o (yielded ops a.tmps) = Region.wanted o (yielded ops b.tmps))
    (hZ : ∀ e x w, Z e x w → ∃ ch, e = .panic ch ∧ Q (.panic ch) a w) (h : wpOpIn F n P ops Z i (fun _ _ => False) b w) : wpOpIn F n P ops Q i k a w := by
  have hlo : LetsOut Z → False := fun ⟨x, w, h⟩ => by obtain ⟨ch, h1, -⟩ := hZ _ _ _ h; cases h1
  have hp : ∀ ch w, Z (.panic ch) b w → Q (.panic ch) a w := fun ch w h => by obtain ⟨ch', h1, h2⟩ := hZ _ _ _ h; cases h1; exact h2
  unfold wpOpIn at h ⊢
  rw [ho] at h ⊢
  simp only at h ⊢
  rw [hw]
  split
  · rename_i hwt
    rw [if_pos hwt] at h
    refine ⟨fun f _ => hF f, ?_⟩
    have h := h.2
    rw [Oper.semAt_eq _ _ _ hnd] at h ⊢
    rw [hex]
    generalize (execOp b.eval o).run P w = r at h ⊢
    cases r with
    | ok x w' =>
      cases x <;> simp only [Oper.uponIn] at h ⊢ <;>
        first
          | exact h.elim
          | exact h
          | exact ⟨h.1, CallsIn.mono h.2 (fun e w'' he => by cases e <;> first | exact hp _ _ he | exact he.elim | exact (hlo he).elim)⟩
          | exact ⟨h.1, RoundIn.mono h.2 (fun e w'' he => by cases e <;> first | exact hp _ _ he | exact he.elim | exact (hlo he).elim)⟩
          | exact ⟨h.1, RowsIn.mono h.2 (fun v w'' he => he.elim)⟩
    | halt x w' => cases x <;> simp only [Oper.uponIn] at h ⊢ <;> first | exact hp _ _ h | exact h.elim | exact (hlo h).elim
  · rename_i hwt
    rw [if_neg hwt] at h
    exact h.2.elim
def PQ (w0 : World) (M : List Nat) (R : Heap) (pv : Value) : Exit → Act → World → Prop := fun e _ w => e = .panic (Xs pv) ∧ Inv w0 M w R
section
variable {C : Cx} {ops : Array Oper} {Q : Exit → Act → World → Prop} {E : Env} {H R : Heap} {pv : Value}
theorem X.pq : X C (PQ C.w0 C.M R pv) (.panic (Xs pv)) E R := fun a w hf hi => ⟨rfl, hi⟩
theorem TQ.tailP {Z : Exit → Act → World → Prop} {c : Nat} {H0 : Heap} (hH : H0 = H) (h : TO C ops Z [c] E H) : TQ C ops (fun a => ∀ w, Inv C.w0 C.M w H → wpOpsIn (FW C.ρ) 0 C.P ops Z [c] a w) [] E H0 := fun a hf w hi => h a w hf (hH ▸ hi)
theorem Z8y {id : Nat} (l : List Nat) (c : Nat) (hm : C.P.follows .mixedOrders = true) (hb : Je ops = true) (s1 : Ld ops ops.size [] l = true) (s2 : Ld ops ops.size l [c] = true)
    (s5 : ((List.range ops.size).all fun j => Nat.beq j c || l.any (Nat.beq j) || Xx ops ops.size j c) = true) (s7 : callB C.P ops c = true)
    (k : TQ C ops (fun a1 => ∀ w, Inv C.w0 C.M w H → wpOpsIn (FW C.ρ) 0 C.P ops (PQ C.w0 C.M R pv) [c] a1 w) l E H)
    (kk : X C Q (.panic (Xs pv)) [] R) : T C (.region id ops true) Q E H := by
  intro a0 w0 hf0 hi0
  have g1 := fun p i post e => Z24 (l := l) s1 p i post e
  obtain ⟨hcm, hc1, -, oc, dc, hoc, hdc, hsc, huc, hlc⟩ := Z24 (l := [c]) s2 [] c [] rfl
  have hnd : l.Nodup := Z3r fun p i post e => (g1 p i post e).2.2.1
  have hops : ∀ i, i ∈ l → i < ops.size ∧ (∃ o, ops[i]? = some o) ∧ ∃ d, Yb ops i = some d ∧ ∀ j, j < ops.size → j ≠ i → Yb ops j ≠ some d := fun i hi => by
    obtain ⟨p, post, e⟩ := List.append_of_mem hi
    obtain ⟨h1, -, -, o, d, h2, h3, h4, h5, -⟩ := g1 p i post e
    exact ⟨h1, ⟨o, h2⟩, d, h4, h5⟩
  obtain ⟨vs, hst, hend⟩ := Z4z l a0 hnd (fun i hi => (hops i hi).2.1) (k a0 hf0)
  have hbase : DoneQ ops ops.size vs a0 (fun _ => false) a0 := ⟨rfl, rfl, fun j d _ h => by simp at h, fun t _ => rfl⟩
  have hpre : ∀ p post, l = p ++ post → DoneQ ops ops.size vs a0 (fun q => p.any (Nat.beq q)) (Va ops vs p a0) := fun p post e => by
    have := Z52 (vs := vs) p _ _ (fun i hi => by
      obtain ⟨h1, -, h2⟩ := hops i (by rw [e]; exact List.mem_append_left _ hi)
      exact ⟨h1, h2⟩) hbase
    simpa using this
  have hfull := hpre l [] (by simp)
  have hclosed : ∀ (done : Nat → Bool) (i : Nat) (o : Oper), Uv ops done → ops[i]? = some o → (∀ e, e ∈ o.after → Region.binds .any e = true → done e.on = true) → Uv ops (fun q => if q = i then true else done q) := by
    intro done i o hc ho hd j o' ho' hj e he hbe
    show (if e.on = i then true else done e.on) = true
    by_cases hei : e.on = i
    · rw [if_pos hei]
    · rw [if_neg hei]
      by_cases hji : j = i
      · subst hji; rw [ho] at ho'; injection ho' with ho'; subst ho'; exact hd e he hbe
      · have hj' : done j = true := by simpa [hji] using hj
        exact hc j o' ho' hj' e he hbe
  refine wpIn_region_any hm (Z5q (J := fun done a w => Uv ops done ∧ done c = false ∧ DoneQ ops ops.size vs a0 done a ∧ Inv C.w0 C.M w H)
    hb ?_ ?_ ops.size (Array.replicate ops.size false) a0 _ (by simp) ?_ ?_)
  · rintro done i o a w ho hdi hd ⟨hc, hdc', hD, hinv⟩
    have hi : i < ops.size := (Array.getElem?_eq_some_iff.1 ho).1
    have hreach : ∀ j, Xx ops ops.size i j = true → done j = true := fun j hj => Jh hc _ i j hj (fun o' ho' => by rw [ho] at ho'; injection ho' with ho'; subst ho'; exact hd)
    have hcl := hclosed done i o hc ho hd
    by_cases hic : i = c
    · subst hic
      rw [hoc] at ho; injection ho with ho; subst ho
      obtain ⟨o', f, xs, ho', hnd, hns, hrun⟩ := Z8d (a := Va ops vs l a0) (w := w) s7
      rw [hoc] at ho'; injection ho' with ho'; subst ho'
      have hw := hend w hinv
      rw [wpOpsIn_cons] at hw
      obtain ⟨hev, hwt⟩ := Z1o hD hfull (o := oc) (fun t htl j hj hsj => by
        obtain ⟨h1, h2⟩ := hlc t htl j hj hsj
        have : j ∈ l := by exact h1.elim (fun h1 => h1) (fun h1 => by simp at h1)
        exact ⟨hreach j h2, any_mem.2 this⟩)
      refine Z9j (Z := PQ C.w0 C.M R pv) (fun _ => trivial) hoc hnd (execOp_congr oc hns hev) hwt ?_ (wpOpIn_mono (fun a' w' h => by cases h.1) hw)
      rintro e x w' ⟨rfl, hi'⟩
      exact ⟨_, rfl, kk a w' ⟨hD.size.trans hf0.size, hD.defers.trans hf0.defers, fun t v h => by simp [find] at h⟩ hi'⟩
    by_cases hil : i ∈ l
    · obtain ⟨p, post, e⟩ := List.append_of_mem hil
      obtain ⟨him, -, -, o', d, ho', hd', hs, hu, hl⟩ := g1 p i post e
      rw [ho] at ho'; injection ho' with ho'; subst ho'
      obtain ⟨o', ho', hnd', hns', hval⟩ := hst p i post e
      rw [ho] at ho'; injection ho' with ho'; subst ho'
      obtain ⟨hev, hwt⟩ := Z1o hD (hpre p (i :: post) e) (o := o) (fun t htl j hj hsj => by
        obtain ⟨h1, h2⟩ := hl t htl j hj hsj
        have hjp : j ∈ p := by exact h1.elim (fun h1 => by simp at h1) (fun h1 => h1)
        exact ⟨hreach j h2, any_mem.2 hjp⟩)
      have hput := hD.put him hs hu
      have dci : (if c = i then true else done c) = false := by rw [if_neg (fun h => hic h.symm)]; exact hdc'
      have hex := execOp_congr o hns' hev
      unfold wpOpIn
      rw [ho]
      simp only
      rw [hwt]
      rcases hval with ⟨hw, hq⟩ | ⟨hw, hq⟩
      · rw [hw]
        simp only [if_true]
        refine ⟨fun _ _ => trivial, ?_⟩
        rw [Oper.semAt_eq _ _ _ hnd', hex]
        have hq := hq w hinv
        generalize (execOp (Va ops vs p a0).eval o).run C.P w = r at hq
        cases r with
        | ok x w' =>
          cases x <;> simp only [Ux] at hq
          case value u =>
            obtain ⟨rfl, rfl⟩ := hq
            show _ ∧ _
            refine ⟨hcl, dci, ?_, hinv⟩
            rw [hd']; exact hput
          case enter f args =>
            obtain ⟨rfl, hcall⟩ := hq
            refine ⟨by simp [FW], callsIn_FW.2 (Calls.mono hcall ?_)⟩
            rintro e w'' ⟨rfl, hK⟩
            show _ ∧ _
            refine ⟨hcl, dci, ?_, hK⟩
            rw [hd']; exact hput
        | halt x w' => simp only [Ux] at hq
      · rw [hw]
        simp only [Bool.false_eq_true, if_false]
        refine ⟨fun _ _ => trivial, hcl, dci, ?_, hinv⟩
        rw [hd', ← hq]; exact hput
    · exfalso
      have := List.all_eq_true.1 s5 i (List.mem_range.2 hi)
      simp only [Bool.or_eq_true] at this
      rcases this with (h | h) | h
      · exact hic (Nat.eq_of_beq_eq_true h)
      · exact hil (any_mem.1 h)
      · rw [hreach c h] at hdc'; cases hdc'
  · rintro done a w hall ⟨hc, h1, -⟩
    rw [hall c hcm] at h1; cases h1
  · have : ((List.range ops.size).filter (fun i => !(Array.replicate ops.size false).getD i true)).length ≤ (List.range ops.size).length := List.length_filter_le _ _
    simpa using this
  · have hf : (fun q => (Array.replicate ops.size false).getD q false) = fun _ => false := by
      funext q
      simp only [Array.getD_eq_getD_getElem?, Array.getElem?_replicate]
      split <;> rfl
    rw [hf]
    exact ⟨fun i o _ h => by simp at h, rfl, hbase, hi0.ofHeap rfl rfl rfl rfl⟩
end
end Go.Acq
namespace Go.Acq
open Go Go.RowKit
section rules
variable {C : Cx} {ops : Array Oper} {Q : Exit → Act → World → Prop} {l : List Nat} {E : Env} {H R : Heap} {i d : Nat} {ty : TypeId} {Zd : String} {af : Array Edge} {g : Option (Nat × Bool)}
variable {α : Type} {f : α → Value}
theorem Uh {t e : TypeId} {x y v : Operand} {b : Nat} {xs : List (Str × α)} {k : Str} {u : α} {fu : Value} {xs' : List (Str × α)} (hm : Kf C.P t = some e) (hu : f u = fu) (he : Yu k u xs = xs')
    (q0_ : ops[i]? = some ⟨none, .insert t x y v, ty, Zd, af, g⟩ ∧ Zi ops E g = true ∧ ev E x = some (.map (some b)) ∧ ev E y = some (.string (bs k)) ∧ ev E v = some fu) (ht : Take (some b, mapZO f xs) H R)
    (kk : TO C ops Q l E ((some b, mapZO f xs') :: R)) : TO C ops Q (i :: l) E H := have ⟨ho, hg, hx, hy, hv⟩ := q0_;
  Vr ho hg (by simp) fun a w hf hi => by
    obtain ⟨kt, h1, h2⟩ := Lv hm
    subst hu
    subst he
    have hb := hi.own _ _ ht.mem
    have hfind := Lk (P := C.P) (w := w) (f := f) (k := k) (xs := xs) h2
    have hput := Z15 (f := f) (k := k) (v := u) xs 0 0
    have hrun : (execOp a.eval ⟨none, .insert t x y v, ty, Zd, af, g⟩).run C.P w = .ok .skip (Go.ChangeMaps.setBlock w b (mapZO f (Yu k u xs))) := by
      simp only [execOp, hf.ev hx, hf.ev hy, hf.ev hv]
      cases hc : Ve f k 0 xs with
      | none =>
        rw [hc] at hfind hput
        simp only at hput
        simp [Instr.mapUpdate, Uy h2, hfind, underlying, h1, Kd hb, Z0a hb]
        rw [show mapZO f (Yu k u xs) = .map (Wo f 0 xs ++ [({ key := .string (bs k), val := f u, born := xs.length } : MapEntry)]).toArray (xs.length + 1) by unfold mapZO; rw [hput.1, hput.2, Nat.zero_add]]
      | some y =>
        obtain ⟨p, v'⟩ := y
        rw [hc] at hfind hput
        simp only [Nat.sub_zero] at hput
        obtain ⟨⟨o, h5, h6, h7⟩, h8, h9⟩ := hput
        simp [Instr.mapUpdate, Uy h2, hfind, underlying, h1, Kd hb, Z0a hb, h6, h7, Instr.keyThatStays, Z3z]
        rw [show mapZO f (Yu k u xs) = .map ((Wo f 0 xs).modify p fun e => { e with key := .string (bs k), val := f u }).toArray xs.length by unfold mapZO; rw [h8, h9]]
    rw [hrun]
    have hsz : b < w.heap.size := (Array.getElem?_eq_some_iff.1 hb).1
    refine kk _ _ (hf.putNone _) (hi.upd ht rfl rfl rfl (by simp [Go.ChangeMaps.setBlock]) (by simp [Go.ChangeMaps.setBlock, hsz]) fun k' hk => ?_)
    simp only [Go.ChangeMaps.setBlock]
    rw [Array.getElem?_setIfInBounds_ne (fun e => hk e.symm)]
theorem Ro {t e : TypeId} {x y : Operand} {b : Nat} {xs : List (Str × α)} {k : Str} {z : α} {u : Value} {bb : Bool} (hm : Kf C.P t = some e) (hz : Xr C.P e = some (f z))
    (q0_ : ops[i]? = some ⟨some d, .lookup t x y true, ty, Zd, af, g⟩ ∧ Zi ops E g = true ∧ Nat.ble (d + 1) C.n = true ∧ ev E x = some (.map (some b)) ∧ ev E y = some (.string (bs k))) (hh : (some b, mapZO f xs) ∈ H) (hu : f (Yn z k xs) = u) (hb : Kr k xs = bb)
    (kk : TO C ops Q l ((d, .tuple #[u, .bool bb]) :: E) H) : TO C ops Q (i :: l) E H := have ⟨ho, hg, hd, hx, hy⟩ := q0_;
  Z68 (z := z) hm hz ho hg hd hx hy hh hu (hb ▸ kk)
end rules
end Go.Acq
namespace Go.Acq
open Go Go.RowKit
abbrev WideI (P : Program) : Machine → Prop := Machine.fenced P Fence.wide
theorem Z94 {P : Program} {ρ : Option Nat} {n l : Nat} {f : FuncId} {fn : Func} {tmps : Array Value} {assign body : Code} {w : World} {R : Ending → World → Prop} (hf : P.funcs[f]? = some fn)
    (h : assign.wpIn (FW (some l)) n P (fun e a₁ w₁ => e = .normal ∧ ∃ w₂, (Instr.beginRound l).run P w₁ = .ok () w₂ ∧ body.wpIn (FW (some l)) n P (fun e a w => ∃ ch, e = .panic ch ∧ a.defers = [] ∧ R (.panicked ch) w) a₁ w₂) { tmps := tmps, defers := [] } w) :
    RoundIn (FW ρ) n P l f tmps assign body w R := by
  refine ⟨trivial, fun c cs hr => ?_⟩
  have hwide : ∀ m, (FW ρ).fn m := fun _ => trivial
  obtain ⟨b, hb⟩ : ∃ b : Frame, b = { (default : Frame) with fn := f, kind := .normal, roundOf := some l } := ⟨_, rfl⟩
  have hro : b.roundOf = some l := by rw [hb]
  have hfn : b.fn = f := by rw [hb]
  have e0 : Frame.round l f tmps assign body .normal = b.atR { tmps := tmps, defers := [] } [.code assign, .beginRound, .code body] := by
    rw [hb]; simp [Frame.round, Frame.atR]
  have room : ∀ k, (FW (some l)).room k := fun k d hd => by cases hd
  obtain ⟨e, a₁, w₁, ⟨rfl, w₂, hbr, hbody⟩, h1⟩ := h b [.beginRound, .code body] (c :: cs) hro trivial (room _)
  obtain ⟨e, a₂, w₃, ⟨ch, rfl, hd, hR⟩, todo, h2⟩ := hbody b [] (c :: cs) hro trivial (room _)
  refine ⟨.panicked ch, w₃, hR, ?_⟩
  rw [e0]
  have s1 : StepsIn (Machine.fenced P (FW (some l))) P (lone (b.atR a₁ [.beginRound, .code body]) (c :: cs) w₁) (lone (b.atR a₁ [.code body]) (c :: cs) w₂) :=
    .one (fenced_calm (n := 0) (fr := b.atR a₁ [.beginRound, .code body]) trivial (room _) rfl) (stepR_beginRound hro hbr)
  have hl : Frame.leaving P { b.atR a₂ todo with mode := .panicking ch } w₃ (.panicked ch) := ⟨rfl, hd, fn, by show P.funcs[b.fn]? = _; rw [hfn]; exact hf⟩
  exact (StepsIn.trans h1 s1).trans (StepsIn.trans h2 (.one (fenced_leaving (n := 0) trivial (room _) hl) (step_leave_panicked hl)))
def YCP {S V : Type} (P : Program) (l : Nat) (pv : Value) (en : World → List Nat → V → List Value → Prop) (y : S → V → Option (S ⊕ Unit)) (J : S ⊕ Unit → Heap → Prop) (EE : Heap → Prop) (w : World) (M : List Nat) : Prop :=
  ∀ (s : S) (v : V) (r : S ⊕ Unit), y s v = some r → ∀ (w' : World) (Hs HE : Heap) (vals : List Value), J (.inl s) Hs → EE HE → Inv w M w' (Hs ++ HE) → en w' (ids (Hs ++ HE)) v vals →
    YieldAt (FW none) 0 P l vals.toArray w' fun e w'' => match r with
      | .inl s' => ∃ Hs', J (.inl s') Hs' ∧ e = .returned (.bool true) ∧ Inv w' (ids (Hs ++ HE)) w'' (Hs' ++ HE)
      | .inr _ => e = .panicked (Xs pv) ∧ Inv w' (ids (Hs ++ HE)) w'' []
section rules
variable {C : Cx} {ops : Array Oper} {Q : Exit → Act → World → Prop} {l : List Nat} {E : Env} {H R : Heap} {i d : Nat} {ty : TypeId} {Zd : String} {af : Array Edge} {g : Option (Nat × Bool)}
theorem Z4p {S V : Type} {lp : Nat} {pv : Value} {en : World → List Nat → V → List Value → Prop} {y : S → V → Option (S ⊕ Unit)} {J : S ⊕ Unit → Heap → Prop} {EE : Heap → Prop} {x : Operand} {xs : Array Operand} {at' : Array TypeId} {t r : S ⊕ Unit} {v : V} {vals : List Value} {Ho HE Hs : Heap}
    (hY : YCP C.P lp pv en y J EE C.w0 C.M) (hr : Ra y t v = some r) (hJ : J t Hs) (hE : EE HE)
    (q0_ : ops[i]? = some ⟨some d, .call ⟨.value x, xs, at'⟩, ty, Zd, af, g⟩ ∧ Zi ops E g = true ∧ Nat.ble (d + 1) C.n = true ∧ ev E x = some (.func (.yield lp) #[] #[]) ∧ Wz E xs.toList = some vals) (hH : List.Perm H (HE ++ R)) (hR : R = Ho ++ Hs)
    (hen : ∀ w, Inv C.w0 C.M w H → List.Perm H ((Hs ++ HE) ++ Ho) → en w (ids (Hs ++ HE)) v vals)
    (kp : r = .inr () → X C Q (.panic (Xs pv)) E Ho)
    (kk : ∀ Hs', J r Hs' → TO C ops Q l ((d, .bool r.isLeft) :: E) (HE ++ (Ho ++ Hs'))) : TO C ops Q (i :: l) E H := by
  obtain ⟨ho, hg, hd, hx, hxs⟩ := q0_
  obtain ⟨s, rfl, hys⟩ := Z6t hr
  refine Vr ho hg (by simp) fun a w hf hi => ?_
  subst hR
  have hpm : ∀ Hx : Heap, List.Perm (HE ++ (Ho ++ Hx)) ((Hx ++ HE) ++ Ho) := fun Hx => by
    rw [← List.append_assoc, List.append_assoc Hx]
    exact List.perm_append_comm
  have hi' := hi.perm (hH.trans (hpm Hs))
  obtain ⟨fn, tmps, assign, body, hrun, hround⟩ := hY s v r hys w Hs HE vals hJ hE hi'.left (hen w hi (hH.trans (hpm Hs)))
  have e1 : xs.map a.eval = vals.toArray := by apply Array.ext'; simpa using Kh hf hxs
  have : (execOp a.eval ⟨some d, .call ⟨.value x, xs, at'⟩, ty, Zd, af, g⟩).run C.P w = .ok (.round lp fn tmps assign body) w := by
    simp [execOp, resolve, Deferred.ofValue, invoke, hf.ev hx, e1, hrun]
  rw [this]
  rw [Oper.uponIn_round]
  have hround' : RoundIn (FW C.ρ) (0 - 1) C.P lp fn tmps assign body w _ := hround
  refine ⟨by simp [FW], hround'.mono ?_⟩
  intro e w' hR
  cases r with
  | inl s' =>
    obtain ⟨Hs', hJ', rfl, hi2⟩ := hR
    have hk := kk Hs' hJ'
    unfold TO at hk
    exact hk _ _ (hf.put hd _) (((hi'.join (List.Perm.refl _) (fun m hm => hm) hi2)).perm (hpm Hs').symm)
  | inr u =>
    obtain ⟨rfl, hi2⟩ := hR
    exact kp rfl a w' hf (by simpa using hi'.join (List.Perm.refl _) (fun m hm => hm) hi2)
theorem Z4l {α : Type} {fn : Func} {w0 : World} {M : List Nat} {pv : Value} {u : Unit} {Post : α → Value → Heap → Prop} (q0_ : C.w0 = w0 ∧ C.M = M ∧ C.D = []) :
    X C (bodyPost C.P fn (Ly w0 M pv Post (.inr u))) (.panic (Xs pv)) E H := have ⟨hw, hMM, hD⟩ := q0_; Xa ⟨hw, hMM, hD⟩
end rules
def RQP {S : Type} (J : S → Heap → Prop) (pv : Value) (r : S ⊕ Unit) (w0 : World) (M : List Nat) : Exit → Act → World → Prop
  | .normal, _, w => ∃ s Hs, r = .inl s ∧ J s Hs ∧ Inv w0 M w Hs
  | .panic ch, a, w => r = .inr () ∧ ch = Xs pv ∧ a.defers = [] ∧ Inv w0 M w []
  | _, _, _ => False
theorem X.rpNext {C : Cx} {E : Env} {H : Heap} {S : Type} {J : S → Heap → Prop} {pv : Value} {r : S ⊕ Unit} {w0 : World} {M : List Nat} {s : S} {Hs : Heap} (h : some (Sum.inl s) = some r) (q0_ : C.w0 = w0 ∧ C.M = M) (hJ : J s Hs) (hp : Pick Hs H) :
    X C (RQP J pv r w0 M) .normal E H := have ⟨hw, hMM⟩ := q0_; fun _ _ _ hi => ⟨s, Hs, by injection h with h; exact h.symm, hJ, by rw [← hw, ← hMM]; exact hi.pick hp⟩
theorem X.rpPan {C : Cx} {E : Env} {H : Heap} {S : Type} {J : S → Heap → Prop} {pv : Value} {r : S ⊕ Unit} {w0 : World} {M : List Nat} {u : Unit} (h : some (Sum.inr u) = some r) (q0_ : C.w0 = w0 ∧ C.M = M ∧ C.D = []) :
    X C (RQP J pv r w0 M) (.panic (Xs pv)) E H := have ⟨hw, hMM, hD⟩ := q0_; fun _ _ hf hi => ⟨by injection h with h; exact h.symm, rfl, hf.defers.trans hD, by rw [← hw, ← hMM]; exact hi.pick Zh⟩
def AtF (f : FuncId) (P : Program) (c : Code) (Q : Exit → Act → World → Prop) (a : Act) (w : World) : Prop :=
  ∀ (b : Frame) (k : List Item) (cs : List Frame), b.fn = f → b.roundOf = none → ∃ e a' w', Q e a' w' ∧ ArrivesIn (WideI P) P (lone (b.atR a (.code c :: k)) cs w) b k cs e a' w'
def TA (C : Cx) (f : FuncId) (c : Code) (Q : Exit → Act → World → Prop) (E : Env) (H : Heap) : Prop := ∀ a w, Fits C.n C.D E a → Inv C.w0 C.M w H → AtF f C.P c Q a w
section control
variable {C : Cx} {f : FuncId} {Q : Exit → Act → World → Prop} {E : Env} {H H' : Heap} {x y : Code}
theorem Uj (hρ : C.ρ = none) (h : T C x Q E H) : TA C f x Q E H := fun a w hf hi b k cs _ hro => h a w hf hi b k cs (hro.trans hρ.symm) trivial (fun d hd => by cases hd)
theorem AtF.seq {P : Program} {a : Act} {w : World} (h : AtF f P x (Exit.then (fun a w => AtF f P y Q a w) Q) a w) : AtF f P (.seq x y) Q a w := by
 intro b k cs hb hro
 have i0 : (lone (b.atR a (.code (.seq x y) :: k)) cs w).fenced P Fence.wide := fenced_wide P _
 obtain ⟨e, a₁, w₁, hq, harr⟩ := h b (.code y :: k) cs hb hro
 have keep : ∀ e, e ≠ .normal → ArrivesIn (WideI P) P (lone (b.atR a (.code x :: .code y :: k)) cs w) b (.code y :: k) cs e a₁ w₁ → ArrivesIn (WideI P) P (lone (b.atR a (.code (.seq x y) :: k)) cs w) b k cs e a₁ w₁ :=
  fun e he harr => .of_steps (.one i0 stepR_seq) (.pass (x := .code y) rfl (fun _ _ => .inl he) harr)
 cases e with
 | normal =>
  obtain ⟨e₂, a₂, w₂, hq₂, harr₂⟩ := hq b k cs hb hro
  exact ⟨e₂, a₂, w₂, hq₂, .of_steps (.head i0 stepR_seq harr) harr₂⟩
 | exit id => exact ⟨_, a₁, w₁, hq, keep _ (by simp) harr⟩
 | goto l => exact ⟨_, a₁, w₁, hq, keep _ (by simp) harr⟩
 | ret => exact ⟨_, a₁, w₁, hq, keep _ (by simp) harr⟩
 | panic ch => exact ⟨_, a₁, w₁, hq, keep _ (by simp) harr⟩
 | outgrown => exact ⟨_, a₁, w₁, hq, keep _ (by simp) harr⟩
theorem TA.seq (h : TA C f x (Exit.then (fun a w => AtF f C.P y Q a w) Q) E H) : TA C f (.seq x y) Q E H := fun a w hf hi => AtF.seq (h a w hf hi)
theorem Jw {P : Program} (hP : C.P = P) (h : TA C f y Q E H) : X C (Exit.then (fun a w => AtF f P y Q a w) Q) .normal E H := fun a w hf hi => by subst hP; exact h a w hf hi
theorem AtF.rangeFunc {P : Program} {g : Operand} {ps : Array Tmp} {assign body : Code} {a : Act} {w : World} {l : Nat} {mark : List Deferred} {w₁ : World} {d : Deferred} {fc : FuncId} {args : Array Value}
    (he : (Instr.enterLoop f a.tmps ps assign body none).run P w = .ok (l, mark) w₁) (hres : (resolve a.eval (rangeCall g l) 0).run P w₁ = .ok d w₁) (hinv : (invoke d.target d.args).run P w₁ = .ok (.enter fc args) w₁)
    (hc : Calls P fc args w₁ fun e w₃ => match e with
      | .returned _ => ∃ w₄, (Instr.endLoop l).run P w₃ = .ok none w₄ ∧ Q .normal { a with defers := mark ++ a.defers } w₄
      | .panicked ch => Q (.panic ch) { a with defers := mark ++ a.defers } w₃
      | .outgrown => False) : AtF f P (.rangeFunc g ps assign body) Q a w := by
  intro b k cs hb hro
  rw [← hb, ← hro] at he
  have s0 := stepR_rangeFunc (P := P) (b := b) (a := a) (k := k) (cs := cs) (w := w) he hres hinv
  obtain ⟨e, w₃, fr, hR, hs, -, hl⟩ := hc (b.atR { a with defers := mark ++ a.defers } (.inRangeFunc l :: k) :: cs)
  cases e with
  | outgrown => exact hR.elim
  | returned v =>
    obtain ⟨w₄, hend, hq⟩ := hR
    have s1 := step_leave_returned (c := b.atR { a with defers := mark ++ a.defers } (.inRangeFunc l :: k)) (cs := cs) hl
    rw [finish_atR_inRangeFunc] at s1
    have s2 := stepR_endRangeFunc (P := P) (b := b) (a := { a with defers := mark ++ a.defers }) (k := k) (cs := cs) hend
    refine ⟨.normal, _, w₄, hq, ?_⟩
    exact stepsIn_wide.2 (.head s0 (Steps.trans hs (.head s1 (.one s2))))
  | panicked ch =>
    have s1 := step_leave_panicked (c := b.atR { a with defers := mark ++ a.defers } (.inRangeFunc l :: k)) (cs := cs) hl
    rw [Frame.raise_atR] at s1
    exact ⟨.panic ch, _, w₃, hR, .inRangeFunc l :: k, stepsIn_wide.2 (.head s0 (Steps.trans hs (.one s1)))⟩
theorem Z7c {S V : Type} (hρ : C.ρ = none) {fnf : Func} (hfn : C.P.funcs[f]? = some fnf) {gop : Operand} {ps : Array Tmp} {assign body : Code} {fi : FuncId} {fs cs : Array Value} (hF : Ya C.P fi = true) (hg : ev E gop = some (.func (.func fi) fs cs))
    (hps : ps.toList.all (fun p => Nat.ble (p + 1) C.n) = true) (pv : Value) (en : World → List Nat → V → List Value → Prop) (hlen : ∀ w M v vals, en w M v vals → vals.length = ps.size)
    (y : S → V → Option (S ⊕ Unit)) (J : S → Heap → Prop) (EE EO : Heap → Prop) (s0 : S) (t : S ⊕ Unit) (Hs0 HE0 R : Heap) (hJ : J s0 Hs0) (hH : Pick ((Hs0 ++ HE0) ++ R) H)
    (it : ∀ (lp : Nat) (w : World) (J' : S ⊕ Unit → Heap → Prop) (H0 : Heap), (∀ u Hs, ¬ J' (.inr u) Hs) → J' (.inl s0) H0 → Inv w (ids (H0 ++ HE0)) w (H0 ++ HE0) → YCP C.P lp pv en y J' EE w (ids (H0 ++ HE0)) → ∀ lo, Inv C.w0 C.M w (((some lp, lo) :: (Hs0 ++ HE0)) ++ R) → H0 = (some lp, lo) :: Hs0 →
      FncS C.P fi (fs ++ #[.func (.yield lp) #[] #[]] ++ cs) w (ids (H0 ++ HE0)) pv t (fun s v N => v = .tuple #[] ∧ ∃ HE' Hs', N = HE' ++ Hs' ∧ J' (.inl s) Hs' ∧ EO HE'))
    (round : ∀ (lp : Nat) (w' : World) (s : S) (v : V) (r : S ⊕ Unit) (Hs HE : Heap) (vals : List Value), y s v = some r → J s Hs → EE HE → en w' (ids ((some lp, mkO) :: (Hs ++ HE))) v vals → Inv w' (ids (Hs ++ HE)) w' (Hs ++ HE) → Inv C.w0 C.M w' ((Hs ++ HE) ++ R) →
      T ⟨C.P, some lp, C.n, [], w', ids (Hs ++ HE)⟩ assign (AQX C.n w' (ids (Hs ++ HE)) fun E1 H1 => ∀ w2, Inv w2 (ids H1) w2 H1 → Inv C.w0 C.M w2 (H1 ++ R) → Inv w' (ids ((some lp, mkO) :: (Hs ++ HE))) w2 H1 → T ⟨C.P, some lp, C.n, [], w2, ids H1⟩ body (RQP (fun s Hq => ∃ Hq', Hq = Hq' ++ HE ∧ J s Hq') pv r w2 (ids H1)) E1 H1) (putPs ps.toList vals E) (Hs ++ HE))
    (next : ∀ s, t = .inl s → ∀ rr Hs HE, J s Hs → EO HE → Acq.X { C with D := mkD rr :: C.D } Q .normal E ((Hs ++ HE) ++ ((some rr, mkO) :: R)))
    (pan : t = .inr () → ∀ rr, Acq.X { C with D := mkD rr :: C.D } Q (.panic (Xs pv)) E ((some rr, mkO) :: R)) :
    TA C f (.rangeFunc gop ps assign body) Q E H := by
  intro a w hf hi0
  have hi := hi0.pick hH
  obtain ⟨rr, hrr⟩ : ∃ rr, w.heap.size = rr := ⟨_, rfl⟩
  obtain ⟨wa, hwa⟩ : ∃ wa, w.alloc mkO = wa := ⟨_, rfl⟩
  obtain ⟨lp, hlp⟩ : ∃ lp, wa.heap.size = lp := ⟨_, rfl⟩
  obtain ⟨lo, hlo⟩ : ∃ lo, recO f a.tmps ps assign body rr .ready none = lo := ⟨_, rfl⟩
  obtain ⟨wb, hwb⟩ : ∃ wb, wa.alloc lo = wb := ⟨_, rfl⟩
  have hia : Inv C.w0 C.M wa ((some rr, mkO) :: ((Hs0 ++ HE0) ++ R)) := by rw [← hwa, ← hrr]; exact hi.alloc mkO
  have hib : Inv C.w0 C.M wb ((some lp, lo) :: (some rr, mkO) :: ((Hs0 ++ HE0) ++ R)) := by rw [← hwb, ← hlp]; exact hia.alloc lo
  have hlp2 : w.heap.size + 1 = lp := by rw [← hlp, ← hwa]; exact (World.size_alloc ..).symm
  have hib' : Inv C.w0 C.M wb (((some lp, lo) :: (Hs0 ++ HE0)) ++ ((some rr, mkO) :: R)) := hib.perm (by
    rw [List.cons_append]
    exact List.Perm.cons _ List.perm_middle.symm)
  have h2 : a.eval gop = .func (.func fi) fs cs := hf.ev hg
  have h3 : ∀ v, a.eval (.const v) = v := fun _ => rfl
  refine AtF.rangeFunc (l := lp) (mark := [mkD rr]) (w₁ := wb) (d := { target := .fn (.func fi) cs, args := fs.push (.func (.yield lp) #[] #[]) }) (fc := fi) (args := fs ++ #[.func (.yield lp) #[] #[]] ++ cs) ?_ ?_ ?_ ?_
  · rw [run_enterLoop_outer, ← hwb, ← hlo, ← hwa, ← hlp2, ← hrr]
  · simp [resolve, Deferred.ofValue, h2, h3]
  · show (callFunc fi (fs.push (.func (.yield lp) #[] #[]) ++ cs)).run C.P wb = _
    rw [Array.push_eq_append]
    exact Uq hF _ _
  · have hfa : Fits C.n (mkD rr :: C.D) E { a with defers := [mkD rr] ++ a.defers } := ⟨hf.size, by simp [hf.defers], hf.get⟩
    have hcall := it lp wb (fun r Hx => match r with | .inl s => ∃ Hs, Hx = (some lp, recO f a.tmps ps assign body rr .ready none) :: Hs ∧ J s Hs | .inr _ => False) ((some lp, lo) :: Hs0) (fun _ _ h => h)
      ⟨Hs0, by rw [← hlo], hJ⟩ (hib'.left.self (Yq _) rfl) ?_ lo (hib'.pick (by
        refine Nx (S := [(some rr, mkO)]) ?_
        rw [List.append_assoc]
        exact List.Perm.append_left _ (List.perm_append_singleton _ _).symm)) rfl
    · refine Calls.mono hcall ?_
      intro e w3 hR
      cases t with
      | inr u =>
        obtain ⟨rfl, hi3⟩ := hR
        have hj3 := hib'.join (M' := ids ((some lp, lo) :: (Hs0 ++ HE0))) (List.Perm.refl _) (fun m hm => hm) hi3
        exact pan rfl rr _ _ hfa (by simpa using hj3)
      | inl s =>
        obtain ⟨v, N, ⟨rfl, HE3, Hq3, rfl, ⟨Hs3, rfl, hJ3⟩, hE3⟩, rfl, hi3⟩ := hR
        have hi3 := hi3.perm List.perm_append_comm
        have hj3 := hib'.join (M' := ids ((some lp, lo) :: (Hs0 ++ HE0))) (List.Perm.refl _) (fun m hm => hm) hi3
        have hl3 := hj3.own lp _ (.head _)
        have hput := hj3.put (recO f a.tmps ps assign body rr .exhausted none)
        have hpk : Pick ((Hs3 ++ HE3) ++ ((some rr, mkO) :: R)) ((some lp, recO f a.tmps ps assign body rr .exhausted none) :: ((Hs3 ++ HE3) ++ ((some rr, mkO) :: R))) := Pick.skip (Yq _)
        exact ⟨_, run_endLoop hl3 (by simp), next s rfl rr Hs3 HE3 hJ3 hE3 _ _ hfa (hput.pick hpk)⟩
    · rintro s v r hys w' Hx HE vals ⟨Hs1, rfl, hJs⟩ hE hi' hen
      obtain ⟨Hs, hHs⟩ : ∃ Hs, Hs1 ++ HE = Hs := ⟨_, rfl⟩
      have hi' : Inv wb (ids ((some lp, lo) :: (Hs0 ++ HE0))) w' ((some lp, recO f a.tmps ps assign body rr .ready none) :: Hs) := by rw [← hHs]; exact hi'
      have hlw := hi'.own lp _ (.head _)
      have hout := hib'.join (M' := ids ((some lp, lo) :: (Hs0 ++ HE0))) (List.Perm.refl _) (fun m hm => hm) hi'
      have hself := hi'.self (Hm := Hs) (Pick.skip (Yq _)) rfl
      have houtH : Inv C.w0 C.M w' (Hs ++ R) := hout.pick (by
        refine Pick.skip ?_
        refine Nx (S := [(some rr, mkO)]) ?_
        rw [List.append_assoc]
        exact List.Perm.append_left _ (List.perm_append_singleton _ _).symm)
      have hasg := round lp w' s v r Hs1 HE vals hys hJs hE hen (by rw [hHs]; exact hself) (by rw [hHs]; exact houtH)
      rw [hHs] at hasg
      refine ⟨_, _, _, _, run_yield hlw (by simp [hlen _ _ _ _ hen]), ?_⟩
      have hf0 : Fits C.n [] E { tmps := a.tmps, defers := [] } := ⟨hf.size, rfl, hf.get⟩
      have hf1 := Z5o (vs := vals) hps hf0
      have hw0 := hasg _ w' hf1 hself
      have hrw : (ps.zip vals.toArray).foldl (fun tmps (t, a) => tmps.setIfInBounds t a) a.tmps = (ps.toList.zip vals).foldl (fun tmps (t, a) => tmps.setIfInBounds t a) a.tmps := by
        rw [← Array.foldl_toList]; simp
      rw [hrw]
      have hall := (hi'.self (Yq _) rfl)
      have beg : ∀ (a1 : Act) (w1 : World) (H1 : Heap), Inv w' (ids Hs) w1 H1 →
          (Instr.beginRound lp).run C.P w1 = .ok () (w1.putObj lp (recO f a.tmps ps assign body rr .busy none)) ∧ Inv w' (ids ((some lp, recO f a.tmps ps assign body rr .ready none) :: Hs)) (w1.putObj lp (recO f a.tmps ps assign body rr .busy none)) ((some lp, recO f a.tmps ps assign body rr .busy none) :: H1) ∧
            Inv C.w0 C.M (w1.putObj lp (recO f a.tmps ps assign body rr .busy none)) (H1 ++ R) := fun a1 w1 H1 hia1 => by
        have hall1 := hall.join (Hm := Hs) (R := [(some lp, recO f a.tmps ps assign body rr .ready none)]) (M' := ids Hs) ((List.perm_append_singleton _ _).symm) (fun m hm => hm) hia1
        have hall1 := hall1.perm (List.perm_append_singleton _ _)
        have hl1 := hall1.own lp _ (.head _)
        have hb1 := hall1.put (recO f a.tmps ps assign body rr .busy none)
        have hout1 := hout.join (M' := ids ((some lp, recO f a.tmps ps assign body rr .ready none) :: Hs)) (List.Perm.refl _) (fun m hm => hm) hall1
        have hout2 := hout1.put (recO f a.tmps ps assign body rr .busy none)
        exact ⟨run_beginRound hl1 rfl, hb1, hout2.pick (by
          refine Pick.skip ?_
          refine Nx (S := [(some rr, mkO)]) ?_
          rw [List.append_assoc]
          exact List.Perm.append_left _ (List.perm_append_singleton _ _).symm)⟩
      cases r with
      | inr u =>
        refine Z94 hfn ?_
        refine wpIn_mono (F := FW (some lp)) hw0 ?_
        rintro e a1 w1 ⟨rfl, E1, H1, hfa, hia1, hbody⟩
        obtain ⟨hbr, hb1, hout2⟩ := beg a1 w1 H1 hia1
        have hs2 := hb1.self (Hm := H1) (Pick.skip (Yq _)) rfl
        refine ⟨rfl, _, hbr, ?_⟩
        have hwp := hbody _ hs2 hout2 (hb1.pick (H' := H1) (Pick.skip (Yq _))) a1 _ hfa hs2
        refine wpIn_mono (F := FW (some lp)) hwp ?_
        intro e a3 w3 hq
        cases e with
        | panic ch =>
          obtain ⟨-, rfl, hd, hi3⟩ := hq
          refine ⟨_, rfl, hd, rfl, ?_⟩
          have h2 := hb1.join (Hm := H1) (R := [(some lp, recO f a.tmps ps assign body rr .busy none)]) (M' := ids H1) ((List.perm_append_singleton _ _).symm) (fun m hm => hm) hi3
          have h2 := h2.pick Zh
          rw [← hHs] at h2; exact h2
        | normal => obtain ⟨s', _, h, _⟩ := hq; cases h
        | ret => exact hq.elim
        | exit _ => exact hq.elim
        | goto _ => exact hq.elim
        | outgrown => exact hq.elim
      | inl s' =>
        refine roundIn_of_wpIn trivial ?_
        refine wpIn_mono (F := FW (some lp)) hw0 ?_
        rintro e a1 w1 ⟨rfl, E1, H1, hfa, hia1, hbody⟩
        obtain ⟨hbr, hb1, hout2⟩ := beg a1 w1 H1 hia1
        have hs2 := hb1.self (Hm := H1) (Pick.skip (Yq _)) rfl
        refine ⟨_, hbr, ?_⟩
        have hwp := hbody _ hs2 hout2 (hb1.pick (H' := H1) (Pick.skip (Yq _))) a1 _ hfa hs2
        refine wpIn_mono (F := FW (some lp)) hwp ?_
        intro e a3 w3 hq
        cases e with
        | normal =>
          obtain ⟨s2, Hs', h, ⟨Hs4, rfl, hJ'⟩, hi3⟩ := hq
          cases h
          have h2 := hb1.join (Hm := H1) (R := [(some lp, recO f a.tmps ps assign body rr .busy none)]) (M' := ids H1) ((List.perm_append_singleton _ _).symm) (fun m hm => hm) hi3
          have h2 := h2.perm (List.perm_append_singleton _ _)
          have h3 := h2.own lp _ (.head _)
          have h4 := h2.put (recO f a.tmps ps assign body rr .ready none)
          rw [← hHs] at h4
          exact ⟨_, _, run_endRound none h3, _, ⟨Hs4, rfl, hJ'⟩, rfl, h4⟩
        | panic ch => obtain ⟨h, _⟩ := hq; cases h
        | ret => exact hq.elim
        | exit _ => exact hq.elim
        | goto _ => exact hq.elim
        | outgrown => exact hq.elim
end control
end Go.Acq
namespace Go.Acq
open Go Go.RowKit
abbrev dfD (f : FuncId) (fs cs : Array Value) : Deferred := { target := .fn (.func f) cs, args := fs }
section control
variable {C : Cx} {f : FuncId} {Q : Exit → Act → World → Prop} {E E' : Env} {H H' : Heap} {x y c : Code}
theorem AtF.block {P : Program} {id : Nat} {a : Act} {w : World} (h : AtF f P c (Exit.inBlock id Q) a w) : AtF f P (.block id c) Q a w := by
 intro b k cs hb hro
 have i0 : (lone (b.atR a (.code (.block id c) :: k)) cs w).fenced P Fence.wide := fenced_wide P _
 have i1 : ∀ a w, (lone (b.atR a (.inBlock id :: k)) cs w).fenced P Fence.wide := fun _ _ => fenced_wide P _
 obtain ⟨e, a₁, w₁, hq, harr⟩ := h b (.inBlock id :: k) cs hb hro
 cases e with
 | normal => exact ⟨.normal, a₁, w₁, hq, .head i0 stepR_block (StepsIn.trans harr (.one (i1 _ _) stepR_inBlock))⟩
 | exit j =>
  by_cases hj : j = id
  ·
   subst hj
   simp only [Exit.inBlock, if_true] at hq
   exact ⟨.normal, a₁, w₁, hq, .head i0 stepR_block (harr.1 k (by simp [exitTo]))⟩
  ·
   simp only [Exit.inBlock, if_neg hj] at hq
   have hne : (id == j) = false := by simp; exact fun h => hj h.symm
   have hx : exitTo j (.inBlock id :: k) = exitTo j k := by simp [exitTo, hne]
   refine ⟨.exit j, a₁, w₁, hq, fun k' hk => .head i0 stepR_block (harr.1 k' (hx.trans hk)), fun hr' _ => by rw [hro] at hr'; cases hr'⟩
 | goto l =>
  have hx : gotoIn l (.inBlock id :: k) = gotoIn l k := by simp [gotoIn]
  exact ⟨_, a₁, w₁, hq, fun k' hk => .head i0 stepR_block (harr.1 k' (hx.trans hk)), fun hr' _ => by rw [hro] at hr'; cases hr'⟩
 | ret => exact ⟨_, a₁, w₁, hq, .of_steps (.one i0 stepR_block) harr⟩
 | panic ch => exact ⟨_, a₁, w₁, hq, .of_steps (.one i0 stepR_block) harr⟩
 | outgrown => exact ⟨_, a₁, w₁, hq, .of_steps (.one i0 stepR_block) harr⟩
theorem TA.block {id : Nat} (h : TA C f c (Exit.inBlock id Q) E H) : TA C f (.block id c) Q E H := fun a w hf hi => AtF.block (h a w hf hi)
theorem Z3s (hE : AllF E' E) (h : TA C f c Q E' H) : TA C f c Q E H := fun a w hf hi => h a w (hf.weak hE.sub) hi
theorem TA.perm (hp : List.Perm H H') (k : TA C f c Q E H') : TA C f c Q E H := fun a w hf hi => k a w hf (hi.perm hp)
theorem RQP.turn {S : Type} {J : S → Heap → Prop} {HE : Heap} {pv : Value} {r : S ⊕ Unit} {w0 : World} {M : List Nat} {e : Exit} {a : Act} {w : World}
    (h : RQP (fun s Hq => ∃ Hq', Hq = HE ++ Hq' ∧ J s Hq') pv r w0 M e a w) : RQP (fun s Hq => ∃ Hq', Hq = Hq' ++ HE ∧ J s Hq') pv r w0 M e a w := by
  cases e with
  | normal => obtain ⟨s, _, h1, ⟨Hq, rfl, hJ⟩, hi⟩ := h; exact ⟨s, _, h1, ⟨Hq, rfl, hJ⟩, hi.perm List.perm_append_comm⟩
  | panic _ => exact h
  | ret => exact h.elim
  | exit _ => exact h.elim
  | goto _ => exact h.elim
  | outgrown => exact h.elim
theorem Z6m {S V : Type} (hρ : C.ρ = none) {fnf : Func} (hfn : C.P.funcs[f]? = some fnf) {gop : Operand} {ps : Array Tmp} {assign body : Code} {fi : FuncId} {fs cs : Array Value} (hF : Ya C.P fi = true) (hg : ev E gop = some (.func (.func fi) fs cs))
    (hps : ps.toList.all (fun p => Nat.ble (p + 1) C.n) = true) (pv : Value) (en : World → List Nat → V → List Value → Prop) (hlen : ∀ w M v vals, en w M v vals → vals.length = ps.size)
    (y : S → V → Option (S ⊕ Unit)) (J : S → Heap → Prop) (EE EO : Heap → Prop) (s0 : S) (t : S ⊕ Unit) (Hs0 HE0 R : Heap) (hJ : J s0 Hs0) (hH : Pick ((HE0 ++ R) ++ Hs0) H)
    (it : ∀ (lp : Nat) (w : World) (J' : S ⊕ Unit → Heap → Prop) (H0 : Heap), (∀ u Hs, ¬ J' (.inr u) Hs) → J' (.inl s0) H0 → Inv w (ids (H0 ++ HE0)) w (H0 ++ HE0) → YCP C.P lp pv en y J' EE w (ids (H0 ++ HE0)) → ∀ lo, Inv C.w0 C.M w (((some lp, lo) :: (Hs0 ++ HE0)) ++ R) → H0 = (some lp, lo) :: Hs0 →
      FncS C.P fi (fs ++ #[.func (.yield lp) #[] #[]] ++ cs) w (ids (H0 ++ HE0)) pv t (fun s v N => v = .tuple #[] ∧ ∃ HE' Hs', N = HE' ++ Hs' ∧ J' (.inl s) Hs' ∧ EO HE'))
    (round : ∀ (lp : Nat) (w' : World) (s : S) (v : V) (r : S ⊕ Unit) (Hs HE : Heap) (vals : List Value), y s v = some r → J s Hs → EE HE → en w' (ids ((some lp, mkO) :: (Hs ++ HE))) v vals → Inv w' (ids (Hs ++ HE)) w' (Hs ++ HE) → Inv C.w0 C.M w' ((Hs ++ HE) ++ R) →
      T ⟨C.P, some lp, C.n, [], w', ids (Hs ++ HE)⟩ assign (AQX C.n w' (ids (Hs ++ HE)) fun E1 H1 => ∀ w2, Inv w2 (ids H1) w2 H1 → Inv C.w0 C.M w2 (H1 ++ R) → Inv w' (ids ((some lp, mkO) :: (Hs ++ HE))) w2 H1 → T ⟨C.P, some lp, C.n, [], w2, ids H1⟩ body (RQP (fun s Hq => ∃ Hq', Hq = HE ++ Hq' ∧ J s Hq') pv r w2 (ids H1)) E1 H1) (putPs ps.toList vals E) (HE ++ Hs))
    (next : ∀ s, t = .inl s → ∀ rr Hs HE, J s Hs → EO HE → Acq.X { C with D := mkD rr :: C.D } Q .normal E ((HE ++ ((some rr, mkO) :: R)) ++ Hs))
    (pan : t = .inr () → ∀ rr, Acq.X { C with D := mkD rr :: C.D } Q (.panic (Xs pv)) E ((some rr, mkO) :: R)) :
    TA C f (.rangeFunc gop ps assign body) Q E H := by
  have hpm : ∀ (Hs HE R : Heap), List.Perm ((Hs ++ HE) ++ R) ((HE ++ R) ++ Hs) := fun Hs HE R => by
    rw [List.append_assoc]; exact List.perm_append_comm
  refine Z7c hρ hfn hF hg hps pv en hlen y J EE EO s0 t Hs0 HE0 R hJ ?_ it ?_ ?_ pan
  · obtain ⟨S', ns, hn, hS⟩ := hH
    exact ⟨S', ns, hn, hS.trans ((hpm Hs0 HE0 R).symm.append_right S')⟩
  · intro lp w' s v r Hs HE vals hy hJ' hE hen h1 h2
    refine T.perm List.perm_append_comm ?_
    have h := round lp w' s v r Hs HE vals hy hJ' hE hen h1 h2
    intro a w hf hi
    refine wpIn_mono (F := FW (some lp)) (h a w hf hi) ?_
    rintro e a1 w1 ⟨rfl, E1, H1, hf1, hi1, hB⟩
    refine ⟨rfl, E1, H1, hf1, hi1, fun w2 k1 k2 k3 => ?_⟩
    intro a2 w3 hf2 hi2
    exact wpIn_mono (F := FW (some lp)) (hB w2 k1 k2 k3 a2 w3 hf2 hi2) fun e a w hq => RQP.turn hq
  · intro s hs rr Hs HE hJ' hE
    exact Acq.X.perm (hpm Hs HE _) (next s hs rr Hs HE hJ' hE)
theorem Z6j {P : Program} {f : FuncId} {fn : Func} {c : Code} {vs : List Value} {w : World} {M : List Nat} {H : Heap} {Post : Value → Heap → Prop}
    (hf : P.funcs[f]? = some fn) (hb : fn.body = some c) (hn : Nat.ble vs.length fn.ntmps = true) (hi : Inv w M w H)
    (h : TA ⟨P, none, fn.ntmps, [], w, M⟩ f c (bodyPostM (FW none) 0 P fn (Xd w M Post)) (Kb 0 vs) H) : Fnc P f vs.toArray w M Post := by
  have hn' := Nat.le_of_ble_eq_true hn
  refine callsIn_FW (ρ := none) (n := 0) |>.1 ⟨trivial, fun cs _ => ?_⟩
  obtain ⟨a0, ha0⟩ : ∃ a0 : Act, a0 = { tmps := vs.toArray ++ Array.replicate (fn.ntmps - vs.toArray.size) undef, defers := [] } := ⟨_, rfl⟩
  have hfit : Fits fn.ntmps [] (Kb 0 vs) a0 := by
    rw [ha0]
    refine ⟨by simp; omega, rfl, fun t v hv => ?_⟩
    obtain ⟨_, h2⟩ := Ln vs 0 t v hv
    rw [Nat.sub_zero] at h2
    have hlt := (List.getElem?_eq_some_iff.1 h2).1
    simp only [Array.getD_eq_getD_getElem?]
    rw [Array.getElem?_append_left (by simpa using hlt)]
    simp [h2]
  obtain ⟨b, hbd⟩ : ∃ b : Frame, b = { (default : Frame) with fn := f, kind := .normal, roundOf := none } := ⟨_, rfl⟩
  have e0 : Frame.enter P f vs.toArray .normal = b.atR a0 [.code c] := by rw [hbd, ha0]; simp [Frame.enter, Frame.atR, hf, hb]
  have hbf : b.fn = f := by rw [hbd]
  have hbr : b.roundOf = none := by rw [hbd]
  have hbk : b.kind = .normal := by rw [hbd]
  have hroom : ∀ k, (FW none).room k := fun k d hd => by cases hd
  obtain ⟨e, a', w', hq, harr⟩ := h a0 w hfit hi b [] cs hbf hbr
  rw [e0]
  have door : ∀ (u : FrameMode) (todo : List Item), LeavesInM (FW none) 0 P fn a'.tmps (Xd w M Post) a'.defers u w' → StepsIn (WideI P) P (lone (b.atR a0 [.code c]) cs w) (lone { b.atR a' todo with mode := u } cs w') →
      ∃ e w' fr, Xd w M Post e w' ∧ ComesIn (Machine.fenced P (FW none)) P (lone (b.atR a0 [.code c]) cs w) (lone fr cs w') e ∧ fr.fn = f ∧ fr.leaving P w' e := fun u todo hL hs => by
    obtain ⟨e', w'', fr', hR, hs2, hfn, hl⟩ := leaves_stepsInM a'.defers u w' { b.atR a' todo with mode := u } cs rfl rfl rfl (by show P.funcs[b.fn]? = _; rw [hbf]; exact hf) (by show b.kind = _; exact hbk) trivial (hroom _) hL
    exact ⟨e', w'', fr', hR, ComesIn.of_steps hs hs2, hfn.trans hbf, hl⟩
  cases e with
  | normal => exact door .returning [] hq (StepsIn.trans harr (.one (fenced_wide P _) (stepR_end hbr)))
  | ret => obtain ⟨todo, hs⟩ := harr.1 hbr; exact door .returning todo hq hs
  | panic ch => obtain ⟨todo, hs⟩ := harr; exact door (.panicking ch) todo hq hs
  | exit id => exact hq.elim
  | goto l => exact hq.elim
  | outgrown => obtain ⟨v, N, -, hv, -⟩ := hq; cases hv
end control
section rules
variable {C : Cx} {ops : Array Oper} {Q : Exit → Act → World → Prop} {l : List Nat} {E : Env} {H R : Heap} {i d : Nat} {ty : TypeId} {Zd : String} {af : Array Edge} {g : Option (Nat × Bool)}
theorem Z6z {x : Operand} {at' : Array TypeId} {f : FuncId} {fs cs : Array Value} (q0_ : ops[i]? = some ⟨none, .defer ⟨.value x, #[], at'⟩, ty, Zd, af, g⟩ ∧ Zi ops E g = true ∧ ev E x = some (.func (.func f) fs cs) ∧ C.ρ = none)
    (kk : TO { C with D := dfD f fs cs :: C.D } ops Q l E H) : TO C ops Q (i :: l) E H := by
  obtain ⟨ho, hg, hx, hρ⟩ := q0_
  intro a w hf hi
  have hw : Region.wanted (⟨none, .defer ⟨.value x, #[], at'⟩, ty, Zd, af, g⟩ : Oper) (yielded ops a.tmps) = true := Rt hf hg
  simp only [wpOpsIn, ho, hw, if_true, Oper.wpIn]
  refine ⟨fun _ _ => trivial, ?_⟩
  have hr : (FW C.ρ).round = none := by rw [hρ]; rfl
  rw [hr, Oper.semAt_none]
  have hrun : (execOp a.eval ⟨none, .defer ⟨.value x, #[], at'⟩, ty, Zd, af, g⟩).run C.P w = .ok (.defer (dfD f fs cs)) w := by
    simp [execOp, resolve, Deferred.ofValue, hf.ev hx]
  rw [hrun, Oper.uponIn_defer]
  exact kk _ w ⟨hf.size, by simp [Act.put, hf.defers], hf.get⟩ hi
theorem Z5z {x : Operand} {t t1 : TypeId} {v : Value} (hu : (match C.P.underlying t with | some (.struct _) => true | _ => false) = true) (q0_ : ops[i]? = some ⟨some d, .typeAssert x t1 t true, ty, Zd, af, g⟩ ∧ Zi ops E g = true ∧ Nat.ble (d + 1) C.n = true ∧ ev E x = some (.iface t v))
    (kk : TO C ops Q l ((d, .tuple #[v, .bool true]) :: E) H) : TO C ops Q (i :: l) E H := have ⟨ho, hg, hd, hx⟩ := q0_;
  TO.val ho hg hd (by simp) (fun a w hf _ => by
    have hr : (Instr.typeAssert (.iface t v) t1 t true).run C.P w = .ok (.tuple #[v, .bool true]) w := by
      cases h : C.P.underlying t with
      | none => rw [h] at hu; cases hu
      | some u =>
        rw [h] at hu
        unfold Instr.typeAssert
        simp only [Sem.run_bind, run_underlying h]
        cases u <;> first | (simp; done) | cases hu
    simp [execOp, hf.ev hx, hr]) kk
end rules
theorem Z3x {P : Program} {f : FuncId} {fn : Func} {id d : Nat} {at' : Array TypeId} {ty : TypeId} {Zd : String} {y : Code} {vs : List Value} {w : World} {M : List Nat} {H : Heap} {u u1 : FrameMode} {rv : Value} {K : World → Prop}
    (hf : P.funcs[f]? = some fn) (hb : fn.body = some (.seq (.region id #[⟨some d, .call ⟨.builtin .recover, #[], at'⟩, ty, Zd, #[], none⟩] false) y)) (hr : fn.results = #[]) (hn : Nat.ble vs.length fn.ntmps = true) (hd : Nat.ble (d + 1) fn.ntmps = true) (hi : Inv w M w H)
    (hu : (u = .returning ∧ rv = .nilIface ∧ u1 = .returning) ∨ (u = .panicking (Xs rv) ∧ u1 = .panicking [{ v := rv, recovered := true }]))
    (h : T ⟨P, none, fn.ntmps, [], w, M⟩ y (fun e a w' => (e = .normal ∨ e = .ret) ∧ a.defers = [] ∧ K w') ((d, rv) :: Kb 0 vs) H) :
    CallsDIn (FW none) 0 P f vs.toArray u w (fun e u' w' => (∃ v, e = .returned v) ∧ u' = u1 ∧ K w') := by
  have hn' := Nat.le_of_ble_eq_true hn
  refine callsDIn_of_wpSIn hf hb trivial fun c₀ cs hu0 => ?_
  refine wpSIn_seq (wpSIn_region ?_)
  obtain ⟨a0, ha0⟩ : ∃ a0 : Act, a0 = { tmps := vs.toArray ++ Array.replicate (fn.ntmps - vs.toArray.size) undef, defers := [] } := ⟨_, rfl⟩
  have hfit : Fits fn.ntmps [] (Kb 0 vs) a0 := by
    rw [ha0]
    refine ⟨by simp; omega, rfl, fun t v hv => ?_⟩
    obtain ⟨_, h2⟩ := Ln vs 0 t v hv
    rw [Nat.sub_zero] at h2
    have hlt := (List.getElem?_eq_some_iff.1 h2).1
    simp only [Array.getD_eq_getD_getElem?]
    rw [Array.getElem?_append_left (by simpa using hlt)]
    simp [h2]
  rw [← ha0]
  have hrun : (execOp a0.eval ⟨some d, .call ⟨.builtin .recover, #[], at'⟩, ty, Zd, #[], none⟩).run P w = .ok .recover w := by
    simp [execOp, resolve, invoke, go_sem]
  have fin : ∀ u2, u1 = u2 → wpOpsSIn (FW none) 0 P #[⟨some d, .call ⟨.builtin .recover, #[], at'⟩, ty, Zd, #[], none⟩] (Exit.thenS (y.wpSIn (FW none) 0 P (bodyPostS P fn c₀ cs fun e u' w' => (∃ v, e = .returned v) ∧ u' = u1 ∧ K w')) (bodyPostS P fn c₀ cs fun e u' w' => (∃ v, e = .returned v) ∧ u' = u1 ∧ K w')) [] (a0.put (some d) rv) ({ c₀ with mode := u2 } :: cs) w := fun u2 h2 => by
    subst h2
    show y.wpSIn (FW none) 0 P _ (a0.put (some d) rv) _ w
    refine wpSIn_of_wpIn rfl (wpIn_mono (h _ w (hfit.put hd rv) hi) ?_)
    rintro e a w' ⟨he, hdf, hK⟩
    have hres : (results fn a.tmps).run P w' = .ok (.tuple #[]) w' := by simp [results, hr]
    rcases he with rfl | rfl
    · exact ⟨hdf, u1, rfl, _, hres, ⟨_, rfl⟩, rfl, hK⟩
    · exact ⟨hdf, u1, rfl, _, hres, ⟨_, rfl⟩, rfl, hK⟩
  have hl : List.range (#[⟨some d, .call ⟨.builtin .recover, #[], at'⟩, ty, Zd, #[], none⟩] : Array Oper).size = [0] := rfl
  rw [hl]
  unfold wpOpsSIn
  simp only [List.getElem?_toArray, List.getElem?_cons_zero, Region.wanted, if_true]
  refine ⟨fun _ _ => trivial, ?_⟩
  rw [hrun]
  simp only
  rcases hu with ⟨rfl, rfl, rfl⟩ | ⟨rfl, rfl⟩
  · have : recoverD (c₀ :: cs) = none := by simp [recoverD, hu0]
    rw [this]
    have hc : ({ c₀ with mode := .returning } : Frame) = c₀ := by rw [← hu0]
    have := fin .returning rfl
    rw [hc] at this
    exact this
  · have : recoverD (c₀ :: cs) = some (rv, { c₀ with mode := .panicking [{ v := rv, recovered := true }] } :: cs) := by simp [recoverD, hu0, Xs]
    rw [this]
    exact fin _ rfl
theorem Z12 {P : Program} {fn : Func} {tmps : Array Value} {R : Ending → World → Prop} {w0 : World} {M : List Nat} {f : FuncId} {fs cs : Array Value} {u u1 : FrameMode} {H' : Heap} {K : World → World → Prop} (hu : u ≠ .run) (hs : settle u1 = .returning) (hF : Ya P f = true)
    (hc : ∀ w', Inv w0 M w' H' → CallsDIn (FW none) 0 P f (fs ++ cs) u w' (fun e u' w'' => (∃ v, e = .returned v) ∧ u' = u1 ∧ K w' w''))
    (hk : ∀ w' w'', Inv w0 M w' H' → K w' w'' → ∃ v, (results fn tmps).run P w'' = .ok v w'' ∧ R (.returned v) w'') : ∀ (ms : List Nat) (w : World), Inv w0 M w (markH ms ++ H') →
    LeavesInM (FW none) 0 P fn tmps R (ms.map mkD ++ [dfD f fs cs]) u w
  | [], w, hi => by
    refine ⟨hu, .inr ⟨(fun h => by cases h), .func f, cs, f, fs ++ cs, rfl, ?_, fun _ _ => trivial, ?_⟩⟩
    · show (callFunc f (fs ++ cs)).run P w = _
      exact Uq hF _ _
    · refine CallsDIn.mono (hc w hi) ?_
      rintro e u' w'' ⟨⟨v, rfl⟩, rfl, hK⟩
      show LeavesInM (FW none) 0 P fn tmps R [] (settle u') w''
      rw [hs]
      exact hk w w'' hi hK
  | r :: ms, w, hi => by
    refine ⟨hu, .inl ⟨r, _, rfl, run_takeDeferred (hi.own r _ (.head _)), ?_⟩⟩
    exact Z12 hu hs hF hc hk ms _ ((Inv.put hi (.deferred none)).pick (Pick.skip (Yq _)))
section ends
variable {C : Cx} {E : Env} {H H' N : Heap}
theorem X.retC {fn : Func} {rs : List ResultVar} {vs : List Value} {v : Value} {w0 : World} {M : List Nat} {Post : Value → Heap → Prop} {f : FuncId} {fs cs : Array Value} (ms : List Nat) (q0_ : C.ρ = none ∧ C.w0 = w0 ∧ C.M = M ∧ C.D = ms.map mkD ++ [dfD f fs cs] ∧ fn.results.toList = rs) (hF : Ya C.P f = true)
    (hc : ∀ w, CallsDIn (FW none) 0 C.P f (fs ++ cs) .returning w (fun e u' w' => (∃ v, e = .returned v) ∧ u' = .returning ∧ Inv w [] w' []))
    (hH : Pick (markH ms ++ H') H) (hr : ∀ (j : Nat) r u, rs[j]? = some r → vs[j]? = some u → Res { C with D := [] } E H' r u) (q1_ : rs.length = vs.length ∧ v = Nn vs)
    (hN : Pick N H') (hP : Post v N) : Acq.X C (bodyPostM (FW none) 0 C.P fn (Xd w0 M Post)) .ret E H := by
  obtain ⟨hρ, hw, hMM, hD, hfn⟩ := q0_; obtain ⟨hl, hv⟩ := q1_
  intro a w hf hi
  show LeavesInM (FW none) 0 C.P fn a.tmps (Xd w0 M Post) a.defers .returning w
  rw [hf.defers, hD]
  refine Z12 (w0 := C.w0) (M := C.M) (K := fun w w' => Inv w [] w' []) (u := .returning) (u1 := .returning) (H' := H') (by simp) rfl hF (fun w' _ => hc w') (fun w' w'' hi' hK => ?_) ms w (hi.pick hH)
  exact (X.ret (C := { C with D := [] }) (fn := fn) (Post := Post) hw hMM rfl hfn hr ⟨hl, hv⟩ hN hP { a with defers := [] } w'' ⟨hf.size, rfl, hf.get⟩ (hi'.join0 hK)).2
theorem Lg {fn : Func} {rs : List ResultVar} {vs : List Value} {v pv : Value} {w0 : World} {M : List Nat} {Post : Value → Heap → Prop} {f : FuncId} {fs cs : Array Value} {Hc Hc' R : Heap} (ms : List Nat) (q0_ : C.ρ = none ∧ C.w0 = w0 ∧ C.M = M ∧ C.D = ms.map mkD ++ [dfD f fs cs] ∧ fn.results.toList = rs) (hF : Ya C.P f = true)
    (hc : ∀ w, Inv w (ids Hc) w Hc → CallsDIn (FW none) 0 C.P f (fs ++ cs) (.panicking (Xs pv)) w (fun e u' w' => (∃ v, e = .returned v) ∧ u' = .panicking [{ v := pv, recovered := true }] ∧ Inv w (ids Hc) w' Hc'))
    (hH : Pick (markH ms ++ (Hc ++ R)) H) (hr : ∀ (j : Nat) r u, rs[j]? = some r → vs[j]? = some u → Res { C with D := [] } E (Hc' ++ R) r u) (q1_ : rs.length = vs.length ∧ v = Nn vs)
    (hN : Pick N (Hc' ++ R)) (hP : Post v N) : Acq.X C (bodyPostM (FW none) 0 C.P fn (Xd w0 M Post)) (.panic (Xs pv)) E H := by
  obtain ⟨hρ, hw, hMM, hD, hfn⟩ := q0_; obtain ⟨hl, hv⟩ := q1_
  intro a w hf hi
  show LeavesInM (FW none) 0 C.P fn a.tmps (Xd w0 M Post) a.defers (.panicking (Xs pv)) w
  rw [hf.defers, hD]
  refine Z12 (w0 := C.w0) (M := C.M) (K := fun w w' => Inv w (ids Hc) w' Hc') (u1 := .panicking [{ v := pv, recovered := true }]) (H' := Hc ++ R) (by simp) rfl hF (fun w' hi' => hc w' (hi'.self (Nx (List.Perm.refl _)) rfl)) (fun w' w'' hi' hK => ?_) ms w (hi.pick hH)
  have hj := hi'.join (List.Perm.refl _) (fun m hm => hm) hK
  exact (X.ret (C := { C with D := [] }) (fn := fn) (Post := Post) hw hMM rfl hfn hr ⟨hl, hv⟩ hN hP { a with defers := [] } w'' ⟨hf.size, rfl, hf.get⟩ hj).2
theorem Nl {r r' : ResultVar} {v v' : Value} (hr : Res C E H r v) (hr' : Res C E H r' v') : ∀ (j : Nat) q u, [r, r'][j]? = some q → [v, v'][j]? = some u → Res C E H q u := fun j q u h1 h2 => by
 match j with
 | 0 => simp at h1 h2; subst h1; subst h2; exact hr
 | 1 => simp at h1 h2; subst h1; subst h2; exact hr'
 | j + 2 => simp at h1
end ends
end Go.Acq
namespace Go.Acq
open Go Go.RowKit Go.Proofs Go.Shelf
theorem Z4o {l : Str} (h : l.all (fun b => decide (b.toNat < 128)) = true) : ∀ (j : Nat) b, (bs l).data.toList[j]? = some b → b.toNat < 128 := by rw [Wt]; exact ascii_of_all h
section fns
variable {P : Program} {ρ : Ren}
theorem Z9n (L : Lays.n161 P ρ) (h116 : (P.info? (ρ.t 116)).map (fun i => (i.zero, i.size)) = some (some (.agg (Array.replicate 256 (.bool false))), 256)) (s cs : Str) (hc : cs.length < 4294967281) (ha : cs.all (fun b => decide (b.toNat < 128)) = true) (w : World) :
    Fnc P (ρ.f 161) #[.string (bs s), .string (bs cs)] w [] (fun v N => v = .string (bs (Lib.trimLeftS s cs)) ∧ N = []) := by
  refine Calls.mono (Any.strings_TrimLeft_laid L h116 (bs s) (bs cs) w (by rw [bs_size]; exact hc) (Z4o ha)) ?_
  rintro e w' ⟨rfl, hb⟩
  rw [Wt, Wt]
  exact ⟨_, _, ⟨rfl, rfl⟩, rfl, Uw hb⟩
theorem Z93 (L : Lays.n160 P ρ) (h116 : (P.info? (ρ.t 116)).map (fun i => (i.zero, i.size)) = some (some (.agg (Array.replicate 256 (.bool false))), 256)) (s cs : Str) (hs : s.length ≤ 9223372036854775807) (hc : cs.length < 4294967281) (ha : cs.all (fun b => decide (b.toNat < 128)) = true) (w : World) :
    Fnc P (ρ.f 160) #[.string (bs s), .string (bs cs)] w [] (fun v N => v = .string (bs (Lib.trimS s cs)) ∧ N = []) := by
  refine Calls.mono (Any.strings_Trim_laid L h116 (bs s) (bs cs) w (by rw [bs_size]; exact hs) (by rw [bs_size]; exact hc) (Z4o ha)) ?_
  rintro e w' ⟨rfl, hb⟩
  rw [Wt, Wt]
  exact ⟨_, _, ⟨rfl, rfl⟩, rfl, Uw hb⟩
theorem Z85 (L : Lays.n105 P ρ) (X : Builder.Extra P ρ) (s : Str) (n : Int) (h0 : 0 ≤ n) (hn : n ≤ 9223372036854775807) (hl : s.length * n.toNat ≤ 140737488355328) (w : World) :
    Fnc P (ρ.f 105) #[.string (bs s), .int .i64 n] w [] (fun v N => v = .string (bs (Lib.repeatL s n.toNat)) ∧ N = []) := by
  obtain ⟨c, rfl⟩ := Int.eq_ofNat_of_zero_le h0
  refine Calls.mono (Any.strings_Repeat L X (bs s) c w (by omega) (by rw [bs_size]; exact hl)) ?_
  rintro e w' ⟨rfl, hb⟩
  rw [Wt]
  exact ⟨_, _, ⟨rfl, rfl⟩, rfl, Uw hb⟩
end fns
end Go.Acq
namespace Go.Acq
open Go
structure Net where
  N : Int
  S : Int
  T : Int
  Arcs : List Arc
  deriving DecidableEq
instance : Inhabited Net := ⟨⟨default, default, default, default⟩⟩
structure Csr where
  N : Int
  S : Int
  T : Int
  First : List Int
  Head : List Int
  Rev : List Int
  Cap : List Int
  Arc : List Int
  Back : List Bool
  deriving DecidableEq
instance : Inhabited Csr := ⟨⟨default, default, default, default, default, default, default, default, default⟩⟩
def Z2d  : Option (Unit) :=
  some ()
def Z25  : Option (Unit) :=
  some ()
def Z17  : Option (Unit) :=
  Option.bind Z2d fun _ =>
  Option.bind Z25 fun _ =>
  some ()
def Z1g (n0 : Net) : Option (Bool) :=
  if 2 ≤ n0.N then
  (some (decide (n0.N ≤ 4096)))
  else
  some false
def Z14 (n0 : Net) : Option (Bool) :=
  some (decide ((n0.Arcs.length : Int) ≤ 16384))
def Nm (n0 : Net) (v1 : Int) : Option (Bool) :=
  if 0 ≤ v1 then
  (some (decide (v1 < n0.N)))
  else
  some false
def Z2k (n0 : Net) : Option (Bool) :=
  Option.bind (Nm n0 n0.S) fun r3 =>
  if r3 = true then
  (Option.bind (Nm n0 n0.T) fun r6 =>
  if r6 = true then
  (some (decide (n0.S ≠ n0.T)))
  else
  some false)
  else
  some false
def Z28 (n0 : Net) (a1 : Arc) : Option (Bool) :=
  Option.bind (Nm n0 a1.fr) fun r5 =>
  if r5 = true then
  (Option.bind (Nm n0 a1.to) fun r8 =>
  some r8)
  else
  some false
def Z1b (a0 : Arc) (c2 : Net) : Option (Bool) :=
  Option.bind (Z28 c2 a0) fun r3 =>
  some (!r3)
def Z0g (s0 : List Arc) (a0 : Net) (x1 : Int) : Option ((Int) ⊕ (Int ⊕ Unit)) :=
  if x1 < (s0.length : Int) then
  (gd (inb x1 s0.length) <|
  Option.bind (Z1b (s0.getD x1.toNat default) a0) fun r4 =>
  if r4 = true then
  (some (.inr (.inl x1)))
  else
  gd (i64ok (x1 + 1)) <|
  some (.inl (x1 + 1)))
  else
  some (.inr (.inr ()))
def Z1v  : Option (Int) :=
  some (-1)
def Z1c (s0 : List Arc) (a0 : Net) : Option (Int) :=
  Option.bind (Wp (fun s => Z0g s0 a0 s) Kc 0) fun o => match o with | .inl p1_0_0 => (some p1_0_0) | .inr () => Z1v
def Z35 (s0 : List Arc) (a0 : Net) : Option (Bool) :=
  Option.bind (Z1c s0 a0) fun r1 =>
  some (decide (0 ≤ r1))
def Z16 (n0 : Net) : Option (Bool) :=
  Option.bind (Z35 n0.Arcs n0) fun r3 =>
  some (!r3)
def Z20 (n0 : Net) (a1 : Arc) : Option (Bool) :=
  some (decide (0 ≤ a1.cap))
def Z2s (a0 : Arc) (c2 : Net) : Option (Bool) :=
  Option.bind (Z20 c2 a0) fun r3 =>
  some (!r3)
def Rr (s0 : List Arc) (a0 : Net) (x1 : Int) : Option ((Int) ⊕ (Int ⊕ Unit)) :=
  if x1 < (s0.length : Int) then
  (gd (inb x1 s0.length) <|
  Option.bind (Z2s (s0.getD x1.toNat default) a0) fun r4 =>
  if r4 = true then
  (some (.inr (.inl x1)))
  else
  gd (i64ok (x1 + 1)) <|
  some (.inl (x1 + 1)))
  else
  some (.inr (.inr ()))
def Z2o  : Option (Int) :=
  some (-1)
def Z31 (s0 : List Arc) (a0 : Net) : Option (Int) :=
  Option.bind (Wp (fun s => Rr s0 a0 s) Kc 0) fun o => match o with | .inl p1_0_0 => (some p1_0_0) | .inr () => Z2o
def Z27 (s0 : List Arc) (a0 : Net) : Option (Bool) :=
  Option.bind (Z31 s0 a0) fun r1 =>
  some (decide (0 ≤ r1))
def Z1z (n0 : Net) : Option (Bool) :=
  Option.bind (Z27 n0.Arcs n0) fun r3 =>
  some (!r3)
def Z0n (n0 : Net) (a0 x4 : Int) (a1 : Bool) : Option ((Int × Int) ⊕ ((Int × Bool) ⊕ Int)) :=
  if a1 = true then
  (some (.inr (.inl (0, false))))
  else
  gd (i64ok (a0 - ((n0.Arcs.getD x4.toNat default).cap))) <|
  gd (i64ok (x4 + 1)) <|
  some (.inl ((a0 - ((n0.Arcs.getD x4.toNat default).cap)), (x4 + 1)))
def Rl (n0 : Net) (a0 x4 : Int) : Option ((Int × Int) ⊕ ((Int × Bool) ⊕ Int)) :=
  if x4 < (n0.Arcs.length : Int) then
  (gd (inb x4 n0.Arcs.length) <|
  if ((n0.Arcs.getD x4.toNat default).cap) < 0 then
  (Z0n n0 a0 x4 true)
  else
  Z0n n0 a0 x4 (decide (a0 < ((n0.Arcs.getD x4.toNat default).cap))))
  else
  some (.inr (.inr a0))
def Z2p (a0 : Int) : Option (Int × Bool) :=
  gd (i64ok (4611686018427387904 - a0)) <|
  some ((4611686018427387904 - a0), true)
def Z18 (n0 : Net) : Option (Int × Bool) :=
  Option.bind (Wp (fun s => Rl n0 s.1 s.2) Kc (4611686018427387904, 0)) fun o => match o with | .inl (p1_0_0, p1_0_1) => (some (p1_0_0, p1_0_1)) | .inr p1_1_0 => (Z2p p1_1_0)
def Z2v (n0 : Net) : Option (Bool) :=
  Option.bind (Z18 n0) fun (r3, r4) =>
  some r4
def Z2n  : Option (Int) :=
  some 0
def Z2w (n0 : Net) : Option (Int) :=
  Option.bind Z17 fun _ =>
  Option.bind (Z1g n0) fun a0 =>
  if (!a0) = true then
  (some 10)
  else
  Option.bind (Z14 n0) fun a1 =>
  if (!a1) = true then
  (some 11)
  else
  Option.bind (Z2k n0) fun a2 =>
  if (!a2) = true then
  (some 12)
  else
  Option.bind (Z16 n0) fun a3 =>
  if (!a3) = true then
  (some 13)
  else
  Option.bind (Z1z n0) fun a4 =>
  if (!a4) = true then
  (some 14)
  else
  Option.bind (Z2v n0) fun a5 =>
  if (!a5) = true then
  (some 15)
  else
  Z2n
end Go.Acq
namespace Go.Acq
open Go
structure Hop where
  Arc : Int
  Back : Bool
  deriving DecidableEq
instance : Inhabited Hop := ⟨⟨default, default⟩⟩
end Go.Acq
namespace Go.Acq
open Go
end Go.Acq
namespace Go.Acq
open Go
structure BytesBuffer where
  buf : List Int
  off : Int
  lastRead : Int
  deriving DecidableEq
instance : Inhabited BytesBuffer := ⟨⟨default, default, default⟩⟩
def Lr (c0 : Int) : Option (Bool) :=
  if c0 = 9 then
  (some true)
  else
  if c0 = 13 then
  (some true)
  else
  some (decide (c0 = 32))
def Z0p (x : Nat) : Bool := decide (Lr (x : Int) = some true)
def Z2l (s0 : Str) : Option (List Str) :=
  gd (s0.length ≤ 4294967296) <| some (Z02 Z0p s0)
def Z32 (a0 : List Int) : Option (List Str) :=
  Option.bind (Z2l (bu a0)) fun r1 =>
  some r1
def Nh (c0 : Int) : Option (Bool) :=
  if c0 < 48 then
  (some true)
  else
  some (decide (57 < c0))
def Jk (x : Nat) : Bool := decide (Nh (x : Int) = some true)
def Rn (s0 : Str) : Option (Bool) :=
  some (Lb Jk s0)
def Rf (s0 : Str) (i1 i2 : Int) : Option (Int × Bool) :=
  gd (s0.length ≤ 281474976710656 ∧ i1 = 10 ∧ i2 = 64) <| some (Lh s0)
def Gl (s0 : Str) (x4 : Bool) : Option (Int × Bool) :=
  if x4 = true then
  (some (0, false))
  else
  Option.bind (Rf s0 10 64) fun (r6, r7) =>
  if (!r7) = true then
  (some (0, false))
  else
  some (r6, true)
def Vw (s0 : Str) : Option (Int × Bool) :=
  if 19 < (s0.length : Int) then
  (Gl s0 true)
  else
  Option.bind (Rn s0) fun r2 =>
  Gl s0 r2
def Z0j (i0 i1 : Int) : Option (Str) :=
  gd (i64ok i0 ∧ i1 = 10) <| some (Xl i0)
def Z2i (s0 a1 : List Int) (a0 : Int) : Option (Unit) :=
  some ()
def Z1t (s0 a0 : List Int) : Option (Unit) :=
  Option.bind (Z2i s0 a0 0) fun _ =>
  some ()
def Z2c (b0 : List Int) (c1 : Int) : Option (Int) :=
  some (idxT b0 c1)
def Z33 (s0 a0 : List Int) : Option (Int) :=
  if (a0.length : Int) = 0 then
  (none)
  else
  if (a0.length : Int) = 1 then
  (gd (inb 0 a0.length) <|
  Option.bind (Z2c s0 (a0.getD (0 : Int).toNat 0)) fun r4 =>
  some r4)
  else
  none
def Z04 {S_ X_ : Type} (a3 : S_ → List Int → Option (S_ ⊕ X_)) (c1 : List Int) (c3 : Int) (c4 : List Int) (a2 : S_ ⊕ X_) : Option ((List Int × (S_ ⊕ X_)) ⊕ ((List Int × (S_ ⊕ X_)) ⊕ (S_ ⊕ X_))) :=
  Option.bind (Z33 c4 c1) fun a0 =>
  if a0 < 0 then
  (some (.inr (.inl (c4, a2))))
  else
  gd (i64ok (a0 + c3)) <|
  gd (0 ≤ (a0 + c3) ∧ (a0 + c3) ≤ (c4.length : Int)) <|
  gd (0 ≤ ((c4.take (a0 + c3).toNat).length : Int) ∧ ((c4.take (a0 + c3).toNat).length : Int) ≤ ((c4.take (a0 + c3).toNat).length : Int)) <|
  Option.bind (Ra a3 a2 ((c4.take (a0 + c3).toNat).take ((c4.take (a0 + c3).toNat).length : Int).toNat)) fun a1 =>
  if (!a1.isLeft) = true then
  (some (.inr (.inr a1)))
  else
  gd (i64ok (a0 + (c1.length : Int))) <|
  gd (0 ≤ (a0 + (c1.length : Int)) ∧ (a0 + (c1.length : Int)) ≤ (c4.length : Int)) <|
  some (.inl ((c4.drop (a0 + (c1.length : Int)).toNat), a1))
def Z1e {S_ X_ : Type} (a3 : S_ → List Int → Option (S_ ⊕ X_)) (a0 : List Int) (a1 : S_ ⊕ X_) : Option ((S_ ⊕ X_)) :=
  gd (0 ≤ (a0.length : Int) ∧ (a0.length : Int) ≤ (a0.length : Int)) <|
  Option.bind (Ra a3 a1 (a0.take (a0.length : Int).toNat)) fun a2 =>
  some a2
def Z2g {S_ X_ : Type} (a0 : S_ → List Int → Option (S_ ⊕ X_)) (c1 : List Int) (c2 : List Int) (c3 : Int) (a1 : S_ ⊕ X_) : Option ((S_ ⊕ X_)) :=
  Option.bind (Wp (fun s => Z04 a0 c1 c3 s.1 s.2) Kc (c2, a1)) fun o => match o with | .inl (p2_0_0, p2_0_1) => (Z1e a0 p2_0_0 p2_0_1) | .inr p2_1_0 => (some p2_1_0)
def Z1a {S_ X_ : Type} (a0 : S_ → List Int → Option (S_ ⊕ X_)) (c1 : List Int) (c2 : List Int) (c3 : Int) (a1 : S_ ⊕ X_) : Option ((S_ ⊕ X_)) :=
  if (c1.length : Int) = 0 then
  (none)
  else
  Z2g a0 c1 c2 c3 a1
end Go.Acq
namespace Go.Acq
open Go
structure DimacsReader where
  n : Net
  said : List (Str × Int)
  arcs : Int
  words : List Str
  deriving DecidableEq
instance : Inhabited DimacsReader := ⟨⟨default, default, default, default⟩⟩
def Xm (a0 : Bool) : Option (Unit ⊕ Unit) :=
  some (if a0 = true then .inl () else .inr ())
def Nj (a2 : DimacsReader) (a3 a1 a0 : Int) : Option ((Int) ⊕ Unit) :=
  gd (inb a3 a2.words.length) <|
  Option.bind (Vw (a2.words.getD a3.toNat ([] : Str))) fun (r2, r3) =>
  if r3 = true then
  (if a1 ≤ r2 then
  (Option.bind (Xm (decide (r2 ≤ a0))) fun t => match t with | .inl _ => (some (.inl r2)) | .inr _ => some (.inr ()))
  else
  Option.bind (Xm false) fun t => match t with | .inl _ => (none) | .inr _ => some (.inr ()))
  else
  Option.bind (Xm false) fun t => match t with | .inl _ => (none) | .inr _ => some (.inr ())
def Lt (r0 : DimacsReader) (n1 : Int) : Option ((Unit) ⊕ Unit) :=
  Option.bind (Xm (decide ((r0.words.length : Int) = n1))) fun t => match t with | .inl _ => (some (.inl ())) | .inr _ => some (.inr ())
def Lm (a0 : DimacsReader) (a1 : Int) : Option ((Int) ⊕ Unit) :=
  Option.bind (Nj a0 a1 1 a0.n.N) fun t => match t with | .inl r1 => (gd (i64ok (r1 - 1)) <| some (.inl (r1 - 1))) | .inr _ => some (.inr ())
def Rg (r0 : DimacsReader) (a0 : Str) : Option ((DimacsReader) ⊕ Unit) :=
  gd (i64ok ((Yn 0 a0 r0.said) + 1)) <|
  Option.bind (Xm (decide ((Yn 0 a0 (Yu a0 ((Yn 0 a0 r0.said) + 1) r0.said)) = 1))) fun t => match t with | .inl _ => (some (.inl (DimacsReader.mk r0.n (Yu a0 ((Yn 0 a0 r0.said) + 1) r0.said) r0.arcs r0.words))) | .inr _ => some (.inr ())
def Z1r (r0 : DimacsReader) : Option ((DimacsReader) ⊕ Unit) :=
  Option.bind (Lt r0 4) fun t => match t with | .inl _ => (Option.bind (Rg r0 ([112] : Str)) fun t => match t with | .inl r5 => (gd (inb 1 r0.words.length) <| Option.bind (Xm (decide ((r0.words.getD (1 : Int).toNat ([] : Str)) = ([109, 97, 120] : Str)))) fun t => match t with | .inl _ => (Option.bind (Nj (DimacsReader.mk r0.n r5.said r0.arcs r0.words) 2 0 2147483648) fun t => match t with | .inl a0 => (Option.bind (Nj (DimacsReader.mk r0.n r5.said r0.arcs r0.words) 3 0 2147483648) fun t => match t with | .inl a1 => (some (.inl (DimacsReader.mk (Net.mk a0 r0.n.S r0.n.T r0.n.Arcs) r5.said a1 r0.words))) | .inr _ => some (.inr ())) | .inr _ => some (.inr ())) | .inr _ => some (.inr ())) | .inr _ => some (.inr ())) | .inr _ => some (.inr ())
def Z0t (r0 : DimacsReader) : Option ((DimacsReader) ⊕ Unit) :=
  Option.bind (Lt r0 3) fun t => match t with | .inl _ => (Option.bind (Lm r0 1) fun t => match t with | .inl r5 => (gd (inb 2 r0.words.length) <| Option.bind (Rg r0 (r0.words.getD (2 : Int).toNat ([] : Str))) fun t => match t with | .inl r9 => (gd (inb 2 r0.words.length) <| if (r0.words.getD (2 : Int).toNat ([] : Str)) = ([115] : Str) then (some (.inl (DimacsReader.mk (Net.mk r0.n.N r5 r0.n.T r0.n.Arcs) r9.said r0.arcs r0.words))) else if (r0.words.getD (2 : Int).toNat ([] : Str)) = ([116] : Str) then (some (.inl (DimacsReader.mk (Net.mk r0.n.N r0.n.S r5 r0.n.Arcs) r9.said r0.arcs r0.words))) else Option.bind (Xm false) fun t => match t with | .inl _ => (none) | .inr _ => some (.inr ())) | .inr _ => some (.inr ())) | .inr _ => some (.inr ())) | .inr _ => some (.inr ())
def Z1x (r0 : DimacsReader) : Option ((DimacsReader) ⊕ Unit) :=
  Option.bind (Lt r0 4) fun t => match t with | .inl _ => (Option.bind (Lm r0 1) fun t => match t with | .inl r6 => (Option.bind (Lm r0 2) fun t => match t with | .inl r9 => (Option.bind (Nj r0 3 0 9223372036854775807) fun t => match t with | .inl a0 => (gd (apok (r0.n.Arcs ++ ([(Arc.mk r6 r9 a0)])).length 24) <| some (.inl (DimacsReader.mk (Net.mk r0.n.N r0.n.S r0.n.T (r0.n.Arcs ++ ([(Arc.mk r6 r9 a0)]))) r0.said r0.arcs r0.words))) | .inr _ => some (.inr ())) | .inr _ => some (.inr ())) | .inr _ => some (.inr ())) | .inr _ => some (.inr ())
def Rp (r0 : DimacsReader) (r4 : List Str) : Option ((DimacsReader) ⊕ Unit) :=
  Option.bind (Z1r (DimacsReader.mk r0.n r0.said r0.arcs r4)) fun t => match t with | .inl a0 => (some (.inl (DimacsReader.mk (Net.mk a0.n.N r0.n.S r0.n.T r0.n.Arcs) a0.said a0.arcs r4))) | .inr _ => some (.inr ())
def Z0d (r0 : DimacsReader) (r4 : List Str) : Option ((DimacsReader) ⊕ Unit) :=
  Option.bind (Z0t (DimacsReader.mk r0.n r0.said r0.arcs r4)) fun t => match t with | .inl a0 => (some (.inl (DimacsReader.mk (Net.mk r0.n.N a0.n.S a0.n.T r0.n.Arcs) a0.said r0.arcs r4))) | .inr _ => some (.inr ())
def Rb (r0 : DimacsReader) (r4 : List Str) : Option ((DimacsReader) ⊕ Unit) :=
  Option.bind (Z1x (DimacsReader.mk r0.n r0.said r0.arcs r4)) fun t => match t with | .inl a0 => (some (.inl (DimacsReader.mk (Net.mk r0.n.N r0.n.S r0.n.T a0.n.Arcs) a0.said r0.arcs r4))) | .inr _ => some (.inr ())
def Z2a (r0 : DimacsReader) (b1 : List Int) : Option ((DimacsReader) ⊕ Unit) :=
  Option.bind (Z32 b1) fun r4 =>
  if (r4.length : Int) = 0 then
  (some (.inl (DimacsReader.mk r0.n r0.said r0.arcs r4)))
  else
  gd (inb 0 r4.length) <|
  gd (inb 0 (r4.getD (0 : Int).toNat ([] : Str)).length) <|
  if (((r4.getD (0 : Int).toNat ([] : Str)).getD (0 : Int).toNat 0).toNat : Int) = 99 then
  (some (.inl (DimacsReader.mk r0.n r0.said r0.arcs r4)))
  else
  gd (inb 0 r4.length) <|
  if (r4.getD (0 : Int).toNat ([] : Str)) = ([112] : Str) then
  (if (r4.getD (0 : Int).toNat ([] : Str)) = ([112] : Str) then
  (Option.bind (Xm true) fun t => match t with | .inl _ => (Rp r0 r4) | .inr _ => some (.inr ()))
  else
  Option.bind (Xm (decide ((Yn 0 ([112] : Str) r0.said) = 1))) fun t => match t with | .inl _ => (Rp r0 r4) | .inr _ => some (.inr ()))
  else
  if (r4.getD (0 : Int).toNat ([] : Str)) = ([110] : Str) then
  (if (r4.getD (0 : Int).toNat ([] : Str)) = ([112] : Str) then
  (Option.bind (Xm true) fun t => match t with | .inl _ => (Z0d r0 r4) | .inr _ => some (.inr ()))
  else
  Option.bind (Xm (decide ((Yn 0 ([112] : Str) r0.said) = 1))) fun t => match t with | .inl _ => (Z0d r0 r4) | .inr _ => some (.inr ()))
  else
  if (r4.getD (0 : Int).toNat ([] : Str)) = ([97] : Str) then
  (if (r4.getD (0 : Int).toNat ([] : Str)) = ([112] : Str) then
  (Option.bind (Xm true) fun t => match t with | .inl _ => (Rb r0 r4) | .inr _ => some (.inr ()))
  else
  Option.bind (Xm (decide ((Yn 0 ([112] : Str) r0.said) = 1))) fun t => match t with | .inl _ => (Rb r0 r4) | .inr _ => some (.inr ()))
  else
  Option.bind (Xm false) fun t => match t with | .inl _ => (none) | .inr _ => some (.inr ())
def Le (a4 a5 n22 : Int) (a6 : List Arc) (a3 : List (Str × Int)) (a1 : Int) (a0 : List Str) (a7 : List Int) : Option ((Int × Int × Int × List Arc × (List (Str × Int)) × Int × List Str) ⊕ (Unit)) :=
  Option.bind (Z2a (DimacsReader.mk (Net.mk a4 a5 n22 a6) a3 a1 a0) a7) fun t => match t with | .inl a2 => (some (.inl (a2.n.N, a2.n.S, a2.n.T, a2.n.Arcs, a2.said, a2.arcs, a2.words))) | .inr _ => some (.inr ())
def Z1j (b0 : List Int) : Option (Net × Bool) :=
  Option.bind (Z1t b0 ([10])) fun _ =>
  Option.bind (Z1a (fun s v => Le s.1 s.2.1 s.2.2.1 s.2.2.2.1 s.2.2.2.2.1 s.2.2.2.2.2.1 s.2.2.2.2.2.2 v) ([10]) b0 0 (.inl (0, 0, 0, [], ([] : List (Str × Int)), 0, []))) fun t => match t with | .inl (a4, a5, n22, a3, a0, a1, a2) => (if (Yn 0 ([112] : Str) a0) = 1 then (if (Yn 0 ([115] : Str) a0) = 1 then (if (Yn 0 ([116] : Str) a0) = 1 then (Option.bind (Xm (decide ((a3.length : Int) = a1))) fun t => match t with | .inl _ => (some ((Net.mk a4 a5 n22 a3), true)) | .inr _ => some ((Net.mk 0 0 0 ([])), false)) else Option.bind (Xm false) fun t => match t with | .inl _ => (none) | .inr _ => some ((Net.mk 0 0 0 ([])), false)) else Option.bind (Xm false) fun t => match t with | .inl _ => (none) | .inr _ => some ((Net.mk 0 0 0 ([])), false)) else Option.bind (Xm false) fun t => match t with | .inl _ => (none) | .inr _ => some ((Net.mk 0 0 0 ([])), false)) | .inr _ => (some ((Net.mk 0 0 0 ([])), false))
def Z0c (b0 : List Int) : Option (Net × Int) :=
  Option.bind (Z1j b0) fun (r3, r4) =>
  if (!r4) = true then
  (some ((Net.mk 0 0 0 ([])), 70))
  else
  Option.bind (Z2w r3) fun a0 =>
  if a0 ≠ 0 then
  (some ((Net.mk 0 0 0 ([])), a0))
  else
  some (r3, 0)
def Nt (s0 : Str) (a0 : Int) : Option (Bool) :=
  Option.bind (Z0c (ub s0)) fun (r8, r9) =>
  some (decide (r9 = a0))
def Rw (a0 b1 : Net) (a1 : Int) : Option ((Int) ⊕ (Bool ⊕ Unit)) :=
  if a1 < (a0.Arcs.length : Int) then
  (gd (inb a1 a0.Arcs.length) <|
  gd (inb a1 b1.Arcs.length) <|
  if (!decide (([(a0.Arcs.getD a1.toNat default).fr, (a0.Arcs.getD a1.toNat default).to, (a0.Arcs.getD a1.toNat default).cap] : List Int) = [(b1.Arcs.getD a1.toNat default).fr, (b1.Arcs.getD a1.toNat default).to, (b1.Arcs.getD a1.toNat default).cap])) = true then
  (some (.inr (.inl false)))
  else
  gd (i64ok (a1 + 1)) <|
  some (.inl (a1 + 1)))
  else
  some (.inr (.inr ()))
def Z1l  : Option (Bool) :=
  some true
def Z11 (a0 b1 : Net) : Option (Bool) :=
  if a0.N ≠ b1.N then
  (some false)
  else
  if a0.S ≠ b1.S then
  (some false)
  else
  if a0.T ≠ b1.T then
  (some false)
  else
  if (a0.Arcs.length : Int) ≠ (b1.Arcs.length : Int) then
  (some false)
  else
  Option.bind (Wp (fun s => Rw a0 b1 s) Kc 0) fun o => match o with | .inl p1_0_0 => (some p1_0_0) | .inr () => Z1l
def Re (a0 : Bool) : Option (Bool) :=
  some a0
def Z0h (a0 : Bool) : Option (Bool) :=
  if a0 = true then
  (Option.bind (Nt ([112, 32, 109, 97, 120, 32, 51, 32, 49, 10, 110, 32, 49, 32, 115, 10, 110, 32, 51, 32, 116, 10, 97, 32, 49, 32, 52, 32, 53, 10] : Str) 70) fun a1 =>
  Re a1)
  else
  Re false
def Z05 (a0 : Bool) : Option (Bool) :=
  if a0 = true then
  (Option.bind (Nt ([112, 32, 109, 97, 120, 32, 51, 32, 48, 10, 110, 32, 49, 32, 115, 10, 110, 32, 49, 32, 116, 10] : Str) 12) fun a1 =>
  Z0h a1)
  else
  Z0h false
def Z0k (a0 : Bool) : Option (Bool) :=
  if a0 = true then
  (Option.bind (Nt ([112, 32, 109, 97, 120, 32, 49, 32, 48, 10, 110, 32, 49, 32, 115, 10, 110, 32, 49, 32, 116, 10] : Str) 10) fun a1 =>
  Z05 a1)
  else
  Z05 false
def Gq  : Option (Bool) :=
  Option.bind (Z0c ([112, 32, 109, 97, 120, 32, 51, 32, 49, 10, 110, 32, 49, 32, 115, 10, 110, 32, 51, 32, 116, 10, 97, 32, 49, 32, 51, 32, 53])) fun (r4, r5) =>
  if r5 = 0 then
  (Option.bind (Z11 r4 (Net.mk 3 0 2 ([(Arc.mk 0 2 5)]))) fun a0 =>
  if a0 = true then
  (Option.bind (Nt ([112, 32, 109, 97, 120, 32, 51, 32, 49, 10, 110, 32, 49, 32, 115, 10, 110, 32, 51, 32, 116, 10] : Str) 70) fun a1 =>
  Z0k a1)
  else
  Z0k false)
  else
  some false
end Go.Acq
namespace Go.Acq
open Go
def Z0v (s0 : Str) (i1 : Int) : Option (Str) :=
  gd (0 ≤ i1 ∧ i1 ≤ 9223372036854775807 ∧ s0.length * i1.toNat ≤ 140737488355328) <| some (Lib.repeatL s0 i1.toNat)
def Z1f (s0 s1 : Str) : Option (Str) :=
  gd ((s0.length ≤ 9223372036854775807) ∧ s1.length < 4294967281 ∧ s1.all (fun b => decide (b.toNat < 128)) = true) <| some (Lib.trimS s0 s1)
def Z01 (s0 s1 : Str) : Option (Str) :=
  gd ((s0.length ≤ 9223372036854775807) ∧ s1.length < 4294967281 ∧ s1.all (fun b => decide (b.toNat < 128)) = true) <| some (Lib.trimLeftS s0 s1)
def Z0e (a0 : Bool) : Option (Bool) :=
  some a0
def Lp (a0 : Bool) : Option (Bool) :=
  if a0 = true then
  (Option.bind Gq fun a1 =>
  Z0e a1)
  else
  Z0e false
def Li (a0 a1 : Bool) : Option (Bool) :=
  if a1 = true then
  (Lp (!a0))
  else
  Lp false
def Gr (a1 a0 a2 : Bool) : Option (Bool) :=
  if a2 = true then
  (Li a0 (!a1))
  else
  Li a0 false
def Kp (s2 : Str) (a0 a1 a2 : Bool) : Option (Bool) :=
  if a2 = true then
  (Gr a0 a1 true)
  else
  Gr a0 a1 (decide (19 ≤ (s2.length : Int)))
def Z0f (a0 : Bool) : Option (Bool) :=
  some a0
def Z0m (a0 : Bool) : Option (Bool) :=
  if a0 = true then
  (Option.bind Gq fun a1 =>
  Z0f a1)
  else
  Z0f false
def Rs (a0 a1 : Bool) : Option (Bool) :=
  if a1 = true then
  (Z0m (!a0))
  else
  Z0m false
def Ru (a1 a0 a2 : Bool) : Option (Bool) :=
  if a2 = true then
  (Rs a0 (!a1))
  else
  Rs a0 false
def Lw (s2 : Str) (a0 a1 a2 : Bool) : Option (Bool) :=
  if a2 = true then
  (Ru a0 a1 true)
  else
  Ru a0 a1 (decide (19 ≤ (s2.length : Int)))
def Nf (s2 r9 a1 : Str) (a3 : Int) (a2 a0 : Bool) : Option (Bool) :=
  if a2 = true then
  (if (!a0) = true then
  (some false)
  else
  if a3 < 0 then
  (some false)
  else
  Option.bind (Z01 s2 ([48] : Str)) fun a8 =>
  Option.bind (Z0j a3 10) fun a9 =>
  Option.bind (Z01 a9 ([48] : Str)) fun b0 =>
  if ¬(a8 = b0) then
  (some false)
  else
  gd (slok (([45] : Str) ++ (r9 ++ a1)).length) <|
  Option.bind (Vw (([45] : Str) ++ (r9 ++ a1))) fun (b1, a4) =>
  Option.bind (Vw ([57, 50, 50, 51, 51, 55, 50, 48, 51, 54, 56, 53, 52, 55, 55, 53, 56, 48, 56] : Str)) fun (b3, a5) =>
  if a2 = true then
  (Kp s2 a4 a5 true)
  else
  Kp s2 a4 a5 (!a0))
  else
  gd (slok (([45] : Str) ++ (r9 ++ a1)).length) <|
  Option.bind (Vw (([45] : Str) ++ (r9 ++ a1))) fun (b5, a6) =>
  Option.bind (Vw ([57, 50, 50, 51, 51, 55, 50, 48, 51, 54, 56, 53, 52, 55, 55, 53, 56, 48, 56] : Str)) fun (b6, a7) =>
  if a2 = true then
  (Lw s2 a6 a7 true)
  else
  Lw s2 a6 a7 (!a0)
def Nd (s2 r9 a0 : Str) (a3 : Bool) : Option (Bool) :=
  if a3 = true then
  (some false)
  else
  Option.bind (Vw s2) fun (a1, a2) =>
  if 0 < (s2.length : Int) then
  (Option.bind (Z1f s2 ([48, 49, 50, 51, 52, 53, 54, 55, 56, 57] : Str)) fun a4 =>
  Nf s2 r9 a0 a1 a2 (decide (a4 = ([] : Str))))
  else
  Nf s2 r9 a0 a1 a2 false
def Z0r (s2 r9 a0 : Str) (a1 : Bool) : Option (Bool) :=
  Nd s2 r9 a0 a1
def Gv (s2 r9 a0 : Str) (a1 : Int) (a2 a3 : Bool) : Option (Bool) :=
  if a3 = true then
  (Nd s2 r9 a0 true)
  else
  if (!a2) = true then
  (Z0r s2 r9 a0 (decide (a1 ≠ 0)))
  else
  Z0r s2 r9 a0 false
def Gy (s2 r9 a0 : Str) (a1 : Int) (a2 a3 : Bool) : Option (Bool) :=
  Gv s2 r9 a0 a1 a2 a3
def Gp (a0 : Int) (s2 : Str) (n7 : Int) : Option (Bool) :=
  gd (i64ok (a0.tmod 26)) <|
  Option.bind (Z0v ([48] : Str) (a0.tmod 26)) fun r9 =>
  Option.bind (Z0j n7 10) fun a1 =>
  gd (slok (r9 ++ a1).length) <|
  Option.bind (Vw (r9 ++ a1)) fun (a3, a2) =>
  if (!(a2 == (decide (((r9 ++ a1).length : Int) ≤ 19)))) = true then
  (Gv s2 r9 a1 a3 a2 true)
  else
  if a2 = true then
  (Gy s2 r9 a1 a3 a2 (decide (a3 ≠ n7)))
  else
  Gy s2 r9 a1 a3 a2 false
def Z06 (n0 a0 : Int) (s2 : Str) : Option (Bool) :=
  if 30 < (s2.length : Int) then
  (Option.bind Gq fun r2 =>
  some r2)
  else
  if n0 < 0 then
  (gd (i64ok (n0 + 1)) <|
  gd (i64ok (-(n0 + 1))) <|
  Gp a0 s2 (-(n0 + 1)))
  else
  Gp a0 s2 n0
end Go.Acq
namespace Go.Proofs
open Go.Shelf
def Z8s : Go.Shelf.Ren := ⟨fun | 173 => 32 | 246 => 70 | 283 => 115 | 284 => 116 | 285 => 117 | 286 => 118 | 129 => 151 | 317 => 150 | 318 => 152 | 319 => 153 | 320 => 154 | 337 => 176 | 338 => 177 | n => n, fun | 2 => 2 | 3 => 3 | 9 => 9 | 4 => 4 | 171 => 159 | 0 => 0 | 53 => 156 | 37 => 25 | 5 => 5 | 173 => 162 | 212 => 184 | 51 => 153 | 20 => 20 | 213 => 185 | 46 => 110 | 232 => 224 | 233 => 225 | n => n, fun | 17 => 2 | 18 => 8 | 19 => 9 | n => n⟩
theorem Z6u : Go.Proofs.LaysM.n173 Tryz.prog Z8s := {
 mixed := by kernel_rfl
 f129 := Tryz.func151.trans (congrArg some (by kernel_rfl))
 f173 := Tryz.func32.trans (congrArg some (by kernel_rfl))
 f246 := Tryz.func70.trans (congrArg some (by kernel_rfl))
 f283 := Tryz.func115.trans (congrArg some (by kernel_rfl))
 f284 := Tryz.func116.trans (congrArg some (by kernel_rfl))
 f285 := Tryz.func117.trans (congrArg some (by kernel_rfl))
 f286 := Tryz.func118.trans (congrArg some (by kernel_rfl))
 f317 := Tryz.func150.trans (congrArg some (by kernel_rfl))
 f318 := Tryz.func152.trans (congrArg some (by kernel_rfl))
 f319 := Tryz.func153.trans (congrArg some (by kernel_rfl))
 f320 := Tryz.func154.trans (congrArg some (by kernel_rfl))
 f337 := Tryz.func176.trans (congrArg some (by kernel_rfl))
 f338 := Tryz.func177.trans (congrArg some (by kernel_rfl))
 t0 := Tryz.underlying0
 a0 := Tryz.isAgg0
 z0 := Tryz.sizeOf0
 v0 := Tryz.zeroValue0
 t2 := Tryz.underlying2
 a2 := Tryz.isAgg2
 z2 := Tryz.sizeOf2
 v2 := Tryz.zeroValue2
 t3 := Tryz.underlying3
 a3 := Tryz.isAgg3
 z3 := Tryz.sizeOf3
 v3 := Tryz.zeroValue3
 t4 := Tryz.underlying4
 a4 := Tryz.isAgg4
 z4 := Tryz.sizeOf4
 v4 := Tryz.zeroValue4
 t5 := Tryz.underlying5
 a5 := Tryz.isAgg5
 z5 := Tryz.sizeOf5
 v5 := Tryz.zeroValue5
 t9 := Tryz.underlying9
 a9 := Tryz.isAgg9
 z9 := Tryz.sizeOf9
 v9 := Tryz.zeroValue9
 t20 := Tryz.underlying20
 a20 := Tryz.isAgg20
 z20 := Tryz.sizeOf20
 v20 := Tryz.zeroValue20
 t37 := Tryz.underlying25
 a37 := Tryz.isAgg25
 z37 := Tryz.sizeOf25
 v37 := Tryz.zeroValue25
 t46 := Tryz.underlying110
 a46 := Tryz.isAgg110
 z46 := Tryz.sizeOf110
 v46 := Tryz.zeroValue110
 t51 := Tryz.underlying153
 a51 := Tryz.isAgg153
 z51 := Tryz.sizeOf153
 v51 := Tryz.zeroValue153
 t53 := Tryz.underlying156
 a53 := Tryz.isAgg156
 z53 := Tryz.sizeOf156
 v53 := Tryz.zeroValue156
 t171 := Tryz.underlying159
 a171 := Tryz.isAgg159
 z171 := Tryz.sizeOf159
 v171 := Tryz.zeroValue159
 t173 := Tryz.underlying162
 a173 := Tryz.isAgg162
 z173 := Tryz.sizeOf162
 v173 := Tryz.zeroValue162
 t212 := Tryz.underlying184
 a212 := Tryz.isAgg184
 z212 := Tryz.sizeOf184
 v212 := Tryz.zeroValue184
 t213 := Tryz.underlying185
 a213 := Tryz.isAgg185
 z213 := Tryz.sizeOf185
 t232 := Tryz.underlying224
 a232 := Tryz.isAgg224
 z232 := Tryz.sizeOf224
 v232 := Tryz.zeroValue224
 t233 := Tryz.underlying225
 a233 := Tryz.isAgg225
 z233 := Tryz.sizeOf225
 v233 := Tryz.zeroValue225
 g17 := by kernel_rfl
 g18 := by kernel_rfl
 g19 := by kernel_rfl
 i0 := by kernel_rfl
 i2 := by kernel_rfl
 i3 := by kernel_rfl
 i4 := by kernel_rfl
 i5 := by kernel_rfl
 i9 := by kernel_rfl
 i20 := by kernel_rfl
 i37 := by kernel_rfl
 i46 := by kernel_rfl
 i51 := by kernel_rfl
 i53 := by kernel_rfl
 i171 := by kernel_rfl
 i173 := by kernel_rfl
 i212 := by kernel_rfl
 i232 := by kernel_rfl
 i233 := by kernel_rfl
 m17 := by kernel_rfl
 m18 := by kernel_rfl
 m19 := by kernel_rfl }
def Z6l : Go.Shelf.Ren := ⟨fun | 174 => 73 | 247 => 120 | 245 => 121 | 287 => 156 | 279 => 157 | 280 => 158 | 281 => 159 | 282 => 160 | 321 => 178 | 322 => 179 | 316 => 180 | 171 => 45 | 205 => 181 | 243 => 86 | 246 => 70 | 283 => 115 | 284 => 116 | 285 => 117 | 286 => 118 | 129 => 151 | 317 => 150 | 318 => 152 | 319 => 153 | 320 => 154 | 337 => 176 | 338 => 177 | n => n, fun | 9 => 9 | 3 => 3 | 2 => 2 | 75 => 90 | 85 => 117 | 4 => 4 | 167 => 189 | 5 => 5 | 53 => 156 | 175 => 190 | 46 => 110 | 168 => 192 | 37 => 25 | 0 => 0 | 210 => 217 | 21 => 21 | 127 => 152 | 145 => 228 | 143 => 226 | 171 => 159 | 173 => 162 | 212 => 184 | 51 => 153 | 20 => 20 | 213 => 185 | 232 => 224 | 233 => 225 | 80 => 109 | n => n, fun | 15 => 6 | 16 => 7 | 17 => 2 | 18 => 8 | 19 => 9 | n => n⟩
theorem Z72 : Go.Proofs.LaysC.n174 Tryz.prog Z6l := {
 mixed := by kernel_rfl
 f129 := Tryz.func151.trans (congrArg some (by kernel_rfl))
 f171 := Tryz.func45.trans (congrArg some (by kernel_rfl))
 f174 := Tryz.func73.trans (congrArg some (by kernel_rfl))
 f205 := Tryz.func181.trans (congrArg some (by kernel_rfl))
 f243 := Tryz.func86.trans (congrArg some (by kernel_rfl))
 f245 := Tryz.func121.trans (congrArg some (by kernel_rfl))
 f246 := Tryz.func70.trans (congrArg some (by kernel_rfl))
 f247 := Tryz.func120.trans (congrArg some (by kernel_rfl))
 f279 := Tryz.func157.trans (congrArg some (by kernel_rfl))
 f280 := Tryz.func158.trans (congrArg some (by kernel_rfl))
 f281 := Tryz.func159.trans (congrArg some (by kernel_rfl))
 f282 := Tryz.func160.trans (congrArg some (by kernel_rfl))
 f283 := Tryz.func115.trans (congrArg some (by kernel_rfl))
 f284 := Tryz.func116.trans (congrArg some (by kernel_rfl))
 f285 := Tryz.func117.trans (congrArg some (by kernel_rfl))
 f286 := Tryz.func118.trans (congrArg some (by kernel_rfl))
 f287 := Tryz.func156.trans (congrArg some (by kernel_rfl))
 f316 := Tryz.func180.trans (congrArg some (by kernel_rfl))
 f317 := Tryz.func150.trans (congrArg some (by kernel_rfl))
 f318 := Tryz.func152.trans (congrArg some (by kernel_rfl))
 f319 := Tryz.func153.trans (congrArg some (by kernel_rfl))
 f320 := Tryz.func154.trans (congrArg some (by kernel_rfl))
 f321 := Tryz.func178.trans (congrArg some (by kernel_rfl))
 f322 := Tryz.func179.trans (congrArg some (by kernel_rfl))
 f337 := Tryz.func176.trans (congrArg some (by kernel_rfl))
 f338 := Tryz.func177.trans (congrArg some (by kernel_rfl))
 t0 := Tryz.underlying0
 a0 := Tryz.isAgg0
 z0 := Tryz.sizeOf0
 v0 := Tryz.zeroValue0
 t2 := Tryz.underlying2
 a2 := Tryz.isAgg2
 z2 := Tryz.sizeOf2
 v2 := Tryz.zeroValue2
 t3 := Tryz.underlying3
 a3 := Tryz.isAgg3
 z3 := Tryz.sizeOf3
 v3 := Tryz.zeroValue3
 t4 := Tryz.underlying4
 a4 := Tryz.isAgg4
 z4 := Tryz.sizeOf4
 v4 := Tryz.zeroValue4
 t5 := Tryz.underlying5
 a5 := Tryz.isAgg5
 z5 := Tryz.sizeOf5
 v5 := Tryz.zeroValue5
 t9 := Tryz.underlying9
 a9 := Tryz.isAgg9
 z9 := Tryz.sizeOf9
 v9 := Tryz.zeroValue9
 t20 := Tryz.underlying20
 a20 := Tryz.isAgg20
 z20 := Tryz.sizeOf20
 v20 := Tryz.zeroValue20
 t21 := Tryz.underlying21
 a21 := Tryz.isAgg21
 z21 := Tryz.sizeOf21
 v21 := Tryz.zeroValue21
 t37 := Tryz.underlying25
 a37 := Tryz.isAgg25
 z37 := Tryz.sizeOf25
 v37 := Tryz.zeroValue25
 t46 := Tryz.underlying110
 a46 := Tryz.isAgg110
 z46 := Tryz.sizeOf110
 v46 := Tryz.zeroValue110
 t51 := Tryz.underlying153
 a51 := Tryz.isAgg153
 z51 := Tryz.sizeOf153
 v51 := Tryz.zeroValue153
 t53 := Tryz.underlying156
 a53 := Tryz.isAgg156
 z53 := Tryz.sizeOf156
 v53 := Tryz.zeroValue156
 t75 := Tryz.underlying90
 a75 := Tryz.isAgg90
 z75 := Tryz.sizeOf90
 v75 := Tryz.zeroValue90
 t85 := Tryz.underlying117
 a85 := Tryz.isAgg117
 z85 := Tryz.sizeOf117
 v85 := Tryz.zeroValue117
 t127 := Tryz.underlying152
 a127 := Tryz.isAgg152
 z127 := Tryz.sizeOf152
 v127 := Tryz.zeroValue152
 t143 := Tryz.underlying226
 a143 := Tryz.isAgg226
 z143 := Tryz.sizeOf226
 v143 := Tryz.zeroValue226
 t145 := Tryz.underlying228
 a145 := Tryz.isAgg228
 z145 := Tryz.sizeOf228
 v145 := Tryz.zeroValue228
 t167 := Tryz.underlying189
 a167 := Tryz.isAgg189
 z167 := Tryz.sizeOf189
 v167 := Tryz.zeroValue189
 t168 := Tryz.underlying192
 a168 := Tryz.isAgg192
 z168 := Tryz.sizeOf192
 v168 := Tryz.zeroValue192
 t171 := Tryz.underlying159
 a171 := Tryz.isAgg159
 z171 := Tryz.sizeOf159
 v171 := Tryz.zeroValue159
 t173 := Tryz.underlying162
 a173 := Tryz.isAgg162
 z173 := Tryz.sizeOf162
 v173 := Tryz.zeroValue162
 t175 := Tryz.underlying190
 a175 := Tryz.isAgg190
 z175 := Tryz.sizeOf190
 v175 := Tryz.zeroValue190
 t210 := Tryz.underlying217
 a210 := Tryz.isAgg217
 z210 := Tryz.sizeOf217
 v210 := Tryz.zeroValue217
 t212 := Tryz.underlying184
 a212 := Tryz.isAgg184
 z212 := Tryz.sizeOf184
 v212 := Tryz.zeroValue184
 t213 := Tryz.underlying185
 a213 := Tryz.isAgg185
 z213 := Tryz.sizeOf185
 t232 := Tryz.underlying224
 a232 := Tryz.isAgg224
 z232 := Tryz.sizeOf224
 v232 := Tryz.zeroValue224
 t233 := Tryz.underlying225
 a233 := Tryz.isAgg225
 z233 := Tryz.sizeOf225
 v233 := Tryz.zeroValue225
 g15 := by kernel_rfl
 g16 := by kernel_rfl
 g17 := by kernel_rfl
 g18 := by kernel_rfl
 g19 := by kernel_rfl
 t80 := Tryz.underlying109
 a80 := Tryz.isAgg109
 z80 := Tryz.sizeOf109
 v80 := Tryz.zeroValue109
 i0 := by kernel_rfl
 i2 := by kernel_rfl
 i3 := by kernel_rfl
 i4 := by kernel_rfl
 i5 := by kernel_rfl
 i9 := by kernel_rfl
 i20 := by kernel_rfl
 i21 := by kernel_rfl
 i37 := by kernel_rfl
 i46 := by kernel_rfl
 i51 := by kernel_rfl
 i53 := by kernel_rfl
 i75 := by kernel_rfl
 i80 := by kernel_rfl
 i85 := by kernel_rfl
 i127 := by kernel_rfl
 i143 := by kernel_rfl
 i145 := by kernel_rfl
 i167 := by kernel_rfl
 i168 := by kernel_rfl
 i171 := by kernel_rfl
 i173 := by kernel_rfl
 i175 := by kernel_rfl
 i210 := by kernel_rfl
 i212 := by kernel_rfl
 i232 := by kernel_rfl
 i233 := by kernel_rfl
 m15 := by kernel_rfl
 m16 := by kernel_rfl
 m17 := by kernel_rfl
 m18 := by kernel_rfl
 m19 := by kernel_rfl
 c0 := by kernel_rfl
 c2 := by kernel_rfl
 c3 := by kernel_rfl
 c4 := by kernel_rfl
 c5 := by kernel_rfl
 c9 := by kernel_rfl
 c20 := by kernel_rfl
 c21 := by kernel_rfl
 c37 := by kernel_rfl
 c46 := by kernel_rfl
 c51 := by kernel_rfl
 c53 := by kernel_rfl
 c75 := by kernel_rfl
 c80 := by kernel_rfl
 c85 := by kernel_rfl
 c127 := by kernel_rfl
 c143 := by kernel_rfl
 c145 := by kernel_rfl
 c167 := by kernel_rfl
 c168 := by kernel_rfl
 c171 := by kernel_rfl
 c173 := by kernel_rfl
 c175 := by kernel_rfl
 c210 := by kernel_rfl
 c212 := by kernel_rfl
 c213 := by kernel_rfl
 c232 := by kernel_rfl
 c233 := by kernel_rfl }
def Z9a : Go.Shelf.Ren := ⟨fun | 229 => 146 | n => n, fun | 9 => 9 | 40 => 115 | 31 => 43 | 152 => 210 | 3 => 3 | 0 => 0 | 4 => 4 | 21 => 21 | 154 => 212 | n => n, fun | n => n⟩
theorem Z81 : Go.Proofs.Lays.n229 Tryz.prog Z9a := {
 mixed := by kernel_rfl
 f229 := Tryz.func146.trans (congrArg some (by kernel_rfl))
 t0 := Tryz.underlying0
 a0 := Tryz.isAgg0
 z0 := Tryz.sizeOf0
 v0 := Tryz.zeroValue0
 t3 := Tryz.underlying3
 a3 := Tryz.isAgg3
 z3 := Tryz.sizeOf3
 v3 := Tryz.zeroValue3
 t4 := Tryz.underlying4
 a4 := Tryz.isAgg4
 z4 := Tryz.sizeOf4
 v4 := Tryz.zeroValue4
 t9 := Tryz.underlying9
 a9 := Tryz.isAgg9
 z9 := Tryz.sizeOf9
 v9 := Tryz.zeroValue9
 t21 := Tryz.underlying21
 a21 := Tryz.isAgg21
 z21 := Tryz.sizeOf21
 v21 := Tryz.zeroValue21
 t31 := Tryz.underlying43
 a31 := Tryz.isAgg43
 z31 := Tryz.sizeOf43
 v31 := Tryz.zeroValue43
 t40 := Tryz.underlying115
 a40 := Tryz.isAgg115
 z40 := Tryz.sizeOf115
 v40 := Tryz.zeroValue115
 t152 := Tryz.underlying210
 a152 := Tryz.isAgg210
 z152 := Tryz.sizeOf210
 v152 := Tryz.zeroValue210
 t154 := Tryz.underlying212
 a154 := Tryz.isAgg212
 z154 := Tryz.sizeOf212
 v154 := Tryz.zeroValue212 }
def Z6n : Go.Shelf.Ren := ⟨fun | 17 => 72 | 15 => 119 | 20 => 155 | n => n, fun | 9 => 9 | 23 => 115 | 4 => 4 | 3 => 3 | 0 => 0 | 21 => 21 | n => n, fun | n => n⟩
theorem Z9t : Go.Proofs.LaysGw.n17 Tryz.prog Z6n := {
 mixed := by kernel_rfl
 f15 := Tryz.func119.trans (congrArg some (by kernel_rfl))
 f17 := Tryz.func72.trans (congrArg some (by kernel_rfl))
 f20 := Tryz.func155.trans (congrArg some (by kernel_rfl))
 t0 := Tryz.underlying0
 a0 := Tryz.isAgg0
 z0 := Tryz.sizeOf0
 v0 := Tryz.zeroValue0
 i0 := by kernel_rfl
 t3 := Tryz.underlying3
 a3 := Tryz.isAgg3
 z3 := Tryz.sizeOf3
 v3 := Tryz.zeroValue3
 i3 := by kernel_rfl
 t4 := Tryz.underlying4
 a4 := Tryz.isAgg4
 z4 := Tryz.sizeOf4
 v4 := Tryz.zeroValue4
 i4 := by kernel_rfl
 t9 := Tryz.underlying9
 a9 := Tryz.isAgg9
 z9 := Tryz.sizeOf9
 v9 := Tryz.zeroValue9
 i9 := by kernel_rfl
 t21 := Tryz.underlying21
 a21 := Tryz.isAgg21
 z21 := Tryz.sizeOf21
 v21 := Tryz.zeroValue21
 i21 := by kernel_rfl
 t23 := Tryz.underlying115
 a23 := Tryz.isAgg115
 z23 := Tryz.sizeOf115
 v23 := Tryz.zeroValue115
 i23 := by kernel_rfl }
def Z4w : Go.Shelf.Ren := ⟨fun | 105 => 31 | 212 => 67 | 99 => 68 | 165 => 63 | 166 => 64 | 170 => 69 | 169 => 65 | 263 => 112 | 264 => 113 | 206 => 114 | 240 => 109 | 241 => 110 | 276 => 148 | 277 => 149 | n => n, fun | 9 => 9 | 3 => 3 | 4 => 4 | 20 => 20 | 0 => 0 | 46 => 110 | 109 => 111 | 5 => 5 | 72 => 107 | 76 => 91 | 51 => 153 | 146 => 154 | 53 => 156 | 148 => 157 | 70 => 105 | 37 => 25 | 75 => 90 | 127 => 152 | 164 => 180 | 80 => 109 | n => n, fun | n => n⟩
theorem Z61 : Go.Proofs.Lays.n105 Tryz.prog Z4w := {
 mixed := by kernel_rfl
 f99 := Tryz.func68.trans (congrArg some (by kernel_rfl))
 f105 := Tryz.func31.trans (congrArg some (by kernel_rfl))
 f165 := Tryz.func63.trans (congrArg some (by kernel_rfl))
 f166 := Tryz.func64.trans (congrArg some (by kernel_rfl))
 f169 := Tryz.func65.trans (congrArg some (by kernel_rfl))
 f170 := Tryz.func69.trans (congrArg some (by kernel_rfl))
 f206 := Tryz.func114.trans (congrArg some (by kernel_rfl))
 f212 := Tryz.func67.trans (congrArg some (by kernel_rfl))
 f240 := Tryz.func109.trans (congrArg some (by kernel_rfl))
 f241 := Tryz.func110.trans (congrArg some (by kernel_rfl))
 f263 := Tryz.func112.trans (congrArg some (by kernel_rfl))
 f264 := Tryz.func113.trans (congrArg some (by kernel_rfl))
 f276 := Tryz.func148.trans (congrArg some (by kernel_rfl))
 f277 := Tryz.func149.trans (congrArg some (by kernel_rfl))
 t0 := Tryz.underlying0
 a0 := Tryz.isAgg0
 z0 := Tryz.sizeOf0
 v0 := Tryz.zeroValue0
 t3 := Tryz.underlying3
 a3 := Tryz.isAgg3
 z3 := Tryz.sizeOf3
 v3 := Tryz.zeroValue3
 t4 := Tryz.underlying4
 a4 := Tryz.isAgg4
 z4 := Tryz.sizeOf4
 v4 := Tryz.zeroValue4
 t5 := Tryz.underlying5
 a5 := Tryz.isAgg5
 z5 := Tryz.sizeOf5
 v5 := Tryz.zeroValue5
 t9 := Tryz.underlying9
 a9 := Tryz.isAgg9
 z9 := Tryz.sizeOf9
 v9 := Tryz.zeroValue9
 t20 := Tryz.underlying20
 a20 := Tryz.isAgg20
 z20 := Tryz.sizeOf20
 v20 := Tryz.zeroValue20
 t37 := Tryz.underlying25
 a37 := Tryz.isAgg25
 z37 := Tryz.sizeOf25
 v37 := Tryz.zeroValue25
 t46 := Tryz.underlying110
 a46 := Tryz.isAgg110
 z46 := Tryz.sizeOf110
 v46 := Tryz.zeroValue110
 t51 := Tryz.underlying153
 a51 := Tryz.isAgg153
 z51 := Tryz.sizeOf153
 v51 := Tryz.zeroValue153
 t53 := Tryz.underlying156
 a53 := Tryz.isAgg156
 z53 := Tryz.sizeOf156
 v53 := Tryz.zeroValue156
 t70 := Tryz.underlying105
 a70 := Tryz.isAgg105
 z70 := Tryz.sizeOf105
 v70 := Tryz.zeroValue105
 t72 := Tryz.underlying107
 a72 := Tryz.isAgg107
 z72 := Tryz.sizeOf107
 v72 := Tryz.zeroValue107
 t75 := Tryz.underlying90
 a75 := Tryz.isAgg90
 z75 := Tryz.sizeOf90
 v75 := Tryz.zeroValue90
 t76 := Tryz.underlying91
 a76 := Tryz.isAgg91
 z76 := Tryz.sizeOf91
 v76 := Tryz.zeroValue91
 t109 := Tryz.underlying111
 a109 := Tryz.isAgg111
 z109 := Tryz.sizeOf111
 v109 := Tryz.zeroValue111
 t127 := Tryz.underlying152
 a127 := Tryz.isAgg152
 z127 := Tryz.sizeOf152
 v127 := Tryz.zeroValue152
 t146 := Tryz.underlying154
 a146 := Tryz.isAgg154
 z146 := Tryz.sizeOf154
 v146 := Tryz.zeroValue154
 t148 := Tryz.underlying157
 a148 := Tryz.isAgg157
 z148 := Tryz.sizeOf157
 v148 := Tryz.zeroValue157
 t164 := Tryz.underlying180
 a164 := Tryz.isAgg180
 z164 := Tryz.sizeOf180
 v164 := Tryz.zeroValue180 }
theorem Z7z : Builder.Extra Tryz.prog Z4w := {
 sizeBuilder := by kernel_rfl
 liesBuilder := by kernel_rfl
 t5 := Tryz.underlying5
 a5 := Tryz.isAgg5
 z5 := Tryz.sizeOf5
 v5 := Tryz.zeroValue5
 infoByte := by kernel_rfl
 cellsByte := by kernel_rfl
 sizeByte := by kernel_rfl
 neB5 := by decide }
def Z9w : Go.Shelf.Ren := ⟨fun | 160 => 34 | 232 => 75 | 231 => 74 | 227 => 76 | 234 => 78 | 233 => 77 | 236 => 80 | 235 => 79 | 228 => 122 | 271 => 124 | 151 => 123 | 197 => 105 | 120 => 162 | 152 => 161 | 260 => 145 | 137 => 182 | 119 => 183 | 224 => 143 | 225 => 142 | 217 => 141 | 266 => 174 | n => n, fun | 9 => 9 | 4 => 4 | 3 => 3 | 5 => 5 | 117 => 122 | 116 => 121 | 0 => 0 | 124 => 125 | 21 => 21 | 105 => 148 | 46 => 110 | 119 => 206 | 139 => 209 | 138 => 208 | n => n, fun | 3 => 4 | 4 => 5 | n => n⟩
theorem Z8e : Go.Proofs.Lays.n160 Tryz.prog Z9w := {
 mixed := by kernel_rfl
 f119 := Tryz.func183.trans (congrArg some (by kernel_rfl))
 f120 := Tryz.func162.trans (congrArg some (by kernel_rfl))
 f137 := Tryz.func182.trans (congrArg some (by kernel_rfl))
 f151 := Tryz.func123.trans (congrArg some (by kernel_rfl))
 f152 := Tryz.func161.trans (congrArg some (by kernel_rfl))
 f160 := Tryz.func34.trans (congrArg some (by kernel_rfl))
 f197 := Tryz.func105.trans (congrArg some (by kernel_rfl))
 f217 := Tryz.func141.trans (congrArg some (by kernel_rfl))
 f224 := Tryz.func143.trans (congrArg some (by kernel_rfl))
 f225 := Tryz.func142.trans (congrArg some (by kernel_rfl))
 f227 := Tryz.func76.trans (congrArg some (by kernel_rfl))
 f228 := Tryz.func122.trans (congrArg some (by kernel_rfl))
 f231 := Tryz.func74.trans (congrArg some (by kernel_rfl))
 f232 := Tryz.func75.trans (congrArg some (by kernel_rfl))
 f233 := Tryz.func77.trans (congrArg some (by kernel_rfl))
 f234 := Tryz.func78.trans (congrArg some (by kernel_rfl))
 f235 := Tryz.func79.trans (congrArg some (by kernel_rfl))
 f236 := Tryz.func80.trans (congrArg some (by kernel_rfl))
 f260 := Tryz.func145.trans (congrArg some (by kernel_rfl))
 f266 := Tryz.func174.trans (congrArg some (by kernel_rfl))
 f271 := Tryz.func124.trans (congrArg some (by kernel_rfl))
 t0 := Tryz.underlying0
 a0 := Tryz.isAgg0
 z0 := Tryz.sizeOf0
 v0 := Tryz.zeroValue0
 t3 := Tryz.underlying3
 a3 := Tryz.isAgg3
 z3 := Tryz.sizeOf3
 v3 := Tryz.zeroValue3
 t4 := Tryz.underlying4
 a4 := Tryz.isAgg4
 z4 := Tryz.sizeOf4
 v4 := Tryz.zeroValue4
 t5 := Tryz.underlying5
 a5 := Tryz.isAgg5
 z5 := Tryz.sizeOf5
 v5 := Tryz.zeroValue5
 t9 := Tryz.underlying9
 a9 := Tryz.isAgg9
 z9 := Tryz.sizeOf9
 v9 := Tryz.zeroValue9
 t21 := Tryz.underlying21
 a21 := Tryz.isAgg21
 z21 := Tryz.sizeOf21
 v21 := Tryz.zeroValue21
 t46 := Tryz.underlying110
 a46 := Tryz.isAgg110
 z46 := Tryz.sizeOf110
 v46 := Tryz.zeroValue110
 t105 := Tryz.underlying148
 a105 := Tryz.isAgg148
 z105 := Tryz.sizeOf148
 v105 := Tryz.zeroValue148
 t116 := Tryz.underlying121
 a116 := Tryz.isAgg121
 z116 := Tryz.sizeOf121
 t117 := Tryz.underlying122
 a117 := Tryz.isAgg122
 z117 := Tryz.sizeOf122
 v117 := Tryz.zeroValue122
 t119 := Tryz.underlying206
 a119 := Tryz.isAgg206
 z119 := Tryz.sizeOf206
 t124 := Tryz.underlying125
 a124 := Tryz.isAgg125
 z124 := Tryz.sizeOf125
 v124 := Tryz.zeroValue125
 t138 := Tryz.underlying208
 a138 := Tryz.isAgg208
 z138 := Tryz.sizeOf208
 v138 := Tryz.zeroValue208
 t139 := Tryz.underlying209
 a139 := Tryz.isAgg209
 z139 := Tryz.sizeOf209
 v139 := Tryz.zeroValue209
 g3 := by kernel_rfl
 g4 := by kernel_rfl }
def Z8i : Go.Shelf.Ren := ⟨fun | 161 => 35 | 231 => 74 | 227 => 76 | 233 => 77 | 235 => 79 | 228 => 122 | 197 => 105 | 151 => 123 | 260 => 145 | 152 => 161 | 137 => 182 | 119 => 183 | 224 => 143 | 225 => 142 | 217 => 141 | 266 => 174 | n => n, fun | 9 => 9 | 4 => 4 | 3 => 3 | 5 => 5 | 117 => 122 | 116 => 121 | 0 => 0 | 124 => 125 | 105 => 148 | 21 => 21 | 119 => 206 | 46 => 110 | 139 => 209 | 138 => 208 | n => n, fun | 3 => 4 | 4 => 5 | n => n⟩
theorem Z5v : Go.Proofs.Lays.n161 Tryz.prog Z8i := {
 mixed := by kernel_rfl
 f119 := Tryz.func183.trans (congrArg some (by kernel_rfl))
 f137 := Tryz.func182.trans (congrArg some (by kernel_rfl))
 f151 := Tryz.func123.trans (congrArg some (by kernel_rfl))
 f152 := Tryz.func161.trans (congrArg some (by kernel_rfl))
 f161 := Tryz.func35.trans (congrArg some (by kernel_rfl))
 f197 := Tryz.func105.trans (congrArg some (by kernel_rfl))
 f217 := Tryz.func141.trans (congrArg some (by kernel_rfl))
 f224 := Tryz.func143.trans (congrArg some (by kernel_rfl))
 f225 := Tryz.func142.trans (congrArg some (by kernel_rfl))
 f227 := Tryz.func76.trans (congrArg some (by kernel_rfl))
 f228 := Tryz.func122.trans (congrArg some (by kernel_rfl))
 f231 := Tryz.func74.trans (congrArg some (by kernel_rfl))
 f233 := Tryz.func77.trans (congrArg some (by kernel_rfl))
 f235 := Tryz.func79.trans (congrArg some (by kernel_rfl))
 f260 := Tryz.func145.trans (congrArg some (by kernel_rfl))
 f266 := Tryz.func174.trans (congrArg some (by kernel_rfl))
 t0 := Tryz.underlying0
 a0 := Tryz.isAgg0
 z0 := Tryz.sizeOf0
 v0 := Tryz.zeroValue0
 t3 := Tryz.underlying3
 a3 := Tryz.isAgg3
 z3 := Tryz.sizeOf3
 v3 := Tryz.zeroValue3
 t4 := Tryz.underlying4
 a4 := Tryz.isAgg4
 z4 := Tryz.sizeOf4
 v4 := Tryz.zeroValue4
 t5 := Tryz.underlying5
 a5 := Tryz.isAgg5
 z5 := Tryz.sizeOf5
 v5 := Tryz.zeroValue5
 t9 := Tryz.underlying9
 a9 := Tryz.isAgg9
 z9 := Tryz.sizeOf9
 v9 := Tryz.zeroValue9
 t21 := Tryz.underlying21
 a21 := Tryz.isAgg21
 z21 := Tryz.sizeOf21
 v21 := Tryz.zeroValue21
 t46 := Tryz.underlying110
 a46 := Tryz.isAgg110
 z46 := Tryz.sizeOf110
 v46 := Tryz.zeroValue110
 t105 := Tryz.underlying148
 a105 := Tryz.isAgg148
 z105 := Tryz.sizeOf148
 v105 := Tryz.zeroValue148
 t116 := Tryz.underlying121
 a116 := Tryz.isAgg121
 z116 := Tryz.sizeOf121
 t117 := Tryz.underlying122
 a117 := Tryz.isAgg122
 z117 := Tryz.sizeOf122
 v117 := Tryz.zeroValue122
 t119 := Tryz.underlying206
 a119 := Tryz.isAgg206
 z119 := Tryz.sizeOf206
 t124 := Tryz.underlying125
 a124 := Tryz.isAgg125
 z124 := Tryz.sizeOf125
 v124 := Tryz.zeroValue125
 t138 := Tryz.underlying208
 a138 := Tryz.isAgg208
 z138 := Tryz.sizeOf208
 v138 := Tryz.zeroValue208
 t139 := Tryz.underlying209
 a139 := Tryz.isAgg209
 z139 := Tryz.sizeOf209
 v139 := Tryz.zeroValue209
 g3 := by kernel_rfl
 g4 := by kernel_rfl }
end Go.Proofs
namespace Go.Proofs.YtnppjbofdkokkaaGreatDoor.Ax
open Go Go.Acq Go.RowKit Go.Proofs
set_option maxHeartbeats 8000000
set_option maxRecDepth 20000
abbrev eA {α : Type} (o : Option Nat) (f : α → List Value) (x : List α) (j : List Value) (t : TypeId) : Option Nat × Obj := (o, .cells (arr f x j).toArray t)
abbrev eC (b : Nat) (c : Array Value) (t : TypeId) : Option Nat × Obj := (some b, .cells c t)
abbrev iV (x : Int) : Value := .int .i64 x
abbrev sV (a : Option Nat) (b c : Nat) : Value := .slice (sb a) b c
abbrev nV (a b c : Nat) : Value := .slice (some ⟨a, 0, none⟩) b c
abbrev pV (a : Nat) : Value := .pointer (some ⟨a, 0, none⟩)
theorem gd2 {p q : Prop} [Decidable p] [Decidable q] {α : Type} {x : Option α} {r : α} (h : gd p (gd q x) = some r) : p ∧ q ∧ x = some r := have ⟨a, h⟩ := Yv h; ⟨a, Yv h⟩
theorem dN {C : Cx} {ops : Array Oper} {Q : Exit → Act → World → Prop} {E : Env} {H : Heap} {y : Code} (h : T C y Q E H) : TO C ops (Exit.then (y.wpIn (FW C.ρ) 0 C.P Q) Q) [] E H := h
theorem dS {C : Cx} {ops : Array Oper} {Q : Exit → Act → World → Prop} {E : Env} {H : Heap} {x y : Code} (h : T C x (Exit.then (y.wpIn (FW C.ρ) 0 C.P Q) Q) E H) : TO C ops (Exit.then ((Code.seq x y).wpIn (FW C.ρ) 0 C.P Q) Q) [] E H := dN (Zs h)
theorem rG {C : Cx} {ops : Array Oper} {Q : Exit → Act → World → Prop} {E : Env} {H : Heap} {id : Nat} (l : List Nat) (hl : List.range ops.size = l) (h : TO C ops Q l E H) : T C (.region id ops false) Q E H := Gb hl h
theorem sR {C : Cx} {ops : Array Oper} {Q : Exit → Act → World → Prop} {E : Env} {H : Heap} {id : Nat} {y : Code} (l : List Nat) (hl : List.range ops.size = l) (h : TO C ops (Exit.then (y.wpIn (FW C.ρ) 0 C.P Q) Q) l E H) : T C (.seq (.region id ops false) y) Q E H := Zs (Gb hl h)
theorem aN {C : Cx} {ops : Array Oper} {Q : Exit → Act → World → Prop} {E : Env} {H : Heap} {y : Code} {i d : Nat} {ty : TypeId} {Zd : String} {af : Array Edge} {g : Option (Nat × Bool)} {x : Operand} {v : Value} (q : ops[i]? = some ⟨some d, .assign x, ty, Zd, af, g⟩ ∧ Zi ops E g = true ∧ Nat.ble (d + 1) C.n = true ∧ ev E x = some v) (k : T C y Q ((d, v) :: E) H) : TO C ops (Exit.then (y.wpIn (FW C.ρ) 0 C.P Q) Q) [i] E H := have ⟨ho, hg, hd, hx⟩ := q; TO.val ho hg hd (by simp) (fun a w hf _ => by simp [execOp, hf.ev hx]) (dN k)
inductive TkI : Option Nat × Obj → Heap → Heap → Prop
  | head (p : Option Nat × Obj) (l : Heap) : TkI p (p :: l) l
  | tail {p q : Option Nat × Obj} {l r : Heap} (h : TkI p l r) : TkI p (q :: l) (q :: r)
inductive PkI : Heap → Heap → Prop
  | refl (H : Heap) : PkI H H
  | nil (H : Heap) : PkI [] H
  | none {o : Obj} {T H : Heap} (h : PkI T H) : PkI ((none, o) :: T) H
  | cons {p : Option Nat × Obj} {T H R : Heap} (h : TkI p H R) (k : PkI T R) : PkI (p :: T) H
theorem tkI {p : Option Nat × Obj} {H R : Heap} (h : TkI p H R) : Take p H R := by
  induction h with
  | head => exact Take.head _ _
  | tail _ ih => exact Take.tail ih
theorem pkI {T H : Heap} (h : PkI T H) : Pick T H := by
  induction h with
  | refl H => exact Yq H
  | nil H => exact Zh
  | none _ ih => exact Pick.none ih
  | cons h _ ih => exact Zg (tkI h) ih
abbrev rV (l : List Nat) (x : Value) : Sp := ⟨l, false, [], relV x⟩
def pkE : List Nat → Env → Option Env
  | [], _ => some []
  | t :: l, E => match find E t with
    | none => none
    | some v => match pkE l E with
      | none => none
      | some L => some ((t, v) :: L)
theorem aT {E : Env} : ∀ (l : List Nat) {L : Env}, pkE l E = some L → AllF L E
  | [], L, h => by injection h with h; subst h; exact Ny
  | t :: l, L, h => by
    simp only [pkE] at h
    split at h
    · cases h
    · rename_i v hv
      split at h
      · cases h
      · rename_i L' hL
        injection h with h
        subst h
        exact Z7k hv (aT l hL)
theorem aF {L E : Env} (h : pkE (L.map Prod.fst) E = some L) : AllF L E := aT _ h
abbrev Y1 : List Nat := [0]
abbrev Y2 : List Nat := [0, 1]
abbrev Y3 : List Nat := [0, 1, 2]
abbrev Y4 : List Nat := [0, 1, 2, 3]
abbrev Y5 : List Nat := [0, 1, 2, 3, 4]
abbrev Y6 : List Nat := [0, 1, 2, 3, 4, 5]
abbrev Y7 : List Nat := [0, 1, 2, 3, 4, 5, 6]
abbrev Y8 : List Nat := [0, 1, 2, 3, 4, 5, 6, 7]
abbrev Y9 : List Nat := [0, 1, 2, 3, 4, 5, 6, 7, 8]
abbrev Y10 : List Nat := [0, 1, 2, 3, 4, 5, 6, 7, 8, 9]
abbrev Y11 : List Nat := [0, 1, 2, 3, 4, 5, 6, 7, 8, 9, 10]
abbrev Y12 : List Nat := [0, 1, 2, 3, 4, 5, 6, 7, 8, 9, 10, 11]
abbrev Y13 : List Nat := [0, 1, 2, 3, 4, 5, 6, 7, 8, 9, 10, 11, 12]
abbrev Y14 : List Nat := [0, 1, 2, 3, 4, 5, 6, 7, 8, 9, 10, 11, 12, 13]
abbrev Y16 : List Nat := [0, 1, 2, 3, 4, 5, 6, 7, 8, 9, 10, 11, 12, 13, 14, 15]
abbrev Y17 : List Nat := [0, 1, 2, 3, 4, 5, 6, 7, 8, 9, 10, 11, 12, 13, 14, 15, 16]
abbrev Y18 : List Nat := [0, 1, 2, 3, 4, 5, 6, 7, 8, 9, 10, 11, 12, 13, 14, 15, 16, 17]
abbrev Y21 : List Nat := [0, 1, 2, 3, 4, 5, 6, 7, 8, 9, 10, 11, 12, 13, 14, 15, 16, 17, 18, 19, 20]
abbrev Y22 : List Nat := [0, 1, 2, 3, 4, 5, 6, 7, 8, 9, 10, 11, 12, 13, 14, 15, 16, 17, 18, 19, 20, 21]
abbrev Y28 : List Nat := [0, 1, 2, 3, 4, 5, 6, 7, 8, 9, 10, 11, 12, 13, 14, 15, 16, 17, 18, 19, 20, 21, 22, 23, 24, 25, 26, 27]
theorem Kz : Tryz.prog.follows .mixedOrders = true := by kernel_rfl
theorem Xb : Wm Tryz.prog 24 4 = true := by kernel_rfl
theorem Gc : Wm Tryz.prog 58 3 = true := by kernel_rfl
theorem Na : Wm Tryz.prog 81 2 = true := by kernel_rfl
theorem Z8v : Wm Tryz.prog 82 12 = true := by kernel_rfl
theorem Z3u : Ya Tryz.prog 130 = true := by kernel_rfl
theorem Z54 : Ya Tryz.prog 131 = true := by kernel_rfl
theorem Z4j : Ya Tryz.prog 132 = true := by kernel_rfl
theorem Z3y : Ya Tryz.prog 165 = true := by kernel_rfl
theorem Z8f : Ya Tryz.prog 48 = true := by kernel_rfl
theorem Z97 : Ya Tryz.prog 87 = true := by kernel_rfl
theorem Z75 : Ya Tryz.prog 88 = true := by kernel_rfl
theorem Z7o : Ya Tryz.prog 89 = true := by kernel_rfl
theorem Kx : Ya Tryz.prog 90 = true := by kernel_rfl
theorem Z3c : Ya Tryz.prog 91 = true := by kernel_rfl
theorem Z96 : Ya Tryz.prog 92 = true := by kernel_rfl
theorem Z9q : Ya Tryz.prog 93 = true := by kernel_rfl
theorem Z7m : Ya Tryz.prog 94 = true := by kernel_rfl
theorem Z6x : Ya Tryz.prog 95 = true := by kernel_rfl
theorem Vf : Wc Tryz.prog 24 0 = some 0 := by kernel_rfl
theorem Up : Wc Tryz.prog 24 1 = some 1 := by kernel_rfl
theorem Jd : Wc Tryz.prog 24 2 = some 2 := by kernel_rfl
theorem Vp : Wc Tryz.prog 24 3 = some 3 := by kernel_rfl
theorem Z59 : Wc Tryz.prog 58 0 = some 0 := by kernel_rfl
theorem Z7t : Wc Tryz.prog 58 1 = some 1 := by kernel_rfl
theorem Lu : Wc Tryz.prog 58 2 = some 2 := by kernel_rfl
theorem Nb : Wc Tryz.prog 81 0 = some 0 := by kernel_rfl
theorem Ni : Wc Tryz.prog 81 1 = some 1 := by kernel_rfl
theorem Wx : Xj Tryz.prog 22 = some 58 := by kernel_rfl
theorem Kj : Ym Tryz.prog 58 = some 3 := by kernel_rfl
theorem No : Ym Tryz.prog 81 = some 2 := by kernel_rfl
theorem Z8g : Ym Tryz.prog 82 = some 12 := by kernel_rfl
theorem Gk : Tryz.prog.underlying 82 = some (.array 6 81) := by kernel_rfl
theorem Z4d : Xk Tryz.prog 131 = true := by kernel_rfl
theorem Jy : Xk Tryz.prog 2 = true := by kernel_rfl
theorem Vv : Xk Tryz.prog 22 = true := by kernel_rfl
theorem Nq : Xk Tryz.prog 29 = true := by kernel_rfl
theorem Ys : Xk Tryz.prog 3 = true := by kernel_rfl
theorem Gw : Xk Tryz.prog 79 = true := by kernel_rfl
theorem Rh : Xr Tryz.prog 58 = some (.agg #[iV 0, iV 0, iV 0]) := by kernel_rfl
theorem Gi : Xr Tryz.prog 81 = some (.agg #[.nilFunc, iV 0]) := by kernel_rfl
theorem Z8h : Xr Tryz.prog 82 = some (.agg #[.nilFunc, iV 0, .nilFunc, iV 0, .nilFunc, iV 0, .nilFunc, iV 0, .nilFunc, iV 0, .nilFunc, iV 0]) := by kernel_rfl
theorem Z9f (w : World) (H : Z2d = some ()) : Fnc Tryz.prog 91 #[.func (.func 92) #[] #[]] w [] (fun v N => ∃ (a2 : Nat), v = .func (.func 130) #[] #[pV a2] ∧ N = [(eC a2 #[.func (.func 92) #[] #[]] 131)]) := by
 unfold Z2d at H; refine Fnc.enter (vs := [.func (.func 92) #[] #[]]) Tryz.func91 rfl rfl (Inv.refl w) ?_; refine sR Y2 rfl ?_; refine TO.box Za ?_; intro b1; refine aN Za ?_; refine sR Y2 rfl ?_; refine TO.makeFunc Zc ?_; refine aN Za ?_; refine T.ret ?_; exact Yd Za (Res.tmp rfl) (Zg Ze Zh) ⟨b1, rfl, rfl⟩
theorem Z86 (w : World) (H : Z25 = some ()) : Fnc Tryz.prog 91 #[.func (.func 93) #[] #[]] w [] (fun v N => ∃ (a2 : Nat), v = .func (.func 130) #[] #[pV a2] ∧ N = [(eC a2 #[.func (.func 93) #[] #[]] 131)]) := by
 unfold Z25 at H; refine Fnc.enter (vs := [.func (.func 93) #[] #[]]) Tryz.func91 rfl rfl (Inv.refl w) ?_; refine sR Y2 rfl ?_; refine TO.box Za ?_; intro b1; refine aN Za ?_; refine sR Y2 rfl ?_; refine TO.makeFunc Zc ?_; refine aN Za ?_; refine T.ret ?_; exact Yd Za (Res.tmp rfl) (Zg Ze Zh) ⟨b1, rfl, rfl⟩
theorem Z6p (w : World) (H : Z17 = some ()) : Fnc Tryz.prog 48 #[] w [] (fun v N => ∃ (a2 a3 : Nat), v = .agg #[.func (.func 87) #[] #[], iV 10, .func (.func 88) #[] #[], iV 11, .func (.func 89) #[] #[], iV 12, .func (.func 130) #[] #[pV a2], iV 13, .func (.func 130) #[] #[pV a3], iV 14, .func (.func 94) #[] #[], iV 15] ∧ N = [(eC a2 #[.func (.func 92) #[] #[]] 131), (eC a3 #[.func (.func 93) #[] #[]] 131)]) := by
 unfold Z17 at H; refine Fnc.enter (vs := []) Tryz.func48 rfl rfl (Inv.refl w) ?_; refine sR Y1 rfl ?_; refine Vi Zk Z8h ?_; intro b1; refine dS ?_; obtain ⟨⟨⟩, e3, H⟩ := Zp H; obtain ⟨⟨⟩, e6, H⟩ := Zp H; refine rG Y10 rfl ?_; refine Vh (t := 81) [.nilFunc, iV 0] [0, 1] Za (by simp only [Xz, setCells, Value.cells, List.toList_toArray, List.getD_cons_zero, List.getD_cons_succ, List.set_cons_zero, List.set_cons_succ]; rfl) (by kernel_rfl) ?_; refine Vh (t := 81) [.nilFunc, iV 0] [0, 1] Za (by simp only [Xz, setCells, Value.cells, List.toList_toArray, List.getD_cons_zero, List.getD_cons_succ, List.set_cons_zero, List.set_cons_succ]; rfl) (by kernel_rfl) ?_; refine Vh (t := 81) [.nilFunc, iV 0] [0, 1] Za (by simp only [Xz, setCells, Value.cells, List.toList_toArray, List.getD_cons_zero, List.getD_cons_succ, List.set_cons_zero, List.set_cons_succ]; rfl) (by kernel_rfl) ?_; refine Zx Z3c Za (fun wc hwc => Z9f  wc  e3) ?_; rintro _ _ ⟨b4, rfl, rfl⟩; refine Vh (t := 81) [.nilFunc, iV 0] [0, 1] Za (by simp only [Xz, setCells, Value.cells, List.toList_toArray, List.getD_cons_zero, List.getD_cons_succ, List.set_cons_zero, List.set_cons_succ]; rfl) (by kernel_rfl) ?_; refine Zx Z3c Za (fun wc hwc => Z86  wc  e6) ?_; rintro _ _ ⟨b7, rfl, rfl⟩; refine Vh (t := 81) [.nilFunc, iV 0] [0, 1] Za (by simp only [Xz, setCells, Value.cells, List.toList_toArray, List.getD_cons_zero, List.getD_cons_succ, List.set_cons_zero, List.set_cons_succ]; rfl) (by kernel_rfl) ?_; refine Vh (t := 81) [.nilFunc, iV 0] [0, 1] Za (by simp only [Xz, setCells, Value.cells, List.toList_toArray, List.getD_cons_zero, List.getD_cons_succ, List.set_cons_zero, List.set_cons_succ]; rfl) (by kernel_rfl) ?_; refine Vh (t := 82) [.nilFunc, iV 0, .nilFunc, iV 0, .nilFunc, iV 0, .nilFunc, iV 0, .nilFunc, iV 0, .nilFunc, iV 0] [0, 2, 4, 6, 8, 10] Za (by simp only [Xz, setCells, Value.cells, List.toList_toArray, List.getD_cons_zero, List.getD_cons_succ, List.set_cons_zero, List.set_cons_succ]; rfl) (by kernel_rfl) ?_; refine Wy Za Xq Z8g Zk ?_; refine dN ?_; refine Zz (aT [0] rfl) ?_; refine T.ret ?_; exact Yd Za (Ka rfl Z8v Zj rfl) (Zg Xq (Zg Zt Zh)) ⟨b4, b7, rfl, rfl⟩
theorem Z9v {n0 : Net} {a3 : Option Addr} {a2 a4 : Nat} (w : World) (a5 : RS w [] Zl 3 a3 a2 a4 n0.Arcs) {r0 : Bool} (H : Z1g n0 = some r0) : Fnc Tryz.prog 87 #[.agg #[iV n0.N, iV n0.S, iV n0.T, .slice a3 a2 a4]] w [] (fun v N => v = .bool r0 ∧ N = []) := by
 unfold Z1g at H; refine Fnc.enter (vs := [.agg #[iV n0.N, iV n0.S, iV n0.T, .slice a3 a2 a4]]) Tryz.func87 rfl rfl (Inv.refl w) ?_; refine sR Y2 rfl ?_; refine Ws Za ?_; intro b1; refine aN Za ?_; refine Zs ?_; rcases Zw H with ⟨g3, H⟩ | ⟨g3, H⟩
 · refine rG Y9 rfl ?_; refine Zr Za Vf ?_; refine Zu Za Ys Zj rfl ?_; refine Zv Zn ?_; refine Zb Za ?_; refine Zm (t := 6) (b' := true) rfl (decide_eq_true g3) ?_; refine Zr Za Vf ?_; refine Zu Za Ys Zj rfl ?_; refine Zv Zn ?_; refine Zy Zc ?_; refine aN Za ?_; refine Zz (aT [2] rfl) ?_; refine T.ret ?_; obtain rfl := ret1 H; exact Yd Za (Res.tmp rfl) Zh ⟨rfl, rfl⟩
 · refine rG Y9 rfl ?_; refine Zr Za Vf ?_; refine Zu Za Ys Zj rfl ?_; refine Zv Zn ?_; refine Zb Za ?_; refine Zm (t := 6) (b' := false) rfl (decide_eq_false g3) ?_; refine Zf Za ?_; refine Zf Za ?_; refine Zf Za ?_; refine Yc Zc ?_; refine aN Za ?_; refine Zz (aT [2] rfl) ?_; refine T.ret ?_; obtain rfl := ret1 H; exact Yd Za (Res.tmp rfl) Zh ⟨rfl, rfl⟩
theorem Z88 {n0 : Net} {a3 : Option Addr} {a2 a4 : Nat} (w : World) (a5 : RS w [] Zl 3 a3 a2 a4 n0.Arcs) {r0 : Bool} (H : Z14 n0 = some r0) : Fnc Tryz.prog 88 #[.agg #[iV n0.N, iV n0.S, iV n0.T, .slice a3 a2 a4]] w [] (fun v N => v = .bool r0 ∧ N = []) := by
 unfold Z14 at H; refine Fnc.enter (vs := [.agg #[iV n0.N, iV n0.S, iV n0.T, .slice a3 a2 a4]]) Tryz.func88 rfl rfl (Inv.refl w) ?_; refine sR Y2 rfl ?_; refine Ws Za ?_; intro b1; refine aN Za ?_; refine sR Y5 rfl ?_; refine Zr Za Vp ?_; refine Zu Za Vv Zj rfl ?_; refine Wq (xs := n0.Arcs) a5.len Zc Wx ?_; refine Zv Zn ?_; refine aN Za ?_; refine T.ret ?_; obtain rfl := ret1 H; exact Yd Za (Res.tmp rfl) Zh ⟨rfl, rfl⟩
theorem Ji {n0 : Net} {v1 : Int} {a4 : Option Addr} {a3 a2 : Nat} (w : World) (a5 : RS w [] Zl 3 a4 a3 a2 n0.Arcs) {r0 : Bool} (H : Nm n0 v1 = some r0) : Fnc Tryz.prog 90 #[.agg #[iV n0.N, iV n0.S, iV n0.T, .slice a4 a3 a2], iV v1] w [] (fun v N => v = .bool r0 ∧ N = []) := by
 unfold Nm at H; refine Fnc.enter (vs := [.agg #[iV n0.N, iV n0.S, iV n0.T, .slice a4 a3 a2], iV v1]) Tryz.func90 rfl rfl (Inv.refl w) ?_; refine sR Y2 rfl ?_; refine Ws Za ?_; intro b1; refine aN Za ?_; refine Zs ?_; rcases Zw H with ⟨g3, H⟩ | ⟨g3, H⟩
 · refine rG Y9 rfl ?_; refine Zb Za ?_; refine Zv Zn ?_; refine Zb Za ?_; refine Zm (t := 7) (b' := true) rfl (decide_eq_true g3) ?_; refine Zb Za ?_; refine Zr Za Vf ?_; refine Zu Za Ys Zj rfl ?_; refine Zv Zn ?_; refine Zy Zc ?_; refine aN Za ?_; refine Zz (aT [4] rfl) ?_; refine T.ret ?_; obtain rfl := ret1 H; exact Yd Za (Res.tmp rfl) Zh ⟨rfl, rfl⟩
 · refine rG Y9 rfl ?_; refine Zb Za ?_; refine Zv Zn ?_; refine Zb Za ?_; refine Zm (t := 7) (b' := false) rfl (decide_eq_false g3) ?_; refine Zf Za ?_; refine Zf Za ?_; refine Zf Za ?_; refine Zf Za ?_; refine Yc Zc ?_; refine aN Za ?_; refine Zz (aT [4] rfl) ?_; refine T.ret ?_; obtain rfl := ret1 H; exact Yd Za (Res.tmp rfl) Zh ⟨rfl, rfl⟩
theorem Z63 {n0 : Net} {a4 : Option Addr} {a3 a5 : Nat} (w : World) (a2 : RS w [] Zl 3 a4 a3 a5 n0.Arcs) {r0 : Bool} (H : Z2k n0 = some r0) : Fnc Tryz.prog 89 #[.agg #[iV n0.N, iV n0.S, iV n0.T, .slice a4 a3 a5]] w [] (fun v N => v = .bool r0 ∧ N = []) := by
 unfold Z2k at H; refine Fnc.enter (vs := [.agg #[iV n0.N, iV n0.S, iV n0.T, .slice a4 a3 a5]]) Tryz.func89 rfl rfl (Inv.refl w) ?_; refine sR Y2 rfl ?_; refine Ws Za ?_; intro b1; refine aN Za ?_; refine Zs ?_; obtain ⟨r3, e4, H⟩ := Zp H; rcases Zw H with ⟨g5, H⟩ | ⟨g5, H⟩
 ·
  obtain ⟨r6, e7, H⟩ := Zp H; rcases Zw H with ⟨g8, H⟩ | ⟨g8, H⟩
  · refine rG Y18 rfl ?_; refine Wf Za Xb Zj rfl ?_; refine Zr Za Up ?_; refine Zu Za Ys Zj rfl ?_; refine Zx Kx Za (fun wc hwc => Ji (n0 := n0) (v1 := n0.S) wc (a2.mono hwc) e4) ?_; rintro _ _ ⟨rfl, rfl⟩; refine Zb Za ?_; refine Zm (t := 7) (b' := true) rfl g5 ?_; refine Wf Za Xb Zj rfl ?_; refine Zr Za Jd ?_; refine Zu Za Ys Zj rfl ?_; refine Zx Kx Za (fun wc hwc => Ji (n0 := n0) (v1 := n0.T) wc (a2.mono hwc) e7) ?_; rintro _ _ ⟨rfl, rfl⟩; refine Zy Zc ?_; refine Zb Za ?_; refine Zm (t := 13) (b' := true) rfl g8 ?_; refine Zr Za Up ?_; refine Zu Za Ys Zj rfl ?_; refine Zr Za Jd ?_; refine Zu Za Ys Zj rfl ?_; refine Zv Zn ?_; refine Zy Zc ?_; refine aN Za ?_; refine Zz (aT [2] rfl) ?_; refine T.ret ?_; obtain rfl := ret1 H; exact Yd Za (Res.tmp rfl) Zh ⟨rfl, rfl⟩
  · refine rG Y18 rfl ?_; refine Wf Za Xb Zj rfl ?_; refine Zr Za Up ?_; refine Zu Za Ys Zj rfl ?_; refine Zx Kx Za (fun wc hwc => Ji (n0 := n0) (v1 := n0.S) wc (a2.mono hwc) e4) ?_; rintro _ _ ⟨rfl, rfl⟩; refine Zb Za ?_; refine Zm (t := 7) (b' := true) rfl g5 ?_; refine Wf Za Xb Zj rfl ?_; refine Zr Za Jd ?_; refine Zu Za Ys Zj rfl ?_; refine Zx Kx Za (fun wc hwc => Ji (n0 := n0) (v1 := n0.T) wc (a2.mono hwc) e7) ?_; rintro _ _ ⟨rfl, rfl⟩; refine Zy Zc ?_; refine Zb Za ?_; refine Zm (t := 13) (b' := false) rfl (Bool.eq_false_iff.2 g8) ?_; refine Zf Za ?_; refine Zf Za ?_; refine Zf Za ?_; refine Zf Za ?_; refine Zf Za ?_; refine Yc Zc ?_; refine aN Za ?_; refine Zz (aT [2] rfl) ?_; refine T.ret ?_; obtain rfl := ret1 H; exact Yd Za (Res.tmp rfl) Zh ⟨rfl, rfl⟩
 · refine rG Y18 rfl ?_; refine Wf Za Xb Zj rfl ?_; refine Zr Za Up ?_; refine Zu Za Ys Zj rfl ?_; refine Zx Kx Za (fun wc hwc => Ji (n0 := n0) (v1 := n0.S) wc (a2.mono hwc) e4) ?_; rintro _ _ ⟨rfl, rfl⟩; refine Zb Za ?_; refine Zm (t := 7) (b' := false) rfl (Bool.eq_false_iff.2 g5) ?_; refine Zf Za ?_; refine Zf Za ?_; refine Zf Za ?_; refine Zf Za ?_; refine Yc Zc ?_; refine Zb Za ?_; refine Zf Za ?_; refine Zf Za ?_; refine Zf Za ?_; refine Zf Za ?_; refine Zf Za ?_; refine Yc Zc ?_; refine aN Za ?_; refine Zz (aT [2] rfl) ?_; refine T.ret ?_; obtain rfl := ret1 H; exact Yd Za (Res.tmp rfl) Zh ⟨rfl, rfl⟩
theorem Z8u {n0 : Net} {a1 : Arc} {a4 : Option Addr} {a3 a5 : Nat} (w : World) (a2 : RS w [] Zl 3 a4 a3 a5 n0.Arcs) {r0 : Bool} (H : Z28 n0 a1 = some r0) : Fnc Tryz.prog 92 #[.agg #[iV n0.N, iV n0.S, iV n0.T, .slice a4 a3 a5], .agg #[iV a1.fr, iV a1.to, iV a1.cap]] w [] (fun v N => v = .bool r0 ∧ N = []) := by
 unfold Z28 at H; refine Fnc.enter (vs := [.agg #[iV n0.N, iV n0.S, iV n0.T, .slice a4 a3 a5], .agg #[iV a1.fr, iV a1.to, iV a1.cap]]) Tryz.func92 rfl rfl (Inv.refl w) ?_; refine sR Y3 rfl ?_; refine Ws Za ?_; intro b1; refine Ws Za ?_; intro b3; refine aN Za ?_; refine Zs ?_; obtain ⟨r5, e6, H⟩ := Zp H; rcases Zw H with ⟨g7, H⟩ | ⟨g7, H⟩
 · obtain ⟨r8, e9, H⟩ := Zp H; refine rG Y11 rfl ?_; refine Wf Za Xb Yg rfl ?_; refine Zr Za Z59 ?_; refine Zu Za Ys Zj rfl ?_; refine Zx Kx Za (fun wc hwc => Ji (n0 := n0) (v1 := a1.fr) wc (a2.mono hwc) e6) ?_; rintro _ _ ⟨rfl, rfl⟩; refine Zb Za ?_; refine Zm (t := 9) (b' := true) rfl g7 ?_; refine Wf Za Xb Yg rfl ?_; refine Zr Za Z7t ?_; refine Zu Za Ys Zj rfl ?_; refine Zx Kx Za (fun wc hwc => Ji (n0 := n0) (v1 := a1.to) wc (a2.mono hwc) e9) ?_; rintro _ _ ⟨rfl, rfl⟩; refine Zy Zc ?_; refine aN Za ?_; refine Zz (aT [4] rfl) ?_; refine T.ret ?_; obtain rfl := ret1 H; exact Yd Za (Res.tmp rfl) Zh ⟨rfl, rfl⟩
 · refine rG Y11 rfl ?_; refine Wf Za Xb Yg rfl ?_; refine Zr Za Z59 ?_; refine Zu Za Ys Zj rfl ?_; refine Zx Kx Za (fun wc hwc => Ji (n0 := n0) (v1 := a1.fr) wc (a2.mono hwc) e6) ?_; rintro _ _ ⟨rfl, rfl⟩; refine Zb Za ?_; refine Zm (t := 9) (b' := false) rfl (Bool.eq_false_iff.2 g7) ?_; refine Zf Za ?_; refine Zf Za ?_; refine Zf Za ?_; refine Zf Za ?_; refine Yc Zc ?_; refine aN Za ?_; refine Zz (aT [4] rfl) ?_; refine T.ret ?_; obtain rfl := ret1 H; exact Yd Za (Res.tmp rfl) Zh ⟨rfl, rfl⟩
theorem Z6a {a0 : Arc} {c2 : Net} {a6 a9 a2 a3 : Nat} {a4 : Option Addr} (w : World) (a7 : HB w [] a6 [.func (.func 92) #[] #[]]) (a5 : RS w [] Zl 3 a4 a2 a3 c2.Arcs) (a8 : HB w [] a9 [iV c2.N, iV c2.S, iV c2.T, .slice a4 a2 a3]) {r0 : Bool} (H : Z1b a0 c2 = some r0) : Fnc Tryz.prog 132 #[.agg #[iV a0.fr, iV a0.to, iV a0.cap], pV a6, pV a9] w [] (fun v N => v = .bool r0 ∧ N = []) := by
 unfold Z1b at H; refine Fnc.enter (vs := [.agg #[iV a0.fr, iV a0.to, iV a0.cap], pV a6, pV a9]) Tryz.func132 rfl rfl (Inv.refl w) ?_; refine sR Y2 rfl ?_; refine Ws Za ?_; intro b1; refine aN Za ?_; refine Zs ?_; obtain ⟨r3, e4, H⟩ := Zp H; refine rG Y6 rfl ?_; refine Vq a7 Zc Z4d ?_; refine Z4f a8 Zc Xb ?_; refine Wf Za Gc Zj rfl ?_; refine Kg Z96 Zc (fun wc hwc => Z8u (n0 := c2) (a1 := a0) wc (a5.mono hwc) e4) ?_; rintro _ _ ⟨rfl, rfl⟩; refine TO.not Za ?_; refine aN Za ?_; refine Zz (aT [4] rfl) ?_; refine T.ret ?_; obtain rfl := ret1 H; exact Yd Za (Res.tmp rfl) Zh ⟨rfl, rfl⟩
theorem Z7x {s0 : List Arc} {f1_1 : Net} {b3 a6 : Option Addr} {b5 b6 a2 a3 a5 a4 : Nat} (w : World) (b7 : RS w [] Zl 3 b3 b5 b6 s0) (a9 : HB w [] a2 [.func (.func 92) #[] #[]]) (a7 : RS w [] Zl 3 a6 a5 a4 f1_1.Arcs) (a8 : HB w [] a3 [iV f1_1.N, iV f1_1.S, iV f1_1.T, .slice a6 a5 a4]) {r0 : Int} (H : Z1c s0 f1_1 = some r0) : Fnc Tryz.prog 165 #[.slice b3 b5 b6, .func (.func 132) #[] #[pV a2, pV a3]] w [] (fun v N => v = iV r0 ∧ N = []) := by
 unfold Z1c at H; refine Fnc.enter (vs := [.slice b3 b5 b6, .func (.func 132) #[] #[pV a2, pV a3]]) Tryz.func165 rfl rfl (Inv.refl w) ?_; refine sR Y1 rfl ?_; refine aN Za ?_; refine Zs ?_; refine sR Y3 rfl ?_; refine Zb Za ?_; refine Wq (xs := s0) b7.len Zc Wx ?_; refine Zb Za ?_; refine dN ?_; refine Vs (fun (u8 : Unit) => Z1v = some r0) (fun (u8 : Unit) => []) (fun (u8 : Unit) => []) ?_ ?_
 ·
  refine T.block ?_; obtain ⟨c4, c5, c0⟩ := Zp H; refine Z13 (fun (b8 : Nat) (x1 : Int) => Wp (fun s => Z0g s0 f1_1 s) b8 x1 = some c4) (fun (b8 : Nat) (x1 : Int) => [(0, .slice b3 b5 b6), (1, .func (.func 132) #[] #[pV a2, pV a3]), (7, iV (s0.length : Int)), (8, iV x1)]) (fun (b8 : Nat) (x1 : Int) => []) (fun (b8 : Nat) (x1 : Int) => b8) Kc 0 c5 (aF rfl) Zh ?_; rintro b8 x1 H; obtain ⟨c6, c7, rfl, H, b9⟩ := Nw H; have H : Z0g s0 f1_1 x1 = some c7 := H; unfold Z0g at H; refine sR Y1 rfl ?_; refine Zv Zn ?_; refine dS ?_; rcases Zw H with ⟨g2, H⟩ | ⟨g2, H⟩
  ·
   refine Vm rfl g2 ?_; refine T.skip ?_; refine Yw ?_; refine Zs ?_; refine T.block ?_; refine sR Y2 rfl ?_; refine Zb Za ?_; refine aN Za ?_; refine Zs ?_; obtain ⟨g3, H⟩ := Yv H; obtain ⟨r4, e5, H⟩ := Zp H; refine rG Y6 rfl ?_; refine Zb Za ?_; refine Zb Za ?_; refine Zb Za ?_; refine Ke b7 g3 Zc Wx Kj ?_; refine Z26 (cs := [iV ((s0.getD x1.toNat default).fr), iV ((s0.getD x1.toNat default).to), iV ((s0.getD x1.toNat default).cap)]) default b7 g3 Zc Gc ?_; refine Kg Z4j Zc (fun wc hwc => Z6a (a0 := (s0.getD x1.toNat default)) (c2 := f1_1) wc (a9.mono hwc) (a7.mono hwc) (a8.mono hwc) e5) ?_; rintro _ _ ⟨rfl, rfl⟩; refine dN ?_; rcases Zw H with ⟨g6, H⟩ | ⟨g6, H⟩
   · refine Xc rfl g6 ?_; refine sR Y2 rfl ?_; refine Zb Za ?_; refine aN Za ?_; refine Zz (aT [4] rfl) ?_; refine T.ret ?_; refine Xp ?_; refine Yh ?_; have H := Uu H b9 ▸ c0; refine Yh ?_; refine Xp ?_; refine Yh ?_; obtain rfl := ret1 H; exact Yd Za (Res.tmp rfl) Zh ⟨rfl, rfl⟩
   · refine Wk rfl (Bool.eq_false_iff.2 g6) ?_; refine T.skip ?_; refine Wu ?_; refine Yw ?_; refine Zz (aT [0, 1, 7, 8] rfl) ?_; obtain ⟨g7, H⟩ := Yv H; refine rG Y2 rfl ?_; refine Ks g7 Zc ?_; refine Zb Za ?_; refine Zq ?_; have H := La H b9; exact Z0x c6 (x1 + 1) H (Nat.lt_succ_self _) (aF rfl) Zh
  · refine Vg rfl g2 ?_; refine T.exit ?_; refine Vy ?_; have H := Uu H b9 ▸ c0; refine Vy ?_; refine Gs ?_; exact Wd () H Ny Zh
 · rintro u8 H; unfold Z1v at H; refine sR Y1 rfl ?_; refine aN Za ?_; refine T.ret ?_; obtain rfl := ret1 H; exact Yd Za (Res.tmp rfl) Zh ⟨rfl, rfl⟩
theorem Z9u {s0 : List Arc} {f1_1 : Net} {b3 a4 : Option Addr} {b5 b6 a5 a6 a3 a2 : Nat} (w : World) (b7 : RS w [] Zl 3 b3 b5 b6 s0) (a9 : HB w [] a5 [.func (.func 92) #[] #[]]) (a7 : RS w [] Zl 3 a4 a3 a2 f1_1.Arcs) (a8 : HB w [] a6 [iV f1_1.N, iV f1_1.S, iV f1_1.T, .slice a4 a3 a2]) {r0 : Bool} (H : Z35 s0 f1_1 = some r0) : Fnc Tryz.prog 131 #[.slice b3 b5 b6, .func (.func 132) #[] #[pV a5, pV a6]] w [] (fun v N => v = .bool r0 ∧ N = []) := by
 unfold Z35 at H; refine Fnc.enter (vs := [.slice b3 b5 b6, .func (.func 132) #[] #[pV a5, pV a6]]) Tryz.func131 rfl rfl (Inv.refl w) ?_; refine sR Y1 rfl ?_; refine aN Za ?_; refine Zs ?_; obtain ⟨r1, e2, H⟩ := Zp H; refine rG Y5 rfl ?_; refine Zb Za ?_; refine Zb Za ?_; refine Zx Z3y Za (fun wc hwc => Z7x (s0 := s0) (f1_1 := f1_1) wc (b7.mono hwc) (a9.mono hwc) (a7.mono hwc) (a8.mono hwc) e2) ?_; rintro _ _ ⟨rfl, rfl⟩; refine Zv Zn ?_; refine aN Za ?_; refine T.ret ?_; obtain rfl := ret1 H; exact Yd Za (Res.tmp rfl) Zh ⟨rfl, rfl⟩
theorem Z7i {n0 : Net} {a3 : Option Addr} {a2 a4 a6 : Nat} (w : World) (a5 : RS w [] Zl 3 a3 a2 a4 n0.Arcs) (a7 : HB w [] a6 [.func (.func 92) #[] #[]]) {r0 : Bool} (H : Z16 n0 = some r0) : Fnc Tryz.prog 130 #[.agg #[iV n0.N, iV n0.S, iV n0.T, .slice a3 a2 a4], pV a6] w [] (fun v N => v = .bool r0 ∧ N = []) := by
 unfold Z16 at H; refine Fnc.enter (vs := [.agg #[iV n0.N, iV n0.S, iV n0.T, .slice a3 a2 a4], pV a6]) Tryz.func130 rfl rfl (Inv.refl w) ?_; refine sR Y2 rfl ?_; refine Ws Za ?_; intro b1; refine aN Za ?_; refine Zs ?_; obtain ⟨r3, e4, H⟩ := Zp H; refine rG Y6 rfl ?_; refine Zr Za Vp ?_; refine Zu Za Vv Zj rfl ?_; refine TO.makeFunc Zc ?_; refine Zx Z54 Za (fun wc hwc => Z9u (s0 := n0.Arcs) (f1_1 := n0) wc (a5.mono hwc) (a7.mono hwc) (a5.mono hwc) (hwc.hb (cs := [iV n0.N, iV n0.S, iV n0.T, .slice a3 a2 a4]) Zj) e4) ?_; rintro _ _ ⟨rfl, rfl⟩; refine TO.not Za ?_; refine aN Za ?_; refine Zz (aT [3] rfl) ?_; refine T.ret ?_; obtain rfl := ret1 H; exact Yd Za (Res.tmp rfl) Zh ⟨rfl, rfl⟩
theorem Z89 {n0 : Net} {a1 : Arc} {a3 : Option Addr} {a2 a4 : Nat} (w : World) (a5 : RS w [] Zl 3 a3 a2 a4 n0.Arcs) {r0 : Bool} (H : Z20 n0 a1 = some r0) : Fnc Tryz.prog 93 #[.agg #[iV n0.N, iV n0.S, iV n0.T, .slice a3 a2 a4], .agg #[iV a1.fr, iV a1.to, iV a1.cap]] w [] (fun v N => v = .bool r0 ∧ N = []) := by
 unfold Z20 at H; refine Fnc.enter (vs := [.agg #[iV n0.N, iV n0.S, iV n0.T, .slice a3 a2 a4], .agg #[iV a1.fr, iV a1.to, iV a1.cap]]) Tryz.func93 rfl rfl (Inv.refl w) ?_; refine sR Y3 rfl ?_; refine Ws Za ?_; intro b1; refine Ws Za ?_; intro b3; refine aN Za ?_; refine sR Y4 rfl ?_; refine Zr Za Lu ?_; refine Zu Za Jy Zj rfl ?_; refine Zv Zn ?_; refine aN Za ?_; refine T.ret ?_; obtain rfl := ret1 H; exact Yd Za (Res.tmp rfl) Zh ⟨rfl, rfl⟩
theorem Z98 {a0 : Arc} {c2 : Net} {a6 a9 a2 a3 : Nat} {a4 : Option Addr} (w : World) (a7 : HB w [] a6 [.func (.func 93) #[] #[]]) (a5 : RS w [] Zl 3 a4 a2 a3 c2.Arcs) (a8 : HB w [] a9 [iV c2.N, iV c2.S, iV c2.T, .slice a4 a2 a3]) {r0 : Bool} (H : Z2s a0 c2 = some r0) : Fnc Tryz.prog 132 #[.agg #[iV a0.fr, iV a0.to, iV a0.cap], pV a6, pV a9] w [] (fun v N => v = .bool r0 ∧ N = []) := by
 unfold Z2s at H; refine Fnc.enter (vs := [.agg #[iV a0.fr, iV a0.to, iV a0.cap], pV a6, pV a9]) Tryz.func132 rfl rfl (Inv.refl w) ?_; refine sR Y2 rfl ?_; refine Ws Za ?_; intro b1; refine aN Za ?_; refine Zs ?_; obtain ⟨r3, e4, H⟩ := Zp H; refine rG Y6 rfl ?_; refine Vq a7 Zc Z4d ?_; refine Z4f a8 Zc Xb ?_; refine Wf Za Gc Zj rfl ?_; refine Kg Z9q Zc (fun wc hwc => Z89 (n0 := c2) (a1 := a0) wc (a5.mono hwc) e4) ?_; rintro _ _ ⟨rfl, rfl⟩; refine TO.not Za ?_; refine aN Za ?_; refine Zz (aT [4] rfl) ?_; refine T.ret ?_; obtain rfl := ret1 H; exact Yd Za (Res.tmp rfl) Zh ⟨rfl, rfl⟩
theorem Z7b {s0 : List Arc} {f1_1 : Net} {b3 a6 : Option Addr} {b5 b6 a2 a3 a5 a4 : Nat} (w : World) (b7 : RS w [] Zl 3 b3 b5 b6 s0) (a9 : HB w [] a2 [.func (.func 93) #[] #[]]) (a7 : RS w [] Zl 3 a6 a5 a4 f1_1.Arcs) (a8 : HB w [] a3 [iV f1_1.N, iV f1_1.S, iV f1_1.T, .slice a6 a5 a4]) {r0 : Int} (H : Z31 s0 f1_1 = some r0) : Fnc Tryz.prog 165 #[.slice b3 b5 b6, .func (.func 132) #[] #[pV a2, pV a3]] w [] (fun v N => v = iV r0 ∧ N = []) := by
 unfold Z31 at H; refine Fnc.enter (vs := [.slice b3 b5 b6, .func (.func 132) #[] #[pV a2, pV a3]]) Tryz.func165 rfl rfl (Inv.refl w) ?_; refine sR Y1 rfl ?_; refine aN Za ?_; refine Zs ?_; refine sR Y3 rfl ?_; refine Zb Za ?_; refine Wq (xs := s0) b7.len Zc Wx ?_; refine Zb Za ?_; refine dN ?_; refine Vs (fun (u8 : Unit) => Z2o = some r0) (fun (u8 : Unit) => []) (fun (u8 : Unit) => []) ?_ ?_
 ·
  refine T.block ?_; obtain ⟨c4, c5, c0⟩ := Zp H; refine Z13 (fun (b8 : Nat) (x1 : Int) => Wp (fun s => Rr s0 f1_1 s) b8 x1 = some c4) (fun (b8 : Nat) (x1 : Int) => [(0, .slice b3 b5 b6), (1, .func (.func 132) #[] #[pV a2, pV a3]), (7, iV (s0.length : Int)), (8, iV x1)]) (fun (b8 : Nat) (x1 : Int) => []) (fun (b8 : Nat) (x1 : Int) => b8) Kc 0 c5 (aF rfl) Zh ?_; rintro b8 x1 H; obtain ⟨c6, c7, rfl, H, b9⟩ := Nw H; have H : Rr s0 f1_1 x1 = some c7 := H; unfold Rr at H; refine sR Y1 rfl ?_; refine Zv Zn ?_; refine dS ?_; rcases Zw H with ⟨g2, H⟩ | ⟨g2, H⟩
  ·
   refine Vm rfl g2 ?_; refine T.skip ?_; refine Yw ?_; refine Zs ?_; refine T.block ?_; refine sR Y2 rfl ?_; refine Zb Za ?_; refine aN Za ?_; refine Zs ?_; obtain ⟨g3, H⟩ := Yv H; obtain ⟨r4, e5, H⟩ := Zp H; refine rG Y6 rfl ?_; refine Zb Za ?_; refine Zb Za ?_; refine Zb Za ?_; refine Ke b7 g3 Zc Wx Kj ?_; refine Z26 (cs := [iV ((s0.getD x1.toNat default).fr), iV ((s0.getD x1.toNat default).to), iV ((s0.getD x1.toNat default).cap)]) default b7 g3 Zc Gc ?_; refine Kg Z4j Zc (fun wc hwc => Z98 (a0 := (s0.getD x1.toNat default)) (c2 := f1_1) wc (a9.mono hwc) (a7.mono hwc) (a8.mono hwc) e5) ?_; rintro _ _ ⟨rfl, rfl⟩; refine dN ?_; rcases Zw H with ⟨g6, H⟩ | ⟨g6, H⟩
   · refine Xc rfl g6 ?_; refine sR Y2 rfl ?_; refine Zb Za ?_; refine aN Za ?_; refine Zz (aT [4] rfl) ?_; refine T.ret ?_; refine Xp ?_; refine Yh ?_; have H := Uu H b9 ▸ c0; refine Yh ?_; refine Xp ?_; refine Yh ?_; obtain rfl := ret1 H; exact Yd Za (Res.tmp rfl) Zh ⟨rfl, rfl⟩
   · refine Wk rfl (Bool.eq_false_iff.2 g6) ?_; refine T.skip ?_; refine Wu ?_; refine Yw ?_; refine Zz (aT [0, 1, 7, 8] rfl) ?_; obtain ⟨g7, H⟩ := Yv H; refine rG Y2 rfl ?_; refine Ks g7 Zc ?_; refine Zb Za ?_; refine Zq ?_; have H := La H b9; exact Z0x c6 (x1 + 1) H (Nat.lt_succ_self _) (aF rfl) Zh
  · refine Vg rfl g2 ?_; refine T.exit ?_; refine Vy ?_; have H := Uu H b9 ▸ c0; refine Vy ?_; refine Gs ?_; exact Wd () H Ny Zh
 · rintro u8 H; unfold Z2o at H; refine sR Y1 rfl ?_; refine aN Za ?_; refine T.ret ?_; obtain rfl := ret1 H; exact Yd Za (Res.tmp rfl) Zh ⟨rfl, rfl⟩
theorem Z84 {s0 : List Arc} {f1_1 : Net} {b3 a4 : Option Addr} {b5 b6 a5 a6 a3 a2 : Nat} (w : World) (b7 : RS w [] Zl 3 b3 b5 b6 s0) (a9 : HB w [] a5 [.func (.func 93) #[] #[]]) (a7 : RS w [] Zl 3 a4 a3 a2 f1_1.Arcs) (a8 : HB w [] a6 [iV f1_1.N, iV f1_1.S, iV f1_1.T, .slice a4 a3 a2]) {r0 : Bool} (H : Z27 s0 f1_1 = some r0) : Fnc Tryz.prog 131 #[.slice b3 b5 b6, .func (.func 132) #[] #[pV a5, pV a6]] w [] (fun v N => v = .bool r0 ∧ N = []) := by
 unfold Z27 at H; refine Fnc.enter (vs := [.slice b3 b5 b6, .func (.func 132) #[] #[pV a5, pV a6]]) Tryz.func131 rfl rfl (Inv.refl w) ?_; refine sR Y1 rfl ?_; refine aN Za ?_; refine Zs ?_; obtain ⟨r1, e2, H⟩ := Zp H; refine rG Y5 rfl ?_; refine Zb Za ?_; refine Zb Za ?_; refine Zx Z3y Za (fun wc hwc => Z7b (s0 := s0) (f1_1 := f1_1) wc (b7.mono hwc) (a9.mono hwc) (a7.mono hwc) (a8.mono hwc) e2) ?_; rintro _ _ ⟨rfl, rfl⟩; refine Zv Zn ?_; refine aN Za ?_; refine T.ret ?_; obtain rfl := ret1 H; exact Yd Za (Res.tmp rfl) Zh ⟨rfl, rfl⟩
theorem Z82 {n0 : Net} {a3 : Option Addr} {a2 a4 a6 : Nat} (w : World) (a5 : RS w [] Zl 3 a3 a2 a4 n0.Arcs) (a7 : HB w [] a6 [.func (.func 93) #[] #[]]) {r0 : Bool} (H : Z1z n0 = some r0) : Fnc Tryz.prog 130 #[.agg #[iV n0.N, iV n0.S, iV n0.T, .slice a3 a2 a4], pV a6] w [] (fun v N => v = .bool r0 ∧ N = []) := by
 unfold Z1z at H; refine Fnc.enter (vs := [.agg #[iV n0.N, iV n0.S, iV n0.T, .slice a3 a2 a4], pV a6]) Tryz.func130 rfl rfl (Inv.refl w) ?_; refine sR Y2 rfl ?_; refine Ws Za ?_; intro b1; refine aN Za ?_; refine Zs ?_; obtain ⟨r3, e4, H⟩ := Zp H; refine rG Y6 rfl ?_; refine Zr Za Vp ?_; refine Zu Za Vv Zj rfl ?_; refine TO.makeFunc Zc ?_; refine Zx Z54 Za (fun wc hwc => Z84 (s0 := n0.Arcs) (f1_1 := n0) wc (a5.mono hwc) (a7.mono hwc) (a5.mono hwc) (hwc.hb (cs := [iV n0.N, iV n0.S, iV n0.T, .slice a3 a2 a4]) Zj) e4) ?_; rintro _ _ ⟨rfl, rfl⟩; refine TO.not Za ?_; refine aN Za ?_; refine Zz (aT [3] rfl) ?_; refine T.ret ?_; obtain rfl := ret1 H; exact Yd Za (Res.tmp rfl) Zh ⟨rfl, rfl⟩
theorem Z87 {n0 : Net} {a5 : Option Addr} {a4 a6 : Nat} (w : World) (a7 : RS w [] Zl 3 a5 a4 a6 n0.Arcs) {r0 : Int} {r1 : Bool} (H : Z18 n0 = some (r0, r1)) : Fnc Tryz.prog 95 #[.agg #[iV n0.N, iV n0.S, iV n0.T, .slice a5 a4 a6]] w [] (fun v N => v = .tuple #[iV r0, .bool r1] ∧ N = []) := by
 unfold Z18 at H; refine Fnc.enter (vs := [.agg #[iV n0.N, iV n0.S, iV n0.T, .slice a5 a4 a6]]) Tryz.func95 rfl rfl (Inv.refl w) ?_; refine sR Y3 rfl ?_; refine Ws Za ?_; intro b1; refine Xi Za ?_; refine aN Za ?_; refine sR Y1 rfl ?_; refine aN Za ?_; refine Zs ?_; refine sR Y4 rfl ?_; refine Zr Za Vp ?_; refine Zu Za Vv Zj rfl ?_; refine Wq (xs := n0.Arcs) a7.len Zc Wx ?_; refine Zb Za ?_; refine dN ?_; refine Vs (fun (a3 : Int) => Z2p a3 = some (r0, r1)) (fun (a3 : Int) => [(4, iV a3)]) (fun (a3 : Int) => []) ?_ ?_
 ·
  refine T.block ?_; obtain ⟨b9, c0, b6⟩ := Zp H; refine T.loopE3 (fun (a8 : Nat) (a2 x4 : Int) => Wp (fun s => Rl n0 s.1 s.2) a8 (a2, x4) = some b9) (fun (a8 : Nat) (a2 x4 : Int) => [(4, iV a2), (8, .slice a5 a4 a6), (9, iV (n0.Arcs.length : Int)), (10, iV x4)]) (fun (a8 : Nat) (a2 x4 : Int) => []) (fun (a8 : Nat) (a2 x4 : Int) => a8) Kc 4611686018427387904 0 c0 (aF rfl) Zh ?_; rintro a8 a2 x4 H; obtain ⟨c4, b8, rfl, H, b3⟩ := Nw H; have H : Rl n0 a2 x4 = some b8 := H; unfold Rl at H; refine sR Y1 rfl ?_; refine Zv Zn ?_; refine dS ?_; rcases Zw H with ⟨g5, H⟩ | ⟨g5, H⟩
  ·
   refine Vm rfl g5 ?_; refine T.skip ?_; refine Yw ?_; refine Zs ?_; refine T.block ?_; obtain ⟨g6, H⟩ := Yv H; refine sR Y4 rfl ?_; refine Ke a7 g6 Zc Wx Kj ?_; refine Z26 (cs := [iV ((n0.Arcs.getD x4.toNat default).fr), iV ((n0.Arcs.getD x4.toNat default).to), iV ((n0.Arcs.getD x4.toNat default).cap)]) default a7 g6 Zc Gc ?_; refine Vi Zk Rh ?_; intro b7; refine Wy Za Ze Kj Zk ?_; refine dS ?_; refine Zs ?_; refine Vs (fun (a9 : Bool) => Z0n n0 a2 x4 a9 = some b8) (fun (a9 : Bool) => [(4, iV a2), (6, pV b7), (8, .slice a5 a4 a6), (9, iV (n0.Arcs.length : Int)), (10, iV x4), (22, .bool a9)]) (fun (a9 : Bool) => [(eC b7 #[iV ((n0.Arcs.getD x4.toNat default).fr), iV ((n0.Arcs.getD x4.toNat default).to), iV ((n0.Arcs.getD x4.toNat default).cap)] 58)]) ?_ ?_
   ·
    rcases Zw H with ⟨g9, H⟩ | ⟨g9, H⟩
    · refine rG Y9 rfl ?_; refine Zr Za Lu ?_; refine Zu Za Jy Zj rfl ?_; refine Zv Zn ?_; refine Zb Za ?_; refine Zm (t := 17) (b' := true) rfl (decide_eq_true g9) ?_; refine Zf Za ?_; refine Zf Za ?_; refine Zf Za ?_; refine Zf Za ?_; refine Zy Zc ?_; refine Zq ?_; exact Wd true H (aF rfl) (Zg Ze Zh)
    · refine rG Y9 rfl ?_; refine Zr Za Lu ?_; refine Zu Za Jy Zj rfl ?_; refine Zv Zn ?_; refine Zb Za ?_; refine Zm (t := 17) (b' := false) rfl (decide_eq_false g9) ?_; refine Zr Za Lu ?_; refine Zu Za Jy Zj rfl ?_; refine Zb Za ?_; refine Zv Zn ?_; refine Yc Zc ?_; refine Zq ?_; exact Wd (decide (a2 < ((n0.Arcs.getD x4.toNat default).cap))) H (aF rfl) (Zg Ze Zh)
   ·
    rintro a9 H; unfold Z0n at H; rcases Zw H with ⟨b5, H⟩ | ⟨b5, H⟩
    · refine Xc rfl b5 ?_; refine sR Y2 rfl ?_; refine Xi Za ?_; refine aN Za ?_; refine T.ret ?_; refine Yh ?_; refine Xp ?_; refine Yh ?_; have H := Uu H b3 ▸ b6; refine Yh ?_; refine Xp ?_; refine Yh ?_; obtain ⟨rfl, rfl⟩ := ret2 H; exact Kv Za (Res.tmp rfl) (Res.tmp rfl) Zh ⟨rfl, rfl⟩
    · refine Wk rfl (Bool.eq_false_iff.2 b5) ?_; refine T.skip ?_; refine Yw ?_; obtain ⟨c5, H⟩ := Yv H; refine rG Y5 rfl ?_; refine Zb Za ?_; refine Zr Za Lu ?_; refine Zu Za Jy Zj rfl ?_; refine Z0y c5 Zc ?_; refine Xi Za ?_; refine Zq ?_; refine Wu ?_; refine Yw ?_; obtain ⟨c6, H⟩ := Yv H; refine rG Y2 rfl ?_; refine Ks c6 Zc ?_; refine Zb Za ?_; refine Zq ?_; have H := La H b3; exact Z69 c4 (a2 - ((n0.Arcs.getD x4.toNat default).cap)) (x4 + 1) H (Nat.lt_succ_self _) (aF rfl) Zh
  · refine Vg rfl g5 ?_; refine T.exit ?_; refine Vy ?_; have H := Uu H b3 ▸ b6; refine Vy ?_; refine Gs ?_; exact Wd a2 H (aF rfl) Zh
 · rintro a3 H; unfold Z2p at H; obtain ⟨c7, H⟩ := Yv H; refine sR Y4 rfl ?_; refine Zb Za ?_; refine Z0y c7 Zc ?_; refine Xi Za ?_; refine aN Za ?_; refine T.ret ?_; obtain ⟨rfl, rfl⟩ := ret2 H; exact Kv Za (Res.tmp rfl) (Res.tmp rfl) Zh ⟨rfl, rfl⟩
theorem Z8n {n0 : Net} {a3 : Option Addr} {a2 a4 : Nat} (w : World) (a5 : RS w [] Zl 3 a3 a2 a4 n0.Arcs) {r0 : Bool} (H : Z2v n0 = some r0) : Fnc Tryz.prog 94 #[.agg #[iV n0.N, iV n0.S, iV n0.T, .slice a3 a2 a4]] w [] (fun v N => v = .bool r0 ∧ N = []) := by
 unfold Z2v at H; refine Fnc.enter (vs := [.agg #[iV n0.N, iV n0.S, iV n0.T, .slice a3 a2 a4]]) Tryz.func94 rfl rfl (Inv.refl w) ?_; refine sR Y2 rfl ?_; refine Ws Za ?_; intro b1; refine aN Za ?_; refine Zs ?_; obtain ⟨⟨r3, r4⟩, e5, H⟩ := Zp H; refine rG Y7 rfl ?_; refine Wf Za Xb Zj rfl ?_; refine Zx Z6x Za (fun wc hwc => Z87 (n0 := n0) wc (a5.mono hwc) e5) ?_; rintro _ _ ⟨rfl, rfl⟩; refine Zb Za ?_; refine TO.extract Zc ?_; refine TO.extract Zc ?_; refine Xi Za ?_; refine aN Za ?_; refine Zz (aT [4] rfl) ?_; refine sR Y2 rfl ?_; refine Zb Za ?_; refine aN Za ?_; refine T.ret ?_; obtain rfl := ret1 H; exact Yd Za (Res.tmp rfl) Zh ⟨rfl, rfl⟩
theorem Z6h {n0 : Net} {a4 : Option Addr} {a3 a5 : Nat} (w : World) (a2 : RS w [] Zl 3 a4 a3 a5 n0.Arcs) {r0 : Int} (H : Z2w n0 = some r0) : Fnc Tryz.prog 12 #[.agg #[iV n0.N, iV n0.S, iV n0.T, .slice a4 a3 a5]] w [] (fun v N => v = iV r0 ∧ N = []) := by
 unfold Z2w at H; refine Fnc.enter (vs := [.agg #[iV n0.N, iV n0.S, iV n0.T, .slice a4 a3 a5]]) Tryz.func12 rfl rfl (Inv.refl w) ?_; refine sR Y2 rfl ?_; refine Ws Za ?_; intro b1; refine aN Za ?_; refine Zs ?_; refine Zs ?_; obtain ⟨⟨⟩, e3, H⟩ := Zp H; refine rG Y2 rfl ?_; refine Zx Z8f Za (fun wc hwc => Z6p  wc  e3) ?_; rintro _ _ ⟨b4, b5, rfl, rfl⟩; refine Zb Za ?_; refine dN ?_; refine Vs (fun (a6 : Unit) => Z2n = some r0) (fun (a6 : Unit) => []) (fun (a6 : Unit) => []) ?_ ?_
 ·
  refine T.block ?_; refine T.loopU ?_; refine RT.round ?_; refine sR Y1 rfl ?_; refine Jm (b := true) Zn (by first | decide | rfl) ?_; refine dS ?_; refine Xc rfl rfl ?_; refine T.skip ?_; refine Yw ?_; refine Zs ?_; refine T.block ?_; refine sR Y3 rfl ?_; refine Gz (vs := [.func (.func 87) #[] #[], iV 10]) Zc Gk Na (by decide) rfl ?_; refine Vi Zk Gi ?_; intro b8; refine Wy Za Ze No Zk ?_; refine dS ?_; obtain ⟨c8, b9, H⟩ := Zp H; refine rG Y5 rfl ?_; refine Zr Za Nb ?_; refine Zu Za Gw Zj rfl ?_; refine Wf Za Xb mm3 rfl ?_; refine Kg Z97 Zc (fun wc hwc => Z9v (n0 := n0) wc (a2.mono hwc) b9) ?_; rintro _ _ ⟨rfl, rfl⟩; refine TO.not Za ?_; refine dN ?_; refine Zz (aT [1, 5, 6, 4, 13] rfl) ?_; rcases Zw H with ⟨a7, H⟩ | ⟨a7, H⟩
  · refine Xc rfl a7 ?_; refine sR Y3 rfl ?_; refine Zr Za Ni ?_; refine Zu Za Nq Zj rfl ?_; refine aN Za ?_; refine T.ret ?_; refine Xp ?_; refine Yh ?_; refine Yh ?_; refine Xp ?_; refine Yh ?_; obtain rfl := ret1 H; exact Yd Za (Res.tmp rfl) Zh ⟨rfl, rfl⟩
  ·
   refine Wk rfl (Bool.eq_false_iff.2 a7) ?_; refine T.skip ?_; refine Wu ?_; refine Yw ?_; refine rG Y2 rfl ?_; refine Gm (r := 1) (by decide) Zc ?_; refine Zb Za ?_; refine Zq ?_; refine X.round ?_; refine RT.round ?_; refine sR Y1 rfl ?_; refine Jm (b := true) Zn (by first | decide | rfl) ?_; refine dS ?_; refine Xc rfl rfl ?_; refine T.skip ?_; refine Yw ?_; refine Zs ?_; refine T.block ?_; refine sR Y3 rfl ?_; refine Gz (vs := [.func (.func 88) #[] #[], iV 11]) Zc Gk Na (by decide) rfl ?_; refine Vi Zk Gi ?_; intro d0; refine Wy Za Ze No Zk ?_; refine dS ?_; obtain ⟨d1, c0, H⟩ := Zp H; refine rG Y5 rfl ?_; refine Zr Za Nb ?_; refine Zu Za Gw Zj rfl ?_; refine Wf Za Xb mm4 rfl ?_; refine Kg Z75 Zc (fun wc hwc => Z88 (n0 := n0) wc (a2.mono hwc) c0) ?_; rintro _ _ ⟨rfl, rfl⟩; refine TO.not Za ?_; refine dN ?_; rcases Zw H with ⟨a8, H⟩ | ⟨a8, H⟩
   · refine Xc rfl a8 ?_; refine sR Y3 rfl ?_; refine Zr Za Ni ?_; refine Zu Za Nq Zj rfl ?_; refine aN Za ?_; refine Zz (aT [2] rfl) ?_; refine T.ret ?_; refine Xp ?_; refine Yh ?_; refine Yh ?_; refine Xp ?_; refine Yh ?_; obtain rfl := ret1 H; exact Yd Za (Res.tmp rfl) Zh ⟨rfl, rfl⟩
   ·
    refine Wk rfl (Bool.eq_false_iff.2 a8) ?_; refine T.skip ?_; refine Wu ?_; refine Yw ?_; refine Zz (aT [1, 5, 6] rfl) ?_; refine rG Y2 rfl ?_; refine Gm (r := 2) (by decide) Zc ?_; refine Zb Za ?_; refine Zq ?_; refine X.round ?_; refine RT.round ?_; refine sR Y1 rfl ?_; refine Jm (b := true) Zn (by first | decide | rfl) ?_; refine dS ?_; refine Xc rfl rfl ?_; refine T.skip ?_; refine Yw ?_; refine Zs ?_; refine T.block ?_; refine sR Y3 rfl ?_; refine Gz (vs := [.func (.func 89) #[] #[], iV 12]) Zc Gk Na (by decide) rfl ?_; refine Vi Zk Gi ?_; intro d2; refine Wy Za Ze No Zk ?_; refine dS ?_; obtain ⟨d3, c4, H⟩ := Zp H; refine rG Y5 rfl ?_; refine Zr Za Nb ?_; refine Zu Za Gw Zj rfl ?_; refine Wf Za Xb We rfl ?_; refine Kg Z7o Zc (fun wc hwc => Z63 (n0 := n0) wc (a2.mono hwc) c4) ?_; rintro _ _ ⟨rfl, rfl⟩; refine TO.not Za ?_; refine dN ?_; rcases Zw H with ⟨a9, H⟩ | ⟨a9, H⟩
    · refine Xc rfl a9 ?_; refine sR Y3 rfl ?_; refine Zr Za Ni ?_; refine Zu Za Nq Zj rfl ?_; refine aN Za ?_; refine Zz (aT [2] rfl) ?_; refine T.ret ?_; refine Xp ?_; refine Yh ?_; refine Yh ?_; refine Xp ?_; refine Yh ?_; obtain rfl := ret1 H; exact Yd Za (Res.tmp rfl) Zh ⟨rfl, rfl⟩
    ·
     refine Wk rfl (Bool.eq_false_iff.2 a9) ?_; refine T.skip ?_; refine Wu ?_; refine Yw ?_; refine Zz (aT [1, 5, 6] rfl) ?_; refine rG Y2 rfl ?_; refine Gm (r := 3) (by decide) Zc ?_; refine Zb Za ?_; refine Zq ?_; refine X.round ?_; refine RT.round ?_; refine sR Y1 rfl ?_; refine Jm (b := true) Zn (by first | decide | rfl) ?_; refine dS ?_; refine Xc rfl rfl ?_; refine T.skip ?_; refine Yw ?_; refine Zs ?_; refine T.block ?_; refine sR Y3 rfl ?_; refine Gz (vs := [.func (.func 130) #[] #[pV b4], iV 13]) Zc Gk Na (by decide) rfl ?_; refine Vi Zk Gi ?_; intro d4; refine Wy Za Ze No Zk ?_; refine dS ?_; obtain ⟨d5, c5, H⟩ := Zp H; refine rG Y5 rfl ?_; refine Zr Za Nb ?_; refine Zu Za Gw Zj rfl ?_; refine Wf Za Xb mm6 rfl ?_; refine Kg Z3u Zc (fun wc hwc => Z7i (n0 := n0) wc (a2.mono hwc) (hwc.hb (cs := [.func (.func 92) #[] #[]]) mm4) c5) ?_; rintro _ _ ⟨rfl, rfl⟩; refine TO.not Za ?_; refine dN ?_; rcases Zw H with ⟨b3, H⟩ | ⟨b3, H⟩
     · refine Xc rfl b3 ?_; refine sR Y3 rfl ?_; refine Zr Za Ni ?_; refine Zu Za Nq Zj rfl ?_; refine aN Za ?_; refine Zz (aT [2] rfl) ?_; refine T.ret ?_; refine Xp ?_; refine Yh ?_; refine Yh ?_; refine Xp ?_; refine Yh ?_; obtain rfl := ret1 H; exact Yd Za (Res.tmp rfl) Zh ⟨rfl, rfl⟩
     ·
      refine Wk rfl (Bool.eq_false_iff.2 b3) ?_; refine T.skip ?_; refine Wu ?_; refine Yw ?_; refine Zz (aT [1, 5, 6] rfl) ?_; refine rG Y2 rfl ?_; refine Gm (r := 4) (by decide) Zc ?_; refine Zb Za ?_; refine Zq ?_; refine X.round ?_; refine RT.round ?_; refine sR Y1 rfl ?_; refine Jm (b := true) Zn (by first | decide | rfl) ?_; refine dS ?_; refine Xc rfl rfl ?_; refine T.skip ?_; refine Yw ?_; refine Zs ?_; refine T.block ?_; refine sR Y3 rfl ?_; refine Gz (vs := [.func (.func 130) #[] #[pV b5], iV 14]) Zc Gk Na (by decide) rfl ?_; refine Vi Zk Gi ?_; intro d6; refine Wy Za Ze No Zk ?_; refine dS ?_; obtain ⟨d7, c6, H⟩ := Zp H; refine rG Y5 rfl ?_; refine Zr Za Nb ?_; refine Zu Za Gw Zj rfl ?_; refine Wf Za Xb mm7 rfl ?_; refine Kg Z3u Zc (fun wc hwc => Z82 (n0 := n0) wc (a2.mono hwc) (hwc.hb (cs := [.func (.func 93) #[] #[]]) mm6) c6) ?_; rintro _ _ ⟨rfl, rfl⟩; refine TO.not Za ?_; refine dN ?_; rcases Zw H with ⟨b6, H⟩ | ⟨b6, H⟩
      · refine Xc rfl b6 ?_; refine sR Y3 rfl ?_; refine Zr Za Ni ?_; refine Zu Za Nq Zj rfl ?_; refine aN Za ?_; refine Zz (aT [2] rfl) ?_; refine T.ret ?_; refine Xp ?_; refine Yh ?_; refine Yh ?_; refine Xp ?_; refine Yh ?_; obtain rfl := ret1 H; exact Yd Za (Res.tmp rfl) Zh ⟨rfl, rfl⟩
      ·
       refine Wk rfl (Bool.eq_false_iff.2 b6) ?_; refine T.skip ?_; refine Wu ?_; refine Yw ?_; refine Zz (aT [1, 5, 6] rfl) ?_; refine rG Y2 rfl ?_; refine Gm (r := 5) (by decide) Zc ?_; refine Zb Za ?_; refine Zq ?_; refine X.round ?_; refine RT.round ?_; refine sR Y1 rfl ?_; refine Jm (b := true) Zn (by first | decide | rfl) ?_; refine dS ?_; refine Xc rfl rfl ?_; refine T.skip ?_; refine Yw ?_; refine Zs ?_; refine T.block ?_; refine sR Y3 rfl ?_; refine Gz (vs := [.func (.func 94) #[] #[], iV 15]) Zc Gk Na (by decide) rfl ?_; refine Vi Zk Gi ?_; intro d8; refine Wy Za Ze No Zk ?_; refine dS ?_; obtain ⟨d9, c7, H⟩ := Zp H; refine rG Y5 rfl ?_; refine Zr Za Nb ?_; refine Zu Za Gw Zj rfl ?_; refine Wf Za Xb Wi rfl ?_; refine Kg Z7m Zc (fun wc hwc => Z8n (n0 := n0) wc (a2.mono hwc) c7) ?_; rintro _ _ ⟨rfl, rfl⟩; refine TO.not Za ?_; refine dN ?_; rcases Zw H with ⟨b7, H⟩ | ⟨b7, H⟩
       · refine Xc rfl b7 ?_; refine sR Y3 rfl ?_; refine Zr Za Ni ?_; refine Zu Za Nq Zj rfl ?_; refine aN Za ?_; refine Zz (aT [2] rfl) ?_; refine T.ret ?_; refine Xp ?_; refine Yh ?_; refine Yh ?_; refine Xp ?_; refine Yh ?_; obtain rfl := ret1 H; exact Yd Za (Res.tmp rfl) Zh ⟨rfl, rfl⟩
       · refine Wk rfl (Bool.eq_false_iff.2 b7) ?_; refine T.skip ?_; refine Wu ?_; refine Yw ?_; refine Zz (aT [1, 5, 6] rfl) ?_; refine rG Y2 rfl ?_; refine Gm (r := 6) (by decide) Zc ?_; refine Zb Za ?_; refine Zq ?_; refine X.round ?_; refine RT.round ?_; refine sR Y1 rfl ?_; refine Jm (b := false) Zn (by first | decide | rfl) ?_; refine dS ?_; refine Wk rfl rfl ?_; refine T.exit ?_; refine Vy ?_; refine Vy ?_; refine Gs ?_; exact Wd () H Ny Zh
 · rintro a6 H; unfold Z2n at H; refine sR Y1 rfl ?_; refine aN Za ?_; refine T.ret ?_; obtain rfl := ret1 H; exact Yd Za (Res.tmp rfl) Zh ⟨rfl, rfl⟩
end Go.Proofs.YtnppjbofdkokkaaGreatDoor.Ax
namespace Go.Proofs.YtnppjbofdkokkaaGreatDoor.Ax
open Go Go.Acq Go.RowKit Go.Proofs
set_option maxHeartbeats 8000000
set_option maxRecDepth 20000
theorem Z73 : Ya Tryz.prog 133 = true := by kernel_rfl
theorem Z6e : Ya Tryz.prog 146 = true := by kernel_rfl
theorem Z70 : Ya Tryz.prog 147 = true := by kernel_rfl
theorem Z9o : Ya Tryz.prog 188 = true := by kernel_rfl
theorem Z6r : Ya Tryz.prog 71 = true := by kernel_rfl
theorem Z6d : Ya Tryz.prog 72 = true := by kernel_rfl
theorem Za3 : Ya Tryz.prog 73 = true := by kernel_rfl
theorem Z7j : ExtF Tryz.prog 192 (Extern.BytealgIndexByte.indexByte) := ⟨Tryz.f192, Tryz.func192, by kernel_rfl, rfl, by kernel_rfl, by kernel_rfl⟩
theorem Ww : Xj Tryz.prog 25 = some 5 := by kernel_rfl
theorem Jn : Ym Tryz.prog 5 = some 1 := by kernel_rfl
theorem TWPSY.s5 : Xk Tryz.prog 5 = true := by kernel_rfl
theorem Un : Ge Tryz.prog 9 = true := by kernel_rfl
theorem Z2e : Tryz.prog.underlying 5 = some (.int .u8) := by kernel_rfl
theorem Z8l : Jx Tryz.prog 90 = true := by kernel_rfl
theorem Z9x {c0 : Int} (w : World) {r0 : Bool} (H : Lr c0 = some r0) : Fnc Tryz.prog 147 #[.int .i32 c0] w [] (fun v N => v = .bool r0 ∧ N = []) := by
 unfold Lr at H; refine Fnc.enter (vs := [.int .i32 c0]) Tryz.func147 rfl rfl (Inv.refl w) ?_; refine sR Y1 rfl ?_; refine aN Za ?_; refine Zs ?_; rcases Zw H with ⟨g1, H⟩ | ⟨g1, H⟩
 · refine rG Y11 rfl ?_; refine Zb Za ?_; refine Zv Zn ?_; refine Zb Za ?_; refine Zm (t := 5) (b' := true) rfl (decide_eq_true g1) ?_; refine Zf Za ?_; refine Zf Za ?_; refine Zy Zc ?_; refine Zb Za ?_; refine Zf Za ?_; refine Zf Za ?_; refine Zy Zc ?_; refine aN Za ?_; refine Zz (aT [2] rfl) ?_; refine T.ret ?_; obtain rfl := ret1 H; exact Yd Za (Res.tmp rfl) Zh ⟨rfl, rfl⟩
 ·
  rcases Zw H with ⟨g2, H⟩ | ⟨g2, H⟩
  · refine rG Y11 rfl ?_; refine Zb Za ?_; refine Zv Zn ?_; refine Zb Za ?_; refine Zm (t := 5) (b' := false) rfl (decide_eq_false g1) ?_; refine Zb Za ?_; refine Zv Zn ?_; refine Yc Zc ?_; refine Zb Za ?_; refine Zm (t := 9) (b' := true) rfl (decide_eq_true g2) ?_; refine Zf Za ?_; refine Zf Za ?_; refine Zy Zc ?_; refine aN Za ?_; refine Zz (aT [2] rfl) ?_; refine T.ret ?_; obtain rfl := ret1 H; exact Yd Za (Res.tmp rfl) Zh ⟨rfl, rfl⟩
  · refine rG Y11 rfl ?_; refine Zb Za ?_; refine Zv Zn ?_; refine Zb Za ?_; refine Zm (t := 5) (b' := false) rfl (decide_eq_false g1) ?_; refine Zb Za ?_; refine Zv Zn ?_; refine Yc Zc ?_; refine Zb Za ?_; refine Zm (t := 9) (b' := false) rfl (decide_eq_false g2) ?_; refine Zb Za ?_; refine Zv Zn ?_; refine Yc Zc ?_; refine aN Za ?_; refine Zz (aT [2] rfl) ?_; refine T.ret ?_; obtain rfl := ret1 H; exact Yd Za (Res.tmp rfl) Zh ⟨rfl, rfl⟩
theorem Z9p : PredF Tryz.prog 147 Z0p := by
 intro w x hx; have ht : ∃ b, Lr (x : Int) = some b := by
  simp only [Lr]; (repeat' split) <;> exact ⟨_, rfl⟩
 obtain ⟨b, hb⟩ := ht; refine Fnc.mono (Z9x w hb) ?_; rintro v N ⟨rfl, rfl⟩; refine ⟨?_, rfl⟩; unfold Z0p; rw [hb]; cases b <;> rfl
theorem Z9g (w : World) {s0 : Str} {r0 : List Str} (H : Z2l s0 = some r0) : Fnc Tryz.prog 146 #[.string (bs s0), .func (.func 147) #[] #[]] w [] (fun v N => ∃ (a2 : Option Nat) (a3 a4 : Nat) (a5 : List Value), v = sV a2 a3 a4 ∧ N = [(eA a2 Ye r0 a5 9)] ∧ r0.length = a3 ∧ a3 ≤ a4 ∧ a5.length = (a4 - a3) * 1 ∧ (a2 = none → a4 = 0)) := by
 unfold Z2l at H; obtain ⟨g, H⟩ := Yv H; injection H with H; exact Za1 Z81 147 Z70 Z0p Z9p (by kernel_rfl) (by kernel_rfl) s0 g w H
theorem Z78 {line0 : List Int} {a2 : Option Addr} {a4 a3 : Nat} (w : World) (a5 : RS w [] (intC .u8) 1 a2 a4 a3 line0) {r0 : List Str} (H : Z32 line0 = some r0) : Fnc Tryz.prog 108 #[.slice a2 a4 a3] w [] (fun v N => ∃ (a6 : Option Nat) (a7 a8 : Nat) (b3 : List Value), v = sV a6 a7 a8 ∧ N = [(eA a6 Ye r0 b3 9)] ∧ r0.length = a7 ∧ a7 ≤ a8 ∧ b3.length = (a8 - a7) * 1 ∧ (a6 = none → a8 = 0)) := by
 unfold Z32 at H; refine Fnc.enter (vs := [.slice a2 a4 a3]) Tryz.func108 rfl rfl (Inv.refl w) ?_; refine sR Y1 rfl ?_; refine aN Za ?_; refine Zs ?_; obtain ⟨r1, e2, H⟩ := Zp H; refine rG Y4 rfl ?_; refine Zb Za ?_; refine TO.toT (xs := line0) Za Ww Z2e Un (fun wc hwc => (a5.mono hwc)) ?_; refine Zx Z6e Za (fun wc hwc => Z9g (s0 := (bu line0)) wc  e2) ?_; rintro _ _ ⟨b5, n4, c5, j6, rfl, rfl, b6, b7, b8, a9⟩; refine aN Za ?_; refine T.ret ?_; obtain rfl := ret1 H; exact Yd Za (Res.tmp rfl) (Zg Ze Zh) ⟨b5, n4, c5, j6, rfl, rfl, b6, b7, b8, a9⟩
theorem Z91 {c0 : Int} (w : World) {r0 : Bool} (H : Nh c0 = some r0) : Fnc Tryz.prog 71 #[.int .i32 c0] w [] (fun v N => v = .bool r0 ∧ N = []) := by
 unfold Nh at H; refine Fnc.enter (vs := [.int .i32 c0]) Tryz.func71 rfl rfl (Inv.refl w) ?_; refine sR Y1 rfl ?_; refine aN Za ?_; refine Zs ?_; rcases Zw H with ⟨g1, H⟩ | ⟨g1, H⟩
 · refine rG Y7 rfl ?_; refine Zb Za ?_; refine Zv Zn ?_; refine Zb Za ?_; refine Zm (t := 5) (b' := true) rfl (decide_eq_true g1) ?_; refine Zf Za ?_; refine Zf Za ?_; refine Zy Zc ?_; refine aN Za ?_; refine T.ret ?_; obtain rfl := ret1 H; exact Yd Za (Res.tmp rfl) Zh ⟨rfl, rfl⟩
 · refine rG Y7 rfl ?_; refine Zb Za ?_; refine Zv Zn ?_; refine Zb Za ?_; refine Zm (t := 5) (b' := false) rfl (decide_eq_false g1) ?_; refine Zb Za ?_; refine Zv Zn ?_; refine Yc Zc ?_; refine aN Za ?_; refine T.ret ?_; obtain rfl := ret1 H; exact Yd Za (Res.tmp rfl) Zh ⟨rfl, rfl⟩
theorem Z6w : PredF Tryz.prog 71 Jk := by
 intro w x hx; have ht : ∃ b, Nh (x : Int) = some b := by
  simp only [Nh]; (repeat' split) <;> exact ⟨_, rfl⟩
 obtain ⟨b, hb⟩ := ht; refine Fnc.mono (Z91 w hb) ?_; rintro v N ⟨rfl, rfl⟩; refine ⟨?_, rfl⟩; unfold Jk; rw [hb]; cases b <;> rfl
theorem Z65 (w : World) {s0 : Str} {r0 : Bool} (H : Rn s0 = some r0) : Fnc Tryz.prog 72 #[.string (bs s0), .func (.func 71) #[] #[]] w [] (fun v N => v = .bool r0 ∧ N = []) := by
 unfold Rn at H; injection H with H; subst H; exact Fnc.anyf Z9t 71 Z6r Jk Z6w s0 w
theorem Z6f (w : World) {s0 : Str} {i1 i2 : Int} (hG : GK Tryz.prog w []) {r0 : Int} {r1 : Bool} (H : Rf s0 i1 i2 = some (r0, r1)) : Fnc Tryz.prog 73 #[.string (bs s0), iV i1, iV i2] w [] (fun v N => ∃ (a2 : Value), v = .tuple #[iV r0, a2] ∧ N = [] ∧ IfV a2 r1) := by
 unfold Rf at H; obtain ⟨g, H⟩ := Yv H; injection H with H1; obtain ⟨g, rfl, rfl⟩ := g; exact Z62 Z72 s0 g w hG H1
theorem Jr {s0 : Str} (w : World) (hG : GK Tryz.prog w []) {r0 : Int} {r1 : Bool} (H : Vw s0 = some (r0, r1)) : Fnc Tryz.prog 33 #[.string (bs s0)] w [] (fun v N => v = .tuple #[iV r0, .bool r1] ∧ N = []) := by
 unfold Vw at H; refine Fnc.enter (vs := [.string (bs s0)]) Tryz.func33 rfl rfl (Inv.refl w) ?_; refine sR Y2 rfl ?_; refine Xi Za ?_; refine aN Za ?_; refine sR Y1 rfl ?_; refine aN Za ?_; refine Zs ?_; refine Zs ?_; refine Vs (fun (x4 : Bool) => Gl s0 x4 = some (r0, r1)) (fun (x4 : Bool) => [(0, .string (bs s0)), (14, .bool x4)]) (fun (x4 : Bool) => []) ?_ ?_
 ·
  rcases Zw H with ⟨g1, H⟩ | ⟨g1, H⟩
  · refine rG Y8 rfl ?_; refine Zb Za ?_; refine Jg (p := s0) Zc Un ?_; refine Zv Zn ?_; refine Zb Za ?_; refine Zm (t := 10) (b' := true) rfl (decide_eq_true g1) ?_; refine Zf Za ?_; refine Zf Za ?_; refine Zf Za ?_; refine Zy Zc ?_; refine Zq ?_; exact Wd true H (aF rfl) Zh
  · obtain ⟨r2, e3, H⟩ := Zp H; refine rG Y8 rfl ?_; refine Zb Za ?_; refine Jg (p := s0) Zc Un ?_; refine Zv Zn ?_; refine Zb Za ?_; refine Zm (t := 10) (b' := false) rfl (decide_eq_false g1) ?_; refine Zb Za ?_; refine Zb Za ?_; refine Zx Z6d Za (fun wc hwc => Z65 (s0 := s0) wc  e3) ?_; rintro _ _ ⟨rfl, rfl⟩; refine Yc Zc ?_; refine Zq ?_; exact Wd r2 H (aF rfl) Zh
 ·
  rintro x4 H; unfold Gl at H; rcases Zw H with ⟨g5, H⟩ | ⟨g5, H⟩
  · refine Xc rfl g5 ?_; refine sR Y2 rfl ?_; refine Xi Za ?_; refine aN Za ?_; refine T.ret ?_; refine Yh ?_; obtain ⟨rfl, rfl⟩ := ret2 H; exact Kv Za (Res.tmp rfl) (Res.tmp rfl) Zh ⟨rfl, rfl⟩
  ·
   refine Wk rfl (Bool.eq_false_iff.2 g5) ?_; refine T.skip ?_; refine Yw ?_; refine Zs ?_; obtain ⟨⟨r6, r7⟩, e8, H⟩ := Zp H; refine rG Y7 rfl ?_; refine Zb Za ?_; refine Zx Za3 Za (fun wc hwc => Z6f (s0 := s0) (i1 := 10) (i2 := 64) wc (hG.mono hwc) e8) ?_; rintro _ _ ⟨a4, rfl, rfl, a2⟩; refine Zb Za ?_; refine TO.extract Zc ?_; refine TO.extract Zc ?_; refine Xi Za ?_; refine aN Za ?_; refine Zs ?_; refine sR Y2 rfl ?_; refine Zb Za ?_; refine Z7p a2 Za Z8l ?_; refine dN ?_; refine Zz (aT [5, 21] rfl) ?_; rcases Zw H with ⟨a3, H⟩ | ⟨a3, H⟩
   · refine Xc rfl a3 ?_; refine sR Y2 rfl ?_; refine Xi Za ?_; refine aN Za ?_; refine T.ret ?_; refine Yh ?_; obtain ⟨rfl, rfl⟩ := ret2 H; exact Kv Za (Res.tmp rfl) (Res.tmp rfl) Zh ⟨rfl, rfl⟩
   · refine Wk rfl (Bool.eq_false_iff.2 a3) ?_; refine T.skip ?_; refine Yw ?_; refine sR Y3 rfl ?_; refine Zb Za ?_; refine Xi Za ?_; refine aN Za ?_; refine T.ret ?_; obtain ⟨rfl, rfl⟩ := ret2 H; exact Kv Za (Res.tmp rfl) (Res.tmp rfl) Zh ⟨rfl, rfl⟩
theorem Z4i (w : World) {i0 i1 : Int} (hG : GK Tryz.prog w []) {r0 : Str} (H : Z0j i0 i1 = some r0) : Fnc Tryz.prog 32 #[iV i0, iV i1] w [] (fun v N => v = .string (bs r0) ∧ N = []) := by
 unfold Z0j at H; obtain ⟨g, H⟩ := Yv H; injection H with H; subst H; obtain ⟨g, rfl⟩ := g; exact Z6y Z6u i0 g w hG
theorem Z8w {s0 sep1 : List Int} {sepSave2 : Int} {a5 a3 : Option Addr} {a6 a7 a4 a2 : Nat} (w : World) (b8 : RS w [] (intC .u8) 1 a5 a6 a7 s0) (a8 : RS w [] (intC .u8) 1 a3 a4 a2 sep1) (H : Z2i s0 sep1 sepSave2 = some ()) : Fnc Tryz.prog 133 #[.slice a5 a6 a7, .slice a3 a4 a2, iV sepSave2] w [] (fun v N => ∃ (a9 b6 b7 : Nat), v = .func (.func 166) #[] #[pV a9, pV b6, pV b7] ∧ N = [(eC a9 #[.slice a3 a4 a2] 25), (eC b6 #[.slice a5 a6 a7] 25), (eC b7 #[iV sepSave2] 3)]) := by
 unfold Z2i at H; refine Fnc.enter (vs := [.slice a5 a6 a7, .slice a3 a4 a2, iV sepSave2]) Tryz.func133 rfl rfl (Inv.refl w) ?_; refine sR Y4 rfl ?_; refine TO.box Za ?_; intro b1; refine TO.box Za ?_; intro b3; refine TO.box Za ?_; intro b5; refine aN Za ?_; refine sR Y2 rfl ?_; refine TO.makeFunc Zc ?_; refine aN Za ?_; refine T.ret ?_; exact Yd Za (Res.tmp rfl) (Zg Zt (Zg Zt (Zg Ze Zh))) ⟨b3, b1, b5, rfl, rfl⟩
theorem Z9y {s0 sep1 : List Int} {a5 a3 : Option Addr} {a6 a7 a4 a2 : Nat} (w : World) (a9 : RS w [] (intC .u8) 1 a5 a6 a7 s0) (a8 : RS w [] (intC .u8) 1 a3 a4 a2 sep1) (H : Z1t s0 sep1 = some ()) : Fnc Tryz.prog 97 #[.slice a5 a6 a7, .slice a3 a4 a2] w [] (fun v N => ∃ (b5 b6 b7 : Nat), v = .func (.func 166) #[] #[pV b5, pV b6, pV b7] ∧ N = [(eC b5 #[.slice a3 a4 a2] 25), (eC b6 #[.slice a5 a6 a7] 25), (eC b7 #[iV 0] 3)]) := by
 unfold Z1t at H; refine Fnc.enter (vs := [.slice a5 a6 a7, .slice a3 a4 a2]) Tryz.func97 rfl rfl (Inv.refl w) ?_; refine sR Y1 rfl ?_; refine aN Za ?_; refine Zs ?_; obtain ⟨⟨⟩, e1, H⟩ := Zp H; refine rG Y4 rfl ?_; refine Zb Za ?_; refine Zb Za ?_; refine Zx Z73 Za (fun wc hwc => Z8w (s0 := s0) (sep1 := sep1) (sepSave2 := 0) wc (a9.mono hwc) (a8.mono hwc) e1) ?_; rintro _ _ ⟨b2, b3, b4, rfl, rfl⟩; refine aN Za ?_; refine T.ret ?_; exact Yd Za (Res.tmp rfl) (Zg Ze (Zg Ze (Zg Ze Zh))) ⟨b2, b3, b4, rfl, rfl⟩
theorem Z7a {b0 : List Int} {c1 : Int} {a3 : Option Addr} {a4 a2 : Nat} (w : World) (a5 : RS w [] (intC .u8) 1 a3 a4 a2 b0) {r0 : Int} (H : Z2c b0 c1 = some r0) : Fnc Tryz.prog 188 #[.slice a3 a4 a2, .int .u8 c1] w [] (fun v N => v = iV r0 ∧ N = []) := by
 unfold Z2c at H; refine Fnc.enter (vs := [.slice a3 a4 a2, .int .u8 c1]) Tryz.func188 rfl rfl (Inv.refl w) ?_; refine sR Y1 rfl ?_; refine aN Za ?_; refine sR Y4 rfl ?_; refine Zb Za ?_; refine Zb Za ?_; refine TO.idxB (xs := b0) Z7j Zc (fun wc hwc => (a5.mono hwc)) ?_; refine aN Za ?_; refine T.ret ?_; obtain rfl := ret1 H; exact Yd Za (Res.tmp rfl) Zh ⟨rfl, rfl⟩
theorem Z6k {s0 sep1 : List Int} {a6 a4 : Option Addr} {a7 a8 a5 a3 : Nat} (w : World) (a9 : RS w [] (intC .u8) 1 a6 a7 a8 s0) (a2 : RS w [] (intC .u8) 1 a4 a5 a3 sep1) {r0 : Int} (H : Z33 s0 sep1 = some r0) : Fnc Tryz.prog 168 #[.slice a6 a7 a8, .slice a4 a5 a3] w [] (fun v N => v = iV r0 ∧ N = []) := by
 unfold Z33 at H; refine Fnc.enter (vs := [.slice a6 a7 a8, .slice a4 a5 a3]) Tryz.func168 rfl rfl (Inv.refl w) ?_; refine sR Y1 rfl ?_; refine aN Za ?_; refine sR Y3 rfl ?_; refine Zb Za ?_; refine Wq (xs := sep1) a2.len Zc Ww ?_; refine aN Za ?_; refine Zs ?_; refine T.block ?_; refine sR Y3 rfl ?_; refine Zb Za ?_; refine Zv Zn ?_; refine aN Za ?_; rcases Zw H with ⟨g1, H⟩ | ⟨g1, H⟩
 · cases H
 ·
  refine Vg rfl g1 ?_; refine sR Y3 rfl ?_; refine Zb Za ?_; refine Zv Zn ?_; refine aN Za ?_; refine Zz (aT [0, 1, 5, 25] rfl) ?_; rcases Zw H with ⟨g2, H⟩ | ⟨g2, H⟩
  · refine Vm rfl g2 ?_; refine Zs ?_; obtain ⟨g3, H⟩ := Yv H; obtain ⟨r4, e5, H⟩ := Zp H; refine rG Y6 rfl ?_; refine Zb Za ?_; refine Zb Za ?_; refine Ke a2 g3 Zc Ww Jn ?_; refine TO.ldIR a2 g3 Za TWPSY.s5 ?_; refine Zx Z9o Za (fun wc hwc => Z7a (b0 := s0) (c1 := (sep1.getD (0 : Int).toNat 0)) wc (a9.mono hwc) e5) ?_; rintro _ _ ⟨rfl, rfl⟩; refine aN Za ?_; refine Zz (aT [4] rfl) ?_; refine T.ret ?_; refine Xp ?_; refine Yh ?_; obtain rfl := ret1 H; exact Yd Za (Res.tmp rfl) Zh ⟨rfl, rfl⟩
  · cases H
end Go.Proofs.YtnppjbofdkokkaaGreatDoor.Ax
