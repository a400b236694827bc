/- CsrTurns: the statement. -/
import Derived.Test.YtcdbemdogkmahaaRows
import Derived.Test.YtcdbemdogkmahaaCsrTurnsW
import Derived.Test.YtcdbemdogkmahaaAcqOpen
import Derived.WalkKit
import Derived.ProofKit
import Derived.OpenShut
import Derived.ShutString
import Derived.ChangeOld
import Derived.Below
namespace Go.Proofs.Ytcdbemdogkmahaa
open Go.ChangeShapes Go.WideShapes Go.ChangeAt Go.RowKit Go.Deep
set_option linter.unusedVariables false
theorem own : ownKnob Try.prog.godebug = none := by kernel_rfl
theorem laidOut : laidOutB Try.prog = true := by kernel_rfl
theorem kind2 : Try.prog.underlying 2 = some (.int .i64) := by kernel_rfl
theorem kind3 : Try.prog.underlying 3 = some (.int .i64) := by kernel_rfl
theorem kind4 : Try.prog.underlying 4 = some .bool := by kernel_rfl
theorem kind22 : Try.prog.underlying 22 = some (.slice 28) := by kernel_rfl
theorem kind25 : Try.prog.underlying 25 = some (.slice 2) := by kernel_rfl
set_option maxRecDepth 100000 in
/-- a net that comes in -/
theorem open_net {H : Type} {enc : TypeId × Value → H} {w : World} {base : Nat} {spare : Nat → Bool} {held : Bool} {r : Reach} {b0 : Nat} {v : Value} {d : DataW H} {p : List MemPlace}
    (hv : Value.okWide Try.prog w r b0 24 v) (h : DataW.Trod enc Try.prog w base spare held 24 v d p) :
    ∃ (nN nS nT : Int) (b : Option Addr) (n c : Nat) (al : List Acq.Arc), v = .agg #[.int .i64 nN, .int .i64 nS, .int .i64 nT, .slice b n c] ∧ Acq.RO w Acq.arcC 3 b n al ∧ n ≤ c ∧ n ≤ 9223372036854775807 ∧ ∀ a, a ∈ al → Acq.fitI a.fr ∧ Acq.fitI a.to ∧ Acq.fitI a.cap := by
  obtain ⟨v0, v1, v2, v3, x0, x1, x2, x3, m, rfl, _, _, t0, t1, t2, t3⟩ := Joins.open_agg4 Try.underlying24 (by kernel_rfl) (by kernel_rfl) hv h
  obtain ⟨n0, e0, _, _⟩ := DataW.trod_int kind3 t0
  obtain ⟨n1, e1, _, _⟩ := DataW.trod_int kind3 t1
  obtain ⟨n2, e2, _, _⟩ := DataW.trod_int kind3 t2
  injection e0 with e0 _; injection e1 with e1 _; injection e2 with e2 _
  subst e0; subst e1; subst e2
  obtain ⟨b, n, c, al, rfl, hro, hl, hm, hf⟩ := Acq.open_arcs kind22 Try.underlying28 rfl (by kernel_rfl) (by kernel_rfl) kind3 kind3 kind2 t3
  exact ⟨n0, n1, n2, b, n, c, al, rfl, hro, hl, hm, hf⟩
set_option maxRecDepth 100000 in
theorem open_row {H : Type} {enc : TypeId × Value → H} {w : World} {base : Nat} {spare : Nat → Bool} {held : Bool} {r : Reach} {b0 : Nat} {v : Value} {d : DataW H} {p : List MemPlace}
    (hv : Value.okWide Try.prog w r b0 25 v) (h : DataW.Trod enc Try.prog w base spare held 25 v d p) :
    ∃ (b : Option Addr) (n c : Nat) (xs : List Int), v = .slice b n c ∧ Acq.RO w (Acq.intC .i64) 1 b n xs ∧ n ≤ c ∧ n ≤ 9223372036854775807 ∧ ∀ y, y ∈ xs → Acq.fitI y := by
  obtain ⟨a0, l0, c0, rfl⟩ := okWide_slice kind25 hv
  obtain ⟨fuel, hf⟩ := h
  exact Acq.open_longs kind25 kind2 (by kernel_rfl) hf
set_option maxRecDepth 100000 in
theorem lifted_csrTurns (os : Os) (started : os.Started) (H : Type) (enc : TypeId × Value → H) :
    ReturnsInHanded {} Try.checked os 3 .any (Rows.csrTurnsSpec.pre6 enc Try.prog Try.f3 Rows.csrTurnsRow.domain false) (Rows.csrTurnsSpec.post enc Try.prog Try.f3 false true false false) := by
  refine returnsInHanded_of_change (C := Try.checked) own started (by kernel_rfl) Try.func3
    (ChangeSpec.witness6 (enc := enc) (C := Try.checked) false ⟨#[], #[.agg #[.int .i64 0, .int .i64 0, .int .i64 0, .slice none 0 0], .slice none 0 0], []⟩ 8 (by kernel_rfl) (by kernel_rfl) (by kernel_rfl) (by kernel_rfl)) ?_
  intro W base args ds gs before hval0 hW hcnd _
  have hval : ∀ (j : Nat) t v, Try.f3.params[j]? = some t → args[j]? = some v → Value.okWide Try.prog W .any base t v := hval0
  have hW' := hW
  obtain ⟨p, q, hA0, hV, rfl, hfz, hnd⟩ := hW
  have hA : DataW.TrodAll enc Try.prog W 0 (fun _ => true) true Try.f3.params.toList args.toList ds p := hA0
  rw [show Try.f3.params = #[24, 25] by kernel_rfl] at hA hval
  obtain ⟨v0, vs0, d0, ds0, p0, q0, hargs, rfl, rfl, h0, r0⟩ := trodAll_cons hA
  obtain ⟨v1, vs1, d1, ds1, p1, q1, rfl, rfl, rfl, h1, r1⟩ := trodAll_cons r0
  obtain ⟨rfl, rfl, rfl⟩ := trodAll_nil r1
  obtain rfl : args = #[v0, v1] := by cases args; simp_all
  obtain ⟨rfl, rfl⟩ := trodVars_none hV
  have k0 := h0
  have k1 := h1
  have lt0 : ∀ x ∈ p0, x.block < W.heap.size := by obtain ⟨m, hm⟩ := k0; exact DataW.trod_lt m _ _ _ hm
  have lt1 : ∀ x ∈ p1, x.block < W.heap.size := by obtain ⟨m, hm⟩ := k1; exact DataW.trod_lt m _ _ _ hm
  obtain ⟨nN, nS, nT, b, n, c, al, rfl, hro, hnc, hn, hf⟩ := open_net (hval 0 24 v0 rfl rfl) h0
  obtain ⟨lb, ln, lc, xs, rfl, hrx, hlc, hln, hfx⟩ := open_row (hval 1 25 v1 rfl rfl) h1
  clear hA0 hval0
  refine Calls.mono (Acq.w_turns nN nS nT b n c al lb ln lc xs W hro hrx hn hnc hln (fun a h => (hf a h).2.2) hfx) fun e W' he => ?_
  obtain ⟨v, N, ⟨rfl, rfl⟩, he', hi⟩ := he
  have bel := hi.below
  subst he'
  exact ⟨_, rfl, _, _, _, [], _, [], hW', trodAll_mk1 (shut_bool kind4 _), (trodAll_cons_mk (Below.trod laidOut (by kernel_rfl) (of_decide_eq_true (by kernel_rfl)) k0 bel lt0) (trodAll_cons_mk (Below.trod laidOut (by kernel_rfl) (of_decide_eq_true (by kernel_rfl)) k1 bel lt1) trodAll_mk0)), rfl, bel.frame _, fun h => by cases h⟩
theorem csrTurns_holds : Rows.CsrTurnsSaid :=
  OpenClaim.holds_of_wide 3 Try.f3 rfl rfl rfl rfl rfl rfl rfl ⟨rfl, rfl, rfl, rfl, rfl⟩ rfl rfl rfl rfl rfl (by kernel_rfl) Try.func3 (by kernel_rfl)
    (of_decide_eq_true (by kernel_rfl)) (by unfold Func.isWrapper; first | (rw [if_pos (by decide +kernel)]; kernel_rfl) | (rw [if_neg (by decide +kernel)]; exact ⟨rfl, rfl⟩))
    (fun os started H enc _ => lifted_csrTurns os started H enc)
end Go.Proofs.Ytcdbemdogkmahaa
