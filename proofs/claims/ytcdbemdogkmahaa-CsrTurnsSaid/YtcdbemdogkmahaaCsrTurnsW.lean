/- The walk of CsrTurns. -/
import Derived.Test.YtcdbemdogkmahaaAwake
import Derived.Test.YtcdbemdogkmahaaAcqTurnLaw
namespace Go.Proofs.Ytcdbemdogkmahaa.Acq
open Go Go.Acq Go.RowKit Go.Proofs
theorem TyCsrTurnsW.a33 : aggT Try.prog 33 9 = true := by kernel_rfl
theorem TyCsrTurnsW.c17 : callable Try.prog 17 = true := by kernel_rfl
theorem TyCsrTurnsW.c18 : callable Try.prog 18 = true := by kernel_rfl
theorem TyCsrTurnsW.c19 : callable Try.prog 19 = true := by kernel_rfl
theorem TyCsrTurnsW.c20 : callable Try.prog 20 = true := by kernel_rfl
theorem TyCsrTurnsW.c21 : callable Try.prog 21 = true := by kernel_rfl
theorem TyCsrTurnsW.c22 : callable Try.prog 22 = true := by kernel_rfl
theorem TyCsrTurnsW.c23 : callable Try.prog 23 = true := by kernel_rfl
theorem TyCsrTurnsW.f33_3 : fieldT Try.prog 33 3 = some 3 := by kernel_rfl
theorem TyCsrTurnsW.f33_5 : fieldT Try.prog 33 5 = some 5 := by kernel_rfl
theorem TyCsrTurnsW.n22 : sizeT Try.prog 22 = some 1 := by kernel_rfl
theorem TyCsrTurnsW.n24 : sizeT Try.prog 24 = some 4 := by kernel_rfl
theorem TyCsrTurnsW.n33 : sizeT Try.prog 33 = some 9 := by kernel_rfl
theorem TyCsrTurnsW.z24 : zeroT Try.prog 24 = some (.agg #[.int .i64 0, .int .i64 0, .int .i64 0, .slice none 0 0]) := by kernel_rfl
theorem TyCsrTurnsW.z33 : zeroT Try.prog 33 = some (.agg #[.int .i64 0, .int .i64 0, .int .i64 0, .slice none 0 0, .slice none 0 0, .slice none 0 0, .slice none 0 0, .slice none 0 0, .slice none 0 0]) := by kernel_rfl
set_option maxHeartbeats 4000000 in
set_option maxRecDepth 100000 in
/-- acequia/acequialaw02.CsrTurns -/
theorem w_turns (nN nS nT : Int) (base : Option Addr) (n c : Nat) (al : List Arc) (lb : Option Addr) (ln lc : Nat) (xs : List Int) (w : World) (ha : RO w arcC 3 base n al) (hx : RO w (intC .i64) 1 lb ln xs) (hn : n ≤ 9223372036854775807) (hnc : n ≤ c) (hln : ln ≤ 9223372036854775807) (hcap : ∀ a, a ∈ al → -9223372036854775808 ≤ a.cap ∧ a.cap ≤ 9223372036854775807) (hxs : ∀ x, x ∈ xs → -9223372036854775808 ≤ x ∧ x ≤ 9223372036854775807) : Fnc Try.prog 3 #[.agg #[.int .i64 nN, .int .i64 nS, .int .i64 nT, .slice base n c], .slice lb ln lc] w [] (fun r h => r = .bool true ∧ h = []) := by
  refine Fnc.enter (vs := [.agg #[.int .i64 nN, .int .i64 nS, .int .i64 nT, .slice base n c], .slice lb ln lc]) Try.func3 rfl rfl (Inv.refl w) ?_
  refine T.seq ?_
  refine T.regionL (ll := [0, 1]) rfl ?_
  refine TO.boxA rfl rfl rfl rfl ?_; intro b2
  refine TO.assign rfl rfl rfl rfl ?_
  refine TO.done ?_
  refine X.seq_normal ?_
  refine T.seq ?_
  refine T.regionL (ll := [0, 1, 2]) rfl ?_
  first | refine TO.loadA rfl rfl rfl rfl Ty.a24 (by repeat (first | exact List.Mem.head _ | apply List.Mem.tail)) rfl ?_ | refine TO.loadHA rfl rfl rfl rfl Ty.a24 (by assumption) rfl rfl ?_
  refine TO.call rfl rfl rfl TyCsrTurnsW.c17 rfl (fun wc hwc => c_some _ _ _ _ _ _ al 40 80 wc (ha.mono hwc) hn hnc hcap (by omega) (by omega) (by omega) (by omega)) ?_
  rintro _ _ ⟨m, sS, tT, ob, c1, ol, jo, rfl, rfl, hE, hso, hmv, hol, hoc, hjo, hob⟩
  refine TO.storeA rfl rfl rfl rfl (by repeat (first | exact Take.head _ _ | apply Take.tail)) TyCsrTurnsW.n24 rfl rfl rfl ?_
  refine TO.done ?_
  refine X.seq_normal ?_
  refine T.seq ?_
  refine T.regionL (ll := [0, 1, 2, 3, 4, 5, 6, 7, 8]) rfl ?_
  first | refine TO.fieldAddr0 rfl rfl rfl rfl Ty.f24_0 ?_ | refine TO.fieldAddr rfl rfl rfl rfl Ty.f24_0 ?_
  first | refine TO.load1 rfl rfl rfl rfl Ty.s3 (by repeat (first | exact List.Mem.head _ | apply List.Mem.tail)) rfl ?_ | refine TO.loadH rfl rfl rfl rfl Ty.s3 (by assumption) rfl rfl ?_
  first | refine TO.fieldAddr0 rfl rfl rfl rfl Ty.f24_2 ?_ | refine TO.fieldAddr rfl rfl rfl rfl Ty.f24_2 ?_
  first | refine TO.load1 rfl rfl rfl rfl Ty.s3 (by repeat (first | exact List.Mem.head _ | apply List.Mem.tail)) rfl ?_ | refine TO.loadH rfl rfl rfl rfl Ty.s3 (by assumption) rfl rfl ?_
  first | refine TO.fieldAddr0 rfl rfl rfl rfl Ty.f24_1 ?_ | refine TO.fieldAddr rfl rfl rfl rfl Ty.f24_1 ?_
  first | refine TO.load1 rfl rfl rfl rfl Ty.s3 (by repeat (first | exact List.Mem.head _ | apply List.Mem.tail)) rfl ?_ | refine TO.loadH rfl rfl rfl rfl Ty.s3 (by assumption) rfl rfl ?_
  refine TO.buildS (t := 24) [.int .i64 0, .int .i64 0, .int .i64 0, .slice none 0 0] [0, 1, 2, 3] rfl rfl rfl rfl (by simp only [setAll, setCells, Value.cells, List.toList_toArray, List.getD_cons_zero, List.getD_cons_succ, List.set_cons_zero, List.set_cons_succ]; rfl) (by kernel_rfl) ?_
  refine TO.allocA rfl rfl rfl TyCsrTurnsW.z24 ?_; intro b5
  refine TO.storeA rfl rfl rfl rfl (by repeat (first | exact Take.head _ _ | apply Take.tail)) TyCsrTurnsW.n24 rfl rfl rfl ?_
  refine TO.done ?_
  refine X.seq_normal ?_
  refine T.seq ?_
  refine T.seq ?_
  refine T.regionL (ll := [0, 1, 2, 3]) rfl ?_
  first | refine TO.fieldAddr0 rfl rfl rfl rfl Ty.f24_3 ?_ | refine TO.fieldAddr rfl rfl rfl rfl Ty.f24_3 ?_
  first | refine TO.load1 rfl rfl rfl rfl Ty.s22 (by repeat (first | exact List.Mem.head _ | apply List.Mem.tail)) rfl ?_ | refine TO.loadH rfl rfl rfl rfl Ty.s22 (by assumption) rfl rfl ?_
  refine TO.len rfl rfl rfl rfl rfl Ty.l22 ?_
  refine TO.move rfl rfl rfl rfl ?_
  refine TO.done ?_
  refine X.seq_normal ?_
  refine T.block ?_
  refine T.loop5 (fun (k : Nat) (ob2 : Option Nat) (c2 : Nat) (tl : List Arc) (j2 : List Value) => tl = (ol.take k).map turn ∧ tl.length = k ∧ k ≤ ol.length ∧ tl.length ≤ c2 ∧ j2.length = (c2 - tl.length) * 3 ∧ (ob2 = none → c2 = 0)) (fun (k : Nat) (ob2 : Option Nat) (c2 : Nat) (tl : List Arc) (j2 : List Value) => [(30, .int .i64 k)]) [7, 30, 31, 32, 33, 34, 35, 36, 37, 38, 39, 40, 41, 42, 43, 44, 45, 46] (fun (k : Nat) (ob2 : Option Nat) (c2 : Nat) (tl : List Arc) (j2 : List Value) => [(some b2, .cells #[.int .i64 (m : Int), .int .i64 sS, .int .i64 tT, .slice (sb ob) ol.length c1] 24 (0, 0)), (some b5, .cells #[.int .i64 (m : Int), .int .i64 tT, .int .i64 sS, .slice (sb ob2) tl.length c2] 24 (0, 0)), (ob, .cells (arr arcC ol jo).toArray 28 (0, 0)), (ob2, .cells (arr arcC tl j2).toArray 28 (0, 0))]) (fun (k : Nat) (ob2 : Option Nat) (c2 : Nat) (tl : List Arc) (j2 : List Value) => ol.length - k) 0 none 0 [] [] ⟨rfl, rfl, Nat.zero_le _, Nat.le_refl _, rfl, fun _ => rfl⟩ (by repeat (first | exact trivial | refine ⟨rfl, ?_⟩)) (by repeat (first | exact Pick.nil | apply Pick.none | refine Pick.cons (by repeat (first | exact Take.head _ _ | apply Take.tail)) ?_)) ?_
  rintro k ob2 c2 tl j2 ⟨htl, htk, hk, htc, hj2, hob2⟩
  refine T.seq ?_
  refine T.regionL (ll := [0]) rfl ?_
  refine TO.bin rfl rfl rfl rfl rfl rfl ?_
  refine TO.done ?_
  refine X.seq_normal ?_
  refine T.seq ?_
  first | refine T.condP rfl (fun h0 => ?_) (fun h0 => ?_) | refine T.cond rfl (fun h0 => ?_) (fun h0 => ?_)
  ·
    have hkl : k < ol.length := by omega
    obtain ⟨bo, rfl⟩ : ∃ b, ob = some b := by
      cases ob with
      | none => exact absurd (hob rfl) (by omega)
      | some b => exact ⟨b, rfl⟩
    refine T.skip ?_
    refine X.seq_normal ?_
    refine T.seq ?_
    refine T.block ?_
    refine T.seq ?_
    refine T.regionL (ll := [0, 1, 2, 3]) rfl ?_
    first | refine TO.index0N rfl rfl rfl rfl rfl Ty.l22 Ty.n28 (by omega) ?_ | refine TO.index0 rfl rfl rfl rfl rfl Ty.l22 Ty.n28 (by omega) (by omega) ?_ | refine TO.indexRN rfl rfl rfl rfl rfl Ty.l22 Ty.n28 (RO.nil (by assumption)) (by omega) ?_ | refine TO.indexR rfl rfl rfl rfl rfl Ty.l22 Ty.n28 (RO.nil (by assumption)) (by omega) (by omega) ?_
    first | refine TO.ldSr default rfl rfl rfl rfl Ty.a28 (by assumption) rfl (by first | omega | (simp only [List.length_set, List.length_replicate]; omega)) ?_ | refine TO.ldS (f := arcC) (s := 3) default arcC_len rfl rfl rfl rfl Ty.a28 (by repeat (first | exact List.Mem.head _ | apply List.Mem.tail)) (by first | omega | (simp only [List.length_set, List.length_replicate]; omega)) ?_
    refine TO.allocA rfl rfl rfl Ty.z28 ?_; intro b7
    refine TO.storeA rfl rfl rfl rfl (by repeat (first | exact Take.head _ _ | apply Take.tail)) Ty.n28 rfl rfl rfl ?_
    refine TO.done ?_
    refine X.seq_normal ?_
    refine T.regionL (ll := [0, 1, 2, 3, 4, 5, 6, 7, 8, 9, 10, 11, 12]) rfl ?_
    first | refine TO.fieldAddr0 rfl rfl rfl rfl Ty.f24_3 ?_ | refine TO.fieldAddr rfl rfl rfl rfl Ty.f24_3 ?_
    first | refine TO.load1 rfl rfl rfl rfl Ty.s22 (by repeat (first | exact List.Mem.head _ | apply List.Mem.tail)) rfl ?_ | refine TO.loadH rfl rfl rfl rfl Ty.s22 (by assumption) rfl rfl ?_
    first | refine TO.fieldAddr0 rfl rfl rfl rfl Ty.f28_1 ?_ | refine TO.fieldAddr rfl rfl rfl rfl Ty.f28_1 ?_
    first | refine TO.load1 rfl rfl rfl rfl Ty.s3 (by repeat (first | exact List.Mem.head _ | apply List.Mem.tail)) rfl ?_ | refine TO.loadH rfl rfl rfl rfl Ty.s3 (by assumption) rfl rfl ?_
    first | refine TO.fieldAddr0 rfl rfl rfl rfl Ty.f28_0 ?_ | refine TO.fieldAddr rfl rfl rfl rfl Ty.f28_0 ?_
    first | refine TO.load1 rfl rfl rfl rfl Ty.s3 (by repeat (first | exact List.Mem.head _ | apply List.Mem.tail)) rfl ?_ | refine TO.loadH rfl rfl rfl rfl Ty.s3 (by assumption) rfl rfl ?_
    first | refine TO.fieldAddr0 rfl rfl rfl rfl Ty.f28_2 ?_ | refine TO.fieldAddr rfl rfl rfl rfl Ty.f28_2 ?_
    first | refine TO.load1 rfl rfl rfl rfl Ty.s2 (by repeat (first | exact List.Mem.head _ | apply List.Mem.tail)) rfl ?_ | refine TO.loadH rfl rfl rfl rfl Ty.s2 (by assumption) rfl rfl ?_
    refine TO.buildS (t := 28) [.int .i64 0, .int .i64 0, .int .i64 0] [0, 1, 2] rfl rfl rfl rfl (by simp only [setAll, setCells, Value.cells, List.toList_toArray, List.getD_cons_zero, List.getD_cons_succ, List.set_cons_zero, List.set_cons_succ]; rfl) (by kernel_rfl) ?_
    refine TO.buildSliceS [.int .i64 0, .int .i64 0, .int .i64 0] [0] rfl rfl rfl rfl Ty.l22 Ty.n28 Ty.z28 rfl rfl (by simp only [setAll, setCells, Value.cells, List.toList_toArray, List.getD_cons_zero, List.getD_cons_succ, List.set_cons_zero, List.set_cons_succ]; rfl) (by kernel_rfl) ?_; intro b43
    refine TO.append (f := arcC) (s := 3) (xs := tl) (ob := ob2) (j := j2) (ys := [turn (ol.getD k default)]) (fun _ => rfl) arcC_one elA rfl rfl rfl rfl rfl (by repeat (first | exact Take.head _ _ | apply Take.tail)) rfl htc hj2 hob2 (fun wc hwc => hwc.roS (j := []) (by intro _; rfl) (by repeat (first | exact List.Mem.head _ | apply List.Mem.tail)) rfl) (by omega) (by omega) ?_
    intro ob3 c3 j3 hc3 hj3 ho3
    rw [show tl.length + 1 = (tl ++ [turn (ol.getD k default)]).length by simp]
    first | refine TO.fieldAddr0 rfl rfl rfl rfl Ty.f24_3 ?_ | refine TO.fieldAddr rfl rfl rfl rfl Ty.f24_3 ?_
    refine TO.store1n rfl rfl rfl rfl (by repeat (first | exact Take.head _ _ | apply Take.tail)) TyCsrTurnsW.n22 rfl rfl (by simp only [List.set_cons_zero, List.set_cons_succ]; rfl) ?_
    refine TO.done ?_
    refine X.block_normal ?_
    refine X.seq_normal ?_
    refine T.regionL (ll := [0, 1]) rfl ?_
    refine TO.add rfl rfl rfl rfl rfl (by omega) (by omega) ?_
    refine TO.move rfl rfl rfl rfl ?_
    refine TO.done ?_
    refine X.again5 (k + 1) ob3 c3 (tl ++ [turn (ol.getD k default)]) j3 ⟨by rw [htl, mapTurn_take ol hkl], by simp only [List.length_append, List.length_singleton]; omega, by omega, by simpa using hc3, by simpa using hj3, ho3⟩ (by omega) (by repeat (first | exact trivial | refine ⟨rfl, ?_⟩)) (by repeat (first | exact trivial | refine ⟨rfl, ?_⟩)) (by repeat (first | exact Pick.nil | apply Pick.none | refine Pick.cons (by repeat (first | exact Take.head _ _ | apply Take.tail)) ?_))
  ·
    have hko : k = ol.length := by omega
    rw [hko, List.take_length] at htl
    subst htl
    have hen := endsOK_of (checkE_zero hE).2.2.2.1
    have hbs := begins_small (al := ol) (v := m) (by omega) (by omega)
    refine T.exit ?_
    refine X.then_exit ?_
    refine X.then_exit ?_
    refine X.block_here ?_
    refine X.seq_normal ?_
    refine T.seq ?_
    refine T.regionL (ll := [0, 1, 2, 3]) rfl ?_
    first | refine TO.loadA rfl rfl rfl rfl Ty.a24 (by repeat (first | exact List.Mem.head _ | apply List.Mem.tail)) rfl ?_ | refine TO.loadHA rfl rfl rfl rfl Ty.a24 (by assumption) rfl rfl ?_
    refine TO.move rfl rfl rfl rfl ?_
    refine TO.call rfl rfl rfl TyCsrTurnsW.c18 rfl (fun wc hwc => c_within _ _ _ _ _ _ ol _ _ _ xs wc (hwc.roO (xs := ol) (by intro _; rfl) (by repeat (first | exact List.Mem.head _ | apply List.Mem.tail)) rfl (fun e => by have := hob e; omega)) (hx.mono hwc) (by omega) (by omega) (fun i hi => (hso _ (getD_mem hi default)).2.1) hxs) ?_
    rintro _ _ ⟨bw, fl, rfl, rfl, hwi⟩
    refine TO.assign rfl rfl rfl rfl ?_
    refine TO.done ?_
    refine X.seq_normal ?_
    refine T.seq ?_
    refine T.regionL (ll := [0, 1, 2, 3, 4, 5, 6, 7]) rfl ?_
    first | refine TO.loadA rfl rfl rfl rfl Ty.a24 (by repeat (first | exact List.Mem.head _ | apply List.Mem.tail)) rfl ?_ | refine TO.loadHA rfl rfl rfl rfl Ty.a24 (by assumption) rfl rfl ?_
    refine TO.call rfl rfl rfl TyCsrTurnsW.c19 rfl (fun wc hwc => c_make m sS tT _ ol.length _ ol wc (hwc.roO (xs := ol) (by intro _; rfl) (by repeat (first | exact List.Mem.head _ | apply List.Mem.tail)) rfl (fun e => by have := hob e; omega)) hE) ?_
    rintro _ _ ⟨bf, bh, br, bc, ba, bb, fs, hs, rs, cs, aa, bs, rfl, rfl, hcsr⟩
    have lh := hcsr.lh
    have lr := hcsr.lr
    have lc := hcsr.lc
    have la := hcsr.la
    have lb_ := hcsr.lb
    have hA := hcsr.aa0
    have hC := hcsr.csmax hso
    have hK := hcsr.resok hwi
    refine TO.move rfl rfl rfl rfl ?_
    refine TO.extract rfl rfl rfl rfl rfl ?_
    refine TO.extract rfl rfl rfl rfl rfl ?_
    refine TO.allocA rfl rfl rfl TyCsrTurnsW.z33 ?_; intro b9
    refine TO.storeA rfl rfl rfl rfl (by repeat (first | exact Take.head _ _ | apply Take.tail)) TyCsrTurnsW.n33 rfl rfl rfl ?_
    refine TO.assign rfl rfl rfl rfl ?_
    refine TO.done ?_
    refine X.seq_normal ?_
    refine T.seq ?_
    refine T.regionL (ll := [0, 1, 2, 3, 4, 5, 6, 7]) rfl ?_
    first | refine TO.loadA rfl rfl rfl rfl Ty.a24 (by repeat (first | exact List.Mem.head _ | apply List.Mem.tail)) rfl ?_ | refine TO.loadHA rfl rfl rfl rfl Ty.a24 (by assumption) rfl rfl ?_
    refine TO.call rfl rfl rfl TyCsrTurnsW.c19 rfl (fun wc hwc => c_make m tT sS _ (ol.map turn).length _ (ol.map turn) wc (hwc.roO (xs := ol.map turn) (by intro _; rfl) (by repeat (first | exact List.Mem.head _ | apply List.Mem.tail)) rfl (fun e => by have := hob2 e; omega)) (turn_check hE hso (by omega))) ?_
    rintro _ _ ⟨bf', bh', br', bc', ba', bb', fs', hs', rs', cs', aa', bs', rfl, rfl, hcsr'⟩
    rw [begins_turn]
    have lh' := hcsr'.lh
    have lr' := hcsr'.lr
    have lc' := hcsr'.lc
    have la' := hcsr'.la
    have lb' := hcsr'.lb
    have hA' := hcsr'.aa0
    have hC' := hcsr'.csmax hso.turn
    have hK' := hcsr'.resok (fl := fl) (by simpa using hwi.turn)
    rw [begins_turn] at lh' lr' lc' la' lb' hA' hC' hK'
    obtain ⟨u0, u1, u2, u3, u4, u5, u6⟩ := csr_turn hcsr hcsr'
    refine TO.move rfl rfl rfl rfl ?_
    refine TO.extract rfl rfl rfl rfl rfl ?_
    refine TO.extract rfl rfl rfl rfl rfl ?_
    refine TO.allocA rfl rfl rfl TyCsrTurnsW.z33 ?_; intro b11
    refine TO.storeA rfl rfl rfl rfl (by repeat (first | exact Take.head _ _ | apply Take.tail)) TyCsrTurnsW.n33 rfl rfl rfl ?_
    refine TO.assign rfl rfl rfl rfl ?_
    refine TO.done ?_
    refine X.seq_normal ?_
    refine T.seq ?_
    refine T.regionL (ll := [0, 1, 2, 3, 4, 5, 6, 7]) rfl ?_
    first | refine TO.loadA rfl rfl rfl rfl TyCsrTurnsW.a33 (by repeat (first | exact List.Mem.head _ | apply List.Mem.tail)) rfl ?_ | refine TO.loadHA rfl rfl rfl rfl TyCsrTurnsW.a33 (by assumption) rfl rfl ?_
    refine TO.move rfl rfl rfl rfl ?_
    refine TO.call rfl rfl rfl TyCsrTurnsW.c20 rfl (fun wc hwc => c_res _ _ _ _ _ _ _ _ _ _ _ _ _ _ _ _ _ cs aa fl bs wc (hwc.roS (xs := cs) (by intro _; rfl) (by repeat (first | exact List.Mem.head _ | apply List.Mem.tail)) lc) (hwc.roS (xs := aa) (by intro _; rfl) (by repeat (first | exact List.Mem.head _ | apply List.Mem.tail)) la) (hwc.roS (xs := bs) (by intro _; rfl) (by repeat (first | exact List.Mem.head _ | apply List.Mem.tail)) lb_) (hwc.roS (xs := fl) (by intro _; rfl) (by repeat (first | exact List.Mem.head _ | apply List.Mem.tail)) hwi.1) (by omega) (by omega) hA hC) ?_
    rintro _ _ (⟨bg, gl, rfl, rfl, hgl⟩ | ⟨⟨j, hj, hjr⟩, -, -⟩)
    rotate_left
    · exact absurd (hK j hj) hjr
    refine TO.move rfl rfl rfl rfl ?_
    refine TO.extract rfl rfl rfl rfl rfl ?_
    refine TO.extract rfl rfl rfl rfl rfl ?_
    refine TO.assign rfl rfl rfl rfl ?_
    refine TO.assign rfl rfl rfl rfl ?_
    refine TO.done ?_
    refine X.seq_normal ?_
    refine T.seq ?_
    refine T.regionL (ll := [0, 1, 2, 3, 4, 5, 6, 7]) rfl ?_
    first | refine TO.loadA rfl rfl rfl rfl TyCsrTurnsW.a33 (by repeat (first | exact List.Mem.head _ | apply List.Mem.tail)) rfl ?_ | refine TO.loadHA rfl rfl rfl rfl TyCsrTurnsW.a33 (by assumption) rfl rfl ?_
    refine TO.move rfl rfl rfl rfl ?_
    refine TO.call rfl rfl rfl TyCsrTurnsW.c20 rfl (fun wc hwc => c_res _ _ _ _ _ _ _ _ _ _ _ _ _ _ _ _ _ cs' aa' fl bs' wc (hwc.roS (xs := cs') (by intro _; rfl) (by repeat (first | exact List.Mem.head _ | apply List.Mem.tail)) lc') (hwc.roS (xs := aa') (by intro _; rfl) (by repeat (first | exact List.Mem.head _ | apply List.Mem.tail)) la') (hwc.roS (xs := bs') (by intro _; rfl) (by repeat (first | exact List.Mem.head _ | apply List.Mem.tail)) lb') (hwc.roS (xs := fl) (by intro _; rfl) (by repeat (first | exact List.Mem.head _ | apply List.Mem.tail)) hwi.1) (by omega) (by omega) hA' hC') ?_
    rintro _ _ (⟨by_, yl, rfl, rfl, hyl⟩ | ⟨⟨j, hj, hjr⟩, -, -⟩)
    rotate_left
    · exact absurd (hK' j hj) hjr
    refine TO.move rfl rfl rfl rfl ?_
    refine TO.extract rfl rfl rfl rfl rfl ?_
    refine TO.extract rfl rfl rfl rfl rfl ?_
    refine TO.assign rfl rfl rfl rfl ?_
    refine TO.assign rfl rfl rfl rfl ?_
    refine TO.done ?_
    refine X.seq_normal ?_
    refine T.seq ?_
    refine T.seq ?_
    refine T.regionL (ll := [0, 1, 2, 3, 4, 5, 6, 7, 8, 9, 10, 11, 12, 13, 14, 15, 16, 17, 18, 19, 20, 21, 22, 23, 24, 25, 26, 27, 28, 29, 30, 31, 32, 33, 34, 35, 36, 37, 38, 39, 40, 41, 42, 43, 44, 45]) rfl ?_
    refine TO.move rfl rfl rfl rfl ?_
    refine TO.bin rfl rfl rfl rfl rfl rfl ?_
    refine TO.decB (t := 73) (b' := false) rfl (by simp) ?_
    refine TO.move rfl rfl rfl rfl ?_
    refine TO.move rfl rfl rfl rfl ?_
    refine TO.bin rfl rfl rfl rfl rfl rfl ?_
    refine TO.decB (t := 76) (b' := false) rfl (by simp) ?_
    first | refine TO.pickT rfl rfl rfl rfl rfl ?_ | refine TO.pickF rfl rfl rfl rfl rfl ?_
    refine TO.move rfl rfl rfl rfl ?_
    refine TO.move rfl rfl rfl rfl ?_
    refine TO.bin rfl rfl rfl rfl rfl rfl ?_
    refine TO.decB (t := 80) (b' := false) rfl (by simp) ?_
    first | refine TO.pickT rfl rfl rfl rfl rfl ?_ | refine TO.pickF rfl rfl rfl rfl rfl ?_
    refine TO.move rfl rfl rfl rfl ?_
    refine TO.move rfl rfl rfl rfl ?_
    refine TO.bin rfl rfl rfl rfl rfl rfl ?_
    refine TO.decB (t := 84) (b' := false) rfl (by simp) ?_
    first | refine TO.pickT rfl rfl rfl rfl rfl ?_ | refine TO.pickF rfl rfl rfl rfl rfl ?_
    refine TO.move rfl rfl rfl rfl ?_
    first | refine TO.fieldAddr0 rfl rfl rfl rfl TyCsrTurnsW.f33_3 ?_ | refine TO.fieldAddr rfl rfl rfl rfl TyCsrTurnsW.f33_3 ?_
    first | refine TO.load1 rfl rfl rfl rfl Ty.s30 (by repeat (first | exact List.Mem.head _ | apply List.Mem.tail)) rfl ?_ | refine TO.loadH rfl rfl rfl rfl Ty.s30 (by assumption) rfl rfl ?_
    first | refine TO.fieldAddr0 rfl rfl rfl rfl TyCsrTurnsW.f33_3 ?_ | refine TO.fieldAddr rfl rfl rfl rfl TyCsrTurnsW.f33_3 ?_
    first | refine TO.load1 rfl rfl rfl rfl Ty.s30 (by repeat (first | exact List.Mem.head _ | apply List.Mem.tail)) rfl ?_ | refine TO.loadH rfl rfl rfl rfl Ty.s30 (by assumption) rfl rfl ?_
    refine TO.call rfl rfl rfl TyCsrTurnsW.c21 rfl (fun wc hwc => c_ints fs fs' _ _ _ _ _ _ wc (hwc.roS (xs := fs) (by intro _; rfl) (by repeat (first | exact List.Mem.head _ | apply List.Mem.tail)) hcsr.lf) (hwc.roS (xs := fs') (by intro _; rfl) (by repeat (first | exact List.Mem.head _ | apply List.Mem.tail)) hcsr'.lf) (by omega)) ?_
    rintro _ _ ⟨rfl, rfl⟩
    refine TO.decB (t := 91) (b' := true) rfl (decide_eq_true u0) ?_
    first | refine TO.notP rfl rfl rfl rfl ?_ | refine TO.not rfl rfl rfl rfl ?_
    refine TO.decB (t := 92) (b' := false) rfl rfl ?_
    first | refine TO.pickT rfl rfl rfl rfl rfl ?_ | refine TO.pickF rfl rfl rfl rfl rfl ?_
    refine TO.move rfl rfl rfl rfl ?_
    first | refine TO.fieldAddr0 rfl rfl rfl rfl Ty.f33_7 ?_ | refine TO.fieldAddr rfl rfl rfl rfl Ty.f33_7 ?_
    first | refine TO.load1 rfl rfl rfl rfl Ty.s30 (by repeat (first | exact List.Mem.head _ | apply List.Mem.tail)) rfl ?_ | refine TO.loadH rfl rfl rfl rfl Ty.s30 (by assumption) rfl rfl ?_
    first | refine TO.fieldAddr0 rfl rfl rfl rfl Ty.f33_7 ?_ | refine TO.fieldAddr rfl rfl rfl rfl Ty.f33_7 ?_
    first | refine TO.load1 rfl rfl rfl rfl Ty.s30 (by repeat (first | exact List.Mem.head _ | apply List.Mem.tail)) rfl ?_ | refine TO.loadH rfl rfl rfl rfl Ty.s30 (by assumption) rfl rfl ?_
    refine TO.call rfl rfl rfl TyCsrTurnsW.c21 rfl (fun wc hwc => c_ints aa aa' _ _ _ _ _ _ wc (hwc.roS (xs := aa) (by intro _; rfl) (by repeat (first | exact List.Mem.head _ | apply List.Mem.tail)) la) (hwc.roS (xs := aa') (by intro _; rfl) (by repeat (first | exact List.Mem.head _ | apply List.Mem.tail)) la') (by omega)) ?_
    rintro _ _ ⟨rfl, rfl⟩
    refine TO.decB (t := 99) (b' := true) rfl (decide_eq_true u1) ?_
    first | refine TO.notP rfl rfl rfl rfl ?_ | refine TO.not rfl rfl rfl rfl ?_
    refine TO.decB (t := 100) (b' := false) rfl rfl ?_
    first | refine TO.pickT rfl rfl rfl rfl rfl ?_ | refine TO.pickF rfl rfl rfl rfl rfl ?_
    refine TO.move rfl rfl rfl rfl ?_
    first | refine TO.fieldAddr0 rfl rfl rfl rfl Ty.f33_4 ?_ | refine TO.fieldAddr rfl rfl rfl rfl Ty.f33_4 ?_
    first | refine TO.load1 rfl rfl rfl rfl Ty.s30 (by repeat (first | exact List.Mem.head _ | apply List.Mem.tail)) rfl ?_ | refine TO.loadH rfl rfl rfl rfl Ty.s30 (by assumption) rfl rfl ?_
    first | refine TO.fieldAddr0 rfl rfl rfl rfl Ty.f33_4 ?_ | refine TO.fieldAddr rfl rfl rfl rfl Ty.f33_4 ?_
    first | refine TO.load1 rfl rfl rfl rfl Ty.s30 (by repeat (first | exact List.Mem.head _ | apply List.Mem.tail)) rfl ?_ | refine TO.loadH rfl rfl rfl rfl Ty.s30 (by assumption) rfl rfl ?_
    refine TO.call rfl rfl rfl TyCsrTurnsW.c21 rfl (fun wc hwc => c_ints hs hs' _ _ _ _ _ _ wc (hwc.roS (xs := hs) (by intro _; rfl) (by repeat (first | exact List.Mem.head _ | apply List.Mem.tail)) lh) (hwc.roS (xs := hs') (by intro _; rfl) (by repeat (first | exact List.Mem.head _ | apply List.Mem.tail)) lh') (by omega)) ?_
    rintro _ _ ⟨rfl, rfl⟩
    refine TO.decB (t := 107) (b' := true) rfl (decide_eq_true u2) ?_
    first | refine TO.notP rfl rfl rfl rfl ?_ | refine TO.not rfl rfl rfl rfl ?_
    refine TO.decB (t := 108) (b' := false) rfl rfl ?_
    first | refine TO.pickT rfl rfl rfl rfl rfl ?_ | refine TO.pickF rfl rfl rfl rfl rfl ?_
    refine TO.move rfl rfl rfl rfl ?_
    first | refine TO.fieldAddr0 rfl rfl rfl rfl TyCsrTurnsW.f33_5 ?_ | refine TO.fieldAddr rfl rfl rfl rfl TyCsrTurnsW.f33_5 ?_
    first | refine TO.load1 rfl rfl rfl rfl Ty.s30 (by repeat (first | exact List.Mem.head _ | apply List.Mem.tail)) rfl ?_ | refine TO.loadH rfl rfl rfl rfl Ty.s30 (by assumption) rfl rfl ?_
    first | refine TO.fieldAddr0 rfl rfl rfl rfl TyCsrTurnsW.f33_5 ?_ | refine TO.fieldAddr rfl rfl rfl rfl TyCsrTurnsW.f33_5 ?_
    first | refine TO.load1 rfl rfl rfl rfl Ty.s30 (by repeat (first | exact List.Mem.head _ | apply List.Mem.tail)) rfl ?_ | refine TO.loadH rfl rfl rfl rfl Ty.s30 (by assumption) rfl rfl ?_
    refine TO.call rfl rfl rfl TyCsrTurnsW.c21 rfl (fun wc hwc => c_ints rs rs' _ _ _ _ _ _ wc (hwc.roS (xs := rs) (by intro _; rfl) (by repeat (first | exact List.Mem.head _ | apply List.Mem.tail)) lr) (hwc.roS (xs := rs') (by intro _; rfl) (by repeat (first | exact List.Mem.head _ | apply List.Mem.tail)) lr') (by omega)) ?_
    rintro _ _ ⟨rfl, rfl⟩
    refine TO.decB (t := 115) (b' := true) rfl (decide_eq_true u3) ?_
    first | refine TO.notP rfl rfl rfl rfl ?_ | refine TO.not rfl rfl rfl rfl ?_
    refine TO.decB (t := 116) (b' := false) rfl rfl ?_
    first | refine TO.pickT rfl rfl rfl rfl rfl ?_ | refine TO.pickF rfl rfl rfl rfl rfl ?_
    refine TO.done ?_
    refine X.seq_normal ?_
    refine T.condF rfl rfl ?_
    refine T.skip ?_
    refine X.seq_normal ?_
    refine T.seq ?_
    refine T.seq ?_
    refine T.regionL (ll := [0, 1, 2, 3]) rfl ?_
    first | refine TO.fieldAddr0 rfl rfl rfl rfl Ty.f33_8 ?_ | refine TO.fieldAddr rfl rfl rfl rfl Ty.f33_8 ?_
    first | refine TO.load1 rfl rfl rfl rfl Ty.s31 (by repeat (first | exact List.Mem.head _ | apply List.Mem.tail)) rfl ?_ | refine TO.loadH rfl rfl rfl rfl Ty.s31 (by assumption) rfl rfl ?_
    refine TO.len rfl rfl rfl rfl rfl Ty.l31 ?_
    refine TO.move rfl rfl rfl rfl ?_
    refine TO.done ?_
    refine X.seq_normal ?_
    refine T.block ?_
    refine T.loop1 (fun (k : Nat) => k ≤ begins ol m) (fun (k : Nat) => [(121, .int .i64 k)]) [4, 17, 121, 122, 123, 124, 125, 126, 127, 128, 129, 130, 131, 132, 133, 134, 135, 136, 137, 138, 139, 140, 141, 142, 143, 144, 145, 146, 147, 148, 149, 150] (fun (k : Nat) => [(some b9, .cells #[.int .i64 (m : Int), .int .i64 sS, .int .i64 tT, .slice (some ⟨bf, 0, none⟩) (m + 1) (m + 1), .slice (some ⟨bh, 0, none⟩) (begins ol m) (begins ol m), .slice (some ⟨br, 0, none⟩) (begins ol m) (begins ol m), .slice (some ⟨bc, 0, none⟩) (begins ol m) (begins ol m), .slice (some ⟨ba, 0, none⟩) (begins ol m) (begins ol m), .slice (some ⟨bb, 0, none⟩) (begins ol m) (begins ol m)] 33 (0, 0)), (some b11, .cells #[.int .i64 (m : Int), .int .i64 tT, .int .i64 sS, .slice (some ⟨bf', 0, none⟩) (m + 1) (m + 1), .slice (some ⟨bh', 0, none⟩) (begins ol m) (begins ol m), .slice (some ⟨br', 0, none⟩) (begins ol m) (begins ol m), .slice (some ⟨bc', 0, none⟩) (begins ol m) (begins ol m), .slice (some ⟨ba', 0, none⟩) (begins ol m) (begins ol m), .slice (some ⟨bb', 0, none⟩) (begins ol m) (begins ol m)] 33 (0, 0)), (some br, .cells (arr (intC .i64) rs []).toArray 3 (0, 0)), (some bb, .cells (arr boolC bs []).toArray 4 (0, 0)), (some bb', .cells (arr boolC bs' []).toArray 4 (0, 0)), (some bg, .cells (arr (intC .i64) gl []).toArray 2 (0, 0)), (some by_, .cells (arr (intC .i64) yl []).toArray 2 (0, 0))]) (fun (k : Nat) => begins ol m - k) 0 (Nat.zero_le _) (by repeat (first | exact trivial | refine ⟨rfl, ?_⟩)) (by repeat (first | exact Pick.nil | apply Pick.none | refine Pick.cons (by repeat (first | exact Take.head _ _ | apply Take.tail)) ?_)) ?_
    rintro k hk
    refine T.seq ?_
    refine T.regionL (ll := [0]) rfl ?_
    refine TO.bin rfl rfl rfl rfl rfl rfl ?_
    refine TO.done ?_
    refine X.seq_normal ?_
    refine T.seq ?_
    first | refine T.condP rfl (fun h2 => ?_) (fun h2 => ?_) | refine T.cond rfl (fun h2 => ?_) (fun h2 => ?_)
    ·
      have hkl : k < begins ol m := by omega
      obtain ⟨r0, r1⟩ := u5 hen k hkl
      have hgk := u6 fl gl yl _ hgl hyl hen k hkl
      have hgl1 := hgl.1
      have hyl1 := hyl.1
      refine T.skip ?_
      refine X.seq_normal ?_
      refine T.seq ?_
      refine T.block ?_
      refine T.seq ?_
      refine T.regionL (ll := [0, 1]) rfl ?_
      refine TO.move rfl rfl rfl rfl ?_
      refine TO.assign rfl rfl rfl rfl ?_
      refine TO.done ?_
      refine X.seq_normal ?_
      refine T.seq ?_
      apply T.drawQT [(124, _), (125, _), (126, _), (127, _), (128, _), (129, _), (130, _), (131, _), (132, _), (133, _), (134, _), (135, _), (136, _), (137, _), (138, _), (139, _), (140, _), (141, _), (142, _), (143, _), (144, _), (145, _), (146, _), (147, _)]
      · exact mixed
      · kernel_rfl
      · kernel_rfl
      · exact rfl
      · exact rfl
      · refine ⟨?_, ?_, ?_, ?_, ?_, ?_, ?_, ?_, ?_, ?_, ?_, ?_, ?_, ?_, ?_, ?_, ?_, ?_, ?_, ?_, ?_, ?_, ?_, ?_, trivial⟩
        · intro Es
          first | refine TO.fieldAddr0 rfl rfl rfl rfl Ty.f33_8 ?_ | refine TO.fieldAddr rfl rfl rfl rfl Ty.f33_8 ?_
          exact TO.done (X.ob rfl (Pick.refl _))
        · intro Es
          first | refine TO.load1 rfl rfl rfl rfl Ty.s31 (by repeat (first | exact List.Mem.head _ | apply List.Mem.tail)) rfl ?_ | refine TO.loadH rfl rfl rfl rfl Ty.s31 (by assumption) rfl rfl ?_
          exact TO.done (X.ob rfl (Pick.refl _))
        · intro Es
          refine TO.move rfl rfl rfl rfl ?_
          exact TO.done (X.ob rfl (Pick.refl _))
        · intro Es
          first | refine TO.index1N rfl rfl rfl rfl rfl Ty.l31 Ty.n4 (by omega) ?_ | refine TO.index1 rfl rfl rfl rfl rfl Ty.l31 Ty.n4 (by omega) (by omega) ?_ | refine TO.indexRN rfl rfl rfl rfl rfl Ty.l31 Ty.n4 (RO.nil (by assumption)) (by omega) ?_ | refine TO.indexR rfl rfl rfl rfl rfl Ty.l31 Ty.n4 (RO.nil (by assumption)) (by omega) (by omega) ?_
          exact TO.done (X.ob rfl (Pick.refl _))
        · intro Es
          first | refine TO.ldBr rfl rfl rfl rfl Ty.s4 (by assumption) rfl (by first | omega | (simp only [List.length_set, List.length_replicate]; omega)) ?_ | refine TO.ldB rfl rfl rfl rfl Ty.s4 (by repeat (first | exact List.Mem.head _ | apply List.Mem.tail)) (by first | omega | (simp only [List.length_set, List.length_replicate]; omega)) ?_
          exact TO.done (X.ob rfl (Pick.refl _))
        · intro Es
          first | refine TO.fieldAddr0 rfl rfl rfl rfl Ty.f33_8 ?_ | refine TO.fieldAddr rfl rfl rfl rfl Ty.f33_8 ?_
          exact TO.done (X.ob rfl (Pick.refl _))
        · intro Es
          first | refine TO.load1 rfl rfl rfl rfl Ty.s31 (by repeat (first | exact List.Mem.head _ | apply List.Mem.tail)) rfl ?_ | refine TO.loadH rfl rfl rfl rfl Ty.s31 (by assumption) rfl rfl ?_
          exact TO.done (X.ob rfl (Pick.refl _))
        · intro Es
          refine TO.move rfl rfl rfl rfl ?_
          exact TO.done (X.ob rfl (Pick.refl _))
        · intro Es
          first | refine TO.index1N rfl rfl rfl rfl rfl Ty.l31 Ty.n4 (by omega) ?_ | refine TO.index1 rfl rfl rfl rfl rfl Ty.l31 Ty.n4 (by omega) (by omega) ?_ | refine TO.indexRN rfl rfl rfl rfl rfl Ty.l31 Ty.n4 (RO.nil (by assumption)) (by omega) ?_ | refine TO.indexR rfl rfl rfl rfl rfl Ty.l31 Ty.n4 (RO.nil (by assumption)) (by omega) (by omega) ?_
          exact TO.done (X.ob rfl (Pick.refl _))
        · intro Es
          first | refine TO.ldBr rfl rfl rfl rfl Ty.s4 (by assumption) rfl (by first | omega | (simp only [List.length_set, List.length_replicate]; omega)) ?_ | refine TO.ldB rfl rfl rfl rfl Ty.s4 (by repeat (first | exact List.Mem.head _ | apply List.Mem.tail)) (by first | omega | (simp only [List.length_set, List.length_replicate]; omega)) ?_
          exact TO.done (X.ob rfl (Pick.refl _))
        · intro Es
          refine TO.eqb rfl rfl rfl rfl rfl Ty.u4 ?_
          refine TO.decB (t := 134) (b' := false) rfl (by have := u4 k hkl; simpa using this) ?_
          exact TO.done (X.ob2 rfl (Pick.refl _))
        · intro Es
          refine TO.move rfl rfl rfl rfl ?_
          exact TO.done (X.ob rfl (Pick.refl _))
        · intro Es
          refine TO.move rfl rfl rfl rfl ?_
          exact TO.done (X.ob rfl (Pick.refl _))
        · intro Es
          refine TO.move rfl rfl rfl rfl ?_
          exact TO.done (X.ob rfl (Pick.refl _))
        · intro Es
          first | refine TO.index1N rfl rfl rfl rfl rfl Ty.l25 Ty.n2 (by omega) ?_ | refine TO.index1 rfl rfl rfl rfl rfl Ty.l25 Ty.n2 (by omega) (by omega) ?_ | refine TO.indexRN rfl rfl rfl rfl rfl Ty.l25 Ty.n2 (RO.nil (by assumption)) (by omega) ?_ | refine TO.indexR rfl rfl rfl rfl rfl Ty.l25 Ty.n2 (RO.nil (by assumption)) (by omega) (by omega) ?_
          exact TO.done (X.ob rfl (Pick.refl _))
        · intro Es
          first | refine TO.ldIr rfl rfl rfl rfl Ty.s2 (by assumption) rfl (by first | omega | (simp only [List.length_set, List.length_replicate]; omega)) ?_ | refine TO.ldI rfl rfl rfl rfl Ty.s2 (by repeat (first | exact List.Mem.head _ | apply List.Mem.tail)) (by first | omega | (simp only [List.length_set, List.length_replicate]; omega)) ?_
          exact TO.done (X.ob rfl (Pick.refl _))
        · intro Es
          refine TO.move rfl rfl rfl rfl ?_
          exact TO.done (X.ob rfl (Pick.refl _))
        · intro Es
          first | refine TO.fieldAddr0 rfl rfl rfl rfl TyCsrTurnsW.f33_5 ?_ | refine TO.fieldAddr rfl rfl rfl rfl TyCsrTurnsW.f33_5 ?_
          exact TO.done (X.ob rfl (Pick.refl _))
        · intro Es
          first | refine TO.load1 rfl rfl rfl rfl Ty.s30 (by repeat (first | exact List.Mem.head _ | apply List.Mem.tail)) rfl ?_ | refine TO.loadH rfl rfl rfl rfl Ty.s30 (by assumption) rfl rfl ?_
          exact TO.done (X.ob rfl (Pick.refl _))
        · intro Es
          refine TO.move rfl rfl rfl rfl ?_
          exact TO.done (X.ob rfl (Pick.refl _))
        · intro Es
          first | refine TO.index1N rfl rfl rfl rfl rfl Ty.l30 Ty.n3 (by omega) ?_ | refine TO.index1 rfl rfl rfl rfl rfl Ty.l30 Ty.n3 (by omega) (by omega) ?_ | refine TO.indexRN rfl rfl rfl rfl rfl Ty.l30 Ty.n3 (RO.nil (by assumption)) (by omega) ?_ | refine TO.indexR rfl rfl rfl rfl rfl Ty.l30 Ty.n3 (RO.nil (by assumption)) (by omega) (by omega) ?_
          exact TO.done (X.ob rfl (Pick.refl _))
        · intro Es
          first | refine TO.ldIr rfl rfl rfl rfl Ty.s3 (by assumption) rfl (by first | omega | (simp only [List.length_set, List.length_replicate]; omega)) ?_ | refine TO.ldI rfl rfl rfl rfl Ty.s3 (by repeat (first | exact List.Mem.head _ | apply List.Mem.tail)) (by first | omega | (simp only [List.length_set, List.length_replicate]; omega)) ?_
          exact TO.done (X.ob rfl (Pick.refl _))
        · intro Es
          first | refine TO.index1N rfl rfl rfl rfl rfl Ty.l25 Ty.n2 (by omega) ?_ | refine TO.index1 rfl rfl rfl rfl rfl Ty.l25 Ty.n2 (by omega) (by omega) ?_ | refine TO.indexRN rfl rfl rfl rfl rfl Ty.l25 Ty.n2 (RO.nil (by assumption)) (by omega) ?_ | refine TO.indexR rfl rfl rfl rfl rfl Ty.l25 Ty.n2 (RO.nil (by assumption)) (by omega) (by omega) ?_
          exact TO.done (X.ob rfl (Pick.refl _))
        · intro Es
          first | refine TO.ldIr rfl rfl rfl rfl Ty.s2 (by assumption) rfl (by first | omega | (simp only [List.length_set, List.length_replicate]; omega)) ?_ | refine TO.ldI rfl rfl rfl rfl Ty.s2 (by repeat (first | exact List.Mem.head _ | apply List.Mem.tail)) (by first | omega | (simp only [List.length_set, List.length_replicate]; omega)) ?_
          exact TO.done (X.ob rfl (Pick.refl _))
      refine TO.bin rfl rfl rfl rfl rfl rfl ?_
      refine TO.decB (t := 148) (b' := false) rfl (decide_eq_false (fun h => h hgk)) ?_
      first | refine TO.pickT rfl rfl rfl rfl rfl ?_ | refine TO.pickF rfl rfl rfl rfl rfl ?_
      refine TO.done ?_
      refine X.seq_normal ?_
      refine T.condF rfl rfl ?_
      refine T.skip ?_
      refine X.block_normal ?_
      refine X.seq_normal ?_
      refine T.regionL (ll := [0, 1]) rfl ?_
      refine TO.add rfl rfl rfl rfl rfl (by omega) (by omega) ?_
      refine TO.move rfl rfl rfl rfl ?_
      refine TO.done ?_
      refine X.again1 (k + 1) (by omega) (by omega) (by repeat (first | exact trivial | refine ⟨rfl, ?_⟩)) (by repeat (first | exact trivial | refine ⟨rfl, ?_⟩)) (by repeat (first | exact Pick.nil | apply Pick.none | refine Pick.cons (by repeat (first | exact Take.head _ _ | apply Take.tail)) ?_))
    ·
      refine T.exit ?_
      refine X.then_exit ?_
      refine X.then_exit ?_
      refine X.block_here ?_
      refine X.seq_normal ?_
      refine T.seq ?_
      apply T.drawQT [(151, _), (152, _), (153, _), (154, _), (155, _), (156, _), (157, _), (158, _), (159, _), (160, _), (161, _), (162, _), (163, _)]
      · exact mixed
      · kernel_rfl
      · kernel_rfl
      · exact rfl
      · exact rfl
      · refine ⟨?_, ?_, ?_, ?_, ?_, ?_, ?_, ?_, ?_, ?_, ?_, ?_, ?_, trivial⟩
        · intro Es
          first | refine TO.fieldAddr0 rfl rfl rfl rfl Ty.f33_8 ?_ | refine TO.fieldAddr rfl rfl rfl rfl Ty.f33_8 ?_
          exact TO.done (X.ob rfl (Pick.refl _))
        · intro Es
          first | refine TO.load1 rfl rfl rfl rfl Ty.s31 (by repeat (first | exact List.Mem.head _ | apply List.Mem.tail)) rfl ?_ | refine TO.loadH rfl rfl rfl rfl Ty.s31 (by assumption) rfl rfl ?_
          exact TO.done (X.ob rfl (Pick.refl _))
        · intro Es
          refine TO.len rfl rfl rfl rfl rfl Ty.l31 ?_
          exact TO.done (X.ob rfl (Pick.refl _))
        · intro Es
          first | refine TO.loadA rfl rfl rfl rfl TyCsrTurnsW.a33 (by repeat (first | exact List.Mem.head _ | apply List.Mem.tail)) rfl ?_ | refine TO.loadHA rfl rfl rfl rfl TyCsrTurnsW.a33 (by assumption) rfl rfl ?_
          exact TO.done (X.ob rfl (Pick.refl _))
        · intro Es
          refine TO.call rfl rfl rfl TyCsrTurnsW.c22 rfl (fun wc hwc => c_len _ _ _ _ _ _ _ _ _ _ _ wc) ?_
          rintro _ _ ⟨rfl, rfl⟩
          exact TO.done (X.ob rfl (Pick.refl _))
        · intro Es
          refine TO.bin rfl rfl rfl rfl rfl rfl ?_
          refine TO.decB (t := 156) (b' := true) rfl (by simp) ?_
          exact TO.done (X.ob2 rfl (Pick.refl _))
        · intro Es
          refine TO.move rfl rfl rfl rfl ?_
          exact TO.done (X.ob rfl (Pick.refl _))
        · intro Es
          first | refine TO.fieldAddr0 rfl rfl rfl rfl Ty.f33_8 ?_ | refine TO.fieldAddr rfl rfl rfl rfl Ty.f33_8 ?_
          exact TO.done (X.ob rfl (Pick.refl _))
        · intro Es
          first | refine TO.load1 rfl rfl rfl rfl Ty.s31 (by repeat (first | exact List.Mem.head _ | apply List.Mem.tail)) rfl ?_ | refine TO.loadH rfl rfl rfl rfl Ty.s31 (by assumption) rfl rfl ?_
          exact TO.done (X.ob rfl (Pick.refl _))
        · intro Es
          refine TO.len rfl rfl rfl rfl rfl Ty.l31 ?_
          exact TO.done (X.ob rfl (Pick.refl _))
        · intro Es
          first | refine TO.fieldAddr0 rfl rfl rfl rfl Ty.f33_8 ?_ | refine TO.fieldAddr rfl rfl rfl rfl Ty.f33_8 ?_
          exact TO.done (X.ob rfl (Pick.refl _))
        · intro Es
          first | refine TO.load1 rfl rfl rfl rfl Ty.s31 (by repeat (first | exact List.Mem.head _ | apply List.Mem.tail)) rfl ?_ | refine TO.loadH rfl rfl rfl rfl Ty.s31 (by assumption) rfl rfl ?_
          exact TO.done (X.ob rfl (Pick.refl _))
        · intro Es
          refine TO.len rfl rfl rfl rfl rfl Ty.l31 ?_
          exact TO.done (X.ob rfl (Pick.refl _))
      refine TO.bin rfl rfl rfl rfl rfl rfl ?_
      refine TO.decB (t := 164) (b' := true) rfl (by simp) ?_
      first | refine TO.pickT rfl rfl rfl rfl rfl ?_ | refine TO.pickF rfl rfl rfl rfl rfl ?_
      refine TO.move rfl rfl rfl rfl ?_
      refine TO.call rfl rfl rfl TyCsrTurnsW.c23 rfl (fun wc hwc => c_awake02 wc) ?_
      rintro _ _ ⟨rfl, rfl⟩
      refine TO.decB (t := 167) (b' := true) rfl rfl ?_
      first | refine TO.pickT rfl rfl rfl rfl rfl ?_ | refine TO.pickF rfl rfl rfl rfl rfl ?_
      refine TO.assign rfl rfl rfl rfl ?_
      refine TO.done ?_
      refine X.seq_normal ?_
      refine T.ret ?_
      refine X.ret1 rfl rfl rfl rfl (Res.tmp rfl) Pick.nil ?_
      exact ⟨rfl, rfl⟩
end Go.Proofs.Ytcdbemdogkmahaa.Acq
