/- Contracts: net.Check and what it calls. -/
import Derived.Test.YtcdbemdogkmahaaFacts
namespace Go.Proofs.Ytcdbemdogkmahaa.Acq
open Go Go.Acq Go.RowKit Go.Proofs
/-- acequia/acequialow.Among -/
theorem c_among (x m : Int) (w : World) (h1 : -4611686018427387904 ≤ m) (h2 : m ≤ 4611686018427387904) : Fnc Try.prog 51 #[.int .i64 x, .int .i64 m] w [] (fun r h => r = .int .i64 (among x m) ∧ h = []) := by
  refine Fnc.enter (vs := [.int .i64 x, .int .i64 m]) Try.func51 rfl rfl (Inv.refl w) ?_
  refine T.seq ?_
  refine T.regionL (ll := [0]) rfl ?_
  refine TO.assign rfl rfl rfl rfl ?_
  refine TO.done ?_
  refine X.seq_normal ?_
  refine T.seq ?_
  refine T.seq ?_
  refine T.regionL (ll := [0, 1]) rfl ?_
  refine TO.move rfl rfl rfl rfl ?_
  refine TO.bin rfl rfl rfl rfl rfl rfl ?_
  refine TO.done ?_
  refine X.seq_normal ?_
  first | refine T.condP rfl (fun h => ?_) (fun h => ?_) | refine T.cond rfl (fun h => ?_) (fun h => ?_)
  ·
    refine T.seq ?_
    refine T.regionL (ll := [0]) rfl ?_
    refine TO.assign rfl rfl rfl rfl ?_
    refine TO.done ?_
    refine X.seq_normal ?_
    refine T.ret ?_
    refine X.then_ret ?_
    refine X.ret1 rfl rfl rfl rfl (Res.tmp rfl) Pick.nil ?_
    simp [among, h]
  ·
    refine T.skip ?_
    refine X.seq_normal ?_
    refine T.seq ?_
    refine T.regionL (ll := [0, 1, 2, 3, 4, 5, 6, 7]) rfl ?_
    refine TO.move rfl rfl rfl rfl ?_
    refine TO.move rfl rfl rfl rfl ?_
    have hm1 := Int.tmod_lt_of_pos x (show 0 < m by omega)
    have hm2 := neg_lt_tmod x (show 0 < m by omega)
    refine TO.rem rfl rfl rfl rfl rfl (by omega) ?_
    refine TO.move rfl rfl rfl rfl ?_
    refine TO.add rfl rfl rfl rfl rfl (by omega) (by omega) ?_
    refine TO.move rfl rfl rfl rfl ?_
    refine TO.rem rfl rfl rfl rfl rfl (by omega) ?_
    refine TO.assign rfl rfl rfl rfl ?_
    refine TO.done ?_
    refine X.seq_normal ?_
    refine T.ret ?_
    refine X.ret1 rfl rfl rfl rfl (Res.tmp rfl) Pick.nil ?_
    simp [among, h]
/-- acequia/net.vertex -/
theorem c_vertex (nN nS nT : Int) (base : Option Addr) (n c : Nat) (v : Int) (w : World) : Fnc Try.prog 88 #[.agg #[.int .i64 nN, .int .i64 nS, .int .i64 nT, .slice base n c], .int .i64 v] w [] (fun r h => r = .bool (vertexB nN v) ∧ h = []) := by
  refine Fnc.enter (vs := [.agg #[.int .i64 nN, .int .i64 nS, .int .i64 nT, .slice base n c], .int .i64 v]) Try.func88 rfl rfl (Inv.refl w) ?_
  refine T.seq ?_
  refine T.regionL (ll := [0, 1]) rfl ?_
  refine TO.boxA rfl rfl rfl rfl ?_; intro b2
  refine TO.assign rfl rfl rfl rfl ?_
  refine TO.done ?_
  refine X.seq_normal ?_
  refine T.seq ?_
  refine T.regionL (ll := [0, 1, 2, 3, 4, 5, 6, 7, 8]) rfl ?_
  refine TO.move rfl rfl rfl rfl ?_
  refine TO.bin rfl rfl rfl rfl rfl rfl ?_
  refine TO.move rfl rfl rfl rfl ?_
  first | refine TO.splitP (t := 7) rfl (fun g1_2 => ?_) (fun g1_2 => ?_) | refine TO.splitB (t := 7) rfl (fun g1_2 => ?_) (fun g1_2 => ?_)
  ·
    refine TO.move rfl rfl rfl rfl ?_
    first | refine TO.fieldAddr0 rfl rfl rfl rfl Ty.f24_0 ?_ | refine TO.fieldAddr rfl rfl rfl rfl Ty.f24_0 ?_
    first | refine TO.load1 rfl rfl rfl rfl Ty.s3 (by repeat (first | exact List.Mem.head _ | apply List.Mem.tail)) rfl ?_ | refine TO.loadH rfl rfl rfl rfl Ty.s3 (by assumption) rfl rfl ?_
    refine TO.bin rfl rfl rfl rfl rfl rfl ?_
    first | refine TO.pickT rfl rfl rfl rfl rfl ?_ | refine TO.pickF rfl rfl rfl rfl rfl ?_
    refine TO.assign rfl rfl rfl rfl ?_
    refine TO.done ?_
    refine X.seq_normal ?_
    refine T.ret ?_
    refine X.ret1 rfl rfl rfl rfl (Res.tmp rfl) Pick.nil ?_
    simp [vertexB, *]
  ·
    refine TO.shut rfl rfl rfl rfl ?_
    refine TO.shut rfl rfl rfl rfl ?_
    refine TO.shut rfl rfl rfl rfl ?_
    refine TO.shut rfl rfl rfl rfl ?_
    first | refine TO.pickT rfl rfl rfl rfl rfl ?_ | refine TO.pickF rfl rfl rfl rfl rfl ?_
    refine TO.assign rfl rfl rfl rfl ?_
    refine TO.done ?_
    refine X.seq_normal ?_
    refine T.ret ?_
    refine X.ret1 rfl rfl rfl rfl (Res.tmp rfl) Pick.nil ?_
    simp [vertexB, *]
/-- acequia/net.rules$1 -/
theorem c_rule1 (nN nS nT : Int) (base : Option Addr) (n c : Nat) (w : World) : Fnc Try.prog 85 #[.agg #[.int .i64 nN, .int .i64 nS, .int .i64 nT, .slice base n c]] w [] (fun r h => r = .bool (decide (2 ≤ nN ∧ nN ≤ 4096)) ∧ h = []) := by
  refine Fnc.enter (vs := [.agg #[.int .i64 nN, .int .i64 nS, .int .i64 nT, .slice base n c]]) Try.func85 rfl rfl (Inv.refl w) ?_
  refine T.seq ?_
  refine T.regionL (ll := [0, 1]) rfl ?_
  refine TO.boxA rfl rfl rfl rfl ?_; intro b1
  refine TO.assign rfl rfl rfl rfl ?_
  refine TO.done ?_
  refine X.seq_normal ?_
  refine T.seq ?_
  refine T.regionL (ll := [0, 1, 2, 3, 4, 5, 6, 7, 8]) rfl ?_
  first | refine TO.fieldAddr0 rfl rfl rfl rfl Ty.f24_0 ?_ | refine TO.fieldAddr rfl rfl rfl rfl Ty.f24_0 ?_
  first | refine TO.load1 rfl rfl rfl rfl Ty.s3 (by repeat (first | exact List.Mem.head _ | apply List.Mem.tail)) rfl ?_ | refine TO.loadH rfl rfl rfl rfl Ty.s3 (by assumption) rfl rfl ?_
  refine TO.bin rfl rfl rfl rfl rfl rfl ?_
  refine TO.move rfl rfl rfl rfl ?_
  first | refine TO.splitP (t := 6) rfl (fun g1_3 => ?_) (fun g1_3 => ?_) | refine TO.splitB (t := 6) rfl (fun g1_3 => ?_) (fun g1_3 => ?_)
  ·
    first | refine TO.fieldAddr0 rfl rfl rfl rfl Ty.f24_0 ?_ | refine TO.fieldAddr rfl rfl rfl rfl Ty.f24_0 ?_
    first | refine TO.load1 rfl rfl rfl rfl Ty.s3 (by repeat (first | exact List.Mem.head _ | apply List.Mem.tail)) rfl ?_ | refine TO.loadH rfl rfl rfl rfl Ty.s3 (by assumption) rfl rfl ?_
    refine TO.bin rfl rfl rfl rfl rfl rfl ?_
    first | refine TO.pickT rfl rfl rfl rfl rfl ?_ | refine TO.pickF rfl rfl rfl rfl rfl ?_
    refine TO.assign rfl rfl rfl rfl ?_
    refine TO.done ?_
    refine X.seq_normal ?_
    refine T.ret ?_
    refine X.ret1 rfl rfl rfl rfl (Res.tmp rfl) Pick.nil ?_
    simp [*]
  ·
    refine TO.shut rfl rfl rfl rfl ?_
    refine TO.shut rfl rfl rfl rfl ?_
    refine TO.shut rfl rfl rfl rfl ?_
    first | refine TO.pickT rfl rfl rfl rfl rfl ?_ | refine TO.pickF rfl rfl rfl rfl rfl ?_
    refine TO.assign rfl rfl rfl rfl ?_
    refine TO.done ?_
    refine X.seq_normal ?_
    refine T.ret ?_
    refine X.ret1 rfl rfl rfl rfl (Res.tmp rfl) Pick.nil ?_
    simp [*]
/-- acequia/net.rules$2 -/
theorem c_rule2 (nN nS nT : Int) (base : Option Addr) (n c : Nat) (w : World) : Fnc Try.prog 86 #[.agg #[.int .i64 nN, .int .i64 nS, .int .i64 nT, .slice base n c]] w [] (fun r h => r = .bool (decide ((n : Int) ≤ 16384)) ∧ h = []) := by
  refine Fnc.enter (vs := [.agg #[.int .i64 nN, .int .i64 nS, .int .i64 nT, .slice base n c]]) Try.func86 rfl rfl (Inv.refl w) ?_
  refine T.seq ?_
  refine T.regionL (ll := [0, 1]) rfl ?_
  refine TO.boxA rfl rfl rfl rfl ?_; intro b1
  refine TO.assign rfl rfl rfl rfl ?_
  refine TO.done ?_
  refine X.seq_normal ?_
  refine T.seq ?_
  refine T.regionL (ll := [0, 1, 2, 3, 4]) rfl ?_
  first | refine TO.fieldAddr0 rfl rfl rfl rfl Ty.f24_3 ?_ | refine TO.fieldAddr rfl rfl rfl rfl Ty.f24_3 ?_
  first | refine TO.load1 rfl rfl rfl rfl Ty.s22 (by repeat (first | exact List.Mem.head _ | apply List.Mem.tail)) rfl ?_ | refine TO.loadH rfl rfl rfl rfl Ty.s22 (by assumption) rfl rfl ?_
  refine TO.len rfl rfl rfl rfl rfl Ty.l22 ?_
  refine TO.bin rfl rfl rfl rfl rfl rfl ?_
  refine TO.assign rfl rfl rfl rfl ?_
  refine TO.done ?_
  refine X.seq_normal ?_
  refine T.ret ?_
  refine X.ret1 rfl rfl rfl rfl (Res.tmp rfl) Pick.nil ?_
  simp
/-- acequia/net.rules$3 -/
theorem c_rule3 (nN nS nT : Int) (base : Option Addr) (n c : Nat) (w : World) : Fnc Try.prog 87 #[.agg #[.int .i64 nN, .int .i64 nS, .int .i64 nT, .slice base n c]] w [] (fun r h => r = .bool (decide (vertexB nN nS = true ∧ vertexB nN nT = true ∧ nS ≠ nT)) ∧ h = []) := by
  refine Fnc.enter (vs := [.agg #[.int .i64 nN, .int .i64 nS, .int .i64 nT, .slice base n c]]) Try.func87 rfl rfl (Inv.refl w) ?_
  refine T.seq ?_
  refine T.regionL (ll := [0, 1]) rfl ?_
  refine TO.boxA rfl rfl rfl rfl ?_; intro b1
  refine TO.assign rfl rfl rfl rfl ?_
  refine TO.done ?_
  refine X.seq_normal ?_
  refine T.seq ?_
  refine T.regionL (ll := [0, 1, 2, 3, 4, 5, 6, 7, 8, 9, 10, 11, 12, 13, 14, 15, 16, 17]) rfl ?_
  first | refine TO.loadA rfl rfl rfl rfl Ty.a24 (by repeat (first | exact List.Mem.head _ | apply List.Mem.tail)) rfl ?_ | refine TO.loadHA rfl rfl rfl rfl Ty.a24 (by assumption) rfl rfl ?_
  first | refine TO.fieldAddr0 rfl rfl rfl rfl Ty.f24_1 ?_ | refine TO.fieldAddr rfl rfl rfl rfl Ty.f24_1 ?_
  first | refine TO.load1 rfl rfl rfl rfl Ty.s3 (by repeat (first | exact List.Mem.head _ | apply List.Mem.tail)) rfl ?_ | refine TO.loadH rfl rfl rfl rfl Ty.s3 (by assumption) rfl rfl ?_
  refine TO.call rfl rfl rfl Ty.c88 rfl (fun wc hwc => c_vertex _ _ _ _ _ _ _ wc) ?_
  rintro _ _ ⟨rfl, rfl⟩
  refine TO.move rfl rfl rfl rfl ?_
  first | refine TO.splitP (t := 7) rfl (fun g1_4 => ?_) (fun g1_4 => ?_) | refine TO.splitB (t := 7) rfl (fun g1_4 => ?_) (fun g1_4 => ?_)
  ·
    first | refine TO.loadA rfl rfl rfl rfl Ty.a24 (by repeat (first | exact List.Mem.head _ | apply List.Mem.tail)) rfl ?_ | refine TO.loadHA rfl rfl rfl rfl Ty.a24 (by assumption) rfl rfl ?_
    first | refine TO.fieldAddr0 rfl rfl rfl rfl Ty.f24_2 ?_ | refine TO.fieldAddr rfl rfl rfl rfl Ty.f24_2 ?_
    first | refine TO.load1 rfl rfl rfl rfl Ty.s3 (by repeat (first | exact List.Mem.head _ | apply List.Mem.tail)) rfl ?_ | refine TO.loadH rfl rfl rfl rfl Ty.s3 (by assumption) rfl rfl ?_
    refine TO.call rfl rfl rfl Ty.c88 rfl (fun wc hwc => c_vertex _ _ _ _ _ _ _ wc) ?_
    rintro _ _ ⟨rfl, rfl⟩
    first | refine TO.pickT rfl rfl rfl rfl rfl ?_ | refine TO.pickF rfl rfl rfl rfl rfl ?_
    refine TO.move rfl rfl rfl rfl ?_
    first | refine TO.splitP (t := 13) rfl (fun g1_10 => ?_) (fun g1_10 => ?_) | refine TO.splitB (t := 13) rfl (fun g1_10 => ?_) (fun g1_10 => ?_)
    ·
      first | refine TO.fieldAddr0 rfl rfl rfl rfl Ty.f24_1 ?_ | refine TO.fieldAddr rfl rfl rfl rfl Ty.f24_1 ?_
      first | refine TO.load1 rfl rfl rfl rfl Ty.s3 (by repeat (first | exact List.Mem.head _ | apply List.Mem.tail)) rfl ?_ | refine TO.loadH rfl rfl rfl rfl Ty.s3 (by assumption) rfl rfl ?_
      first | refine TO.fieldAddr0 rfl rfl rfl rfl Ty.f24_2 ?_ | refine TO.fieldAddr rfl rfl rfl rfl Ty.f24_2 ?_
      first | refine TO.load1 rfl rfl rfl rfl Ty.s3 (by repeat (first | exact List.Mem.head _ | apply List.Mem.tail)) rfl ?_ | refine TO.loadH rfl rfl rfl rfl Ty.s3 (by assumption) rfl rfl ?_
      refine TO.bin rfl rfl rfl rfl rfl rfl ?_
      first | refine TO.pickT rfl rfl rfl rfl rfl ?_ | refine TO.pickF rfl rfl rfl rfl rfl ?_
      refine TO.assign rfl rfl rfl rfl ?_
      refine TO.done ?_
      refine X.seq_normal ?_
      refine T.ret ?_
      refine X.ret1 rfl rfl rfl rfl (Res.tmp rfl) Pick.nil ?_
      simp [vertexB, *]
    ·
      refine TO.shut rfl rfl rfl rfl ?_
      refine TO.shut rfl rfl rfl rfl ?_
      refine TO.shut rfl rfl rfl rfl ?_
      refine TO.shut rfl rfl rfl rfl ?_
      refine TO.shut rfl rfl rfl rfl ?_
      first | refine TO.pickT rfl rfl rfl rfl rfl ?_ | refine TO.pickF rfl rfl rfl rfl rfl ?_
      refine TO.assign rfl rfl rfl rfl ?_
      refine TO.done ?_
      refine X.seq_normal ?_
      refine T.ret ?_
      refine X.ret1 rfl rfl rfl rfl (Res.tmp rfl) Pick.nil ?_
      simp [vertexB, *]
  ·
    refine TO.shut rfl rfl rfl rfl ?_
    refine TO.shut rfl rfl rfl rfl ?_
    refine TO.shut rfl rfl rfl rfl ?_
    refine TO.shut rfl rfl rfl rfl ?_
    first | refine TO.pickT rfl rfl rfl rfl rfl ?_ | refine TO.pickF rfl rfl rfl rfl rfl ?_
    refine TO.move rfl rfl rfl rfl ?_
    refine TO.shut rfl rfl rfl rfl ?_
    refine TO.shut rfl rfl rfl rfl ?_
    refine TO.shut rfl rfl rfl rfl ?_
    refine TO.shut rfl rfl rfl rfl ?_
    refine TO.shut rfl rfl rfl rfl ?_
    first | refine TO.pickT rfl rfl rfl rfl rfl ?_ | refine TO.pickF rfl rfl rfl rfl rfl ?_
    refine TO.assign rfl rfl rfl rfl ?_
    refine TO.done ?_
    refine X.seq_normal ?_
    refine T.ret ?_
    refine X.ret1 rfl rfl rfl rfl (Res.tmp rfl) Pick.nil ?_
    simp [vertexB, *]
/-- acequia/net.rules$4 -/
theorem c_rule4 (nN nS nT : Int) (base : Option Addr) (n c : Nat) (a : Arc) (w : World) : Fnc Try.prog 90 #[.agg #[.int .i64 nN, .int .i64 nS, .int .i64 nT, .slice base n c], .agg (arcC a).toArray] w [] (fun r h => r = .bool (endsB nN a) ∧ h = []) := by
  refine Fnc.enter (vs := [.agg #[.int .i64 nN, .int .i64 nS, .int .i64 nT, .slice base n c], .agg (arcC a).toArray]) Try.func90 rfl rfl (Inv.refl w) ?_
  refine T.seq ?_
  refine T.regionL (ll := [0, 1, 2]) rfl ?_
  refine TO.boxA rfl rfl rfl rfl ?_; intro b2
  refine TO.boxA rfl rfl rfl rfl ?_; intro b3
  refine TO.assign rfl rfl rfl rfl ?_
  refine TO.done ?_
  refine X.seq_normal ?_
  refine T.seq ?_
  refine T.regionL (ll := [0, 1, 2, 3, 4, 5, 6, 7, 8, 9, 10]) rfl ?_
  first | refine TO.loadA rfl rfl rfl rfl Ty.a24 (by repeat (first | exact List.Mem.head _ | apply List.Mem.tail)) rfl ?_ | refine TO.loadHA rfl rfl rfl rfl Ty.a24 (by assumption) rfl rfl ?_
  first | refine TO.fieldAddr0 rfl rfl rfl rfl Ty.f28_0 ?_ | refine TO.fieldAddr rfl rfl rfl rfl Ty.f28_0 ?_
  first | refine TO.load1 rfl rfl rfl rfl Ty.s3 (by repeat (first | exact List.Mem.head _ | apply List.Mem.tail)) rfl ?_ | refine TO.loadH rfl rfl rfl rfl Ty.s3 (by assumption) rfl rfl ?_
  refine TO.call rfl rfl rfl Ty.c88 rfl (fun wc hwc => c_vertex _ _ _ _ _ _ _ wc) ?_
  rintro _ _ ⟨rfl, rfl⟩
  refine TO.move rfl rfl rfl rfl ?_
  first | refine TO.splitP (t := 9) rfl (fun g1_4 => ?_) (fun g1_4 => ?_) | refine TO.splitB (t := 9) rfl (fun g1_4 => ?_) (fun g1_4 => ?_)
  ·
    first | refine TO.loadA rfl rfl rfl rfl Ty.a24 (by repeat (first | exact List.Mem.head _ | apply List.Mem.tail)) rfl ?_ | refine TO.loadHA rfl rfl rfl rfl Ty.a24 (by assumption) rfl rfl ?_
    first | refine TO.fieldAddr0 rfl rfl rfl rfl Ty.f28_1 ?_ | refine TO.fieldAddr rfl rfl rfl rfl Ty.f28_1 ?_
    first | refine TO.load1 rfl rfl rfl rfl Ty.s3 (by repeat (first | exact List.Mem.head _ | apply List.Mem.tail)) rfl ?_ | refine TO.loadH rfl rfl rfl rfl Ty.s3 (by assumption) rfl rfl ?_
    refine TO.call rfl rfl rfl Ty.c88 rfl (fun wc hwc => c_vertex _ _ _ _ _ _ _ wc) ?_
    rintro _ _ ⟨rfl, rfl⟩
    first | refine TO.pickT rfl rfl rfl rfl rfl ?_ | refine TO.pickF rfl rfl rfl rfl rfl ?_
    refine TO.assign rfl rfl rfl rfl ?_
    refine TO.done ?_
    refine X.seq_normal ?_
    refine T.ret ?_
    refine X.ret1 rfl rfl rfl rfl (Res.tmp rfl) Pick.nil ?_
    simp [endsB, vertexB, *]
  ·
    refine TO.shut rfl rfl rfl rfl ?_
    refine TO.shut rfl rfl rfl rfl ?_
    refine TO.shut rfl rfl rfl rfl ?_
    refine TO.shut rfl rfl rfl rfl ?_
    first | refine TO.pickT rfl rfl rfl rfl rfl ?_ | refine TO.pickF rfl rfl rfl rfl rfl ?_
    refine TO.assign rfl rfl rfl rfl ?_
    refine TO.done ?_
    refine X.seq_normal ?_
    refine T.ret ?_
    refine X.ret1 rfl rfl rfl rfl (Res.tmp rfl) Pick.nil ?_
    simp [endsB, vertexB, *]
/-- acequia/net.rules$5 -/
theorem c_rule5 (nN nS nT : Int) (base : Option Addr) (n c : Nat) (a : Arc) (w : World) : Fnc Try.prog 91 #[.agg #[.int .i64 nN, .int .i64 nS, .int .i64 nT, .slice base n c], .agg (arcC a).toArray] w [] (fun r h => r = .bool (capB a) ∧ h = []) := by
  refine Fnc.enter (vs := [.agg #[.int .i64 nN, .int .i64 nS, .int .i64 nT, .slice base n c], .agg (arcC a).toArray]) Try.func91 rfl rfl (Inv.refl w) ?_
  refine T.seq ?_
  refine T.regionL (ll := [0, 1, 2]) rfl ?_
  refine TO.boxA rfl rfl rfl rfl ?_; intro b2
  refine TO.boxA rfl rfl rfl rfl ?_; intro b3
  refine TO.assign rfl rfl rfl rfl ?_
  refine TO.done ?_
  refine X.seq_normal ?_
  refine T.seq ?_
  refine T.regionL (ll := [0, 1, 2, 3]) rfl ?_
  first | refine TO.fieldAddr0 rfl rfl rfl rfl Ty.f28_2 ?_ | refine TO.fieldAddr rfl rfl rfl rfl Ty.f28_2 ?_
  first | refine TO.load1 rfl rfl rfl rfl Ty.s2 (by repeat (first | exact List.Mem.head _ | apply List.Mem.tail)) rfl ?_ | refine TO.loadH rfl rfl rfl rfl Ty.s2 (by assumption) rfl rfl ?_
  refine TO.bin rfl rfl rfl rfl rfl rfl ?_
  refine TO.assign rfl rfl rfl rfl ?_
  refine TO.done ?_
  refine X.seq_normal ?_
  refine T.ret ?_
  refine X.ret1 rfl rfl rfl rfl (Res.tmp rfl) Pick.nil ?_
  simp [capB]
/-- acequia/net.Sum -/
theorem c_sum (nN nS nT : Int) (base : Option Addr) (n c : Nat) (al : List Arc) (w : World) (ha : RO w arcC 3 base n al) (hn : n ≤ 4611686018427387904) : Fnc Try.prog 93 #[.agg #[.int .i64 nN, .int .i64 nS, .int .i64 nT, .slice base n c]] w [] (fun r h => r = .tuple #[.int .i64 (sumV al), .bool (sumL 4611686018427387904 al).isSome] ∧ h = []) := by
  refine Fnc.enter (vs := [.agg #[.int .i64 nN, .int .i64 nS, .int .i64 nT, .slice base n c]]) Try.func93 rfl rfl (Inv.refl w) ?_
  refine T.seq ?_
  refine T.regionL (ll := [0, 1, 2]) rfl ?_
  refine TO.boxA rfl rfl rfl rfl ?_; intro b1
  refine TO.assign rfl rfl rfl rfl ?_
  refine TO.assign rfl rfl rfl rfl ?_
  refine TO.done ?_
  refine X.seq_normal ?_
  refine T.seq ?_
  refine T.regionL (ll := [0]) rfl ?_
  refine TO.assign rfl rfl rfl rfl ?_
  refine TO.done ?_
  refine X.seq_normal ?_
  refine T.seq ?_
  refine T.seq ?_
  refine T.regionL (ll := [0, 1, 2, 3]) rfl ?_
  first | refine TO.fieldAddr0 rfl rfl rfl rfl Ty.f24_3 ?_ | refine TO.fieldAddr rfl rfl rfl rfl Ty.f24_3 ?_
  first | refine TO.load1 rfl rfl rfl rfl Ty.s22 (by repeat (first | exact List.Mem.head _ | apply List.Mem.tail)) rfl ?_ | refine TO.loadH rfl rfl rfl rfl Ty.s22 (by assumption) rfl rfl ?_
  refine TO.len rfl rfl rfl rfl rfl Ty.l22 ?_
  refine TO.move rfl rfl rfl rfl ?_
  refine TO.done ?_
  refine X.seq_normal ?_
  refine T.block ?_
  refine T.loop2 (fun (k : Nat) (left : Int) => k ≤ n ∧ 0 ≤ left ∧ left ≤ 4611686018427387904 ∧ sumL 4611686018427387904 al = sumL left (al.drop k)) (fun (k : Nat) (left : Int) => [(10, .int .i64 k), (4, .int .i64 left)]) [2, 3, 4, 6, 10, 11, 12, 13, 14, 15, 16, 17, 18, 19, 20, 21, 22, 23, 24, 25, 26, 27] (fun (k : Nat) (left : Int) => []) (fun (k : Nat) (left : Int) => n - k) 0 4611686018427387904 ⟨by omega, by omega, by omega, by simp⟩ (by repeat (first | exact trivial | refine ⟨rfl, ?_⟩)) (by repeat (first | exact Pick.nil | apply Pick.none | refine Pick.cons (by repeat (first | exact Take.head _ _ | apply Take.tail)) ?_)) ?_
  rintro k left ⟨hk, hl0, hl1, hs⟩
  refine T.seq ?_
  refine T.regionL (ll := [0]) rfl ?_
  refine TO.bin rfl rfl rfl rfl rfl rfl ?_
  refine TO.done ?_
  refine X.seq_normal ?_
  refine T.seq ?_
  first | refine T.condP rfl (fun hk1 => ?_) (fun hk1 => ?_) | refine T.cond rfl (fun hk1 => ?_) (fun hk1 => ?_)
  ·
    have hkl : k < al.length := by rw [ha.len]; omega
    rw [sumL_drop hkl] at hs
    refine T.skip ?_
    refine X.seq_normal ?_
    refine T.seq ?_
    refine T.block ?_
    refine T.seq ?_
    refine T.regionL (ll := [0, 1, 2, 3]) rfl ?_
    first | refine TO.index0N rfl rfl rfl rfl rfl Ty.l22 Ty.n28 (by omega) ?_ | refine TO.index0 rfl rfl rfl rfl rfl Ty.l22 Ty.n28 (by omega) (by omega) ?_ | refine TO.indexRN rfl rfl rfl rfl rfl Ty.l22 Ty.n28 (RO.nil (by assumption)) (by omega) ?_ | refine TO.indexR rfl rfl rfl rfl rfl Ty.l22 Ty.n28 (RO.nil (by assumption)) (by omega) (by omega) ?_
    first | refine TO.ldSr default rfl rfl rfl rfl Ty.a28 (by assumption) rfl (by first | omega | (simp only [List.length_set, List.length_replicate]; omega)) ?_ | refine TO.ldS default (fun _ => rfl) rfl rfl rfl rfl Ty.a28 (by repeat (first | exact List.Mem.head _ | apply List.Mem.tail)) (by first | omega | (simp only [List.length_set, List.length_replicate]; omega)) ?_
    refine TO.allocA rfl rfl rfl Ty.z28 ?_; intro b6
    refine TO.storeA rfl rfl rfl rfl (by repeat (first | exact Take.head _ _ | apply Take.tail)) Ty.n28 rfl rfl rfl ?_
    refine TO.done ?_
    refine X.seq_normal ?_
    refine T.seq ?_
    refine T.seq ?_
    refine T.regionL (ll := [0, 1, 2, 3, 4, 5, 6, 7, 8]) rfl ?_
    first | refine TO.fieldAddr0 rfl rfl rfl rfl Ty.f28_2 ?_ | refine TO.fieldAddr rfl rfl rfl rfl Ty.f28_2 ?_
    first | refine TO.load1 rfl rfl rfl rfl Ty.s2 (by repeat (first | exact List.Mem.head _ | apply List.Mem.tail)) rfl ?_ | refine TO.loadH rfl rfl rfl rfl Ty.s2 (by assumption) rfl rfl ?_
    refine TO.bin rfl rfl rfl rfl rfl rfl ?_
    refine TO.move rfl rfl rfl rfl ?_
    first | refine TO.splitP (t := 17) rfl (fun g5_3 => ?_) (fun g5_3 => ?_) | refine TO.splitB (t := 17) rfl (fun g5_3 => ?_) (fun g5_3 => ?_)
    ·
      refine TO.shut rfl rfl rfl rfl ?_
      refine TO.shut rfl rfl rfl rfl ?_
      refine TO.shut rfl rfl rfl rfl ?_
      refine TO.shut rfl rfl rfl rfl ?_
      first | refine TO.pickT rfl rfl rfl rfl rfl ?_ | refine TO.pickF rfl rfl rfl rfl rfl ?_
      refine TO.done ?_
      refine X.seq_normal ?_
      refine T.condT rfl rfl ?_
      refine T.seq ?_
      refine T.regionL (ll := [0, 1]) rfl ?_
      refine TO.assign rfl rfl rfl rfl ?_
      refine TO.assign rfl rfl rfl rfl ?_
      refine TO.done ?_
      refine X.seq_normal ?_
      refine T.ret ?_
      refine X.then_ret ?_
      refine X.block_ret ?_
      refine X.then_ret ?_
      refine X.then_ret ?_
      refine X.block_ret ?_
      refine X.then_ret ?_
      refine X.ret2 rfl rfl rfl rfl (Res.tmp rfl) (Res.tmp rfl) Pick.nil ⟨?_, rfl⟩
      simp only [sumV]
      rw [hs, if_pos (by omega)]; rfl
    ·
      first | refine TO.fieldAddr0 rfl rfl rfl rfl Ty.f28_2 ?_ | refine TO.fieldAddr rfl rfl rfl rfl Ty.f28_2 ?_
      first | refine TO.load1 rfl rfl rfl rfl Ty.s2 (by repeat (first | exact List.Mem.head _ | apply List.Mem.tail)) rfl ?_ | refine TO.loadH rfl rfl rfl rfl Ty.s2 (by assumption) rfl rfl ?_
      refine TO.move rfl rfl rfl rfl ?_
      refine TO.bin rfl rfl rfl rfl rfl rfl ?_
      first | refine TO.pickT rfl rfl rfl rfl rfl ?_ | refine TO.pickF rfl rfl rfl rfl rfl ?_
      refine TO.done ?_
      refine X.seq_normal ?_
      first | refine T.condP rfl (fun hk2 => ?_) (fun hk2 => ?_) | refine T.cond rfl (fun hk2 => ?_) (fun hk2 => ?_)
      ·
        refine T.seq ?_
        refine T.regionL (ll := [0, 1]) rfl ?_
        refine TO.assign rfl rfl rfl rfl ?_
        refine TO.assign rfl rfl rfl rfl ?_
        refine TO.done ?_
        refine X.seq_normal ?_
        refine T.ret ?_
        refine X.then_ret ?_
        refine X.block_ret ?_
        refine X.then_ret ?_
        refine X.then_ret ?_
        refine X.block_ret ?_
        refine X.then_ret ?_
        refine X.ret2 rfl rfl rfl rfl (Res.tmp rfl) (Res.tmp rfl) Pick.nil ⟨?_, rfl⟩
        simp only [sumV]
        rw [hs, if_pos (by omega)]; rfl
      ·
        refine T.skip ?_
        refine X.seq_normal ?_
        refine T.regionL (ll := [0, 1, 2, 3, 4]) rfl ?_
        refine TO.move rfl rfl rfl rfl ?_
        first | refine TO.fieldAddr0 rfl rfl rfl rfl Ty.f28_2 ?_ | refine TO.fieldAddr rfl rfl rfl rfl Ty.f28_2 ?_
        first | refine TO.load1 rfl rfl rfl rfl Ty.s2 (by repeat (first | exact List.Mem.head _ | apply List.Mem.tail)) rfl ?_ | refine TO.loadH rfl rfl rfl rfl Ty.s2 (by assumption) rfl rfl ?_
        refine TO.sub rfl rfl rfl rfl rfl (by omega) (by omega) ?_
        refine TO.assign rfl rfl rfl rfl ?_
        refine TO.done ?_
        refine X.block_normal ?_
        refine X.seq_normal ?_
        refine T.regionL (ll := [0, 1]) rfl ?_
        refine TO.add rfl rfl rfl rfl rfl (by omega) (by omega) ?_
        refine TO.move rfl rfl rfl rfl ?_
        refine TO.done ?_
        refine X.again2 (k + 1) (left - (al.getD k default).cap) ⟨by omega, by omega, by omega, ?_⟩ (by omega) (by repeat (first | exact trivial | refine ⟨rfl, ?_⟩)) (by repeat (first | exact trivial | refine ⟨rfl, ?_⟩)) (by repeat (first | exact Pick.nil | apply Pick.none | refine Pick.cons (by repeat (first | exact Take.head _ _ | apply Take.tail)) ?_))
        rw [hs, if_neg (by omega)]
  ·
    have hkn : k = n := by omega
    subst hkn
    refine T.exit ?_
    refine X.then_exit ?_
    refine X.then_exit ?_
    refine X.block_here ?_
    refine X.seq_normal ?_
    refine T.seq ?_
    refine T.regionL (ll := [0, 1, 2, 3]) rfl ?_
    refine TO.move rfl rfl rfl rfl ?_
    refine TO.sub rfl rfl rfl rfl rfl (by omega) (by omega) ?_
    refine TO.assign rfl rfl rfl rfl ?_
    refine TO.assign rfl rfl rfl rfl ?_
    refine TO.done ?_
    refine X.seq_normal ?_
    refine T.ret ?_
    refine X.ret2 rfl rfl rfl rfl (Res.tmp rfl) (Res.tmp rfl) Pick.nil ⟨?_, rfl⟩
    simp only [sumV]
    rw [hs, List.drop_eq_nil_of_le (by rw [ha.len]; omega)]; rfl
/-- slices.IndexFunc[[]acequia/api.Arc,acequia/api.Arc] -/
theorem c_indexArc (base : Option Addr) (n c : Nat) (al : List Arc) (p : Arc → Bool) (q : Nat) (fs cs : Array Value) (hq : callable Try.prog q = true) (w : World) (ha : RO w arcC 3 base n al) (hn : n ≤ 4611686018427387904) (hcl : ∀ w', Inv w [] w' [] → ∀ a, a ∈ al → Fnc Try.prog q (fs ++ #[.agg (arcC a).toArray] ++ cs) w' [] (fun r h => r = .bool (p a) ∧ h = [])) : Fnc Try.prog 100 #[.slice base n c, .func (.func q) fs cs] w [] (fun r h => r = .int .i64 (idxI p al) ∧ h = []) := by
  refine Fnc.enter (vs := [.slice base n c, .func (.func q) fs cs]) Try.func100 rfl rfl (Inv.refl w) ?_
  refine T.seq ?_
  refine T.regionL (ll := [0]) rfl ?_
  refine TO.assign rfl rfl rfl rfl ?_
  refine TO.done ?_
  refine X.seq_normal ?_
  refine T.seq ?_
  refine T.seq ?_
  refine T.regionL (ll := [0, 1, 2]) rfl ?_
  refine TO.move rfl rfl rfl rfl ?_
  refine TO.len rfl rfl rfl rfl rfl Ty.l22 ?_
  refine TO.move rfl rfl rfl rfl ?_
  refine TO.done ?_
  refine X.seq_normal ?_
  refine T.block ?_
  refine T.loop1 (fun (k : Nat) => k ≤ n ∧ ∀ i, i < k → p (al.getD i default) = false) (fun (k : Nat) => [(8, .int .i64 k)]) [4, 5, 8, 9, 10, 11, 12, 13, 14, 15, 16, 17, 18] (fun (k : Nat) => []) (fun (k : Nat) => n - k) 0 ⟨by omega, by omega⟩ (by repeat (first | exact trivial | refine ⟨rfl, ?_⟩)) (by repeat (first | exact Pick.nil | apply Pick.none | refine Pick.cons (by repeat (first | exact Take.head _ _ | apply Take.tail)) ?_)) ?_
  rintro k ⟨hk, hb⟩
  refine T.seq ?_
  refine T.regionL (ll := [0]) rfl ?_
  refine TO.bin rfl rfl rfl rfl rfl rfl ?_
  refine TO.done ?_
  refine X.seq_normal ?_
  refine T.seq ?_
  first | refine T.condP rfl (fun h0 => ?_) (fun h0 => ?_) | refine T.cond rfl (fun h0 => ?_) (fun h0 => ?_)
  ·
    have hkl : k < al.length := by rw [ha.len]; omega
    refine T.skip ?_
    refine X.seq_normal ?_
    refine T.seq ?_
    refine T.block ?_
    refine T.seq ?_
    refine T.regionL (ll := [0, 1]) rfl ?_
    refine TO.move rfl rfl rfl rfl ?_
    refine TO.assign rfl rfl rfl rfl ?_
    refine TO.done ?_
    refine X.seq_normal ?_
    refine T.seq ?_
    refine T.regionL (ll := [0, 1, 2, 3, 4, 5]) rfl ?_
    refine TO.move rfl rfl rfl rfl ?_
    refine TO.move rfl rfl rfl rfl ?_
    refine TO.move rfl rfl rfl rfl ?_
    first | refine TO.index0N rfl rfl rfl rfl rfl Ty.l22 Ty.n28 (by omega) ?_ | refine TO.index0 rfl rfl rfl rfl rfl Ty.l22 Ty.n28 (by omega) (by omega) ?_ | refine TO.indexRN rfl rfl rfl rfl rfl Ty.l22 Ty.n28 (RO.nil (by assumption)) (by omega) ?_ | refine TO.indexR rfl rfl rfl rfl rfl Ty.l22 Ty.n28 (RO.nil (by assumption)) (by omega) (by omega) ?_
    first | refine TO.ldSr default rfl rfl rfl rfl Ty.a28 (by assumption) rfl (by first | omega | (simp only [List.length_set, List.length_replicate]; omega)) ?_ | refine TO.ldS default (fun _ => rfl) rfl rfl rfl rfl Ty.a28 (by repeat (first | exact List.Mem.head _ | apply List.Mem.tail)) (by first | omega | (simp only [List.length_set, List.length_replicate]; omega)) ?_
    refine TO.callV rfl rfl rfl hq rfl rfl (fun wc hwc => hcl wc hwc.bare _ (getD_mem hkl default)) ?_
    rintro _ _ ⟨rfl, rfl⟩
    refine TO.done ?_
    refine X.seq_normal ?_
    first | refine T.condP rfl (fun h1 => ?_) (fun h1 => ?_) | refine T.cond rfl (fun h1 => ?_) (fun h1 => ?_)
    ·
      refine T.seq ?_
      refine T.regionL (ll := [0, 1]) rfl ?_
      refine TO.move rfl rfl rfl rfl ?_
      refine TO.assign rfl rfl rfl rfl ?_
      refine TO.done ?_
      refine X.seq_normal ?_
      refine T.ret ?_
      refine X.block_ret ?_
      refine X.then_ret ?_
      refine X.then_ret ?_
      refine X.block_ret ?_
      refine X.then_ret ?_
      refine X.ret1 rfl rfl rfl rfl (Res.tmp rfl) Pick.nil ?_
      exact ⟨by rw [idxI_some default hkl h1 hb], rfl⟩
    ·
      refine T.skip ?_
      refine X.block_normal ?_
      refine X.seq_normal ?_
      refine T.regionL (ll := [0, 1]) rfl ?_
      refine TO.add rfl rfl rfl rfl rfl (by omega) (by omega) ?_
      refine TO.move rfl rfl rfl rfl ?_
      refine TO.done ?_
      refine X.again1 (k + 1) ⟨by omega, fun i hi => by rcases Nat.lt_succ_iff_lt_or_eq.1 hi with h | h; exact hb i h; subst h; exact h1⟩ (by omega) (by repeat (first | exact trivial | refine ⟨rfl, ?_⟩)) (by repeat (first | exact trivial | refine ⟨rfl, ?_⟩)) (by repeat (first | exact Pick.nil | apply Pick.none | refine Pick.cons (by repeat (first | exact Take.head _ _ | apply Take.tail)) ?_))
  ·
    refine T.exit ?_
    refine X.then_exit ?_
    refine X.then_exit ?_
    refine X.block_here ?_
    refine X.seq_normal ?_
    refine T.seq ?_
    refine T.regionL (ll := [0]) rfl ?_
    refine TO.assign rfl rfl rfl rfl ?_
    refine TO.done ?_
    refine X.seq_normal ?_
    refine T.ret ?_
    refine X.ret1 rfl rfl rfl rfl (Res.tmp rfl) Pick.nil ?_
    exact ⟨by rw [idxI_none default (fun i hi => hb i (by rw [ha.len] at hi; omega))], rfl⟩
/-- slices.ContainsFunc[[]acequia/api.Arc,acequia/api.Arc] -/
theorem c_containsArc (base : Option Addr) (n c : Nat) (al : List Arc) (p : Arc → Bool) (q : Nat) (fs cs : Array Value) (hq : callable Try.prog q = true) (w : World) (ha : RO w arcC 3 base n al) (hn : n ≤ 4611686018427387904) (hcl : ∀ w', Inv w [] w' [] → ∀ a, a ∈ al → Fnc Try.prog q (fs ++ #[.agg (arcC a).toArray] ++ cs) w' [] (fun r h => r = .bool (p a) ∧ h = [])) : Fnc Try.prog 98 #[.slice base n c, .func (.func q) fs cs] w [] (fun r h => r = .bool (al.any p) ∧ h = []) := by
  refine Fnc.enter (vs := [.slice base n c, .func (.func q) fs cs]) Try.func98 rfl rfl (Inv.refl w) ?_
  refine T.seq ?_
  refine T.regionL (ll := [0]) rfl ?_
  refine TO.assign rfl rfl rfl rfl ?_
  refine TO.done ?_
  refine X.seq_normal ?_
  refine T.seq ?_
  refine T.regionL (ll := [0, 1, 2, 3, 4]) rfl ?_
  refine TO.move rfl rfl rfl rfl ?_
  refine TO.move rfl rfl rfl rfl ?_
  refine TO.call rfl rfl rfl Ty.c100 rfl (fun wc hwc => c_indexArc _ _ _ _ p q fs cs hq wc (ha.mono hwc) hn (fun w' hw' => hcl w' (hwc.step hw'))) ?_
  rintro _ _ ⟨rfl, rfl⟩
  refine TO.bin rfl rfl rfl rfl rfl rfl ?_
  refine TO.assign rfl rfl rfl rfl ?_
  refine TO.done ?_
  refine X.seq_normal ?_
  refine T.ret ?_
  refine X.ret1 rfl rfl rfl rfl (Res.tmp rfl) Pick.nil ?_
  exact ⟨by rw [idxI_any], rfl⟩
/-- acequia/net.of$1$1 -/
theorem c_of11 (nN nS nT : Int) (base : Option Addr) (n c : Nat) (b1 b2 : Nat) (a : Arc) (p : Arc → Bool) (q : Nat) (hq : callable Try.prog q = true) (w : World) (h1 : Has w b1 [.func (.func q) #[] #[]]) (h2 : Has w b2 [.int .i64 nN, .int .i64 nS, .int .i64 nT, .slice base n c]) (hcl : ∀ w', Inv w [] w' [] → Fnc Try.prog q #[.agg #[.int .i64 nN, .int .i64 nS, .int .i64 nT, .slice base n c], .agg (arcC a).toArray] w' [] (fun r h => r = .bool (p a) ∧ h = [])) : Fnc Try.prog 99 #[.agg (arcC a).toArray, .pointer (some ⟨b1, 0, none⟩), .pointer (some ⟨b2, 0, none⟩)] w [] (fun r h => r = .bool (!p a) ∧ h = []) := by
  refine Fnc.enter (vs := [.agg (arcC a).toArray, .pointer (some ⟨b1, 0, none⟩), .pointer (some ⟨b2, 0, none⟩)]) Try.func99 rfl rfl (Inv.refl w) ?_
  refine T.seq ?_
  refine T.regionL (ll := [0, 1]) rfl ?_
  refine TO.boxA rfl rfl rfl rfl ?_; intro b3
  refine TO.assign rfl rfl rfl rfl ?_
  refine TO.done ?_
  refine X.seq_normal ?_
  refine T.seq ?_
  refine T.regionL (ll := [0, 1, 2, 3, 4, 5]) rfl ?_
  first | refine TO.load1 rfl rfl rfl rfl Ty.s123 (by repeat (first | exact List.Mem.head _ | apply List.Mem.tail)) rfl ?_ | refine TO.loadH rfl rfl rfl rfl Ty.s123 (by assumption) rfl rfl ?_
  first | refine TO.loadA rfl rfl rfl rfl Ty.a24 (by repeat (first | exact List.Mem.head _ | apply List.Mem.tail)) rfl ?_ | refine TO.loadHA rfl rfl rfl rfl Ty.a24 (by assumption) rfl rfl ?_
  first | refine TO.loadA rfl rfl rfl rfl Ty.a28 (by repeat (first | exact List.Mem.head _ | apply List.Mem.tail)) rfl ?_ | refine TO.loadHA rfl rfl rfl rfl Ty.a28 (by assumption) rfl rfl ?_
  refine TO.callV rfl rfl rfl hq rfl rfl (fun wc hwc => hcl wc hwc.bare) ?_
  rintro _ _ ⟨rfl, rfl⟩
  first | refine TO.notP rfl rfl rfl rfl ?_ | refine TO.not rfl rfl rfl rfl ?_
  refine TO.assign rfl rfl rfl rfl ?_
  refine TO.done ?_
  refine X.seq_normal ?_
  refine T.ret ?_
  refine X.ret1 rfl rfl rfl rfl (Res.tmp rfl) Pick.nil ?_
  exact ⟨rfl, rfl⟩
/-- acequia/net.of$1 -/
theorem c_of1 (nN nS nT : Int) (base : Option Addr) (n c : Nat) (b1 : Nat) (al : List Arc) (p : Arc → Bool) (q : Nat) (hq : callable Try.prog q = true) (w : World) (h1 : Has w b1 [.func (.func q) #[] #[]]) (ha : RO w arcC 3 base n al) (hn : n ≤ 4611686018427387904) (hcl : ∀ w', Inv w [] w' [] → ∀ a, Fnc Try.prog q #[.agg #[.int .i64 nN, .int .i64 nS, .int .i64 nT, .slice base n c], .agg (arcC a).toArray] w' [] (fun r h => r = .bool (p a) ∧ h = [])) : Fnc Try.prog 97 #[.agg #[.int .i64 nN, .int .i64 nS, .int .i64 nT, .slice base n c], .pointer (some ⟨b1, 0, none⟩)] w [] (fun r h => r = .bool (al.all p) ∧ h = []) := by
  refine Fnc.enter (vs := [.agg #[.int .i64 nN, .int .i64 nS, .int .i64 nT, .slice base n c], .pointer (some ⟨b1, 0, none⟩)]) Try.func97 rfl rfl (Inv.refl w) ?_
  refine T.seq ?_
  refine T.regionL (ll := [0, 1]) rfl ?_
  refine TO.boxA rfl rfl rfl rfl ?_; intro b2
  refine TO.assign rfl rfl rfl rfl ?_
  refine TO.done ?_
  refine X.seq_normal ?_
  refine T.seq ?_
  refine T.regionL (ll := [0, 1, 2, 3, 4, 5]) rfl ?_
  first | refine TO.fieldAddr0 rfl rfl rfl rfl Ty.f24_3 ?_ | refine TO.fieldAddr rfl rfl rfl rfl Ty.f24_3 ?_
  first | refine TO.load1 rfl rfl rfl rfl Ty.s22 (by repeat (first | exact List.Mem.head _ | apply List.Mem.tail)) rfl ?_ | refine TO.loadH rfl rfl rfl rfl Ty.s22 (by assumption) rfl rfl ?_
  refine TO.makeFunc rfl rfl rfl rfl rfl ?_
  refine TO.call rfl rfl rfl Ty.c98 rfl (fun wc hwc => c_containsArc _ _ _ _ (fun a => !p a) 99 #[] _ Ty.c99 wc (ha.mono hwc) hn (fun w' hw' a _ => c_of11 _ _ _ _ _ _ _ _ a p q hq w' ((h1.mono hwc).mono hw') ((hwc.has (by repeat (first | exact List.Mem.head _ | apply List.Mem.tail))).mono hw') (fun w2 hw2 => hcl w2 (hwc.step (hw'.step hw2)) a))) ?_
  rintro _ _ ⟨rfl, rfl⟩
  first | refine TO.notP rfl rfl rfl rfl ?_ | refine TO.not rfl rfl rfl rfl ?_
  refine TO.assign rfl rfl rfl rfl ?_
  refine TO.done ?_
  refine X.seq_normal ?_
  refine T.ret ?_
  refine X.ret1 rfl rfl rfl rfl (Res.tmp rfl) Pick.nil ?_
  refine ⟨?_, rfl⟩
  congr 1
  rw [List.any_eq_not_all_not]; simp
/-- acequia/net.of -/
theorem c_of (so : Value) (hso : so.cells = #[so]) (w : World) : Fnc Try.prog 89 #[so] w [] (fun r h => ∃ b, r = .func (.func 97) #[] #[.pointer (some ⟨b, 0, none⟩)] ∧ h = [(some b, .cells #[so] 123 (0, 0))]) := by
  refine Fnc.enter (vs := [so]) Try.func89 rfl rfl (Inv.refl w) ?_
  refine T.seq ?_
  refine T.regionL (ll := [0, 1]) rfl ?_
  refine TO.box rfl rfl rfl rfl ?_; intro b1
  rw [hso]
  refine TO.assign rfl rfl rfl rfl ?_
  refine TO.done ?_
  refine X.seq_normal ?_
  refine T.seq ?_
  refine T.regionL (ll := [0, 1]) rfl ?_
  refine TO.makeFunc rfl rfl rfl rfl rfl ?_
  refine TO.assign rfl rfl rfl rfl ?_
  refine TO.done ?_
  refine X.seq_normal ?_
  refine T.ret ?_
  exact X.ret1 rfl rfl rfl rfl (Res.tmp rfl) (Pick.refl _) ⟨b1, rfl, rfl⟩
/-- acequia/net.rules -/
theorem c_rules (w : World) : Fnc Try.prog 76 #[] w [] (fun r h => ∃ b4 b6, r = .agg #[.func (.func 85) #[] #[], .int .i64 10, .func (.func 86) #[] #[], .int .i64 11, .func (.func 87) #[] #[], .int .i64 12, .func (.func 97) #[] #[.pointer (some ⟨b4, 0, none⟩)], .int .i64 13, .func (.func 97) #[] #[.pointer (some ⟨b6, 0, none⟩)], .int .i64 14, .func (.func 92) #[] #[], .int .i64 15] ∧ h = [(some b4, .cells #[.func (.func 90) #[] #[]] 123 (0, 0)), (some b6, .cells #[.func (.func 91) #[] #[]] 123 (0, 0))]) := by
  refine Fnc.enter (vs := []) Try.func76 rfl rfl (Inv.refl w) ?_
  refine T.seq ?_
  refine T.regionL (ll := [0]) rfl ?_
  refine TO.allocA rfl rfl rfl Ty.z110 ?_; intro b0
  refine TO.done ?_
  refine X.seq_normal ?_
  refine T.seq ?_
  refine T.regionL (ll := [0, 1, 2, 3, 4, 5, 6, 7, 8, 9]) rfl ?_
  refine TO.buildS (t := 109) [.nilFunc, .int .i64 0] [0, 1] rfl rfl rfl rfl (by simp only [setAll, setCells, Value.cells, List.toList_toArray, List.getD_cons_zero, List.getD_cons_succ, List.set_cons_zero, List.set_cons_succ]; rfl) (by kernel_rfl) ?_
  refine TO.buildS (t := 109) [.nilFunc, .int .i64 0] [0, 1] rfl rfl rfl rfl (by simp only [setAll, setCells, Value.cells, List.toList_toArray, List.getD_cons_zero, List.getD_cons_succ, List.set_cons_zero, List.set_cons_succ]; rfl) (by kernel_rfl) ?_
  refine TO.buildS (t := 109) [.nilFunc, .int .i64 0] [0, 1] rfl rfl rfl rfl (by simp only [setAll, setCells, Value.cells, List.toList_toArray, List.getD_cons_zero, List.getD_cons_succ, List.set_cons_zero, List.set_cons_succ]; rfl) (by kernel_rfl) ?_
  refine TO.call rfl rfl rfl Ty.c89 rfl (fun wc hwc => c_of _ rfl wc) ?_
  rintro _ _ ⟨b4, rfl, rfl⟩
  refine TO.buildS (t := 109) [.nilFunc, .int .i64 0] [0, 1] rfl rfl rfl rfl (by simp only [setAll, setCells, Value.cells, List.toList_toArray, List.getD_cons_zero, List.getD_cons_succ, List.set_cons_zero, List.set_cons_succ]; rfl) (by kernel_rfl) ?_
  refine TO.call rfl rfl rfl Ty.c89 rfl (fun wc hwc => c_of _ rfl wc) ?_
  rintro _ _ ⟨b6, rfl, rfl⟩
  refine TO.buildS (t := 109) [.nilFunc, .int .i64 0] [0, 1] rfl rfl rfl rfl (by simp only [setAll, setCells, Value.cells, List.toList_toArray, List.getD_cons_zero, List.getD_cons_succ, List.set_cons_zero, List.set_cons_succ]; rfl) (by kernel_rfl) ?_
  refine TO.buildS (t := 109) [.nilFunc, .int .i64 0] [0, 1] rfl rfl rfl rfl (by simp only [setAll, setCells, Value.cells, List.toList_toArray, List.getD_cons_zero, List.getD_cons_succ, List.set_cons_zero, List.set_cons_succ]; rfl) (by kernel_rfl) ?_
  refine TO.buildS (t := 110) [.nilFunc, .int .i64 0, .nilFunc, .int .i64 0, .nilFunc, .int .i64 0, .nilFunc, .int .i64 0, .nilFunc, .int .i64 0, .nilFunc, .int .i64 0] [0, 2, 4, 6, 8, 10] rfl rfl rfl rfl (by simp only [setAll, setCells, Value.cells, List.toList_toArray, List.getD_cons_zero, List.getD_cons_succ, List.set_cons_zero, List.set_cons_succ]; rfl) (by kernel_rfl) ?_
  refine TO.storeA rfl rfl rfl rfl (by repeat (first | exact Take.head _ _ | apply Take.tail)) Ty.n110 rfl rfl rfl ?_
  refine TO.done ?_
  refine X.seq_normal ?_
  refine T.ret ?_
  refine X.ret1 rfl rfl rfl rfl (Res.cellA rfl Ty.a110 (by repeat (first | exact List.Mem.head _ | apply List.Mem.tail)) rfl) (N := [(some b4, .cells #[.func (.func 90) #[] #[]] 123 (0, 0)), (some b6, .cells #[.func (.func 91) #[] #[]] 123 (0, 0))]) (by repeat (first | exact Pick.nil | apply Pick.none | refine Pick.cons (by repeat (first | exact Take.head _ _ | apply Take.tail)) ?_)) ⟨b4, b6, rfl, rfl⟩
/-- acequia/net.rules$6 -/
theorem c_rule6 (nN nS nT : Int) (base : Option Addr) (n c : Nat) (al : List Arc) (w : World) (ha : RO w arcC 3 base n al) (hn : n ≤ 4611686018427387904) : Fnc Try.prog 92 #[.agg #[.int .i64 nN, .int .i64 nS, .int .i64 nT, .slice base n c]] w [] (fun r h => r = .bool (sumL 4611686018427387904 al).isSome ∧ h = []) := by
  refine Fnc.enter (vs := [.agg #[.int .i64 nN, .int .i64 nS, .int .i64 nT, .slice base n c]]) Try.func92 rfl rfl (Inv.refl w) ?_
  refine T.seq ?_
  refine T.regionL (ll := [0, 1]) rfl ?_
  refine TO.boxA rfl rfl rfl rfl ?_; intro b1
  refine TO.assign rfl rfl rfl rfl ?_
  refine TO.done ?_
  refine X.seq_normal ?_
  refine T.seq ?_
  refine T.regionL (ll := [0, 1, 2, 3, 4, 5, 6]) rfl ?_
  first | refine TO.loadA rfl rfl rfl rfl Ty.a24 (by repeat (first | exact List.Mem.head _ | apply List.Mem.tail)) rfl ?_ | refine TO.loadHA rfl rfl rfl rfl Ty.a24 (by assumption) rfl rfl ?_
  refine TO.call rfl rfl rfl Ty.c93 rfl (fun wc hwc => c_sum _ _ _ _ _ _ _ wc (ha.mono hwc) hn) ?_
  rintro _ _ ⟨rfl, rfl⟩
  refine TO.move rfl rfl rfl rfl ?_
  refine TO.extract rfl rfl rfl rfl rfl ?_
  refine TO.extract rfl rfl rfl rfl rfl ?_
  refine TO.assign rfl rfl rfl rfl ?_
  refine TO.assign rfl rfl rfl rfl ?_
  refine TO.done ?_
  refine X.seq_normal ?_
  refine T.seq ?_
  refine T.regionL (ll := [0, 1]) rfl ?_
  refine TO.move rfl rfl rfl rfl ?_
  refine TO.assign rfl rfl rfl rfl ?_
  refine TO.done ?_
  refine X.seq_normal ?_
  refine T.ret ?_
  refine X.ret1 rfl rfl rfl rfl (Res.tmp rfl) Pick.nil ?_
  exact ⟨rfl, rfl⟩
/-- acequia/net.Check -/
theorem c_check (nN nS nT : Int) (base : Option Addr) (n c : Nat) (al : List Arc) (w : World) (ha : RO w arcC 3 base n al) (hn : n ≤ 4611686018427387904) : Fnc Try.prog 52 #[.agg #[.int .i64 nN, .int .i64 nS, .int .i64 nT, .slice base n c]] w [] (fun r h => r = .int .i64 (checkE nN nS nT al) ∧ h = []) := by
  refine Fnc.enter (vs := [.agg #[.int .i64 nN, .int .i64 nS, .int .i64 nT, .slice base n c]]) Try.func52 rfl rfl (Inv.refl w) ?_
  refine T.seq ?_
  refine T.regionL (ll := [0, 1]) rfl ?_
  refine TO.boxA rfl rfl rfl rfl ?_; intro b1
  refine TO.assign rfl rfl rfl rfl ?_
  refine TO.done ?_
  refine X.seq_normal ?_
  refine T.seq ?_
  refine T.seq ?_
  refine T.regionL (ll := [0, 1]) rfl ?_
  refine TO.call rfl rfl rfl Ty.c76 rfl (fun wc hwc => c_rules wc) ?_
  rintro _ _ ⟨b4, b6, rfl, rfl⟩
  refine TO.move rfl rfl rfl rfl ?_
  refine TO.done ?_
  refine X.seq_normal ?_
  refine T.block ?_
  refine T.loop1 (fun (k : Nat) => k ≤ 6 ∧ chk nN nS nT n al k) (fun (k : Nat) => [(6, .int .i64 k)]) [2, 4, 6, 7, 8, 9, 10, 11, 12, 13, 14, 15, 16] (fun (k : Nat) => [(some b1, .cells #[.int .i64 nN, .int .i64 nS, .int .i64 nT, .slice base n c] 24 (0, 0)), (some b4, .cells #[.func (.func 90) #[] #[]] 123 (0, 0)), (some b6, .cells #[.func (.func 91) #[] #[]] 123 (0, 0))]) (fun (k : Nat) => 6 - k) 0 ⟨by omega, by simp [chk]⟩ (by repeat (first | exact trivial | refine ⟨rfl, ?_⟩)) (by repeat (first | exact Pick.nil | apply Pick.none | refine Pick.cons (by repeat (first | exact Take.head _ _ | apply Take.tail)) ?_)) ?_
  rintro k ⟨hk, hck⟩
  rcases (show k = 0 ∨ k = 1 ∨ k = 2 ∨ k = 3 ∨ k = 4 ∨ k = 5 ∨ k = 6 by omega) with rfl | rfl | rfl | rfl | rfl | rfl | rfl
  ·
    refine T.seq ?_
    refine T.regionL (ll := [0]) rfl ?_
    refine TO.bin rfl rfl rfl rfl rfl rfl ?_
    refine TO.done ?_
    refine X.seq_normal ?_
    refine T.seq ?_
    first | refine T.condPT rfl (by omega) ?_ | refine T.condT rfl (by omega) ?_
    refine T.skip ?_
    refine X.seq_normal ?_
    refine T.seq ?_
    refine T.block ?_
    refine T.seq ?_
    refine T.regionL (ll := [0, 1, 2]) rfl ?_
    refine TO.indexArrS rfl rfl rfl rfl rfl Ty.r110 Ty.a109 (by omega) (by omega) rfl ?_
    refine TO.allocA rfl rfl rfl Ty.z109 ?_; intro b4
    refine TO.storeA rfl rfl rfl rfl (by repeat (first | exact Take.head _ _ | apply Take.tail)) Ty.n109 rfl rfl rfl ?_
    refine TO.done ?_
    refine X.seq_normal ?_
    refine T.seq ?_
    refine T.regionL (ll := [0, 1, 2, 3, 4]) rfl ?_
    first | refine TO.fieldAddr0 rfl rfl rfl rfl Ty.f109_0 ?_ | refine TO.fieldAddr rfl rfl rfl rfl Ty.f109_0 ?_
    first | refine TO.load1 rfl rfl rfl rfl Ty.s48 (by repeat (first | exact List.Mem.head _ | apply List.Mem.tail)) rfl ?_ | refine TO.loadH rfl rfl rfl rfl Ty.s48 (by assumption) rfl rfl ?_
    first | refine TO.loadA rfl rfl rfl rfl Ty.a24 (by repeat (first | exact List.Mem.head _ | apply List.Mem.tail)) rfl ?_ | refine TO.loadHA rfl rfl rfl rfl Ty.a24 (by assumption) rfl rfl ?_
    refine TO.callV rfl rfl rfl Ty.c85 rfl rfl (fun wc hwc => c_rule1 _ _ _ _ _ _ wc) ?_
    rintro _ _ ⟨rfl, rfl⟩
    first | refine TO.notP rfl rfl rfl rfl ?_ | refine TO.not rfl rfl rfl rfl ?_
    refine TO.done ?_
    refine X.seq_normal ?_
    first | refine T.condP rfl (fun h1 => ?_) (fun h1 => ?_) | refine T.cond rfl (fun h1 => ?_) (fun h1 => ?_)
    ·
      refine T.seq ?_
      refine T.regionL (ll := [0, 1, 2]) rfl ?_
      first | refine TO.fieldAddr0 rfl rfl rfl rfl Ty.f109_1 ?_ | refine TO.fieldAddr rfl rfl rfl rfl Ty.f109_1 ?_
      first | refine TO.load1 rfl rfl rfl rfl Ty.s34 (by repeat (first | exact List.Mem.head _ | apply List.Mem.tail)) rfl ?_ | refine TO.loadH rfl rfl rfl rfl Ty.s34 (by assumption) rfl rfl ?_
      refine TO.assign rfl rfl rfl rfl ?_
      refine TO.done ?_
      refine X.seq_normal ?_
      refine T.ret ?_
      refine X.block_ret ?_
      refine X.then_ret ?_
      refine X.then_ret ?_
      refine X.block_ret ?_
      refine X.then_ret ?_
      refine X.ret1 rfl rfl rfl rfl (Res.tmp rfl) Pick.nil ?_
      exact ⟨congrArg _ (checkE_0 (by simpa using h1)).symm, rfl⟩
    ·
      refine T.skip ?_
      refine X.block_normal ?_
      refine X.seq_normal ?_
      refine T.regionL (ll := [0, 1]) rfl ?_
      refine TO.add rfl rfl rfl rfl rfl (by omega) (by omega) ?_
      refine TO.move rfl rfl rfl rfl ?_
      refine TO.done ?_
      refine X.again1 1 ⟨by omega, ?_⟩ (by omega) (by repeat (first | exact trivial | refine ⟨rfl, ?_⟩)) (by repeat (first | exact trivial | refine ⟨rfl, ?_⟩)) (by repeat (first | exact Pick.nil | apply Pick.none | refine Pick.cons (by repeat (first | exact Take.head _ _ | apply Take.tail)) ?_))
      obtain ⟨c0, c1, c2, c3, c4, c5⟩ := hck
      refine ⟨fun _ => ?_, fun _ => ?_, fun _ => ?_, fun _ => ?_, fun _ => ?_, fun _ => ?_⟩ <;> first | omega | exact c0 (by omega) | exact c1 (by omega) | exact c2 (by omega) | exact c3 (by omega) | exact c4 (by omega) | simpa using h1
  ·
    refine T.seq ?_
    refine T.regionL (ll := [0]) rfl ?_
    refine TO.bin rfl rfl rfl rfl rfl rfl ?_
    refine TO.done ?_
    refine X.seq_normal ?_
    refine T.seq ?_
    first | refine T.condPT rfl (by omega) ?_ | refine T.condT rfl (by omega) ?_
    refine T.skip ?_
    refine X.seq_normal ?_
    refine T.seq ?_
    refine T.block ?_
    refine T.seq ?_
    refine T.regionL (ll := [0, 1, 2]) rfl ?_
    refine TO.indexArrS rfl rfl rfl rfl rfl Ty.r110 Ty.a109 (by omega) (by omega) rfl ?_
    refine TO.allocA rfl rfl rfl Ty.z109 ?_; intro b4
    refine TO.storeA rfl rfl rfl rfl (by repeat (first | exact Take.head _ _ | apply Take.tail)) Ty.n109 rfl rfl rfl ?_
    refine TO.done ?_
    refine X.seq_normal ?_
    refine T.seq ?_
    refine T.regionL (ll := [0, 1, 2, 3, 4]) rfl ?_
    first | refine TO.fieldAddr0 rfl rfl rfl rfl Ty.f109_0 ?_ | refine TO.fieldAddr rfl rfl rfl rfl Ty.f109_0 ?_
    first | refine TO.load1 rfl rfl rfl rfl Ty.s48 (by repeat (first | exact List.Mem.head _ | apply List.Mem.tail)) rfl ?_ | refine TO.loadH rfl rfl rfl rfl Ty.s48 (by assumption) rfl rfl ?_
    first | refine TO.loadA rfl rfl rfl rfl Ty.a24 (by repeat (first | exact List.Mem.head _ | apply List.Mem.tail)) rfl ?_ | refine TO.loadHA rfl rfl rfl rfl Ty.a24 (by assumption) rfl rfl ?_
    refine TO.callV rfl rfl rfl Ty.c86 rfl rfl (fun wc hwc => c_rule2 _ _ _ _ _ _ wc) ?_
    rintro _ _ ⟨rfl, rfl⟩
    first | refine TO.notP rfl rfl rfl rfl ?_ | refine TO.not rfl rfl rfl rfl ?_
    refine TO.done ?_
    refine X.seq_normal ?_
    first | refine T.condP rfl (fun h1 => ?_) (fun h1 => ?_) | refine T.cond rfl (fun h1 => ?_) (fun h1 => ?_)
    ·
      refine T.seq ?_
      refine T.regionL (ll := [0, 1, 2]) rfl ?_
      first | refine TO.fieldAddr0 rfl rfl rfl rfl Ty.f109_1 ?_ | refine TO.fieldAddr rfl rfl rfl rfl Ty.f109_1 ?_
      first | refine TO.load1 rfl rfl rfl rfl Ty.s34 (by repeat (first | exact List.Mem.head _ | apply List.Mem.tail)) rfl ?_ | refine TO.loadH rfl rfl rfl rfl Ty.s34 (by assumption) rfl rfl ?_
      refine TO.assign rfl rfl rfl rfl ?_
      refine TO.done ?_
      refine X.seq_normal ?_
      refine T.ret ?_
      refine X.block_ret ?_
      refine X.then_ret ?_
      refine X.then_ret ?_
      refine X.block_ret ?_
      refine X.then_ret ?_
      refine X.ret1 rfl rfl rfl rfl (Res.tmp rfl) Pick.nil ?_
      exact ⟨congrArg _ (checkE_1 ha.len hck (by simpa using h1)).symm, rfl⟩
    ·
      refine T.skip ?_
      refine X.block_normal ?_
      refine X.seq_normal ?_
      refine T.regionL (ll := [0, 1]) rfl ?_
      refine TO.add rfl rfl rfl rfl rfl (by omega) (by omega) ?_
      refine TO.move rfl rfl rfl rfl ?_
      refine TO.done ?_
      refine X.again1 2 ⟨by omega, ?_⟩ (by omega) (by repeat (first | exact trivial | refine ⟨rfl, ?_⟩)) (by repeat (first | exact trivial | refine ⟨rfl, ?_⟩)) (by repeat (first | exact Pick.nil | apply Pick.none | refine Pick.cons (by repeat (first | exact Take.head _ _ | apply Take.tail)) ?_))
      obtain ⟨c0, c1, c2, c3, c4, c5⟩ := hck
      refine ⟨fun _ => ?_, fun _ => ?_, fun _ => ?_, fun _ => ?_, fun _ => ?_, fun _ => ?_⟩ <;> first | omega | exact c0 (by omega) | exact c1 (by omega) | exact c2 (by omega) | exact c3 (by omega) | exact c4 (by omega) | simpa using h1
  ·
    refine T.seq ?_
    refine T.regionL (ll := [0]) rfl ?_
    refine TO.bin rfl rfl rfl rfl rfl rfl ?_
    refine TO.done ?_
    refine X.seq_normal ?_
    refine T.seq ?_
    first | refine T.condPT rfl (by omega) ?_ | refine T.condT rfl (by omega) ?_
    refine T.skip ?_
    refine X.seq_normal ?_
    refine T.seq ?_
    refine T.block ?_
    refine T.seq ?_
    refine T.regionL (ll := [0, 1, 2]) rfl ?_
    refine TO.indexArrS rfl rfl rfl rfl rfl Ty.r110 Ty.a109 (by omega) (by omega) rfl ?_
    refine TO.allocA rfl rfl rfl Ty.z109 ?_; intro b4
    refine TO.storeA rfl rfl rfl rfl (by repeat (first | exact Take.head _ _ | apply Take.tail)) Ty.n109 rfl rfl rfl ?_
    refine TO.done ?_
    refine X.seq_normal ?_
    refine T.seq ?_
    refine T.regionL (ll := [0, 1, 2, 3, 4]) rfl ?_
    first | refine TO.fieldAddr0 rfl rfl rfl rfl Ty.f109_0 ?_ | refine TO.fieldAddr rfl rfl rfl rfl Ty.f109_0 ?_
    first | refine TO.load1 rfl rfl rfl rfl Ty.s48 (by repeat (first | exact List.Mem.head _ | apply List.Mem.tail)) rfl ?_ | refine TO.loadH rfl rfl rfl rfl Ty.s48 (by assumption) rfl rfl ?_
    first | refine TO.loadA rfl rfl rfl rfl Ty.a24 (by repeat (first | exact List.Mem.head _ | apply List.Mem.tail)) rfl ?_ | refine TO.loadHA rfl rfl rfl rfl Ty.a24 (by assumption) rfl rfl ?_
    refine TO.callV rfl rfl rfl Ty.c87 rfl rfl (fun wc hwc => c_rule3 _ _ _ _ _ _ wc) ?_
    rintro _ _ ⟨rfl, rfl⟩
    first | refine TO.notP rfl rfl rfl rfl ?_ | refine TO.not rfl rfl rfl rfl ?_
    refine TO.done ?_
    refine X.seq_normal ?_
    first | refine T.condP rfl (fun h1 => ?_) (fun h1 => ?_) | refine T.cond rfl (fun h1 => ?_) (fun h1 => ?_)
    ·
      refine T.seq ?_
      refine T.regionL (ll := [0, 1, 2]) rfl ?_
      first | refine TO.fieldAddr0 rfl rfl rfl rfl Ty.f109_1 ?_ | refine TO.fieldAddr rfl rfl rfl rfl Ty.f109_1 ?_
      first | refine TO.load1 rfl rfl rfl rfl Ty.s34 (by repeat (first | exact List.Mem.head _ | apply List.Mem.tail)) rfl ?_ | refine TO.loadH rfl rfl rfl rfl Ty.s34 (by assumption) rfl rfl ?_
      refine TO.assign rfl rfl rfl rfl ?_
      refine TO.done ?_
      refine X.seq_normal ?_
      refine T.ret ?_
      refine X.block_ret ?_
      refine X.then_ret ?_
      refine X.then_ret ?_
      refine X.block_ret ?_
      refine X.then_ret ?_
      refine X.ret1 rfl rfl rfl rfl (Res.tmp rfl) Pick.nil ?_
      exact ⟨congrArg _ (checkE_2 ha.len hck h1).symm, rfl⟩
    ·
      refine T.skip ?_
      refine X.block_normal ?_
      refine X.seq_normal ?_
      refine T.regionL (ll := [0, 1]) rfl ?_
      refine TO.add rfl rfl rfl rfl rfl (by omega) (by omega) ?_
      refine TO.move rfl rfl rfl rfl ?_
      refine TO.done ?_
      refine X.again1 3 ⟨by omega, ?_⟩ (by omega) (by repeat (first | exact trivial | refine ⟨rfl, ?_⟩)) (by repeat (first | exact trivial | refine ⟨rfl, ?_⟩)) (by repeat (first | exact Pick.nil | apply Pick.none | refine Pick.cons (by repeat (first | exact Take.head _ _ | apply Take.tail)) ?_))
      obtain ⟨c0, c1, c2, c3, c4, c5⟩ := hck
      refine ⟨fun _ => ?_, fun _ => ?_, fun _ => ?_, fun _ => ?_, fun _ => ?_, fun _ => ?_⟩ <;> first | omega | exact c0 (by omega) | exact c1 (by omega) | exact c2 (by omega) | exact c3 (by omega) | exact c4 (by omega) | simpa using h1
  ·
    refine T.seq ?_
    refine T.regionL (ll := [0]) rfl ?_
    refine TO.bin rfl rfl rfl rfl rfl rfl ?_
    refine TO.done ?_
    refine X.seq_normal ?_
    refine T.seq ?_
    first | refine T.condPT rfl (by omega) ?_ | refine T.condT rfl (by omega) ?_
    refine T.skip ?_
    refine X.seq_normal ?_
    refine T.seq ?_
    refine T.block ?_
    refine T.seq ?_
    refine T.regionL (ll := [0, 1, 2]) rfl ?_
    refine TO.indexArrS rfl rfl rfl rfl rfl Ty.r110 Ty.a109 (by omega) (by omega) rfl ?_
    refine TO.allocA rfl rfl rfl Ty.z109 ?_; intro b4
    refine TO.storeA rfl rfl rfl rfl (by repeat (first | exact Take.head _ _ | apply Take.tail)) Ty.n109 rfl rfl rfl ?_
    refine TO.done ?_
    refine X.seq_normal ?_
    refine T.seq ?_
    refine T.regionL (ll := [0, 1, 2, 3, 4]) rfl ?_
    first | refine TO.fieldAddr0 rfl rfl rfl rfl Ty.f109_0 ?_ | refine TO.fieldAddr rfl rfl rfl rfl Ty.f109_0 ?_
    first | refine TO.load1 rfl rfl rfl rfl Ty.s48 (by repeat (first | exact List.Mem.head _ | apply List.Mem.tail)) rfl ?_ | refine TO.loadH rfl rfl rfl rfl Ty.s48 (by assumption) rfl rfl ?_
    first | refine TO.loadA rfl rfl rfl rfl Ty.a24 (by repeat (first | exact List.Mem.head _ | apply List.Mem.tail)) rfl ?_ | refine TO.loadHA rfl rfl rfl rfl Ty.a24 (by assumption) rfl rfl ?_
    refine TO.callV rfl rfl rfl Ty.c97 rfl rfl (fun wc hwc => c_of1 _ _ _ _ _ _ _ al (endsB nN) 90 Ty.c90 wc (hwc.has (by repeat (first | exact List.Mem.head _ | apply List.Mem.tail))) (ha.mono hwc) hn (fun w2 hw2 a => c_rule4 _ _ _ _ _ _ a w2)) ?_
    rintro _ _ ⟨rfl, rfl⟩
    first | refine TO.notP rfl rfl rfl rfl ?_ | refine TO.not rfl rfl rfl rfl ?_
    refine TO.done ?_
    refine X.seq_normal ?_
    first | refine T.condP rfl (fun h1 => ?_) (fun h1 => ?_) | refine T.cond rfl (fun h1 => ?_) (fun h1 => ?_)
    ·
      refine T.seq ?_
      refine T.regionL (ll := [0, 1, 2]) rfl ?_
      first | refine TO.fieldAddr0 rfl rfl rfl rfl Ty.f109_1 ?_ | refine TO.fieldAddr rfl rfl rfl rfl Ty.f109_1 ?_
      first | refine TO.load1 rfl rfl rfl rfl Ty.s34 (by repeat (first | exact List.Mem.head _ | apply List.Mem.tail)) rfl ?_ | refine TO.loadH rfl rfl rfl rfl Ty.s34 (by assumption) rfl rfl ?_
      refine TO.assign rfl rfl rfl rfl ?_
      refine TO.done ?_
      refine X.seq_normal ?_
      refine T.ret ?_
      refine X.block_ret ?_
      refine X.then_ret ?_
      refine X.then_ret ?_
      refine X.block_ret ?_
      refine X.then_ret ?_
      refine X.ret1 rfl rfl rfl rfl (Res.tmp rfl) Pick.nil ?_
      exact ⟨congrArg _ (checkE_3 ha.len hck (by simpa using h1)).symm, rfl⟩
    ·
      refine T.skip ?_
      refine X.block_normal ?_
      refine X.seq_normal ?_
      refine T.regionL (ll := [0, 1]) rfl ?_
      refine TO.add rfl rfl rfl rfl rfl (by omega) (by omega) ?_
      refine TO.move rfl rfl rfl rfl ?_
      refine TO.done ?_
      refine X.again1 4 ⟨by omega, ?_⟩ (by omega) (by repeat (first | exact trivial | refine ⟨rfl, ?_⟩)) (by repeat (first | exact trivial | refine ⟨rfl, ?_⟩)) (by repeat (first | exact Pick.nil | apply Pick.none | refine Pick.cons (by repeat (first | exact Take.head _ _ | apply Take.tail)) ?_))
      obtain ⟨c0, c1, c2, c3, c4, c5⟩ := hck
      refine ⟨fun _ => ?_, fun _ => ?_, fun _ => ?_, fun _ => ?_, fun _ => ?_, fun _ => ?_⟩ <;> first | omega | exact c0 (by omega) | exact c1 (by omega) | exact c2 (by omega) | exact c3 (by omega) | exact c4 (by omega) | simpa using h1
  ·
    refine T.seq ?_
    refine T.regionL (ll := [0]) rfl ?_
    refine TO.bin rfl rfl rfl rfl rfl rfl ?_
    refine TO.done ?_
    refine X.seq_normal ?_
    refine T.seq ?_
    first | refine T.condPT rfl (by omega) ?_ | refine T.condT rfl (by omega) ?_
    refine T.skip ?_
    refine X.seq_normal ?_
    refine T.seq ?_
    refine T.block ?_
    refine T.seq ?_
    refine T.regionL (ll := [0, 1, 2]) rfl ?_
    refine TO.indexArrS rfl rfl rfl rfl rfl Ty.r110 Ty.a109 (by omega) (by omega) rfl ?_
    refine TO.allocA rfl rfl rfl Ty.z109 ?_; intro b4
    refine TO.storeA rfl rfl rfl rfl (by repeat (first | exact Take.head _ _ | apply Take.tail)) Ty.n109 rfl rfl rfl ?_
    refine TO.done ?_
    refine X.seq_normal ?_
    refine T.seq ?_
    refine T.regionL (ll := [0, 1, 2, 3, 4]) rfl ?_
    first | refine TO.fieldAddr0 rfl rfl rfl rfl Ty.f109_0 ?_ | refine TO.fieldAddr rfl rfl rfl rfl Ty.f109_0 ?_
    first | refine TO.load1 rfl rfl rfl rfl Ty.s48 (by repeat (first | exact List.Mem.head _ | apply List.Mem.tail)) rfl ?_ | refine TO.loadH rfl rfl rfl rfl Ty.s48 (by assumption) rfl rfl ?_
    first | refine TO.loadA rfl rfl rfl rfl Ty.a24 (by repeat (first | exact List.Mem.head _ | apply List.Mem.tail)) rfl ?_ | refine TO.loadHA rfl rfl rfl rfl Ty.a24 (by assumption) rfl rfl ?_
    refine TO.callV rfl rfl rfl Ty.c97 rfl rfl (fun wc hwc => c_of1 _ _ _ _ _ _ _ al capB 91 Ty.c91 wc (hwc.has (by repeat (first | exact List.Mem.head _ | apply List.Mem.tail))) (ha.mono hwc) hn (fun w2 hw2 a => c_rule5 _ _ _ _ _ _ a w2)) ?_
    rintro _ _ ⟨rfl, rfl⟩
    first | refine TO.notP rfl rfl rfl rfl ?_ | refine TO.not rfl rfl rfl rfl ?_
    refine TO.done ?_
    refine X.seq_normal ?_
    first | refine T.condP rfl (fun h1 => ?_) (fun h1 => ?_) | refine T.cond rfl (fun h1 => ?_) (fun h1 => ?_)
    ·
      refine T.seq ?_
      refine T.regionL (ll := [0, 1, 2]) rfl ?_
      first | refine TO.fieldAddr0 rfl rfl rfl rfl Ty.f109_1 ?_ | refine TO.fieldAddr rfl rfl rfl rfl Ty.f109_1 ?_
      first | refine TO.load1 rfl rfl rfl rfl Ty.s34 (by repeat (first | exact List.Mem.head _ | apply List.Mem.tail)) rfl ?_ | refine TO.loadH rfl rfl rfl rfl Ty.s34 (by assumption) rfl rfl ?_
      refine TO.assign rfl rfl rfl rfl ?_
      refine TO.done ?_
      refine X.seq_normal ?_
      refine T.ret ?_
      refine X.block_ret ?_
      refine X.then_ret ?_
      refine X.then_ret ?_
      refine X.block_ret ?_
      refine X.then_ret ?_
      refine X.ret1 rfl rfl rfl rfl (Res.tmp rfl) Pick.nil ?_
      exact ⟨congrArg _ (checkE_4 ha.len hck (by simpa using h1)).symm, rfl⟩
    ·
      refine T.skip ?_
      refine X.block_normal ?_
      refine X.seq_normal ?_
      refine T.regionL (ll := [0, 1]) rfl ?_
      refine TO.add rfl rfl rfl rfl rfl (by omega) (by omega) ?_
      refine TO.move rfl rfl rfl rfl ?_
      refine TO.done ?_
      refine X.again1 5 ⟨by omega, ?_⟩ (by omega) (by repeat (first | exact trivial | refine ⟨rfl, ?_⟩)) (by repeat (first | exact trivial | refine ⟨rfl, ?_⟩)) (by repeat (first | exact Pick.nil | apply Pick.none | refine Pick.cons (by repeat (first | exact Take.head _ _ | apply Take.tail)) ?_))
      obtain ⟨c0, c1, c2, c3, c4, c5⟩ := hck
      refine ⟨fun _ => ?_, fun _ => ?_, fun _ => ?_, fun _ => ?_, fun _ => ?_, fun _ => ?_⟩ <;> first | omega | exact c0 (by omega) | exact c1 (by omega) | exact c2 (by omega) | exact c3 (by omega) | exact c4 (by omega) | simpa using h1
  ·
    refine T.seq ?_
    refine T.regionL (ll := [0]) rfl ?_
    refine TO.bin rfl rfl rfl rfl rfl rfl ?_
    refine TO.done ?_
    refine X.seq_normal ?_
    refine T.seq ?_
    first | refine T.condPT rfl (by omega) ?_ | refine T.condT rfl (by omega) ?_
    refine T.skip ?_
    refine X.seq_normal ?_
    refine T.seq ?_
    refine T.block ?_
    refine T.seq ?_
    refine T.regionL (ll := [0, 1, 2]) rfl ?_
    refine TO.indexArrS rfl rfl rfl rfl rfl Ty.r110 Ty.a109 (by omega) (by omega) rfl ?_
    refine TO.allocA rfl rfl rfl Ty.z109 ?_; intro b4
    refine TO.storeA rfl rfl rfl rfl (by repeat (first | exact Take.head _ _ | apply Take.tail)) Ty.n109 rfl rfl rfl ?_
    refine TO.done ?_
    refine X.seq_normal ?_
    refine T.seq ?_
    refine T.regionL (ll := [0, 1, 2, 3, 4]) rfl ?_
    first | refine TO.fieldAddr0 rfl rfl rfl rfl Ty.f109_0 ?_ | refine TO.fieldAddr rfl rfl rfl rfl Ty.f109_0 ?_
    first | refine TO.load1 rfl rfl rfl rfl Ty.s48 (by repeat (first | exact List.Mem.head _ | apply List.Mem.tail)) rfl ?_ | refine TO.loadH rfl rfl rfl rfl Ty.s48 (by assumption) rfl rfl ?_
    first | refine TO.loadA rfl rfl rfl rfl Ty.a24 (by repeat (first | exact List.Mem.head _ | apply List.Mem.tail)) rfl ?_ | refine TO.loadHA rfl rfl rfl rfl Ty.a24 (by assumption) rfl rfl ?_
    refine TO.callV rfl rfl rfl Ty.c92 rfl rfl (fun wc hwc => c_rule6 _ _ _ _ _ _ al wc (ha.mono hwc) hn) ?_
    rintro _ _ ⟨rfl, rfl⟩
    first | refine TO.notP rfl rfl rfl rfl ?_ | refine TO.not rfl rfl rfl rfl ?_
    refine TO.done ?_
    refine X.seq_normal ?_
    first | refine T.condP rfl (fun h1 => ?_) (fun h1 => ?_) | refine T.cond rfl (fun h1 => ?_) (fun h1 => ?_)
    ·
      refine T.seq ?_
      refine T.regionL (ll := [0, 1, 2]) rfl ?_
      first | refine TO.fieldAddr0 rfl rfl rfl rfl Ty.f109_1 ?_ | refine TO.fieldAddr rfl rfl rfl rfl Ty.f109_1 ?_
      first | refine TO.load1 rfl rfl rfl rfl Ty.s34 (by repeat (first | exact List.Mem.head _ | apply List.Mem.tail)) rfl ?_ | refine TO.loadH rfl rfl rfl rfl Ty.s34 (by assumption) rfl rfl ?_
      refine TO.assign rfl rfl rfl rfl ?_
      refine TO.done ?_
      refine X.seq_normal ?_
      refine T.ret ?_
      refine X.block_ret ?_
      refine X.then_ret ?_
      refine X.then_ret ?_
      refine X.block_ret ?_
      refine X.then_ret ?_
      refine X.ret1 rfl rfl rfl rfl (Res.tmp rfl) Pick.nil ?_
      exact ⟨congrArg _ (checkE_5 ha.len hck (by simpa using h1)).symm, rfl⟩
    ·
      refine T.skip ?_
      refine X.block_normal ?_
      refine X.seq_normal ?_
      refine T.regionL (ll := [0, 1]) rfl ?_
      refine TO.add rfl rfl rfl rfl rfl (by omega) (by omega) ?_
      refine TO.move rfl rfl rfl rfl ?_
      refine TO.done ?_
      refine X.again1 6 ⟨by omega, ?_⟩ (by omega) (by repeat (first | exact trivial | refine ⟨rfl, ?_⟩)) (by repeat (first | exact trivial | refine ⟨rfl, ?_⟩)) (by repeat (first | exact Pick.nil | apply Pick.none | refine Pick.cons (by repeat (first | exact Take.head _ _ | apply Take.tail)) ?_))
      obtain ⟨c0, c1, c2, c3, c4, c5⟩ := hck
      refine ⟨fun _ => ?_, fun _ => ?_, fun _ => ?_, fun _ => ?_, fun _ => ?_, fun _ => ?_⟩ <;> first | omega | exact c0 (by omega) | exact c1 (by omega) | exact c2 (by omega) | exact c3 (by omega) | exact c4 (by omega) | simpa using h1
  ·
    refine T.seq ?_
    refine T.regionL (ll := [0]) rfl ?_
    refine TO.bin rfl rfl rfl rfl rfl rfl ?_
    refine TO.done ?_
    refine X.seq_normal ?_
    refine T.seq ?_
    first | refine T.condPF rfl (by omega) ?_ | refine T.condF rfl (by omega) ?_
    refine T.exit ?_
    refine X.then_exit ?_
    refine X.then_exit ?_
    refine X.block_here ?_
    refine X.seq_normal ?_
    refine T.seq ?_
    refine T.regionL (ll := [0]) rfl ?_
    refine TO.assign rfl rfl rfl rfl ?_
    refine TO.done ?_
    refine X.seq_normal ?_
    refine T.ret ?_
    refine X.ret1 rfl rfl rfl rfl (Res.tmp rfl) Pick.nil ?_
    exact ⟨congrArg _ (checkE_6 ha.len hck).symm, rfl⟩
end Go.Proofs.Ytcdbemdogkmahaa.Acq
